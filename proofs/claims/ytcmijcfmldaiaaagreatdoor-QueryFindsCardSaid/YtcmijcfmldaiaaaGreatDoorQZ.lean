/- The given statement of the law: for every input the law answers true. No conditions of our own. -/
import Derived.Test.YtcmijcfmldaiaaaGreatDoorQY
import Derived.Test.YtcmijcfmldaiaaaGreatDoorProg
set_option autoImplicit false
set_option linter.unusedVariables false
set_option linter.unusedSimpArgs false
set_option maxRecDepth 100000
set_option maxHeartbeats 4000000
namespace Go.Proofs
open Go Go.RowKit Go.AL Go.Q Go.IntWalk
attribute [local irreducible] AW AL seqQ blockQ retQ loopQ roundQ asgQ grpQ mQ qpost qpostL retQN retQM
open Go.Tags (greatS greatL upB upB_up upB_no greatL_next greatL_len bt)
instance un85 : FUn Tryz.prog 85 (.slice 5) := ⟨by kernel_rfl⟩
instance inf5 : FIn Tryz.prog 5 (.int .u8 0) 1 1 := ⟨by kernel_rfl⟩
instance un5 : FUn Tryz.prog 5 (.int .u8) := ⟨by kernel_rfl⟩
instance sz5 : FSz Tryz.prog 5 1 := ⟨by kernel_rfl⟩
instance en13 : FEn Tryz.prog 13 := ⟨by kernel_rfl⟩
instance en28 : FEn Tryz.prog 28 := ⟨by kernel_rfl⟩
instance en19 : FEn Tryz.prog 19 := ⟨by kernel_rfl⟩
instance en21 : FEn Tryz.prog 21 := ⟨by kernel_rfl⟩
instance en24 : FEn Tryz.prog 24 := ⟨by kernel_rfl⟩
instance en30 : FEn Tryz.prog 30 := ⟨by kernel_rfl⟩
instance fl43_1 : FFl Tryz.prog 43 1 9 1 := ⟨by kernel_rfl⟩
instance en11 : FEn Tryz.prog 11 := ⟨by kernel_rfl⟩

/-- quillwork/quillworklaw26.great -/
theorem quillworklaw26_great_ok (s : ByteArray) (m : Int) (hs : s.size < 35184372088832) :
    PF Tryz.prog 30 [.v (.string s), .v (.int .u32 m)] (.v (.string (greatS s (bt m)))) := by
  intro H K hK
  refine AC_of Tryz.func30 rfl (rs := [.tmp 4]) rfl Tryz.ntmps30 rfl ?_
  refine AW_norm TP ?_
  refine GC2 ?_
  refine GO1 ?_
  refine GC4 ?_
  refine GO1 ?_
  refine GC5 ?_
  refine GO1 ?_
  refine GC2 ?_
  refine AW_block ?_
  refine AW_loops (α := Nat × Option Nat × Nat) [5, 6, 7, 8, 9, 10, 11, 12, 13, 14, 15, 16, 17, 18, 19, 20, 21, 22, 23, 24, 25, 26, 27, 28, 29, 30, 31, 32, 33, 34, 35, 36] (fun z => [(6, .v (.int .i64 (z.1 : Int))), (5, .own z.2.1 z.2.2 z.1)]) (fun z => H.put z.2.1 5 z.2.2 ((greatL s (bt m) z.1).map byteAV)) (fun z => z.1 ≤ s.size ∧ Fresh H z.2.1 z.2.2 ((greatL s (bt m) z.1).map byteAV)) (fun z => s.size - z.1) ((0, none, 0)) ?_ ?_ ?_ ?_
  · exact ⟨Nat.zero_le _, rfl, rfl⟩
  · exact SubH.refl _
  · skip
    exact WK
  · rintro ⟨i, A, c⟩ hI; dsimp only at hI ⊢
    refine AW_norm TN ?_
    refine GC3 ?_
    refine GO4 ?_
    refine GC2 ?_
    refine GI rfl (fun hc1 => ?_) (fun hc1 => ?_)
    ·
      refine GC3 ?_
      refine AW_block ?_
      refine GC2 ?_
      refine GO2 ?_
      first | refine AL_index_strn FUn.h rfl rfl ?_ ?_ ?_ | refine AL_index_strb FUn.h rfl rfl ?_ ?_ ?_
      · omega
      · omega
      refine GO1 ?_
      refine GC5 ?_
      refine GO3 ?_
      refine AL_and (j := 2) (n := 2) (c := 19) (t := 21) (r := 22) (v := ?v2) [20, 21] rfl rfl rfl rfl rfl rfl rfl (fun hg2 => ?_) ?_; rotate_left
      · refine GS ?_
        (try simp only [Bool.or_eq_true, Bool.and_eq_true, Bool.or_eq_false_iff, Bool.and_eq_false_iff, decide_eq_true_eq, decide_eq_false_iff_not, Bool.not_eq_true', Bool.not_eq_false', beq_iff_eq, ne_eq, Decidable.not_not, List.length_map] at hg2)
        refine GO2 ?_
        refine AL_nil (grpQ_mk ?_)
        exact WK
      refine AL_norm TN ?_
      refine GO1 ?_
      refine AL_and (j := 6) (n := 6) (c := 23) (t := 29) (r := 30) (v := ?v3) [24, 25, 26, 27, 28, 29] rfl rfl rfl rfl rfl rfl rfl (fun hg3 => ?_) ?_; rotate_left
      · refine GS ?_
        (try simp only [Bool.or_eq_true, Bool.and_eq_true, Bool.or_eq_false_iff, Bool.and_eq_false_iff, decide_eq_true_eq, decide_eq_false_iff_not, Bool.not_eq_true', Bool.not_eq_false', beq_iff_eq, ne_eq, Decidable.not_not, List.length_map] at hg3)
        refine GO2 ?_
        refine AL_rem rfl rfl (by decide) ?_
        refine AL_shr rfl rfl (by rw [Go.IntWalk.rem_in _ _ (by omega)]; omega) ?_
        refine AL_norm TN ?_
        refine AL_bits rfl rfl (by decide) ?_
        refine GO1 ?_
        refine AL_nil (grpQ_mk ?_)
        exact WK
      refine AL_norm TN ?_
      refine AL_norm TN ?_
      refine GC2 ?_
      refine GI rfl (fun hc4 => ?_) (fun hc4 => ?_)
      ·
        refine GC1 ?_
        refine GO1 ?_
        refine AL_subz rfl rfl (((upB (bAt s i) (bt m i)).toNat : Int)) (by rw [upB_up (b := bAt s i) (c := bt m i) ⟨hc4.1, by unfold bt; exact decide_eq_true hc4.2⟩]; exact u8_in _ (by have := UInt8.toNat_lt (bAt s i); omega)) ?_
        refine AL_norm TN ?_
        refine GO1 ?_
        refine GC3 ?_
        refine GO2 ?_
        refine AL_append1p FUn.h FIn.h rfl (by decide) (by decide) (by decide) rfl rfl (fun h => by cases h) rfl rfl rfl hI.2 (by rw [List.length_map, greatL_len]) (by omega) ?_
        intro ba ca hba
        refine AL_norm TN ?_
        refine GO1 ?_
        refine GC4 ?_
        refine GO1 ?_
        refine AL_addz rfl rfl (((i + 1 : Nat) : Int)) (by exact inc64 (by omega)) ?_
        refine GO1 ?_
        refine GC1 ?_
        refine loopQ_n ((i + 1, some ba, ca)) ?_ ?_ ?_ ?_
        · exact ⟨by omega, hba⟩
        · (show s.size - (i + 1) < s.size - i; omega)
        · rw [show (greatL s (bt m) i).map byteAV ++ [.v (.int .u8 ((upB (bAt s i) (bt m i)).toNat : Int))] = (greatL s (bt m) (i + 1)).map byteAV from greatL_next]; exact SubH.refl _
        · skip
          exact WK
      ·
        refine GC3 ?_
        refine GO2 ?_
        refine AL_append1p FUn.h FIn.h rfl (by decide) (by decide) (by decide) rfl rfl (fun h => by cases h) rfl rfl rfl hI.2 (by rw [List.length_map, greatL_len]) (by omega) ?_
        intro ba ca hba
        refine AL_norm TN ?_
        refine GO1 ?_
        refine GC4 ?_
        refine GO1 ?_
        refine AL_addz rfl rfl (((i + 1 : Nat) : Int)) (by exact inc64 (by omega)) ?_
        refine GO1 ?_
        refine GC1 ?_
        refine loopQ_n ((i + 1, some ba, ca)) ?_ ?_ ?_ ?_
        · exact ⟨by omega, hba⟩
        · (show s.size - (i + 1) < s.size - i; omega)
        · rw [show (greatL s (bt m) (i + 1)).map byteAV = (greatL s (bt m) i).map byteAV ++ [.v (.int .u8 ((upB (bAt s i) (bt m i)).toNat : Int))] from greatL_next.symm, upB_no (b := bAt s i) (c := bt m i) (by simpa only [bt, decide_eq_false_iff_not] using hc4)]; exact SubH.refl _
        · skip
          exact WK
    ·
      refine GC2 ?_
      refine loopQ_x ?_
      refine GC4 ?_
      refine GO1 ?_
      refine AL_convBytes FUn.h FUn.h FUn.h FSz.h rfl hI.2.own (greatL_len _ _ _).symm ?_
      refine GO1 ?_
      refine GC3 ?_
      refine retQ_1 (H' := H) (.inr rfl) rfl hI.2.subH ?_
      refine K_eq ?_ hK
      have e : i = s.size := (by omega); subst e; rfl

/-- quillwork/quillworklaw26.awake -/
theorem quillworklaw26_awake_ok  :
    PI TQ Tryz.prog 11 [] (.v (.bool true)) := by
  intro H K hT hK
  refine AC_of Tryz.func11 rfl (rs := [.tmp 0]) rfl Tryz.ntmps11 rfl ?_
  refine AW_norm TP ?_
  refine GC2 ?_
  refine GO1 ?_
  refine GC4 ?_
  refine AL_build_struct (zs := [_, _, _]) (pl := [(0, 1), (1, 1), (2, 1)]) Tryz.underlying57 FZe.h (.v (.v (.v .nil))) (by kernel_rfl) (.cons (.ev rfl) rfl (.nil)) rfl ?_
  refine AL_build_struct (zs := [_, _, _]) (pl := [(0, 1), (1, 1), (2, 1)]) Tryz.underlying57 FZe.h (.v (.v (.v .nil))) (by kernel_rfl) (.cons (.ev rfl) rfl (.cons (.ev rfl) rfl (.nil))) rfl ?_
  refine AL_buildSl FUn.h FSz.h FZe.h rfl (by decide) (by decide) (.cons (.ev rfl) rfl (.cons (.ev rfl) rfl (.nil))) rfl rfl ?_
  refine AL_norm TN ?_
  refine AL_build_struct (zs := [_, _, _, _]) (pl := [(0, 1), (1, 1), (2, 1), (3, 1)]) Tryz.underlying60 FZe.h (.v (.sl (e := 3) (.v (.sl (e := 57) .nil)))) (by kernel_rfl) (.cons (.ev rfl) rfl (.nil)) rfl ?_
  refine AL_buildSl FUn.h FSz.h FZe.h rfl (by decide) (by decide) (.cons (.ev rfl) rfl (.nil)) rfl rfl ?_
  refine AL_build_struct (zs := [_, _]) (pl := [(0, 1), (1, 1)]) Tryz.underlying24 FZe.h (.v (.v .nil)) (by kernel_rfl) (.cons (.ev rfl) rfl (.nil)) rfl ?_
  refine AL_build_struct (zs := [_, _, _, _, _, _, _]) (pl := [(0, 1), (1, 2), (3, 2), (5, 1), (6, 1)]) Tryz.underlying26 FZe.h (.sl (e := 60) (.v (.v (.v (.v (.v (.v .nil))))))) (by kernel_rfl) (.cons (.ev rfl) rfl (.cons (.ev rfl) rfl (.nil))) rfl ?_
  refine AL_norm TN ?_
  refine AL_alloc FZe.h (.agg (.own (.v (.v (.v (.v (.v (.v .nil)))))))) rfl FSz.h rfl ?_
  intro b1 hb1
  have hn1 : H b1 = none := SubH.none SU hb1
  refine GW ?_
  refine AL_norm TN ?_
  refine GC4 ?_
  refine AL_callpi FEn.h XA HS (query_Find_is ⟨#[66, 79, 76, 68]⟩ (by decide) (by kernel_rfl : idxQ ⟨#[66, 79, 76, 68]⟩ = ((5 : Nat) : Int))) ?_
  refine GO5 ?_
  refine GC4 ?_
  refine GO1 ?_
  refine AL_callpi FEn.h XA HS (query_Do_ok s1 ⟨#[66, 111, 108, 100]⟩ eS 5 145 [.rp 67 (.fn (.func 154) [] [.rp 3 (.v (.int .i64 1))])] (s1b, 0) (by decide) (by kernel_rfl : idxQ ⟨#[66, 111, 108, 100]⟩ = ((5 : Nat) : Int)) (by decide) rfl FEn.h (query_alone_1_ok s1 eS 154 [.rp 3 (.v (.int .i64 1))] (s1b, 0) FEn.h (by rw [← ex_bold]; exact query_toggle_1O_ok s1 1 s1_SS ex_open))) ?_
  refine GO3 ?_
  refine AL_alloc FZe.h (.agg (.own (.v (.v (.v (.v (.v (.v .nil)))))))) rfl FSz.h rfl ?_
  intro b2 hb2
  have hn2 : H b2 = none := SubH.none SU hb2
  have hd2_1 : b2 ≠ b1 := AH.fresh_ne hb2 LK
  have hd1_2 : b1 ≠ b2 := Ne.symm hd2_1
  refine GW ?_
  refine GO1 ?_
  refine GC4 ?_
  refine GO1 ?_
  refine AL_callpi FEn.h XA HS (query_DoNone_ok s1 ⟨#[120]⟩ eS (by decide) (by kernel_rfl)) ?_
  refine GO3 ?_
  refine AL_alloc FZe.h (.agg (.own (.v (.v (.v (.v (.v (.v .nil)))))))) rfl FSz.h rfl ?_
  intro b3 hb3
  have hn3 : H b3 = none := SubH.none SU hb3
  have hd3_1 : b3 ≠ b1 := AH.fresh_ne hb3 LK
  have hd1_3 : b1 ≠ b3 := Ne.symm hd3_1
  have hd3_2 : b3 ≠ b2 := AH.fresh_ne hb3 LK
  have hd2_3 : b2 ≠ b3 := Ne.symm hd3_2
  refine GW ?_
  refine GO1 ?_
  refine GC4 ?_
  refine GO1 ?_
  refine AL_callpi FEn.h XA HS (query_Do_ok s1 ⟨#[102, 111, 114, 109, 97, 116, 66, 108, 111, 99, 107]⟩ ⟨#[60, 72, 50, 62]⟩ 12 82 [] (s1h, 0) (by decide) (by kernel_rfl : idxQ ⟨#[102, 111, 114, 109, 97, 116, 66, 108, 111, 99, 107]⟩ = ((12 : Nat) : Int)) (by decide) rfl FEn.h (by rw [← ex_h2]; exact query_formats_ok s1 _ s1_SS (by decide))) ?_
  refine GO3 ?_
  refine AL_alloc FZe.h (.agg (.own (.v (.v (.v (.v (.v (.v .nil)))))))) rfl FSz.h rfl ?_
  intro b4 hb4
  have hn4 : H b4 = none := SubH.none SU hb4
  have hd4_1 : b4 ≠ b1 := AH.fresh_ne hb4 LK
  have hd1_4 : b1 ≠ b4 := Ne.symm hd4_1
  have hd4_2 : b4 ≠ b2 := AH.fresh_ne hb4 LK
  have hd2_4 : b2 ≠ b4 := Ne.symm hd4_2
  have hd4_3 : b4 ≠ b3 := AH.fresh_ne hb4 LK
  have hd3_4 : b3 ≠ b4 := Ne.symm hd4_3
  refine GW ?_
  refine GO1 ?_
  refine GC4 ?_
  refine GO1 ?_
  refine AL_callpi FEn.h XA HS (query_Do_ok s1 ⟨#[102, 111, 114, 109, 97, 116, 66, 108, 111, 99, 107]⟩ ⟨#[108, 105]⟩ 12 82 [] (s0, 1) (by decide) (by kernel_rfl : idxQ ⟨#[102, 111, 114, 109, 97, 116, 66, 108, 111, 99, 107]⟩ = ((12 : Nat) : Int)) (by decide) rfl FEn.h (by rw [← ex_li]; exact query_formats_ok s1 _ s1_SS (by decide))) ?_
  refine GO3 ?_
  refine AL_alloc FZe.h (.agg (.own (.v (.v (.v (.v (.v (.v .nil)))))))) rfl FSz.h rfl ?_
  intro b5 hb5
  have hn5 : H b5 = none := SubH.none SU hb5
  have hd5_1 : b5 ≠ b1 := AH.fresh_ne hb5 LK
  have hd1_5 : b1 ≠ b5 := Ne.symm hd5_1
  have hd5_2 : b5 ≠ b2 := AH.fresh_ne hb5 LK
  have hd2_5 : b2 ≠ b5 := Ne.symm hd5_2
  have hd5_3 : b5 ≠ b3 := AH.fresh_ne hb5 LK
  have hd3_5 : b3 ≠ b5 := Ne.symm hd5_3
  have hd5_4 : b5 ≠ b4 := AH.fresh_ne hb5 LK
  have hd4_5 : b4 ≠ b5 := Ne.symm hd5_4
  refine GW ?_
  refine GO1 ?_
  refine GC4 ?_
  refine AL_callpi FEn.h XA HS (query_Data_ok ⟨#[105, 110, 115, 101, 114, 116, 84, 101, 120, 116]⟩ ⟨#[120]⟩ (by decide)) ?_
  refine AL_norm TN ?_
  refine GO5 ?_
  refine GC5 ?_
  refine GO5 ?_
  refine AL_or (j := 4) (n := 7) (c := 53) (t := 60) (r := 61) (v := ?v1) [54, 55, 56, 57, 58, 59, 60] rfl rfl rfl rfl rfl rfl rfl (fun hg1 => ?_) ?_; rotate_left
  · refine GS ?_
    (try simp only [Bool.or_eq_true, Bool.and_eq_true, Bool.or_eq_false_iff, Bool.and_eq_false_iff, decide_eq_true_eq, decide_eq_false_iff_not, Bool.not_eq_true', Bool.not_eq_false', beq_iff_eq, ne_eq, Decidable.not_not, List.length_map] at hg1)
    refine GO2 ?_
    first | refine AL_indexAddr_sl (y := lineAV ⟨0, [], 0, [⟨97, 1, eS⟩, ⟨98, 1, eS⟩]⟩) FUn.h FSz.h (by decide) rfl rfl ?_ ?_ ?_ ?_ | refine AL_indexAddr_own FUn.h FSz.h rfl rfl ?_ ?_ ?_
    · decide
    · (show (0 : Int) < _; decide)
    · rfl
    refine GO4 ?_
    refine AL_nil (grpQ_mk ?_)
    exact WK
  refine AL_norm TN ?_
  refine GO1 ?_
  refine AL_or (j := 13) (n := 4) (c := 62) (t := 66) (r := 67) (v := ?v2) [63, 64, 65, 66] rfl rfl rfl rfl rfl rfl rfl (fun hg2 => ?_) ?_; rotate_left
  · refine GS ?_
    (try simp only [Bool.or_eq_true, Bool.and_eq_true, Bool.or_eq_false_iff, Bool.and_eq_false_iff, decide_eq_true_eq, decide_eq_false_iff_not, Bool.not_eq_true', Bool.not_eq_false', beq_iff_eq, ne_eq, Decidable.not_not, List.length_map] at hg2)
    refine GO4 ?_
    refine AL_nil (grpQ_mk ?_)
    exact WK
  refine AL_norm TN ?_
  refine AL_norm TN ?_
  refine GC2 ?_
  refine AW_cond rfl (fun hc3 => ?_) (fun hc3 => ?_)
  · exact absurd hc3 (by decide)
  · (try simp only [Bool.or_eq_true, Bool.and_eq_true, Bool.or_eq_false_iff, Bool.and_eq_false_iff, decide_eq_true_eq, decide_eq_false_iff_not, Bool.not_eq_true', Bool.not_eq_false', beq_iff_eq, ne_eq, Decidable.not_not, List.length_map] at hc3)
    refine GC4 ?_
    refine GO3 ?_
    refine AL_and (j := 2) (n := 1) (c := 70) (t := 71) (r := 72) (v := ?v4) [71] rfl rfl rfl rfl rfl rfl rfl (fun hg4 => ?_) ?_; rotate_left
    · refine GS ?_
      (try simp only [Bool.or_eq_true, Bool.and_eq_true, Bool.or_eq_false_iff, Bool.and_eq_false_iff, decide_eq_true_eq, decide_eq_false_iff_not, Bool.not_eq_true', Bool.not_eq_false', beq_iff_eq, ne_eq, Decidable.not_not, List.length_map] at hg4)
      refine GO1 ?_
      refine AL_nil (grpQ_mk ?_)
      exact WK
    refine AL_norm TN ?_
    refine GO1 ?_
    refine AL_and (j := 5) (n := 2) (c := 73) (t := 75) (r := 76) (v := ?v5) [74, 75] rfl rfl rfl rfl rfl rfl rfl (fun hg5 => ?_) ?_; rotate_left
    · refine GS ?_
      (try simp only [Bool.or_eq_true, Bool.and_eq_true, Bool.or_eq_false_iff, Bool.and_eq_false_iff, decide_eq_true_eq, decide_eq_false_iff_not, Bool.not_eq_true', Bool.not_eq_false', beq_iff_eq, ne_eq, Decidable.not_not, List.length_map] at hg5)
      refine GO2 ?_
      refine AL_nil (grpQ_mk ?_)
      exact WK
    refine AL_norm TN ?_
    refine GO1 ?_
    refine AL_and (j := 9) (n := 9) (c := 77) (t := 86) (r := 87) (v := ?v6) [78, 79, 80, 81, 82, 83, 84, 85, 86] rfl rfl rfl rfl rfl rfl rfl (fun hg6 => ?_) ?_; rotate_left
    · refine GS ?_
      (try simp only [Bool.or_eq_true, Bool.and_eq_true, Bool.or_eq_false_iff, Bool.and_eq_false_iff, decide_eq_true_eq, decide_eq_false_iff_not, Bool.not_eq_true', Bool.not_eq_false', beq_iff_eq, ne_eq, Decidable.not_not, List.length_map] at hg6)
      refine GO2 ?_
      first | refine AL_indexAddr_sl (y := lineAV ⟨0, [], 0, [⟨97, 1, eS⟩, ⟨98, 1, eS⟩]⟩) FUn.h FSz.h (by decide) rfl rfl ?_ ?_ ?_ ?_ | refine AL_indexAddr_own FUn.h FSz.h rfl rfl ?_ ?_ ?_
      · decide
      · (show (0 : Int) < _; decide)
      · rfl
      refine GO2 ?_
      first | refine AL_indexAddr_sl (y := cellAV ⟨97, 1, eS⟩) FUn.h FSz.h (by decide) rfl rfl ?_ ?_ ?_ ?_ | refine AL_indexAddr_own FUn.h FSz.h rfl rfl ?_ ?_ ?_
      · decide
      · (show (0 : Int) < _; decide)
      · rfl
      refine AL_norm TN ?_
      refine GO3 ?_
      refine AL_nil (grpQ_mk ?_)
      exact WK
    refine AL_norm TN ?_
    refine GO1 ?_
    refine AL_and (j := 20) (n := 2) (c := 88) (t := 90) (r := 91) (v := ?v7) [89, 90] rfl rfl rfl rfl rfl rfl rfl (fun hg7 => ?_) ?_; rotate_left
    · refine GS ?_
      (try simp only [Bool.or_eq_true, Bool.and_eq_true, Bool.or_eq_false_iff, Bool.and_eq_false_iff, decide_eq_true_eq, decide_eq_false_iff_not, Bool.not_eq_true', Bool.not_eq_false', beq_iff_eq, ne_eq, Decidable.not_not, List.length_map] at hg7)
      refine GO2 ?_
      refine AL_nil (grpQ_mk ?_)
      exact WK
    refine AL_norm TN ?_
    refine GO1 ?_
    refine AL_and (j := 24) (n := 2) (c := 92) (t := 94) (r := 95) (v := ?v8) [93, 94] rfl rfl rfl rfl rfl rfl rfl (fun hg8 => ?_) ?_; rotate_left
    · refine GS ?_
      (try simp only [Bool.or_eq_true, Bool.and_eq_true, Bool.or_eq_false_iff, Bool.and_eq_false_iff, decide_eq_true_eq, decide_eq_false_iff_not, Bool.not_eq_true', Bool.not_eq_false', beq_iff_eq, ne_eq, Decidable.not_not, List.length_map] at hg8)
      refine GO2 ?_
      refine AL_nil (grpQ_mk ?_)
      exact WK
    refine AL_norm TN ?_
    refine GO1 ?_
    refine AL_and (j := 28) (n := 6) (c := 96) (t := 102) (r := 103) (v := ?v9) [97, 98, 99, 100, 101, 102] rfl rfl rfl rfl rfl rfl rfl (fun hg9 => ?_) ?_; rotate_left
    · refine GS ?_
      (try simp only [Bool.or_eq_true, Bool.and_eq_true, Bool.or_eq_false_iff, Bool.and_eq_false_iff, decide_eq_true_eq, decide_eq_false_iff_not, Bool.not_eq_true', Bool.not_eq_false', beq_iff_eq, ne_eq, Decidable.not_not, List.length_map] at hg9)
      refine GO2 ?_
      first | refine AL_indexAddr_sl (y := lineAV ⟨0, [], 2, [⟨97, 0, eS⟩, ⟨98, 1, eS⟩]⟩) FUn.h FSz.h (by decide) rfl rfl ?_ ?_ ?_ ?_ | refine AL_indexAddr_own FUn.h FSz.h rfl rfl ?_ ?_ ?_
      · decide
      · (show (0 : Int) < _; decide)
      · rfl
      refine GO3 ?_
      refine AL_nil (grpQ_mk ?_)
      exact WK
    refine AL_norm TN ?_
    refine GO1 ?_
    refine AL_and (j := 36) (n := 2) (c := 104) (t := 106) (r := 107) (v := ?v10) [105, 106] rfl rfl rfl rfl rfl rfl rfl (fun hg10 => ?_) ?_; rotate_left
    · refine GS ?_
      (try simp only [Bool.or_eq_true, Bool.and_eq_true, Bool.or_eq_false_iff, Bool.and_eq_false_iff, decide_eq_true_eq, decide_eq_false_iff_not, Bool.not_eq_true', Bool.not_eq_false', beq_iff_eq, ne_eq, Decidable.not_not, List.length_map] at hg10)
      refine GO2 ?_
      refine AL_nil (grpQ_mk ?_)
      exact WK
    refine AL_norm TN ?_
    refine GO1 ?_
    refine AL_and (j := 40) (n := 2) (c := 108) (t := 110) (r := 111) (v := ?v11) [109, 110] rfl rfl rfl rfl rfl rfl rfl (fun hg11 => ?_) ?_; rotate_left
    · refine GS ?_
      (try simp only [Bool.or_eq_true, Bool.and_eq_true, Bool.or_eq_false_iff, Bool.and_eq_false_iff, decide_eq_true_eq, decide_eq_false_iff_not, Bool.not_eq_true', Bool.not_eq_false', beq_iff_eq, ne_eq, Decidable.not_not, List.length_map] at hg11)
      refine GO2 ?_
      refine AL_nil (grpQ_mk ?_)
      exact WK
    refine AL_norm TN ?_
    refine GO1 ?_
    refine AL_and (j := 44) (n := 1) (c := 112) (t := 113) (r := 114) (v := ?v12) [113] rfl rfl rfl rfl rfl rfl rfl (fun hg12 => ?_) ?_; rotate_left
    · refine GS ?_
      (try simp only [Bool.or_eq_true, Bool.and_eq_true, Bool.or_eq_false_iff, Bool.and_eq_false_iff, decide_eq_true_eq, decide_eq_false_iff_not, Bool.not_eq_true', Bool.not_eq_false', beq_iff_eq, ne_eq, Decidable.not_not, List.length_map] at hg12)
      refine GO1 ?_
      refine AL_nil (grpQ_mk ?_)
      exact WK
    refine AL_norm TN ?_
    refine GO1 ?_
    refine AL_and (j := 47) (n := 2) (c := 115) (t := 117) (r := 118) (v := ?v13) [116, 117] rfl rfl rfl rfl rfl rfl rfl (fun hg13 => ?_) ?_; rotate_left
    · refine GS ?_
      (try simp only [Bool.or_eq_true, Bool.and_eq_true, Bool.or_eq_false_iff, Bool.and_eq_false_iff, decide_eq_true_eq, decide_eq_false_iff_not, Bool.not_eq_true', Bool.not_eq_false', beq_iff_eq, ne_eq, Decidable.not_not, List.length_map] at hg13)
      refine GO1 ?_
      refine AL_callpi FEn.h XA HS (query_Indeterm5_ok s1 ⟨#[98, 111, 108, 100]⟩ s1_SS (by decide) (by kernel_rfl : idxQ ⟨#[98, 111, 108, 100]⟩ = ((5 : Nat) : Int))) ?_
      refine AL_nil (grpQ_mk ?_)
      exact WK
    refine AL_norm TN ?_
    refine GO1 ?_
    refine AL_and (j := 51) (n := 3) (c := 119) (t := 122) (r := 123) (v := ?v14) [120, 121, 122] rfl rfl rfl rfl rfl rfl rfl (fun hg14 => ?_) ?_; rotate_left
    · refine GS ?_
      (try simp only [Bool.or_eq_true, Bool.and_eq_true, Bool.or_eq_false_iff, Bool.and_eq_false_iff, decide_eq_true_eq, decide_eq_false_iff_not, Bool.not_eq_true', Bool.not_eq_false', beq_iff_eq, ne_eq, Decidable.not_not, List.length_map] at hg14)
      refine GO1 ?_
      refine AL_callpi FEn.h XA HS (query_Value12_ok s1 ⟨#[102, 111, 114, 109, 97, 116, 66, 108, 111, 99, 107]⟩ s1_SS (by decide) (by kernel_rfl : idxQ ⟨#[102, 111, 114, 109, 97, 116, 66, 108, 111, 99, 107]⟩ = ((12 : Nat) : Int)) ex_kind) ?_
      refine GO1 ?_
      refine AL_nil (grpQ_mk ?_)
      exact WK
    refine AL_norm TN ?_
    refine GO1 ?_
    refine GC3 ?_
    refine retQ_1 (H' := H) (.inr rfl) rfl SU ?_
    refine K_eq ?_ hK
    exact congrArg (fun b => AV.v (.bool b)) (by kernel_rfl)

/-- quillwork/quillworklaw26.QueryFinds -/
theorem quillworklaw26_QueryFinds_ok (w m : Int) :
    PI TQ Tryz.prog 7 [.v (.int .i64 w), .v (.int .u32 m)] (.v (.bool true)) := by
  intro H K hT hK
  refine AC_of Tryz.func7 rfl (rs := [.tmp 4]) rfl Tryz.ntmps7 rfl ?_
  refine AW_norm TP ?_
  refine GC2 ?_
  refine GO1 ?_
  refine GC4 ?_
  refine AL_callp FEn.h XA (query_All_ok) ?_
  refine GO1 ?_
  refine GC5 ?_
  refine GO3 ?_
  refine GC2 ?_
  refine AW_cond rfl (fun hc1 => ?_) (fun hc1 => ?_)
  · exact absurd hc1 (by decide)
  · (try simp only [Bool.or_eq_true, Bool.and_eq_true, Bool.or_eq_false_iff, Bool.and_eq_false_iff, decide_eq_true_eq, decide_eq_false_iff_not, Bool.not_eq_true', Bool.not_eq_false', beq_iff_eq, ne_eq, Decidable.not_not, List.length_map] at hc1)
    refine GC4 ?_
    refine GO1 ?_
    refine AL_bits rfl rfl (by decide) ?_
    refine AL_norm TN ?_
    refine GO2 ?_
    refine AL_rem rfl rfl (by decide) ?_
    refine GO1 ?_
    obtain ⟨k, hk, hk17⟩ := rem17 w; rw [show (intB .and .i64 w 65535).tmod ((((List.range 17).map cmdAV).length : Nat) : Int) = (k : Int) from hk]
    refine AL_norm TN ?_
    refine AL_norm TN ?_
    refine GC4 ?_
    refine GO2 ?_
    first | refine AL_indexAddr_sl (y := cmdAV k) FUn.h FSz.h (by decide) rfl rfl ?_ ?_ ?_ ?_ | refine AL_indexAddr_own FUn.h FSz.h rfl rfl ?_ ?_ ?_
    · omega
    · simp only [List.length_map, List.length_range]; omega
    · exact cmd_at (i := k) (by omega)
    refine AL_norm TN ?_
    refine GO3 ?_
    refine AL_callp FEn.h XA (quillworklaw26_great_ok (nameQ k) m (by have := nameQ_small k; omega)) ?_
    refine AL_norm TN ?_
    refine AL_callpi FEn.h XA HS (query_Find_is (Tags.greatS (nameQ k) (Tags.bt m)) (by rw [Tags.greatS_size]; have := nameQ_small k; omega) ((idx_great _ _).trans (idx_name k hk17))) ?_
    refine GO5 ?_
    refine GC5 ?_
    refine GO3 ?_
    refine AL_or (j := 2) (n := 3) (c := 32) (t := 35) (r := 36) (v := ?v2) [33, 34, 35] rfl rfl rfl rfl rfl rfl rfl (fun hg2 => ?_) ?_; rotate_left
    · refine GS ?_
      (try simp only [Bool.or_eq_true, Bool.and_eq_true, Bool.or_eq_false_iff, Bool.and_eq_false_iff, decide_eq_true_eq, decide_eq_false_iff_not, Bool.not_eq_true', Bool.not_eq_false', beq_iff_eq, ne_eq, Decidable.not_not, List.length_map] at hg2)
      refine GO3 ?_
      refine AL_nil (grpQ_mk ?_)
      exact WK
    refine AL_norm TN ?_
    refine AL_norm TN ?_
    refine GC2 ?_
    refine AW_cond rfl (fun hc3 => ?_) (fun hc3 => ?_)
    · exfalso; simp at hc3
    · (try simp only [Bool.or_eq_true, Bool.and_eq_true, Bool.or_eq_false_iff, Bool.and_eq_false_iff, decide_eq_true_eq, decide_eq_false_iff_not, Bool.not_eq_true', Bool.not_eq_false', beq_iff_eq, ne_eq, Decidable.not_not, List.length_map] at hc3)
      refine GC5 ?_
      refine GO1 ?_
      refine GC2 ?_
      refine AW_block ?_
      refine AW_loops (α := Nat) [4, 9, 37, 38, 39, 40, 41, 42, 43, 44, 45, 46, 47, 48, 49, 50, 51, 52, 53, 54, 55, 56, 57, 58, 59, 60, 61, 62, 63, 64, 65, 66, 67, 68, 69, 70, 71] (fun i => [(9, .v (.int .i64 (i : Int)))]) (fun i => H) (fun i => i ≤ 17) (fun i => 17 - i) (0) ?_ ?_ ?_ ?_
      · exact Nat.zero_le _
      · repeat (first | exact SubH.refl _ | assumption | refine SubH.new ?_ (by assumption))
      · skip
        exact WK
      · intro i hI
        refine AW_norm TN ?_
        refine GC3 ?_
        refine GO4 ?_
        refine GC2 ?_
        refine GI rfl (fun hc4 => ?_) (fun hc4 => ?_)
        ·
          refine GC3 ?_
          refine AW_block ?_
          refine GC1 ?_
          have hne := names_ne i (by omega) k hk17; rcases eqcase i k with ⟨he, hd1⟩ | ⟨he, hd1⟩
          ·
            refine' AW_drawl (xs := [_, _, _, _, _, _, _, _, _, _, _, _, _, _, _, _, _, _, _, _, _, _, _, _, _, _, _, _, _]) (by kernel_rfl) ?hops1 ?_
            case hops1 =>
              refine Hops_cons (fun T hl hr => ?_) ?_
              · skip
                refine AL_move ((hr 9 (by kernel_rfl)).trans rfl) ?_
                refine AL_nil ?_
                refine qpost_mk ?_
                exact Weak.refl _
              refine Hops_norm (by first | (simp only [tput, List.set_cons_zero, List.set_cons_succ, hd1]; rfl) | rfl) ?_
              refine Hops_cons (fun T hl hr => ?_) ?_
              · skip
                refine AL_move ((hr 6 (by kernel_rfl)).trans rfl) ?_
                refine AL_nil ?_
                refine qpost_mk ?_
                exact Weak.refl _
              refine Hops_norm (by first | (simp only [tput, List.set_cons_zero, List.set_cons_succ, hd1]; rfl) | rfl) ?_
              refine Hops_cons (fun T hl hr => ?_) ?_
              · skip
                refine AL_neq ((hr 43 (by kernel_rfl)).trans rfl) ((hr 44 (by kernel_rfl)).trans rfl) ?_
                refine AL_nil ?_
                refine qpost_mk ?_
                exact Weak.refl _
              refine Hops_norm (by first | (simp only [tput, List.set_cons_zero, List.set_cons_succ, hd1]; rfl) | rfl) ?_
              refine Hops_cons (fun T hl hr => ?_) ?_
              · skip
                refine AL_move ((hr 45 (by kernel_rfl)).trans rfl) ?_
                refine AL_nil ?_
                refine qpost_mk ?_
                exact Weak.refl _
              refine Hops_norm (by first | (simp only [tput, List.set_cons_zero, List.set_cons_succ, hd1]; rfl) | rfl) ?_
              refine Hops_cons (fun T hl hr => ?_) ?_
              · skip
                refine AL_leave rfl ((hr 46 rfl).trans rfl) (by decide) ?_
                refine AL_nil ?_
                refine qpost_mk ?_
                exact Weak.refl _
              refine Hops_norm (by first | (simp only [tput, List.set_cons_zero, List.set_cons_succ, hd1]; rfl) | rfl) ?_
              refine Hops_cons (fun T hl hr => ?_) ?_
              · skip
                refine AL_leave rfl ((hr 46 rfl).trans rfl) (by decide) ?_
                refine AL_nil ?_
                refine qpost_mk ?_
                exact Weak.refl _
              refine Hops_norm (by first | (simp only [tput, List.set_cons_zero, List.set_cons_succ, hd1]; rfl) | rfl) ?_
              refine Hops_cons (fun T hl hr => ?_) ?_
              · skip
                refine AL_leave rfl ((hr 46 rfl).trans rfl) (by decide) ?_
                refine AL_nil ?_
                refine qpost_mk ?_
                exact Weak.refl _
              refine Hops_norm (by first | (simp only [tput, List.set_cons_zero, List.set_cons_succ, hd1]; rfl) | rfl) ?_
              refine Hops_cons (fun T hl hr => ?_) ?_
              · skip
                refine AL_leave rfl ((hr 46 rfl).trans rfl) (by decide) ?_
                refine AL_nil ?_
                refine qpost_mk ?_
                exact Weak.refl _
              refine Hops_norm (by first | (simp only [tput, List.set_cons_zero, List.set_cons_succ, hd1]; rfl) | rfl) ?_
              refine Hops_cons (fun T hl hr => ?_) ?_
              · skip
                refine AL_leave rfl ((hr 46 rfl).trans rfl) (by decide) ?_
                refine AL_nil ?_
                refine qpost_mk ?_
                exact Weak.refl _
              refine Hops_norm (by first | (simp only [tput, List.set_cons_zero, List.set_cons_succ, hd1]; rfl) | rfl) ?_
              refine Hops_cons (fun T hl hr => ?_) ?_
              · skip
                refine AL_leave rfl ((hr 46 rfl).trans rfl) (by decide) ?_
                refine AL_nil ?_
                refine qpost_mk ?_
                exact Weak.refl _
              refine Hops_norm (by first | (simp only [tput, List.set_cons_zero, List.set_cons_succ, hd1]; rfl) | rfl) ?_
              refine Hops_cons (fun T hl hr => ?_) ?_
              · skip
                refine AL_leave rfl ((hr 46 rfl).trans rfl) (by decide) ?_
                refine AL_nil ?_
                refine qpost_mk ?_
                exact Weak.refl _
              refine Hops_norm (by first | (simp only [tput, List.set_cons_zero, List.set_cons_succ, hd1]; rfl) | rfl) ?_
              refine Hops_cons (fun T hl hr => ?_) ?_
              · skip
                refine AL_leave rfl ((hr 46 rfl).trans rfl) (by decide) ?_
                refine AL_nil ?_
                refine qpost_mk ?_
                exact Weak.refl _
              refine Hops_norm (by first | (simp only [tput, List.set_cons_zero, List.set_cons_succ, hd1]; rfl) | rfl) ?_
              refine Hops_cons (fun T hl hr => ?_) ?_
              · skip
                refine AL_leave rfl ((hr 46 rfl).trans rfl) (by decide) ?_
                refine AL_nil ?_
                refine qpost_mk ?_
                exact Weak.refl _
              refine Hops_norm (by first | (simp only [tput, List.set_cons_zero, List.set_cons_succ, hd1]; rfl) | rfl) ?_
              refine Hops_cons (fun T hl hr => ?_) ?_
              · skip
                refine AL_leave rfl ((hr 46 rfl).trans rfl) (by decide) ?_
                refine AL_nil ?_
                refine qpost_mk ?_
                exact Weak.refl _
              refine Hops_norm (by first | (simp only [tput, List.set_cons_zero, List.set_cons_succ, hd1]; rfl) | rfl) ?_
              refine Hops_cons (fun T hl hr => ?_) ?_
              · skip
                refine AL_leave rfl ((hr 46 rfl).trans rfl) (by decide) ?_
                refine AL_nil ?_
                refine qpost_mk ?_
                exact Weak.refl _
              refine Hops_norm (by first | (simp only [tput, List.set_cons_zero, List.set_cons_succ, hd1]; rfl) | rfl) ?_
              refine Hops_cons (fun T hl hr => ?_) ?_
              · skip
                refine AL_leave rfl ((hr 46 rfl).trans rfl) (by decide) ?_
                refine AL_nil ?_
                refine qpost_mk ?_
                exact Weak.refl _
              refine Hops_norm (by first | (simp only [tput, List.set_cons_zero, List.set_cons_succ, hd1]; rfl) | rfl) ?_
              refine Hops_cons (fun T hl hr => ?_) ?_
              · skip
                refine AL_leave_u rfl ((hr 58 rfl).trans rfl) ?_
                refine AL_nil ?_
                refine qpost_mk ?_
                exact Weak.refl _
              refine Hops_norm (by first | (simp only [tput, List.set_cons_zero, List.set_cons_succ, hd1]; rfl) | rfl) ?_
              refine Hops_cons (fun T hl hr => ?_) ?_
              · skip
                refine AL_leave_u rfl ((hr 58 rfl).trans rfl) ?_
                refine AL_nil ?_
                refine qpost_mk ?_
                exact Weak.refl _
              refine Hops_norm (by first | (simp only [tput, List.set_cons_zero, List.set_cons_succ, hd1]; rfl) | rfl) ?_
              refine Hops_cons (fun T hl hr => ?_) ?_
              · skip
                refine AL_leave_u rfl ((hr 58 rfl).trans rfl) ?_
                refine AL_nil ?_
                refine qpost_mk ?_
                exact Weak.refl _
              refine Hops_norm (by first | (simp only [tput, List.set_cons_zero, List.set_cons_succ, hd1]; rfl) | rfl) ?_
              refine Hops_cons (fun T hl hr => ?_) ?_
              · skip
                refine AL_leave_u rfl ((hr 58 rfl).trans rfl) ?_
                refine AL_nil ?_
                refine qpost_mk ?_
                exact Weak.refl _
              refine Hops_norm (by first | (simp only [tput, List.set_cons_zero, List.set_cons_succ, hd1]; rfl) | rfl) ?_
              refine Hops_cons (fun T hl hr => ?_) ?_
              · skip
                refine AL_leave_u rfl ((hr 58 rfl).trans rfl) ?_
                refine AL_nil ?_
                refine qpost_mk ?_
                exact Weak.refl _
              refine Hops_norm (by first | (simp only [tput, List.set_cons_zero, List.set_cons_succ, hd1]; rfl) | rfl) ?_
              refine Hops_cons (fun T hl hr => ?_) ?_
              · skip
                refine AL_leave_u rfl ((hr 58 rfl).trans rfl) ?_
                refine AL_nil ?_
                refine qpost_mk ?_
                exact Weak.refl _
              refine Hops_norm (by first | (simp only [tput, List.set_cons_zero, List.set_cons_succ, hd1]; rfl) | rfl) ?_
              refine Hops_cons (fun T hl hr => ?_) ?_
              · skip
                refine AL_leave_u rfl ((hr 58 rfl).trans rfl) ?_
                refine AL_nil ?_
                refine qpost_mk ?_
                exact Weak.refl _
              refine Hops_norm (by first | (simp only [tput, List.set_cons_zero, List.set_cons_succ, hd1]; rfl) | rfl) ?_
              refine Hops_cons (fun T hl hr => ?_) ?_
              · skip
                refine AL_leave_u rfl ((hr 58 rfl).trans rfl) ?_
                refine AL_nil ?_
                refine qpost_mk ?_
                exact Weak.refl _
              refine Hops_norm (by first | (simp only [tput, List.set_cons_zero, List.set_cons_succ, hd1]; rfl) | rfl) ?_
              refine Hops_cons (fun T hl hr => ?_) ?_
              · skip
                refine AL_leave_u rfl ((hr 58 rfl).trans rfl) ?_
                refine AL_nil ?_
                refine qpost_mk ?_
                exact Weak.refl _
              refine Hops_norm (by first | (simp only [tput, List.set_cons_zero, List.set_cons_succ, hd1]; rfl) | rfl) ?_
              refine Hops_cons (fun T hl hr => ?_) ?_
              · skip
                refine AL_leave_u rfl ((hr 58 rfl).trans rfl) ?_
                refine AL_nil ?_
                refine qpost_mk ?_
                exact Weak.refl _
              refine Hops_norm (by first | (simp only [tput, List.set_cons_zero, List.set_cons_succ, hd1]; rfl) | rfl) ?_
              refine Hops_cons (fun T hl hr => ?_) ?_
              · skip
                refine AL_leave_u rfl ((hr 58 rfl).trans rfl) ?_
                refine AL_nil ?_
                refine qpost_mk ?_
                exact Weak.refl _
              refine Hops_norm (by first | (simp only [tput, List.set_cons_zero, List.set_cons_succ, hd1]; rfl) | rfl) ?_
              refine Hops_cons (fun T hl hr => ?_) ?_
              · skip
                refine AL_leave rfl ((hr 46 rfl).trans rfl) (by decide) ?_
                refine AL_nil ?_
                refine qpost_mk ?_
                exact Weak.refl _
              refine Hops_norm (by first | (simp only [tput, List.set_cons_zero, List.set_cons_succ, hd1]; rfl) | rfl) ?_
              refine Hops_cons (fun T hl hr => ?_) ?_
              · skip
                first | refine AL_pick_t ((hr 46 (by kernel_rfl)).trans rfl) ((hr 70 (by kernel_rfl)).trans rfl) ?_ | refine AL_pick_f ((hr 46 (by kernel_rfl)).trans rfl) rfl ?_
                refine AL_nil ?_
                refine qpost_mk ?_
                exact Weak.refl _
              refine Hops_norm (by first | (simp only [tput, List.set_cons_zero, List.set_cons_succ, hd1]; rfl) | rfl) ?_
              exact Hops_nil
            refine Q_norm (by first | (simp only [Tfin, tput, anyAt, setAll, List.foldl_cons, List.foldl_nil, List.set_cons_zero, List.set_cons_succ, hd1]; rfl) | rfl) ?_
            refine GC1 ?_
            refine GI rfl (fun hc5 => ?_) (fun hc5 => ?_)
            ·
              refine GC2 ?_
              refine GO1 ?_
              refine GC5 ?_
              refine loopQ_r ?_
              refine GC2 ?_
              refine retQ_1 (H' := H) (.inr rfl) rfl SU ?_
              refine K_eq ?_ hK
              exact absurd hc5 (by simp)
            ·
              refine GC4 ?_
              refine GO1 ?_
              refine AL_addz rfl rfl (((i + 1 : Nat) : Int)) (by exact inc64 (by omega)) ?_
              refine GO1 ?_
              refine GC1 ?_
              refine loopQ_n (i + 1) ?_ ?_ ?_ ?_
              · exact (by omega)
              · omega
              · repeat (first | exact SubH.refl _ | assumption | refine SubH.new ?_ (by assumption))
              · skip
                exact WK
          ·
            refine' AW_drawl (xs := [_, _, _, _, _, _, _, _, _, _, _, _, _, _, _, _, _, _, _, _, _, _, _, _, _, _, _, _, _]) (by kernel_rfl) ?hops2 ?_
            case hops2 =>
              refine Hops_cons (fun T hl hr => ?_) ?_
              · skip
                refine AL_move ((hr 9 (by kernel_rfl)).trans rfl) ?_
                refine AL_nil ?_
                refine qpost_mk ?_
                exact Weak.refl _
              refine Hops_norm (by first | (simp only [tput, List.set_cons_zero, List.set_cons_succ, hd1, decide_eq_false (hne he).1]; rfl) | rfl) ?_
              refine Hops_cons (fun T hl hr => ?_) ?_
              · skip
                refine AL_move ((hr 6 (by kernel_rfl)).trans rfl) ?_
                refine AL_nil ?_
                refine qpost_mk ?_
                exact Weak.refl _
              refine Hops_norm (by first | (simp only [tput, List.set_cons_zero, List.set_cons_succ, hd1, decide_eq_false (hne he).1]; rfl) | rfl) ?_
              refine Hops_cons (fun T hl hr => ?_) ?_
              · skip
                refine AL_neq ((hr 43 (by kernel_rfl)).trans rfl) ((hr 44 (by kernel_rfl)).trans rfl) ?_
                refine AL_nil ?_
                refine qpost_mk ?_
                exact Weak.refl _
              refine Hops_norm (by first | (simp only [tput, List.set_cons_zero, List.set_cons_succ, hd1, decide_eq_false (hne he).1]; rfl) | rfl) ?_
              refine Hops_cons (fun T hl hr => ?_) ?_
              · skip
                refine AL_move ((hr 45 (by kernel_rfl)).trans rfl) ?_
                refine AL_nil ?_
                refine qpost_mk ?_
                exact Weak.refl _
              refine Hops_norm (by first | (simp only [tput, List.set_cons_zero, List.set_cons_succ, hd1, decide_eq_false (hne he).1]; rfl) | rfl) ?_
              refine Hops_cons (fun T hl hr => ?_) ?_
              · skip
                refine AL_take rfl ((hr 46 rfl).trans rfl) ?_
                refine AL_move ((hr 5 (by kernel_rfl)).trans rfl) ?_
                refine AL_nil ?_
                refine qpost_mk ?_
                exact Weak.refl _
              refine Hops_norm (by first | (simp only [tput, List.set_cons_zero, List.set_cons_succ, hd1, decide_eq_false (hne he).1]; rfl) | rfl) ?_
              refine Hops_cons (fun T hl hr => ?_) ?_
              · skip
                refine AL_take rfl ((hr 46 rfl).trans rfl) ?_
                refine AL_move ((hr 9 (by kernel_rfl)).trans rfl) ?_
                refine AL_nil ?_
                refine qpost_mk ?_
                exact Weak.refl _
              refine Hops_norm (by first | (simp only [tput, List.set_cons_zero, List.set_cons_succ, hd1, decide_eq_false (hne he).1]; rfl) | rfl) ?_
              refine Hops_cons (fun T hl hr => ?_) ?_
              · skip
                refine AL_take rfl ((hr 46 rfl).trans rfl) ?_
                first | refine AL_indexAddr_sl (y := cmdAV i) FUn.h FSz.h (by decide) ((hr 47 (by kernel_rfl)).trans rfl) ((hr 48 (by kernel_rfl)).trans rfl) ?_ ?_ ?_ ?_ | refine AL_indexAddr_own FUn.h FSz.h ((hr 47 (by kernel_rfl)).trans rfl) ((hr 48 (by kernel_rfl)).trans rfl) ?_ ?_ ?_
                · omega
                · simp only [List.length_map, List.length_range]; omega
                · exact cmd_at (i := i) (by omega)
                refine AL_nil ?_
                refine qpost_mk ?_
                exact Weak.refl _
              refine Hops_norm (by first | (simp only [tput, List.set_cons_zero, List.set_cons_succ, hd1, decide_eq_false (hne he).1]; rfl) | rfl) ?_
              refine Hops_cons (fun T hl hr => ?_) ?_
              · skip
                refine AL_take rfl ((hr 46 rfl).trans rfl) ?_
                first | refine AL_fieldAddr_pt FFl.h FSz.h (by decide) ((hr 49 (by kernel_rfl)).trans rfl) ?_ | refine AL_fieldAddr_rp FFl.h FAg.h FSz.h (by decide) (by decide) ((hr 49 (by kernel_rfl)).trans rfl) rfl (fun h => by first | rfl | cases h) ?_
                refine AL_nil ?_
                refine qpost_mk ?_
                exact Weak.refl _
              refine Hops_norm (by first | (simp only [tput, List.set_cons_zero, List.set_cons_succ, hd1, decide_eq_false (hne he).1]; rfl) | rfl) ?_
              refine Hops_cons (fun T hl hr => ?_) ?_
              · skip
                refine AL_take rfl ((hr 46 rfl).trans rfl) ?_
                first | refine AL_load_rp FSz.h ((hr 50 (by kernel_rfl)).trans rfl) FAg.h ?_ | refine AL_loadw FSz.h ((hr 50 (by kernel_rfl)).trans rfl) LK (by exact FAg.h) rfl ?_ | refine AL_load_pt FAg.h FSz.h (by decide) ((hr 50 (by kernel_rfl)).trans rfl) LK FSz.h (by exact rfl) (by exact rfl) (by exact rfl) ?_
                refine AL_nil ?_
                refine qpost_mk ?_
                exact Weak.refl _
              refine Hops_norm (by first | (simp only [tput, List.set_cons_zero, List.set_cons_succ, hd1, decide_eq_false (hne he).1]; rfl) | rfl) ?_
              refine Hops_cons (fun T hl hr => ?_) ?_
              · skip
                refine AL_take rfl ((hr 46 rfl).trans rfl) ?_
                refine AL_move ((hr 5 (by kernel_rfl)).trans rfl) ?_
                refine AL_nil ?_
                refine qpost_mk ?_
                exact Weak.refl _
              refine Hops_norm (by first | (simp only [tput, List.set_cons_zero, List.set_cons_succ, hd1, decide_eq_false (hne he).1]; rfl) | rfl) ?_
              refine Hops_cons (fun T hl hr => ?_) ?_
              · skip
                refine AL_take rfl ((hr 46 rfl).trans rfl) ?_
                refine AL_move ((hr 6 (by kernel_rfl)).trans rfl) ?_
                refine AL_nil ?_
                refine qpost_mk ?_
                exact Weak.refl _
              refine Hops_norm (by first | (simp only [tput, List.set_cons_zero, List.set_cons_succ, hd1, decide_eq_false (hne he).1]; rfl) | rfl) ?_
              refine Hops_cons (fun T hl hr => ?_) ?_
              · skip
                refine AL_take rfl ((hr 46 rfl).trans rfl) ?_
                first | refine AL_indexAddr_sl (y := cmdAV k) FUn.h FSz.h (by decide) ((hr 52 (by kernel_rfl)).trans rfl) ((hr 53 (by kernel_rfl)).trans rfl) ?_ ?_ ?_ ?_ | refine AL_indexAddr_own FUn.h FSz.h ((hr 52 (by kernel_rfl)).trans rfl) ((hr 53 (by kernel_rfl)).trans rfl) ?_ ?_ ?_
                · omega
                · simp only [List.length_map, List.length_range]; omega
                · exact cmd_at (i := k) (by omega)
                refine AL_nil ?_
                refine qpost_mk ?_
                exact Weak.refl _
              refine Hops_norm (by first | (simp only [tput, List.set_cons_zero, List.set_cons_succ, hd1, decide_eq_false (hne he).1]; rfl) | rfl) ?_
              refine Hops_cons (fun T hl hr => ?_) ?_
              · skip
                refine AL_take rfl ((hr 46 rfl).trans rfl) ?_
                first | refine AL_fieldAddr_pt FFl.h FSz.h (by decide) ((hr 54 (by kernel_rfl)).trans rfl) ?_ | refine AL_fieldAddr_rp FFl.h FAg.h FSz.h (by decide) (by decide) ((hr 54 (by kernel_rfl)).trans rfl) rfl (fun h => by first | rfl | cases h) ?_
                refine AL_nil ?_
                refine qpost_mk ?_
                exact Weak.refl _
              refine Hops_norm (by first | (simp only [tput, List.set_cons_zero, List.set_cons_succ, hd1, decide_eq_false (hne he).1]; rfl) | rfl) ?_
              refine Hops_cons (fun T hl hr => ?_) ?_
              · skip
                refine AL_take rfl ((hr 46 rfl).trans rfl) ?_
                first | refine AL_load_rp FSz.h ((hr 55 (by kernel_rfl)).trans rfl) FAg.h ?_ | refine AL_loadw FSz.h ((hr 55 (by kernel_rfl)).trans rfl) LK (by exact FAg.h) rfl ?_ | refine AL_load_pt FAg.h FSz.h (by decide) ((hr 55 (by kernel_rfl)).trans rfl) LK FSz.h (by exact rfl) (by exact rfl) (by exact rfl) ?_
                refine AL_nil ?_
                refine qpost_mk ?_
                exact Weak.refl _
              refine Hops_norm (by first | (simp only [tput, List.set_cons_zero, List.set_cons_succ, hd1, decide_eq_false (hne he).1]; rfl) | rfl) ?_
              refine Hops_cons (fun T hl hr => ?_) ?_
              · skip
                refine AL_take rfl ((hr 46 rfl).trans rfl) ?_
                refine AL_seql ((hr 51 (by kernel_rfl)).trans rfl) ((hr 56 (by kernel_rfl)).trans rfl) ?_
                refine AL_nil ?_
                refine qpost_mk ?_
                exact Weak.refl _
              refine Hops_norm (by first | (simp only [tput, List.set_cons_zero, List.set_cons_succ, hd1, decide_eq_false (hne he).1]; rfl) | rfl) ?_
              refine Hops_cons (fun T hl hr => ?_) ?_
              · skip
                refine AL_take rfl ((hr 46 rfl).trans rfl) ?_
                refine AL_move ((hr 57 (by kernel_rfl)).trans rfl) ?_
                refine AL_nil ?_
                refine qpost_mk ?_
                exact Weak.refl _
              refine Hops_norm (by first | (simp only [tput, List.set_cons_zero, List.set_cons_succ, hd1, decide_eq_false (hne he).1]; rfl) | rfl) ?_
              refine Hops_cons (fun T hl hr => ?_) ?_
              · skip
                refine AL_take rfl ((hr 58 rfl).trans rfl) ?_
                refine AL_move ((hr 5 (by kernel_rfl)).trans rfl) ?_
                refine AL_nil ?_
                refine qpost_mk ?_
                exact Weak.refl _
              refine Hops_norm (by first | (simp only [tput, List.set_cons_zero, List.set_cons_succ, hd1, decide_eq_false (hne he).1]; rfl) | rfl) ?_
              refine Hops_cons (fun T hl hr => ?_) ?_
              · skip
                refine AL_take rfl ((hr 58 rfl).trans rfl) ?_
                refine AL_move ((hr 9 (by kernel_rfl)).trans rfl) ?_
                refine AL_nil ?_
                refine qpost_mk ?_
                exact Weak.refl _
              refine Hops_norm (by first | (simp only [tput, List.set_cons_zero, List.set_cons_succ, hd1, decide_eq_false (hne he).1]; rfl) | rfl) ?_
              refine Hops_cons (fun T hl hr => ?_) ?_
              · skip
                refine AL_take rfl ((hr 58 rfl).trans rfl) ?_
                first | refine AL_indexAddr_sl (y := cmdAV i) FUn.h FSz.h (by decide) ((hr 59 (by kernel_rfl)).trans rfl) ((hr 60 (by kernel_rfl)).trans rfl) ?_ ?_ ?_ ?_ | refine AL_indexAddr_own FUn.h FSz.h ((hr 59 (by kernel_rfl)).trans rfl) ((hr 60 (by kernel_rfl)).trans rfl) ?_ ?_ ?_
                · omega
                · simp only [List.length_map, List.length_range]; omega
                · exact cmd_at (i := i) (by omega)
                refine AL_nil ?_
                refine qpost_mk ?_
                exact Weak.refl _
              refine Hops_norm (by first | (simp only [tput, List.set_cons_zero, List.set_cons_succ, hd1, decide_eq_false (hne he).1]; rfl) | rfl) ?_
              refine Hops_cons (fun T hl hr => ?_) ?_
              · skip
                refine AL_take rfl ((hr 58 rfl).trans rfl) ?_
                first | refine AL_fieldAddr_pt FFl.h FSz.h (by decide) ((hr 61 (by kernel_rfl)).trans rfl) ?_ | refine AL_fieldAddr_rp FFl.h FAg.h FSz.h (by decide) (by decide) ((hr 61 (by kernel_rfl)).trans rfl) rfl (fun h => by first | rfl | cases h) ?_
                refine AL_nil ?_
                refine qpost_mk ?_
                exact Weak.refl _
              refine Hops_norm (by first | (simp only [tput, List.set_cons_zero, List.set_cons_succ, hd1, decide_eq_false (hne he).1]; rfl) | rfl) ?_
              refine Hops_cons (fun T hl hr => ?_) ?_
              · skip
                refine AL_take rfl ((hr 58 rfl).trans rfl) ?_
                first | refine AL_load_rp FSz.h ((hr 62 (by kernel_rfl)).trans rfl) FAg.h ?_ | refine AL_loadw FSz.h ((hr 62 (by kernel_rfl)).trans rfl) LK (by exact FAg.h) rfl ?_ | refine AL_load_pt FAg.h FSz.h (by decide) ((hr 62 (by kernel_rfl)).trans rfl) LK FSz.h (by exact rfl) (by exact rfl) (by exact rfl) ?_
                refine AL_nil ?_
                refine qpost_mk ?_
                exact Weak.refl _
              refine Hops_norm (by first | (simp only [tput, List.set_cons_zero, List.set_cons_succ, hd1, decide_eq_false (hne he).1]; rfl) | rfl) ?_
              refine Hops_cons (fun T hl hr => ?_) ?_
              · skip
                refine AL_take rfl ((hr 58 rfl).trans rfl) ?_
                refine AL_move ((hr 5 (by kernel_rfl)).trans rfl) ?_
                refine AL_nil ?_
                refine qpost_mk ?_
                exact Weak.refl _
              refine Hops_norm (by first | (simp only [tput, List.set_cons_zero, List.set_cons_succ, hd1, decide_eq_false (hne he).1]; rfl) | rfl) ?_
              refine Hops_cons (fun T hl hr => ?_) ?_
              · skip
                refine AL_take rfl ((hr 58 rfl).trans rfl) ?_
                refine AL_move ((hr 6 (by kernel_rfl)).trans rfl) ?_
                refine AL_nil ?_
                refine qpost_mk ?_
                exact Weak.refl _
              refine Hops_norm (by first | (simp only [tput, List.set_cons_zero, List.set_cons_succ, hd1, decide_eq_false (hne he).1]; rfl) | rfl) ?_
              refine Hops_cons (fun T hl hr => ?_) ?_
              · skip
                refine AL_take rfl ((hr 58 rfl).trans rfl) ?_
                first | refine AL_indexAddr_sl (y := cmdAV k) FUn.h FSz.h (by decide) ((hr 64 (by kernel_rfl)).trans rfl) ((hr 65 (by kernel_rfl)).trans rfl) ?_ ?_ ?_ ?_ | refine AL_indexAddr_own FUn.h FSz.h ((hr 64 (by kernel_rfl)).trans rfl) ((hr 65 (by kernel_rfl)).trans rfl) ?_ ?_ ?_
                · omega
                · simp only [List.length_map, List.length_range]; omega
                · exact cmd_at (i := k) (by omega)
                refine AL_nil ?_
                refine qpost_mk ?_
                exact Weak.refl _
              refine Hops_norm (by first | (simp only [tput, List.set_cons_zero, List.set_cons_succ, hd1, decide_eq_false (hne he).1]; rfl) | rfl) ?_
              refine Hops_cons (fun T hl hr => ?_) ?_
              · skip
                refine AL_take rfl ((hr 58 rfl).trans rfl) ?_
                first | refine AL_fieldAddr_pt FFl.h FSz.h (by decide) ((hr 66 (by kernel_rfl)).trans rfl) ?_ | refine AL_fieldAddr_rp FFl.h FAg.h FSz.h (by decide) (by decide) ((hr 66 (by kernel_rfl)).trans rfl) rfl (fun h => by first | rfl | cases h) ?_
                refine AL_nil ?_
                refine qpost_mk ?_
                exact Weak.refl _
              refine Hops_norm (by first | (simp only [tput, List.set_cons_zero, List.set_cons_succ, hd1, decide_eq_false (hne he).1]; rfl) | rfl) ?_
              refine Hops_cons (fun T hl hr => ?_) ?_
              · skip
                refine AL_take rfl ((hr 58 rfl).trans rfl) ?_
                first | refine AL_load_rp FSz.h ((hr 67 (by kernel_rfl)).trans rfl) FAg.h ?_ | refine AL_loadw FSz.h ((hr 67 (by kernel_rfl)).trans rfl) LK (by exact FAg.h) rfl ?_ | refine AL_load_pt FAg.h FSz.h (by decide) ((hr 67 (by kernel_rfl)).trans rfl) LK FSz.h (by exact rfl) (by exact rfl) (by exact rfl) ?_
                refine AL_nil ?_
                refine qpost_mk ?_
                exact Weak.refl _
              refine Hops_norm (by first | (simp only [tput, List.set_cons_zero, List.set_cons_succ, hd1, decide_eq_false (hne he).1]; rfl) | rfl) ?_
              refine Hops_cons (fun T hl hr => ?_) ?_
              · skip
                refine AL_take rfl ((hr 58 rfl).trans rfl) ?_
                refine AL_seql ((hr 63 (by kernel_rfl)).trans rfl) ((hr 68 (by kernel_rfl)).trans rfl) ?_
                refine AL_nil ?_
                refine qpost_mk ?_
                exact Weak.refl _
              refine Hops_norm (by first | (simp only [tput, List.set_cons_zero, List.set_cons_succ, hd1, decide_eq_false (hne he).1]; rfl) | rfl) ?_
              refine Hops_cons (fun T hl hr => ?_) ?_
              · skip
                refine AL_take rfl ((hr 46 rfl).trans rfl) ?_
                first | refine AL_pick_t ((hr 58 (by kernel_rfl)).trans rfl) rfl ?_ | refine AL_pick_f ((hr 58 (by kernel_rfl)).trans rfl) ((hr 69 (by kernel_rfl)).trans rfl) ?_
                refine AL_nil ?_
                refine qpost_mk ?_
                exact Weak.refl _
              refine Hops_norm (by first | (simp only [tput, List.set_cons_zero, List.set_cons_succ, hd1, decide_eq_false (hne he).1]; rfl) | rfl) ?_
              refine Hops_cons (fun T hl hr => ?_) ?_
              · skip
                first | refine AL_pick_t ((hr 46 (by kernel_rfl)).trans rfl) ((hr 70 (by kernel_rfl)).trans rfl) ?_ | refine AL_pick_f ((hr 46 (by kernel_rfl)).trans rfl) rfl ?_
                refine AL_nil ?_
                refine qpost_mk ?_
                exact Weak.refl _
              refine Hops_norm (by first | (simp only [tput, List.set_cons_zero, List.set_cons_succ, hd1, decide_eq_false (hne he).1]; rfl) | rfl) ?_
              exact Hops_nil
            refine Q_norm (by first | (simp only [Tfin, tput, anyAt, setAll, List.foldl_cons, List.foldl_nil, List.set_cons_zero, List.set_cons_succ, hd1, decide_eq_false (hne he).1]; rfl) | rfl) ?_
            refine GC1 ?_
            refine GI rfl (fun hc6 => ?_) (fun hc6 => ?_)
            ·
              refine GC2 ?_
              refine GO1 ?_
              refine GC5 ?_
              refine loopQ_r ?_
              refine GC2 ?_
              refine retQ_1 (H' := H) (.inr rfl) rfl SU ?_
              refine K_eq ?_ hK
              exact absurd hc6 (hne he).2
            ·
              refine GC4 ?_
              refine GO1 ?_
              refine AL_addz rfl rfl (((i + 1 : Nat) : Int)) (by exact inc64 (by omega)) ?_
              refine GO1 ?_
              refine GC1 ?_
              refine loopQ_n (i + 1) ?_ ?_ ?_ ?_
              · exact (by omega)
              · omega
              · repeat (first | exact SubH.refl _ | assumption | refine SubH.new ?_ (by assumption))
              · skip
                exact WK
        ·
          refine GC2 ?_
          refine loopQ_x ?_
          refine GC4 ?_
          refine AL_callpi FEn.h XA HS (quillworklaw26_awake_ok) ?_
          refine GO1 ?_
          refine GC3 ?_
          refine retQ_1 (H' := H) (.inr rfl) rfl SU ?_
          refine K_eq ?_ hK
          rfl


end Go.Proofs
