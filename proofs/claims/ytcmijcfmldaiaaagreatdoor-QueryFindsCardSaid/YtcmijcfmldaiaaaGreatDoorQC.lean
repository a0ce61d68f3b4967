/- The given statement of the law: for every input the law answers true. No conditions of our own. -/
import Derived.Test.YtcmijcfmldaiaaaGreatDoorQL
import Derived.Test.YtcmijcfmldaiaaaGreatDoorQKa
import Derived.Test.YtcmijcfmldaiaaaGreatDoorProg
set_option autoImplicit false
set_option linter.unusedVariables false
set_option linter.unusedSimpArgs false
set_option maxRecDepth 100000
set_option maxHeartbeats 4000000
namespace Go.Proofs
open Go Go.RowKit Go.AL Go.Q Go.IntWalk
attribute [local irreducible] AW AL seqQ blockQ retQ loopQ roundQ asgQ grpQ mQ qpost qpostL retQN retQM
instance un9 : FUn Tryz.prog 9 (.string) := ⟨by kernel_rfl⟩
instance en269 : FEn Tryz.prog 269 := ⟨by kernel_rfl⟩
instance en285 : FEn Tryz.prog 285 := ⟨by kernel_rfl⟩
instance en243 : FEn Tryz.prog 243 := ⟨by kernel_rfl⟩
instance en132 : FEn Tryz.prog 132 := ⟨by kernel_rfl⟩
instance en245 : FEn Tryz.prog 245 := ⟨by kernel_rfl⟩
instance en158 : FEn Tryz.prog 158 := ⟨by kernel_rfl⟩
instance fl57_0 : FFl Tryz.prog 57 0 21 0 := ⟨by kernel_rfl⟩
instance sz21 : FSz Tryz.prog 21 1 := ⟨by kernel_rfl⟩
instance ag21 : FAg Tryz.prog 21 false := ⟨by kernel_rfl⟩
instance fl57_1 : FFl Tryz.prog 57 1 3 1 := ⟨by kernel_rfl⟩
instance fl57_2 : FFl Tryz.prog 57 2 9 2 := ⟨by kernel_rfl⟩
instance sz9 : FSz Tryz.prog 9 1 := ⟨by kernel_rfl⟩
instance ag9 : FAg Tryz.prog 9 false := ⟨by kernel_rfl⟩
instance en270 : FEn Tryz.prog 270 := ⟨by kernel_rfl⟩
instance en125 : FEn Tryz.prog 125 := ⟨by kernel_rfl⟩
instance fl60_0 : FFl Tryz.prog 60 0 3 0 := ⟨by kernel_rfl⟩
instance fl60_1 : FFl Tryz.prog 60 1 52 1 := ⟨by kernel_rfl⟩
instance sz52 : FSz Tryz.prog 52 1 := ⟨by kernel_rfl⟩
instance ag52 : FAg Tryz.prog 52 false := ⟨by kernel_rfl⟩
instance fl60_2 : FFl Tryz.prog 60 2 3 2 := ⟨by kernel_rfl⟩
instance en208 : FEn Tryz.prog 208 := ⟨by kernel_rfl⟩
instance fl60_3 : FFl Tryz.prog 60 3 58 3 := ⟨by kernel_rfl⟩
instance sz58 : FSz Tryz.prog 58 1 := ⟨by kernel_rfl⟩
instance ag58 : FAg Tryz.prog 58 false := ⟨by kernel_rfl⟩
instance en210 : FEn Tryz.prog 210 := ⟨by kernel_rfl⟩
instance ze60 : FZe Tryz.prog 60 (.agg #[.int .i64 0, .slice none 0 0, .int .i64 0, .slice none 0 0]) := ⟨by kernel_rfl⟩
instance sz24 : FSz Tryz.prog 24 2 := ⟨by kernel_rfl⟩
instance fl24_0 : FFl Tryz.prog 24 0 3 0 := ⟨by kernel_rfl⟩
instance fl24_1 : FFl Tryz.prog 24 1 3 1 := ⟨by kernel_rfl⟩
instance en295 : FEn Tryz.prog 295 := ⟨by kernel_rfl⟩
instance en262 : FEn Tryz.prog 262 := ⟨by kernel_rfl⟩
instance en261 : FEn Tryz.prog 261 := ⟨by kernel_rfl⟩
instance en131 : FEn Tryz.prog 131 := ⟨by kernel_rfl⟩
instance en128 : FEn Tryz.prog 128 := ⟨by kernel_rfl⟩
instance en129 : FEn Tryz.prog 129 := ⟨by kernel_rfl⟩

/-- quillwork/attrs.Value -/
theorem attrs_Value_ok (s : ByteArray) (hs : s.size ≤ 1000000) :
    PI TQ Tryz.prog 245 [strAV s] (.v (.bool (valueOK s))) := by
  intro H K hT hK
  refine AC_of Tryz.func245 rfl (rs := [.tmp 2]) rfl Tryz.ntmps245 rfl ?_
  refine AW_norm TP ?_
  refine GC2 ?_
  refine GO1 ?_
  refine GC5 ?_
  refine GO1 ?_
  refine AL_range FUn.h rfl ?_
  intro b1 hb1
  have hn1 : H b1 = none := SubH.none SU hb1
  refine AL_norm TN ?_
  refine GC2 ?_
  refine AW_block ?_
  refine AW_loops (α := Nat) [2, 4, 7, 8, 9, 10, 11, 12] (fun i => []) (fun i => H.upd b1 (some (.raw (.stringIter s i)))) (fun i => (runesR s i).all charOK = (runesOf s).all charOK) (fun i => s.size - i) (0) ?_ ?_ ?_ ?_
  · rfl
  · exact SubH.refl _
  · skip
    exact WK
  · intro i hI
    refine AW_norm TN ?_
    refine GC2 ?_
    refine AL_next rfl LK (fun hc1 => ?_) (fun hc1 => ?_)
    · skip
      refine AL_heap (by first | (simp only [AH.upd_upd]; rfl) | rfl) ?_
      refine AL_norm TN ?_
      refine GO1 ?_
      refine GC3 ?_
      refine AW_cond_true rfl ?_
      refine GC2 ?_
      refine AW_block ?_
      refine GC2 ?_
      refine GO2 ?_
      refine GC4 ?_
      refine GO1 ?_
      refine AL_callp FEn.h XA (chars_May_ok _) ?_
      refine GO1 ?_
      refine GC2 ?_
      refine GI rfl (fun hc2 => ?_) (fun hc2 => ?_)
      ·
        refine GC2 ?_
        refine GO1 ?_
        refine GC4 ?_
        refine loopQ_r ?_
        refine GC2 ?_
        refine retQ_1 (H' := H) (.inr rfl) rfl SU ?_
        refine K_eq ?_ hK
        exact congrArg (fun b => AV.v (.bool b)) (value_no (hI.symm.trans (runes_no charOK (by omega) hc2))).symm
      ·
        refine GC2 ?_
        refine loopQ_n (i + (Utf8.decode s i).2) ?_ ?_ ?_ ?_
        · rw [← runes_all charOK (by omega) (by first | exact hc2 | simpa using hc2)]; exact hI
        · have := decode_pos s i; omega
        · exact SubH.refl _
        · skip
          exact WK
    · skip
      refine AL_norm TN ?_
      refine GO1 ?_
      refine GC3 ?_
      refine AW_cond_false rfl ?_
      refine GC2 ?_
      refine loopQ_x ?_
      refine GC4 ?_
      refine GO4 ?_
      refine AL_and (j := 3) (n := 2) (c := 16) (t := 18) (r := 19) (v := ?v3) [17, 18] rfl rfl rfl rfl rfl rfl rfl (fun hg3 => ?_) ?_; rotate_left
      · refine GS ?_
        (try simp only [Bool.or_eq_true, Bool.and_eq_true, Bool.or_eq_false_iff, Bool.and_eq_false_iff, decide_eq_true_eq, decide_eq_false_iff_not, Bool.not_eq_true', Bool.not_eq_false', beq_iff_eq, ne_eq, Decidable.not_not, List.length_map] at hg3)
        refine GO1 ?_
        refine AL_callpi FEn.h XA HS (valid_ok s (by omega)) ?_
        refine AL_nil (grpQ_mk ?_)
        exact WK
      refine AL_norm TN ?_
      refine GO1 ?_
      refine GC3 ?_
      refine retQ_1 (H' := H) (.inr rfl) rfl SU ?_
      refine K_eq ?_ hK
      rw [runesR_end hc1] at hI; exact congrArg (fun b => AV.v (.bool b)) ((value_mk hI.symm).trans (by first | (exact congrArg (· && _) (decide_eq_decide.2 (by omega))) | rfl | simp)).symm

/-- quillwork/attrs.Target -/
theorem attrs_Target_ok (s : ByteArray) (hs : s.size ≤ 200000) :
    PI TQ Tryz.prog 158 [strAV s] (.v (.bool (targetOK s))) := by
  intro H K hT hK
  refine AC_of Tryz.func158 rfl (rs := [.tmp 2]) rfl Tryz.ntmps158 rfl ?_
  refine AW_norm TP ?_
  refine GC2 ?_
  refine GO1 ?_
  refine GC4 ?_
  refine GO1 ?_
  refine AL_callpi FEn.h XA HS (cut_ok s (by omega)) ?_
  refine GO7 ?_
  refine GC4 ?_
  refine GO1 ?_
  refine AL_callpi FEn.h XA HS (map_attrs _ (by have := headS_size s; omega)) ?_
  refine AL_norm TN ?_
  refine GO2 ?_
  refine GC4 ?_
  refine GO1 ?_
  refine AL_callpi FEn.h XA HS (attrs_Value_ok s (by omega)) ?_
  refine AL_norm TN ?_
  refine GO1 ?_
  refine AL_and (j := 2) (n := 2) (c := 18) (t := 20) (r := 21) (v := ?v1) [19, 20] rfl rfl rfl rfl rfl rfl rfl (fun hg1 => ?_) ?_; rotate_left
  · refine GS ?_
    (try simp only [Bool.or_eq_true, Bool.and_eq_true, Bool.or_eq_false_iff, Bool.and_eq_false_iff, decide_eq_true_eq, decide_eq_false_iff_not, Bool.not_eq_true', Bool.not_eq_false', beq_iff_eq, ne_eq, Decidable.not_not, List.length_map] at hg1)
    refine GO2 ?_
    refine AL_nil (grpQ_mk ?_)
    exact WK
  refine AL_norm TN ?_
  refine GO1 ?_
  refine AL_and (j := 6) (n := 3) (c := 22) (t := 25) (r := 26) (v := ?v2) [23, 24, 25] rfl rfl rfl rfl rfl rfl rfl (fun hg2 => ?_) ?_; rotate_left
  · refine GS ?_
    (try simp only [Bool.or_eq_true, Bool.and_eq_true, Bool.or_eq_false_iff, Bool.and_eq_false_iff, decide_eq_true_eq, decide_eq_false_iff_not, Bool.not_eq_true', Bool.not_eq_false', beq_iff_eq, ne_eq, Decidable.not_not, List.length_map] at hg2)
    refine GO1 ?_
    first | refine AL_index_strn FUn.h rfl rfl ?_ ?_ ?_ | refine AL_index_strb FUn.h rfl rfl ?_ ?_ ?_
    · omega
    · have h := size_pos hg2.2; omega
    refine GO1 ?_
    refine AL_nil (grpQ_mk ?_)
    exact WK
  refine AL_norm TN ?_
  refine GO1 ?_
  refine AL_and (j := 11) (n := 6) (c := 27) (t := 33) (r := 34) (v := ?v3) [28, 29, 30, 31, 32, 33] rfl rfl rfl rfl rfl rfl rfl (fun hg3 => ?_) ?_; rotate_left
  · refine GS ?_
    (try simp only [Bool.or_eq_true, Bool.and_eq_true, Bool.or_eq_false_iff, Bool.and_eq_false_iff, decide_eq_true_eq, decide_eq_false_iff_not, Bool.not_eq_true', Bool.not_eq_false', beq_iff_eq, ne_eq, Decidable.not_not, List.length_map] at hg3)
    refine GO3 ?_
    refine AL_subz rfl rfl (((s.size - 1 : Nat) : Int)) (by exact sub64 (size_pos hg3.1.2) (by omega)) ?_
    refine AL_norm TN ?_
    first | refine AL_index_strn FUn.h rfl rfl ?_ ?_ ?_ | refine AL_index_strb FUn.h rfl rfl ?_ ?_ ?_
    · omega
    · have h := size_pos hg3.1.2; omega
    refine GO1 ?_
    refine AL_nil (grpQ_mk ?_)
    exact WK
  refine AL_norm TN ?_
  refine GO1 ?_
  refine AL_and (j := 19) (n := 2) (c := 35) (t := 37) (r := 38) (v := ?v4) [36, 37] rfl rfl rfl rfl rfl rfl rfl (fun hg4 => ?_) ?_; rotate_left
  · refine GS ?_
    (try simp only [Bool.or_eq_true, Bool.and_eq_true, Bool.or_eq_false_iff, Bool.and_eq_false_iff, decide_eq_true_eq, decide_eq_false_iff_not, Bool.not_eq_true', Bool.not_eq_false', beq_iff_eq, ne_eq, Decidable.not_not, List.length_map] at hg4)
    refine GO2 ?_
    refine AL_nil (grpQ_mk ?_)
    exact WK
  refine AL_norm TN ?_
  refine GO1 ?_
  refine GC3 ?_
  refine retQ_1 (H' := H) (.inr rfl) rfl SU ?_
  refine K_eq ?_ hK
  exact congrArg (fun b => AV.v (.bool b)) (target_mk s)

/-- quillwork/cells.link -/
theorem cells_link_ok (h : ByteArray) (hs : h.size ≤ 200000) :
    PI TQ Tryz.prog 270 [strAV h] (.v (.bool (linkOK h))) := by
  intro H K hT hK
  refine AC_of Tryz.func270 rfl (rs := [.tmp 2]) rfl Tryz.ntmps270 rfl ?_
  refine AW_norm TP ?_
  refine GC2 ?_
  refine GO1 ?_
  refine GC4 ?_
  refine GO3 ?_
  refine AL_or (j := 2) (n := 2) (c := 5) (t := 7) (r := 8) (v := ?v1) [6, 7] rfl rfl rfl rfl rfl rfl rfl (fun hg1 => ?_) ?_; rotate_left
  · refine GS ?_
    (try simp only [Bool.or_eq_true, Bool.and_eq_true, Bool.or_eq_false_iff, Bool.and_eq_false_iff, decide_eq_true_eq, decide_eq_false_iff_not, Bool.not_eq_true', Bool.not_eq_false', beq_iff_eq, ne_eq, Decidable.not_not, List.length_map] at hg1)
    refine GO1 ?_
    refine AL_callpi FEn.h XA HS (attrs_Target_ok h hs) ?_
    refine AL_nil (grpQ_mk ?_)
    exact WK
  refine AL_norm TN ?_
  refine GO1 ?_
  refine GC3 ?_
  refine retQ_1 (H' := H) (.inr rfl) rfl SU ?_
  refine K_eq ?_ hK
  rfl

/-- quillwork/cells.May$1 -/
theorem cells_May_1_ok (c : Cell) (hs : c.href.size ≤ 200000) :
    PI TQ Tryz.prog 268 [cellAV c] (.v (.bool (offC c))) := by
  intro H K hT hK
  refine AC_of Tryz.func268 rfl (rs := [.tmp 2]) rfl Tryz.ntmps268 rfl ?_
  refine AW_norm TP ?_
  refine GC2 ?_
  refine AL_box rfl rfl FSz.h rfl ?_
  intro b1 hb1
  have hn1 : H b1 = none := SubH.none SU hb1
  refine GO1 ?_
  refine GC4 ?_
  refine GO2 ?_
  refine AL_callp FEn.h XA (chars_May_ok _) ?_
  refine GO2 ?_
  refine AL_and (j := 4) (n := 3) (c := 7) (t := 10) (r := 11) (v := ?v1) [8, 9, 10] rfl rfl rfl rfl rfl rfl rfl (fun hg1 => ?_) ?_; rotate_left
  · refine GS ?_
    (try simp only [Bool.or_eq_true, Bool.and_eq_true, Bool.or_eq_false_iff, Bool.and_eq_false_iff, decide_eq_true_eq, decide_eq_false_iff_not, Bool.not_eq_true', Bool.not_eq_false', beq_iff_eq, ne_eq, Decidable.not_not, List.length_map] at hg1)
    refine GO3 ?_
    refine AL_nil (grpQ_mk ?_)
    exact WK
  refine AL_norm TN ?_
  refine GO1 ?_
  refine AL_or (j := 9) (n := 3) (c := 12) (t := 15) (r := 16) (v := ?v2) [13, 14, 15] rfl rfl rfl rfl rfl rfl rfl (fun hg2 => ?_) ?_; rotate_left
  · refine GS ?_
    (try simp only [Bool.or_eq_true, Bool.and_eq_true, Bool.or_eq_false_iff, Bool.and_eq_false_iff, decide_eq_true_eq, decide_eq_false_iff_not, Bool.not_eq_true', Bool.not_eq_false', beq_iff_eq, ne_eq, Decidable.not_not, List.length_map] at hg2)
    refine GO3 ?_
    refine AL_nil (grpQ_mk ?_)
    exact WK
  refine AL_norm TN ?_
  refine GO1 ?_
  refine AL_or (j := 14) (n := 3) (c := 17) (t := 20) (r := 21) (v := ?v3) [18, 19, 20] rfl rfl rfl rfl rfl rfl rfl (fun hg3 => ?_) ?_; rotate_left
  · refine GS ?_
    (try simp only [Bool.or_eq_true, Bool.and_eq_true, Bool.or_eq_false_iff, Bool.and_eq_false_iff, decide_eq_true_eq, decide_eq_false_iff_not, Bool.not_eq_true', Bool.not_eq_false', beq_iff_eq, ne_eq, Decidable.not_not, List.length_map] at hg3)
    refine GO3 ?_
    refine AL_nil (grpQ_mk ?_)
    exact WK
  refine AL_norm TN ?_
  refine GO1 ?_
  refine AL_or (j := 19) (n := 4) (c := 22) (t := 26) (r := 27) (v := ?v4) [23, 24, 25, 26] rfl rfl rfl rfl rfl rfl rfl (fun hg4 => ?_) ?_; rotate_left
  · refine GS ?_
    (try simp only [Bool.or_eq_true, Bool.and_eq_true, Bool.or_eq_false_iff, Bool.and_eq_false_iff, decide_eq_true_eq, decide_eq_false_iff_not, Bool.not_eq_true', Bool.not_eq_false', beq_iff_eq, ne_eq, Decidable.not_not, List.length_map] at hg4)
    refine GO2 ?_
    refine AL_callpi FEn.h XA HS (cells_link_ok c.href hs) ?_
    refine GO1 ?_
    refine AL_nil (grpQ_mk ?_)
    exact WK
  refine AL_norm TN ?_
  refine GO1 ?_
  refine GC3 ?_
  refine retQ_1 (H' := H) (.inr rfl) rfl SU ?_
  refine K_eq ?_ hK
  exact congrArg (fun b => AV.v (.bool b)) (offC_mk c)

/-- quillwork/cells.May -/
theorem cells_May_ok (l : List Cell) (hs : CS l) :
    PI TQ Tryz.prog 210 [cellsAV l] (.v (.bool (l.all cellOK))) := by
  intro H K hT hK
  refine AC_of Tryz.func210 rfl (rs := [.tmp 2]) rfl Tryz.ntmps210 rfl ?_
  refine AW_norm TP ?_
  refine GC2 ?_
  refine GO1 ?_
  refine GC4 ?_
  refine GO1 ?_
  refine AL_callpi FEn.h XA HS (slices_ContainsFunc_api_Cell_api_Cell_ok TQ offC l 268 [] (by have := hs.1; omega) FEn.h (fun c hc => cells_May_1_ok c (hs.2 c hc))) ?_
  refine GO2 ?_
  refine GC3 ?_
  refine retQ_1 (H' := H) (.inr rfl) rfl SU ?_
  refine K_eq ?_ hK
  exact congrArg (fun b => AV.v (.bool b)) (any_offC l)

/-- quillwork/lines.May$1 -/
theorem lines_May_1_ok (k : Int) :
    PF Tryz.prog 209 [.v (.int .i64 k)] (.v (.bool (offK k))) := by
  intro H K hK
  refine AC_of Tryz.func209 rfl (rs := [.tmp 2]) rfl Tryz.ntmps209 rfl ?_
  refine AW_norm TP ?_
  refine GC2 ?_
  refine GO1 ?_
  refine GC4 ?_
  refine GO3 ?_
  refine AL_and (j := 2) (n := 2) (c := 5) (t := 7) (r := 8) (v := ?v1) [6, 7] rfl rfl rfl rfl rfl rfl rfl (fun hg1 => ?_) ?_; rotate_left
  · refine GS ?_
    (try simp only [Bool.or_eq_true, Bool.and_eq_true, Bool.or_eq_false_iff, Bool.and_eq_false_iff, decide_eq_true_eq, decide_eq_false_iff_not, Bool.not_eq_true', Bool.not_eq_false', beq_iff_eq, ne_eq, Decidable.not_not, List.length_map] at hg1)
    refine GO2 ?_
    refine AL_nil (grpQ_mk ?_)
    exact WK
  refine AL_norm TN ?_
  refine GO1 ?_
  refine GC3 ?_
  refine retQ_1 (H' := H) (.inr rfl) rfl SU ?_
  refine K_eq ?_ hK
  exact congrArg (fun b => AV.v (.bool b)) (offK_mk k)

/-- quillwork/lines.May -/
theorem lines_May_ok (l : Line) (hs : LS l) :
    PI TQ Tryz.prog 131 [lineAV l] (.v (.bool (lineOK l))) := by
  intro H K hT hK
  refine AC_of Tryz.func131 rfl (rs := [.tmp 2]) rfl Tryz.ntmps131 rfl ?_
  refine AW_norm TP ?_
  refine GC2 ?_
  refine AL_box rfl rfl FSz.h rfl ?_
  intro b1 hb1
  have hn1 : H b1 = none := SubH.none SU hb1
  refine GO1 ?_
  refine GC3 ?_
  refine AW_block ?_
  refine GC2 ?_
  refine GO4 ?_
  refine AL_or (j := 3) (n := 3) (c := 7) (t := 10) (r := 11) (v := ?v1) [8, 9, 10] rfl rfl rfl rfl rfl rfl rfl (fun hg1 => ?_) ?_; rotate_left
  · refine GS ?_
    (try simp only [Bool.or_eq_true, Bool.and_eq_true, Bool.or_eq_false_iff, Bool.and_eq_false_iff, decide_eq_true_eq, decide_eq_false_iff_not, Bool.not_eq_true', Bool.not_eq_false', beq_iff_eq, ne_eq, Decidable.not_not, List.length_map] at hg1)
    refine GO3 ?_
    refine AL_nil (grpQ_mk ?_)
    exact WK
  refine AL_norm TN ?_
  refine GO1 ?_
  refine AL_or (j := 8) (n := 4) (c := 12) (t := 16) (r := 17) (v := ?v2) [13, 14, 15, 16] rfl rfl rfl rfl rfl rfl rfl (fun hg2 => ?_) ?_; rotate_left
  · refine GS ?_
    (try simp only [Bool.or_eq_true, Bool.and_eq_true, Bool.or_eq_false_iff, Bool.and_eq_false_iff, decide_eq_true_eq, decide_eq_false_iff_not, Bool.not_eq_true', Bool.not_eq_false', beq_iff_eq, ne_eq, Decidable.not_not, List.length_map] at hg2)
    refine GO4 ?_
    refine AL_nil (grpQ_mk ?_)
    exact WK
  refine AL_norm TN ?_
  refine GO1 ?_
  refine AL_or (j := 14) (n := 3) (c := 18) (t := 21) (r := 22) (v := ?v3) [19, 20, 21] rfl rfl rfl rfl rfl rfl rfl (fun hg3 => ?_) ?_; rotate_left
  · refine GS ?_
    (try simp only [Bool.or_eq_true, Bool.and_eq_true, Bool.or_eq_false_iff, Bool.and_eq_false_iff, decide_eq_true_eq, decide_eq_false_iff_not, Bool.not_eq_true', Bool.not_eq_false', beq_iff_eq, ne_eq, Decidable.not_not, List.length_map] at hg3)
    refine GO3 ?_
    refine AL_nil (grpQ_mk ?_)
    exact WK
  refine AL_norm TN ?_
  refine GO1 ?_
  refine AL_or (j := 19) (n := 3) (c := 23) (t := 26) (r := 27) (v := ?v4) [24, 25, 26] rfl rfl rfl rfl rfl rfl rfl (fun hg4 => ?_) ?_; rotate_left
  · refine GS ?_
    (try simp only [Bool.or_eq_true, Bool.and_eq_true, Bool.or_eq_false_iff, Bool.and_eq_false_iff, decide_eq_true_eq, decide_eq_false_iff_not, Bool.not_eq_true', Bool.not_eq_false', beq_iff_eq, ne_eq, Decidable.not_not, List.length_map] at hg4)
    refine GO3 ?_
    refine AL_nil (grpQ_mk ?_)
    exact WK
  refine AL_norm TN ?_
  refine GO1 ?_
  refine GC2 ?_
  refine GI rfl (fun hc5 => ?_) (fun hc5 => ?_)
  ·
    refine GC2 ?_
    refine GO1 ?_
    refine GC5 ?_
    refine retQ_1 (H' := H) (.inr rfl) rfl SU ?_
    refine K_eq ?_ hK
    exact congrArg (fun b => AV.v (.bool b)) ((lineOK_no1 (by omega)).symm)
  ·
    refine GC2 ?_
    refine GO5 ?_
    refine AL_and (j := 4) (n := 3) (c := 33) (t := 36) (r := 37) (v := ?v6) [34, 35, 36] rfl rfl rfl rfl rfl rfl rfl (fun hg6 => ?_) ?_; rotate_left
    · refine GS ?_
      (try simp only [Bool.or_eq_true, Bool.and_eq_true, Bool.or_eq_false_iff, Bool.and_eq_false_iff, decide_eq_true_eq, decide_eq_false_iff_not, Bool.not_eq_true', Bool.not_eq_false', beq_iff_eq, ne_eq, Decidable.not_not, List.length_map] at hg6)
      refine GO3 ?_
      refine AL_nil (grpQ_mk ?_)
      exact WK
    refine AL_norm TN ?_
    refine GO1 ?_
    refine GC2 ?_
    refine GI rfl (fun hc7 => ?_) (fun hc7 => ?_)
    ·
      refine GC2 ?_
      refine GO1 ?_
      refine GC5 ?_
      refine retQ_1 (H' := H) (.inr rfl) rfl SU ?_
      refine K_eq ?_ hK
      exact congrArg (fun b => AV.v (.bool b)) ((lineOK_no2 (by omega) (by omega)).symm)
    ·
      refine GC5 ?_
      refine GO2 ?_
      refine AL_callpi FEn.h XA HS (slices_ContainsFunc_int_int_ok TQ offK l.lists 209 [] (by have := hs.1; omega) FEn.h (fun c hc => PF.pi (lines_May_1_ok c))) ?_
      refine GO2 ?_
      refine AL_and (j := 4) (n := 3) (c := 42) (t := 45) (r := 46) (v := ?v8) [43, 44, 45] rfl rfl rfl rfl rfl rfl rfl (fun hg8 => ?_) ?_; rotate_left
      · refine GS ?_
        (try simp only [Bool.or_eq_true, Bool.and_eq_true, Bool.or_eq_false_iff, Bool.and_eq_false_iff, decide_eq_true_eq, decide_eq_false_iff_not, Bool.not_eq_true', Bool.not_eq_false', beq_iff_eq, ne_eq, Decidable.not_not, List.length_map] at hg8)
        refine GO2 ?_
        refine AL_callpi FEn.h XA HS (cells_May_ok l.cells hs.2) ?_
        refine AL_nil (grpQ_mk ?_)
        exact WK
      refine AL_norm TN ?_
      refine GO1 ?_
      refine GC3 ?_
      refine retQ_1 (H' := H) (.inr rfl) rfl SU ?_
      refine K_eq ?_ hK
      exact congrArg (fun b => AV.v (.bool b)) (lineOK_yes (by omega) (by omega))

/-- quillwork/doc.Size -/
theorem doc_Size_ok (d : List Line) (hd : DS d) :
    PF Tryz.prog 128 [linesAV d] (.v (.int .i64 (sizeD d : Int))) := by
  intro H K hK
  refine AC_of Tryz.func128 rfl (rs := [.tmp 2]) rfl Tryz.ntmps128 rfl ?_
  refine AW_norm TP ?_
  refine GC2 ?_
  refine GO1 ?_
  refine GC4 ?_
  refine GO1 ?_
  refine GC5 ?_
  refine GO3 ?_
  refine GC2 ?_
  refine AW_block ?_
  refine AW_loops (α := Nat) [3, 5, 8, 9, 10, 11, 12, 13, 14, 15, 16, 17] (fun i => [(8, .v (.int .i64 (i : Int))), (3, .v (.int .i64 (sizeD (d.take i) : Int)))]) (fun i => H) (fun i => i ≤ d.length) (fun i => d.length - i) (0) ?_ ?_ ?_ ?_
  · exact Nat.zero_le _
  · repeat (first | exact SubH.refl _ | assumption | refine SubH.new ?_ (by assumption))
  · skip
    exact WK
  · intro i hI; have hdl := hd.1
    refine AW_norm TN ?_
    refine GC2 ?_
    refine GO1 ?_
    refine GC3 ?_
    refine GI rfl (fun hc1 => ?_) (fun hc1 => ?_)
    ·
      refine GC3 ?_
      refine AW_block ?_
      refine GC2 ?_
      first | refine AL_indexAddr_sl (y := lineAV (d.getD i l0)) FUn.h FSz.h (by decide) rfl rfl ?_ ?_ ?_ ?_ | refine AL_indexAddr_own FUn.h FSz.h rfl rfl ?_ ?_ ?_
      · omega
      · simp only [List.length_map]; omega
      · exact map_getD l0 (i := i) (by omega)
      refine GO1 ?_
      refine AL_alloc FZe.h (.agg (.v (.own (.v (.own .nil))))) rfl FSz.h rfl ?_
      intro b1 hb1
      have hn1 : H b1 = none := SubH.none SU hb1
      refine GW ?_
      refine AL_norm TN ?_
      refine GC3 ?_
      refine GO4 ?_
      refine AL_addz rfl rfl ((sizeD (d.take (i + 1)) : Int)) (by rw [sizeD_next d (by omega)]; have h1 := hd.size i; have h2 := (hd.at (i := i) (by omega)).2.1; rw [List.length_map]; exact i64_in (by omega)) ?_
      refine GO1 ?_
      refine GC4 ?_
      refine AL_addz rfl rfl (((i + 1 : Nat) : Int)) (by exact inc64 (by omega)) ?_
      refine AL_norm TN ?_
      refine GO1 ?_
      refine GC1 ?_
      refine loopQ_n (i + 1) ?_ ?_ ?_ ?_
      · exact (by omega)
      · omega
      · repeat (first | exact SubH.refl _ | assumption | refine SubH.new ?_ (by assumption))
      · skip
        exact WK
    ·
      refine GC2 ?_
      refine loopQ_x ?_
      refine GC4 ?_
      refine GO2 ?_
      refine GC3 ?_
      refine retQ_1 (H' := H) (.inr rfl) rfl SU ?_
      refine K_eq ?_ hK
      rw [sizeD_all (by omega)]

/-- quillwork/doc.Is -/
theorem doc_Is_ok (d : List Line) (p : Pos) :
    PF Tryz.prog 64 [linesAV d, posAV p] (.v (.bool (isPos d p))) := by
  intro H K hK
  refine AC_of Tryz.func64 rfl (rs := [.tmp 4]) rfl Tryz.ntmps64 rfl ?_
  refine AW_norm TP ?_
  refine GC2 ?_
  refine AL_box rfl rfl FSz.h rfl ?_
  intro b1 hb1
  have hn1 : H b1 = none := SubH.none SU hb1
  refine GO1 ?_
  refine GC3 ?_
  have hcs : ¬ (0 ≤ p.line) ∨ ((0 ≤ p.line) ∧ ¬ (p.line < (d.length : Int))) ∨ ((0 ≤ p.line) ∧ (p.line < (d.length : Int)) ∧ ¬ (0 ≤ p.col)) ∨ ((0 ≤ p.line) ∧ (p.line < (d.length : Int)) ∧ (0 ≤ p.col)) := by omega
  rcases hcs with h1 | ⟨h1, h2⟩ | ⟨h1, h2, h3⟩ | ⟨h1, h2, h3⟩
  ·
    refine' AW_drawl (xs := [_, _, _, _, _, _, _, _, _, _, _, _, _, _, _, _, _, _, _, _, _, _, _, _, _, _, _, _]) (by kernel_rfl) ?hops1 ?_
    case hops1 =>
      refine Hops_cons (fun T hl hr => ?_) ?_
      · skip
        first | refine AL_fieldAddr_pt FFl.h FSz.h (by decide) ((hr 3 (by kernel_rfl)).trans rfl) ?_ | refine AL_fieldAddr_rp FFl.h FAg.h FSz.h (by decide) (by decide) ((hr 3 (by kernel_rfl)).trans rfl) rfl (fun h => by first | rfl | cases h) ?_
        refine AL_nil ?_
        refine qpost_mk ?_
        exact Weak.refl _
      refine Hops_norm (by first | (simp only [tput, List.set_cons_zero, List.set_cons_succ, h1, decide_false]; rfl) | rfl) ?_
      refine Hops_cons (fun T hl hr => ?_) ?_
      · skip
        first | refine AL_load_rp FSz.h ((hr 5 (by kernel_rfl)).trans rfl) FAg.h ?_ | refine AL_loadw FSz.h ((hr 5 (by kernel_rfl)).trans rfl) LK (by exact FAg.h) rfl ?_ | refine AL_load_pt FAg.h FSz.h (by decide) ((hr 5 (by kernel_rfl)).trans rfl) LK FSz.h (by exact rfl) (by exact rfl) (by exact rfl) ?_
        refine AL_nil ?_
        refine qpost_mk ?_
        exact Weak.refl _
      refine Hops_norm (by first | (simp only [tput, List.set_cons_zero, List.set_cons_succ, h1, decide_false]; rfl) | rfl) ?_
      refine Hops_cons (fun T hl hr => ?_) ?_
      · skip
        refine AL_geq ((hr 6 (by kernel_rfl)).trans rfl) rfl ?_
        refine AL_nil ?_
        refine qpost_mk ?_
        exact Weak.refl _
      refine Hops_norm (by first | (simp only [tput, List.set_cons_zero, List.set_cons_succ, h1, decide_false]; rfl) | rfl) ?_
      refine Hops_cons (fun T hl hr => ?_) ?_
      · skip
        refine AL_move ((hr 7 (by kernel_rfl)).trans rfl) ?_
        refine AL_nil ?_
        refine qpost_mk ?_
        exact Weak.refl _
      refine Hops_norm (by first | (simp only [tput, List.set_cons_zero, List.set_cons_succ, h1, decide_false]; rfl) | rfl) ?_
      refine Hops_cons (fun T hl hr => ?_) ?_
      · skip
        refine AL_leave rfl ((hr 8 rfl).trans rfl) (by decide) ?_
        refine AL_nil ?_
        refine qpost_mk ?_
        exact Weak.refl _
      refine Hops_norm (by first | (simp only [tput, List.set_cons_zero, List.set_cons_succ, h1, decide_false]; rfl) | rfl) ?_
      refine Hops_cons (fun T hl hr => ?_) ?_
      · skip
        refine AL_leave rfl ((hr 8 rfl).trans rfl) (by decide) ?_
        refine AL_nil ?_
        refine qpost_mk ?_
        exact Weak.refl _
      refine Hops_norm (by first | (simp only [tput, List.set_cons_zero, List.set_cons_succ, h1, decide_false]; rfl) | rfl) ?_
      refine Hops_cons (fun T hl hr => ?_) ?_
      · skip
        refine AL_leave rfl ((hr 8 rfl).trans rfl) (by decide) ?_
        refine AL_nil ?_
        refine qpost_mk ?_
        exact Weak.refl _
      refine Hops_norm (by first | (simp only [tput, List.set_cons_zero, List.set_cons_succ, h1, decide_false]; rfl) | rfl) ?_
      refine Hops_cons (fun T hl hr => ?_) ?_
      · skip
        refine AL_leave rfl ((hr 8 rfl).trans rfl) (by decide) ?_
        refine AL_nil ?_
        refine qpost_mk ?_
        exact Weak.refl _
      refine Hops_norm (by first | (simp only [tput, List.set_cons_zero, List.set_cons_succ, h1, decide_false]; rfl) | rfl) ?_
      refine Hops_cons (fun T hl hr => ?_) ?_
      · skip
        refine AL_leave rfl ((hr 8 rfl).trans rfl) (by decide) ?_
        refine AL_nil ?_
        refine qpost_mk ?_
        exact Weak.refl _
      refine Hops_norm (by first | (simp only [tput, List.set_cons_zero, List.set_cons_succ, h1, decide_false]; rfl) | rfl) ?_
      refine Hops_cons (fun T hl hr => ?_) ?_
      · skip
        first | refine AL_pick_t ((hr 8 (by kernel_rfl)).trans rfl) ((hr 13 (by kernel_rfl)).trans rfl) ?_ | refine AL_pick_f ((hr 8 (by kernel_rfl)).trans rfl) rfl ?_
        refine AL_nil ?_
        refine qpost_mk ?_
        exact Weak.refl _
      refine Hops_norm (by first | (simp only [tput, List.set_cons_zero, List.set_cons_succ, h1, decide_false]; rfl) | rfl) ?_
      refine Hops_cons (fun T hl hr => ?_) ?_
      · skip
        refine AL_move ((hr 14 (by kernel_rfl)).trans rfl) ?_
        refine AL_nil ?_
        refine qpost_mk ?_
        exact Weak.refl _
      refine Hops_norm (by first | (simp only [tput, List.set_cons_zero, List.set_cons_succ, h1, decide_false]; rfl) | rfl) ?_
      refine Hops_cons (fun T hl hr => ?_) ?_
      · skip
        refine AL_leave rfl ((hr 15 rfl).trans rfl) (by decide) ?_
        refine AL_nil ?_
        refine qpost_mk ?_
        exact Weak.refl _
      refine Hops_norm (by first | (simp only [tput, List.set_cons_zero, List.set_cons_succ, h1, decide_false]; rfl) | rfl) ?_
      refine Hops_cons (fun T hl hr => ?_) ?_
      · skip
        refine AL_leave rfl ((hr 15 rfl).trans rfl) (by decide) ?_
        refine AL_nil ?_
        refine qpost_mk ?_
        exact Weak.refl _
      refine Hops_norm (by first | (simp only [tput, List.set_cons_zero, List.set_cons_succ, h1, decide_false]; rfl) | rfl) ?_
      refine Hops_cons (fun T hl hr => ?_) ?_
      · skip
        refine AL_leave rfl ((hr 15 rfl).trans rfl) (by decide) ?_
        refine AL_nil ?_
        refine qpost_mk ?_
        exact Weak.refl _
      refine Hops_norm (by first | (simp only [tput, List.set_cons_zero, List.set_cons_succ, h1, decide_false]; rfl) | rfl) ?_
      refine Hops_cons (fun T hl hr => ?_) ?_
      · skip
        first | refine AL_pick_t ((hr 15 (by kernel_rfl)).trans rfl) ((hr 18 (by kernel_rfl)).trans rfl) ?_ | refine AL_pick_f ((hr 15 (by kernel_rfl)).trans rfl) rfl ?_
        refine AL_nil ?_
        refine qpost_mk ?_
        exact Weak.refl _
      refine Hops_norm (by first | (simp only [tput, List.set_cons_zero, List.set_cons_succ, h1, decide_false]; rfl) | rfl) ?_
      refine Hops_cons (fun T hl hr => ?_) ?_
      · skip
        refine AL_move ((hr 19 (by kernel_rfl)).trans rfl) ?_
        refine AL_nil ?_
        refine qpost_mk ?_
        exact Weak.refl _
      refine Hops_norm (by first | (simp only [tput, List.set_cons_zero, List.set_cons_succ, h1, decide_false]; rfl) | rfl) ?_
      refine Hops_cons (fun T hl hr => ?_) ?_
      · skip
        refine AL_leave rfl ((hr 20 rfl).trans rfl) (by decide) ?_
        refine AL_nil ?_
        refine qpost_mk ?_
        exact Weak.refl _
      refine Hops_norm (by first | (simp only [tput, List.set_cons_zero, List.set_cons_succ, h1, decide_false]; rfl) | rfl) ?_
      refine Hops_cons (fun T hl hr => ?_) ?_
      · skip
        refine AL_leave rfl ((hr 20 rfl).trans rfl) (by decide) ?_
        refine AL_nil ?_
        refine qpost_mk ?_
        exact Weak.refl _
      refine Hops_norm (by first | (simp only [tput, List.set_cons_zero, List.set_cons_succ, h1, decide_false]; rfl) | rfl) ?_
      refine Hops_cons (fun T hl hr => ?_) ?_
      · skip
        refine AL_leave rfl ((hr 20 rfl).trans rfl) (by decide) ?_
        refine AL_nil ?_
        refine qpost_mk ?_
        exact Weak.refl _
      refine Hops_norm (by first | (simp only [tput, List.set_cons_zero, List.set_cons_succ, h1, decide_false]; rfl) | rfl) ?_
      refine Hops_cons (fun T hl hr => ?_) ?_
      · skip
        refine AL_leave rfl ((hr 20 rfl).trans rfl) (by decide) ?_
        refine AL_nil ?_
        refine qpost_mk ?_
        exact Weak.refl _
      refine Hops_norm (by first | (simp only [tput, List.set_cons_zero, List.set_cons_succ, h1, decide_false]; rfl) | rfl) ?_
      refine Hops_cons (fun T hl hr => ?_) ?_
      · skip
        refine AL_leave rfl ((hr 20 rfl).trans rfl) (by decide) ?_
        refine AL_nil ?_
        refine qpost_mk ?_
        exact Weak.refl _
      refine Hops_norm (by first | (simp only [tput, List.set_cons_zero, List.set_cons_succ, h1, decide_false]; rfl) | rfl) ?_
      refine Hops_cons (fun T hl hr => ?_) ?_
      · skip
        refine AL_leave rfl ((hr 20 rfl).trans rfl) (by decide) ?_
        refine AL_nil ?_
        refine qpost_mk ?_
        exact Weak.refl _
      refine Hops_norm (by first | (simp only [tput, List.set_cons_zero, List.set_cons_succ, h1, decide_false]; rfl) | rfl) ?_
      refine Hops_cons (fun T hl hr => ?_) ?_
      · skip
        refine AL_leave rfl ((hr 20 rfl).trans rfl) (by decide) ?_
        refine AL_nil ?_
        refine qpost_mk ?_
        exact Weak.refl _
      refine Hops_norm (by first | (simp only [tput, List.set_cons_zero, List.set_cons_succ, h1, decide_false]; rfl) | rfl) ?_
      refine Hops_cons (fun T hl hr => ?_) ?_
      · skip
        refine AL_leave rfl ((hr 20 rfl).trans rfl) (by decide) ?_
        refine AL_nil ?_
        refine qpost_mk ?_
        exact Weak.refl _
      refine Hops_norm (by first | (simp only [tput, List.set_cons_zero, List.set_cons_succ, h1, decide_false]; rfl) | rfl) ?_
      refine Hops_cons (fun T hl hr => ?_) ?_
      · skip
        refine AL_leave rfl ((hr 20 rfl).trans rfl) (by decide) ?_
        refine AL_nil ?_
        refine qpost_mk ?_
        exact Weak.refl _
      refine Hops_norm (by first | (simp only [tput, List.set_cons_zero, List.set_cons_succ, h1, decide_false]; rfl) | rfl) ?_
      refine Hops_cons (fun T hl hr => ?_) ?_
      · skip
        refine AL_leave rfl ((hr 20 rfl).trans rfl) (by decide) ?_
        refine AL_nil ?_
        refine qpost_mk ?_
        exact Weak.refl _
      refine Hops_norm (by first | (simp only [tput, List.set_cons_zero, List.set_cons_succ, h1, decide_false]; rfl) | rfl) ?_
      refine Hops_cons (fun T hl hr => ?_) ?_
      · skip
        first | refine AL_pick_t ((hr 20 (by kernel_rfl)).trans rfl) ((hr 30 (by kernel_rfl)).trans rfl) ?_ | refine AL_pick_f ((hr 20 (by kernel_rfl)).trans rfl) rfl ?_
        refine AL_nil ?_
        refine qpost_mk ?_
        exact Weak.refl _
      refine Hops_norm (by first | (simp only [tput, List.set_cons_zero, List.set_cons_succ, h1, decide_false]; rfl) | rfl) ?_
      refine Hops_cons (fun T hl hr => ?_) ?_
      · skip
        refine AL_assign ((hr 31 (by kernel_rfl)).trans rfl) ?_
        refine AL_nil ?_
        refine qpost_mk ?_
        exact Weak.refl _
      refine Hops_norm (by first | (simp only [tput, List.set_cons_zero, List.set_cons_succ, h1, decide_false]; rfl) | rfl) ?_
      exact Hops_nil
    refine Q_norm (by first | (simp only [Tfin, tput, anyAt, setAll, List.foldl_cons, List.foldl_nil, List.set_cons_zero, List.set_cons_succ, h1, decide_false]; rfl) | rfl) ?_
    refine GC2 ?_
    refine retQ_1 (H' := H) (.inr rfl) rfl SU ?_
    refine K_eq ?_ hK
    exact congrArg (fun b => AV.v (.bool b)) ((isPos_no (by omega)).symm)
  ·
    refine' AW_drawl (xs := [_, _, _, _, _, _, _, _, _, _, _, _, _, _, _, _, _, _, _, _, _, _, _, _, _, _, _, _]) (by kernel_rfl) ?hops2 ?_
    case hops2 =>
      refine Hops_cons (fun T hl hr => ?_) ?_
      · skip
        first | refine AL_fieldAddr_pt FFl.h FSz.h (by decide) ((hr 3 (by kernel_rfl)).trans rfl) ?_ | refine AL_fieldAddr_rp FFl.h FAg.h FSz.h (by decide) (by decide) ((hr 3 (by kernel_rfl)).trans rfl) rfl (fun h => by first | rfl | cases h) ?_
        refine AL_nil ?_
        refine qpost_mk ?_
        exact Weak.refl _
      refine Hops_norm (by first | (simp only [tput, List.set_cons_zero, List.set_cons_succ, h1, h2, decide_true, decide_false, List.length_map]; rfl) | rfl) ?_
      refine Hops_cons (fun T hl hr => ?_) ?_
      · skip
        first | refine AL_load_rp FSz.h ((hr 5 (by kernel_rfl)).trans rfl) FAg.h ?_ | refine AL_loadw FSz.h ((hr 5 (by kernel_rfl)).trans rfl) LK (by exact FAg.h) rfl ?_ | refine AL_load_pt FAg.h FSz.h (by decide) ((hr 5 (by kernel_rfl)).trans rfl) LK FSz.h (by exact rfl) (by exact rfl) (by exact rfl) ?_
        refine AL_nil ?_
        refine qpost_mk ?_
        exact Weak.refl _
      refine Hops_norm (by first | (simp only [tput, List.set_cons_zero, List.set_cons_succ, h1, h2, decide_true, decide_false, List.length_map]; rfl) | rfl) ?_
      refine Hops_cons (fun T hl hr => ?_) ?_
      · skip
        refine AL_geq ((hr 6 (by kernel_rfl)).trans rfl) rfl ?_
        refine AL_nil ?_
        refine qpost_mk ?_
        exact Weak.refl _
      refine Hops_norm (by first | (simp only [tput, List.set_cons_zero, List.set_cons_succ, h1, h2, decide_true, decide_false, List.length_map]; rfl) | rfl) ?_
      refine Hops_cons (fun T hl hr => ?_) ?_
      · skip
        refine AL_move ((hr 7 (by kernel_rfl)).trans rfl) ?_
        refine AL_nil ?_
        refine qpost_mk ?_
        exact Weak.refl _
      refine Hops_norm (by first | (simp only [tput, List.set_cons_zero, List.set_cons_succ, h1, h2, decide_true, decide_false, List.length_map]; rfl) | rfl) ?_
      refine Hops_cons (fun T hl hr => ?_) ?_
      · skip
        refine AL_take rfl ((hr 8 rfl).trans rfl) ?_
        first | refine AL_fieldAddr_pt FFl.h FSz.h (by decide) ((hr 3 (by kernel_rfl)).trans rfl) ?_ | refine AL_fieldAddr_rp FFl.h FAg.h FSz.h (by decide) (by decide) ((hr 3 (by kernel_rfl)).trans rfl) rfl (fun h => by first | rfl | cases h) ?_
        refine AL_nil ?_
        refine qpost_mk ?_
        exact Weak.refl _
      refine Hops_norm (by first | (simp only [tput, List.set_cons_zero, List.set_cons_succ, h1, h2, decide_true, decide_false, List.length_map]; rfl) | rfl) ?_
      refine Hops_cons (fun T hl hr => ?_) ?_
      · skip
        refine AL_take rfl ((hr 8 rfl).trans rfl) ?_
        first | refine AL_load_rp FSz.h ((hr 9 (by kernel_rfl)).trans rfl) FAg.h ?_ | refine AL_loadw FSz.h ((hr 9 (by kernel_rfl)).trans rfl) LK (by exact FAg.h) rfl ?_ | refine AL_load_pt FAg.h FSz.h (by decide) ((hr 9 (by kernel_rfl)).trans rfl) LK FSz.h (by exact rfl) (by exact rfl) (by exact rfl) ?_
        refine AL_nil ?_
        refine qpost_mk ?_
        exact Weak.refl _
      refine Hops_norm (by first | (simp only [tput, List.set_cons_zero, List.set_cons_succ, h1, h2, decide_true, decide_false, List.length_map]; rfl) | rfl) ?_
      refine Hops_cons (fun T hl hr => ?_) ?_
      · skip
        refine AL_take rfl ((hr 8 rfl).trans rfl) ?_
        refine AL_move ((hr 0 (by kernel_rfl)).trans rfl) ?_
        refine AL_nil ?_
        refine qpost_mk ?_
        exact Weak.refl _
      refine Hops_norm (by first | (simp only [tput, List.set_cons_zero, List.set_cons_succ, h1, h2, decide_true, decide_false, List.length_map]; rfl) | rfl) ?_
      refine Hops_cons (fun T hl hr => ?_) ?_
      · skip
        refine AL_take rfl ((hr 8 rfl).trans rfl) ?_
        first | refine AL_len_sl FUn.h ((hr 11 (by kernel_rfl)).trans rfl) ?_ | refine AL_len_own FUn.h ((hr 11 (by kernel_rfl)).trans rfl) ?_
        refine AL_nil ?_
        refine qpost_mk ?_
        exact Weak.refl _
      refine Hops_norm (by first | (simp only [tput, List.set_cons_zero, List.set_cons_succ, h1, h2, decide_true, decide_false, List.length_map]; rfl) | rfl) ?_
      refine Hops_cons (fun T hl hr => ?_) ?_
      · skip
        refine AL_take rfl ((hr 8 rfl).trans rfl) ?_
        refine AL_lss ((hr 10 (by kernel_rfl)).trans rfl) ((hr 12 (by kernel_rfl)).trans rfl) ?_
        refine AL_nil ?_
        refine qpost_mk ?_
        exact Weak.refl _
      refine Hops_norm (by first | (simp only [tput, List.set_cons_zero, List.set_cons_succ, h1, h2, decide_true, decide_false, List.length_map]; rfl) | rfl) ?_
      refine Hops_cons (fun T hl hr => ?_) ?_
      · skip
        first | refine AL_pick_t ((hr 8 (by kernel_rfl)).trans rfl) ((hr 13 (by kernel_rfl)).trans rfl) ?_ | refine AL_pick_f ((hr 8 (by kernel_rfl)).trans rfl) rfl ?_
        refine AL_nil ?_
        refine qpost_mk ?_
        exact Weak.refl _
      refine Hops_norm (by first | (simp only [tput, List.set_cons_zero, List.set_cons_succ, h1, h2, decide_true, decide_false, List.length_map]; rfl) | rfl) ?_
      refine Hops_cons (fun T hl hr => ?_) ?_
      · skip
        refine AL_move ((hr 14 (by kernel_rfl)).trans rfl) ?_
        refine AL_nil ?_
        refine qpost_mk ?_
        exact Weak.refl _
      refine Hops_norm (by first | (simp only [tput, List.set_cons_zero, List.set_cons_succ, h1, h2, decide_true, decide_false, List.length_map]; rfl) | rfl) ?_
      refine Hops_cons (fun T hl hr => ?_) ?_
      · skip
        refine AL_leave rfl ((hr 15 rfl).trans rfl) (by decide) ?_
        refine AL_nil ?_
        refine qpost_mk ?_
        exact Weak.refl _
      refine Hops_norm (by first | (simp only [tput, List.set_cons_zero, List.set_cons_succ, h1, h2, decide_true, decide_false, List.length_map]; rfl) | rfl) ?_
      refine Hops_cons (fun T hl hr => ?_) ?_
      · skip
        refine AL_leave rfl ((hr 15 rfl).trans rfl) (by decide) ?_
        refine AL_nil ?_
        refine qpost_mk ?_
        exact Weak.refl _
      refine Hops_norm (by first | (simp only [tput, List.set_cons_zero, List.set_cons_succ, h1, h2, decide_true, decide_false, List.length_map]; rfl) | rfl) ?_
      refine Hops_cons (fun T hl hr => ?_) ?_
      · skip
        refine AL_leave rfl ((hr 15 rfl).trans rfl) (by decide) ?_
        refine AL_nil ?_
        refine qpost_mk ?_
        exact Weak.refl _
      refine Hops_norm (by first | (simp only [tput, List.set_cons_zero, List.set_cons_succ, h1, h2, decide_true, decide_false, List.length_map]; rfl) | rfl) ?_
      refine Hops_cons (fun T hl hr => ?_) ?_
      · skip
        first | refine AL_pick_t ((hr 15 (by kernel_rfl)).trans rfl) ((hr 18 (by kernel_rfl)).trans rfl) ?_ | refine AL_pick_f ((hr 15 (by kernel_rfl)).trans rfl) rfl ?_
        refine AL_nil ?_
        refine qpost_mk ?_
        exact Weak.refl _
      refine Hops_norm (by first | (simp only [tput, List.set_cons_zero, List.set_cons_succ, h1, h2, decide_true, decide_false, List.length_map]; rfl) | rfl) ?_
      refine Hops_cons (fun T hl hr => ?_) ?_
      · skip
        refine AL_move ((hr 19 (by kernel_rfl)).trans rfl) ?_
        refine AL_nil ?_
        refine qpost_mk ?_
        exact Weak.refl _
      refine Hops_norm (by first | (simp only [tput, List.set_cons_zero, List.set_cons_succ, h1, h2, decide_true, decide_false, List.length_map]; rfl) | rfl) ?_
      refine Hops_cons (fun T hl hr => ?_) ?_
      · skip
        refine AL_leave rfl ((hr 20 rfl).trans rfl) (by decide) ?_
        refine AL_nil ?_
        refine qpost_mk ?_
        exact Weak.refl _
      refine Hops_norm (by first | (simp only [tput, List.set_cons_zero, List.set_cons_succ, h1, h2, decide_true, decide_false, List.length_map]; rfl) | rfl) ?_
      refine Hops_cons (fun T hl hr => ?_) ?_
      · skip
        refine AL_leave rfl ((hr 20 rfl).trans rfl) (by decide) ?_
        refine AL_nil ?_
        refine qpost_mk ?_
        exact Weak.refl _
      refine Hops_norm (by first | (simp only [tput, List.set_cons_zero, List.set_cons_succ, h1, h2, decide_true, decide_false, List.length_map]; rfl) | rfl) ?_
      refine Hops_cons (fun T hl hr => ?_) ?_
      · skip
        refine AL_leave rfl ((hr 20 rfl).trans rfl) (by decide) ?_
        refine AL_nil ?_
        refine qpost_mk ?_
        exact Weak.refl _
      refine Hops_norm (by first | (simp only [tput, List.set_cons_zero, List.set_cons_succ, h1, h2, decide_true, decide_false, List.length_map]; rfl) | rfl) ?_
      refine Hops_cons (fun T hl hr => ?_) ?_
      · skip
        refine AL_leave rfl ((hr 20 rfl).trans rfl) (by decide) ?_
        refine AL_nil ?_
        refine qpost_mk ?_
        exact Weak.refl _
      refine Hops_norm (by first | (simp only [tput, List.set_cons_zero, List.set_cons_succ, h1, h2, decide_true, decide_false, List.length_map]; rfl) | rfl) ?_
      refine Hops_cons (fun T hl hr => ?_) ?_
      · skip
        refine AL_leave rfl ((hr 20 rfl).trans rfl) (by decide) ?_
        refine AL_nil ?_
        refine qpost_mk ?_
        exact Weak.refl _
      refine Hops_norm (by first | (simp only [tput, List.set_cons_zero, List.set_cons_succ, h1, h2, decide_true, decide_false, List.length_map]; rfl) | rfl) ?_
      refine Hops_cons (fun T hl hr => ?_) ?_
      · skip
        refine AL_leave rfl ((hr 20 rfl).trans rfl) (by decide) ?_
        refine AL_nil ?_
        refine qpost_mk ?_
        exact Weak.refl _
      refine Hops_norm (by first | (simp only [tput, List.set_cons_zero, List.set_cons_succ, h1, h2, decide_true, decide_false, List.length_map]; rfl) | rfl) ?_
      refine Hops_cons (fun T hl hr => ?_) ?_
      · skip
        refine AL_leave rfl ((hr 20 rfl).trans rfl) (by decide) ?_
        refine AL_nil ?_
        refine qpost_mk ?_
        exact Weak.refl _
      refine Hops_norm (by first | (simp only [tput, List.set_cons_zero, List.set_cons_succ, h1, h2, decide_true, decide_false, List.length_map]; rfl) | rfl) ?_
      refine Hops_cons (fun T hl hr => ?_) ?_
      · skip
        refine AL_leave rfl ((hr 20 rfl).trans rfl) (by decide) ?_
        refine AL_nil ?_
        refine qpost_mk ?_
        exact Weak.refl _
      refine Hops_norm (by first | (simp only [tput, List.set_cons_zero, List.set_cons_succ, h1, h2, decide_true, decide_false, List.length_map]; rfl) | rfl) ?_
      refine Hops_cons (fun T hl hr => ?_) ?_
      · skip
        refine AL_leave rfl ((hr 20 rfl).trans rfl) (by decide) ?_
        refine AL_nil ?_
        refine qpost_mk ?_
        exact Weak.refl _
      refine Hops_norm (by first | (simp only [tput, List.set_cons_zero, List.set_cons_succ, h1, h2, decide_true, decide_false, List.length_map]; rfl) | rfl) ?_
      refine Hops_cons (fun T hl hr => ?_) ?_
      · skip
        refine AL_leave rfl ((hr 20 rfl).trans rfl) (by decide) ?_
        refine AL_nil ?_
        refine qpost_mk ?_
        exact Weak.refl _
      refine Hops_norm (by first | (simp only [tput, List.set_cons_zero, List.set_cons_succ, h1, h2, decide_true, decide_false, List.length_map]; rfl) | rfl) ?_
      refine Hops_cons (fun T hl hr => ?_) ?_
      · skip
        first | refine AL_pick_t ((hr 20 (by kernel_rfl)).trans rfl) ((hr 30 (by kernel_rfl)).trans rfl) ?_ | refine AL_pick_f ((hr 20 (by kernel_rfl)).trans rfl) rfl ?_
        refine AL_nil ?_
        refine qpost_mk ?_
        exact Weak.refl _
      refine Hops_norm (by first | (simp only [tput, List.set_cons_zero, List.set_cons_succ, h1, h2, decide_true, decide_false, List.length_map]; rfl) | rfl) ?_
      refine Hops_cons (fun T hl hr => ?_) ?_
      · skip
        refine AL_assign ((hr 31 (by kernel_rfl)).trans rfl) ?_
        refine AL_nil ?_
        refine qpost_mk ?_
        exact Weak.refl _
      refine Hops_norm (by first | (simp only [tput, List.set_cons_zero, List.set_cons_succ, h1, h2, decide_true, decide_false, List.length_map]; rfl) | rfl) ?_
      exact Hops_nil
    refine Q_norm (by first | (simp only [Tfin, tput, anyAt, setAll, List.foldl_cons, List.foldl_nil, List.set_cons_zero, List.set_cons_succ, h1, h2, decide_true, decide_false, List.length_map]; rfl) | rfl) ?_
    refine GC2 ?_
    refine retQ_1 (H' := H) (.inr rfl) rfl SU ?_
    refine K_eq ?_ hK
    exact congrArg (fun b => AV.v (.bool b)) ((isPos_no (by omega)).symm)
  ·
    refine' AW_drawl (xs := [_, _, _, _, _, _, _, _, _, _, _, _, _, _, _, _, _, _, _, _, _, _, _, _, _, _, _, _]) (by kernel_rfl) ?hops3 ?_
    case hops3 =>
      refine Hops_cons (fun T hl hr => ?_) ?_
      · skip
        first | refine AL_fieldAddr_pt FFl.h FSz.h (by decide) ((hr 3 (by kernel_rfl)).trans rfl) ?_ | refine AL_fieldAddr_rp FFl.h FAg.h FSz.h (by decide) (by decide) ((hr 3 (by kernel_rfl)).trans rfl) rfl (fun h => by first | rfl | cases h) ?_
        refine AL_nil ?_
        refine qpost_mk ?_
        exact Weak.refl _
      refine Hops_norm (by first | (simp only [tput, List.set_cons_zero, List.set_cons_succ, h1, h2, h3, decide_true, decide_false, List.length_map]; rfl) | rfl) ?_
      refine Hops_cons (fun T hl hr => ?_) ?_
      · skip
        first | refine AL_load_rp FSz.h ((hr 5 (by kernel_rfl)).trans rfl) FAg.h ?_ | refine AL_loadw FSz.h ((hr 5 (by kernel_rfl)).trans rfl) LK (by exact FAg.h) rfl ?_ | refine AL_load_pt FAg.h FSz.h (by decide) ((hr 5 (by kernel_rfl)).trans rfl) LK FSz.h (by exact rfl) (by exact rfl) (by exact rfl) ?_
        refine AL_nil ?_
        refine qpost_mk ?_
        exact Weak.refl _
      refine Hops_norm (by first | (simp only [tput, List.set_cons_zero, List.set_cons_succ, h1, h2, h3, decide_true, decide_false, List.length_map]; rfl) | rfl) ?_
      refine Hops_cons (fun T hl hr => ?_) ?_
      · skip
        refine AL_geq ((hr 6 (by kernel_rfl)).trans rfl) rfl ?_
        refine AL_nil ?_
        refine qpost_mk ?_
        exact Weak.refl _
      refine Hops_norm (by first | (simp only [tput, List.set_cons_zero, List.set_cons_succ, h1, h2, h3, decide_true, decide_false, List.length_map]; rfl) | rfl) ?_
      refine Hops_cons (fun T hl hr => ?_) ?_
      · skip
        refine AL_move ((hr 7 (by kernel_rfl)).trans rfl) ?_
        refine AL_nil ?_
        refine qpost_mk ?_
        exact Weak.refl _
      refine Hops_norm (by first | (simp only [tput, List.set_cons_zero, List.set_cons_succ, h1, h2, h3, decide_true, decide_false, List.length_map]; rfl) | rfl) ?_
      refine Hops_cons (fun T hl hr => ?_) ?_
      · skip
        refine AL_take rfl ((hr 8 rfl).trans rfl) ?_
        first | refine AL_fieldAddr_pt FFl.h FSz.h (by decide) ((hr 3 (by kernel_rfl)).trans rfl) ?_ | refine AL_fieldAddr_rp FFl.h FAg.h FSz.h (by decide) (by decide) ((hr 3 (by kernel_rfl)).trans rfl) rfl (fun h => by first | rfl | cases h) ?_
        refine AL_nil ?_
        refine qpost_mk ?_
        exact Weak.refl _
      refine Hops_norm (by first | (simp only [tput, List.set_cons_zero, List.set_cons_succ, h1, h2, h3, decide_true, decide_false, List.length_map]; rfl) | rfl) ?_
      refine Hops_cons (fun T hl hr => ?_) ?_
      · skip
        refine AL_take rfl ((hr 8 rfl).trans rfl) ?_
        first | refine AL_load_rp FSz.h ((hr 9 (by kernel_rfl)).trans rfl) FAg.h ?_ | refine AL_loadw FSz.h ((hr 9 (by kernel_rfl)).trans rfl) LK (by exact FAg.h) rfl ?_ | refine AL_load_pt FAg.h FSz.h (by decide) ((hr 9 (by kernel_rfl)).trans rfl) LK FSz.h (by exact rfl) (by exact rfl) (by exact rfl) ?_
        refine AL_nil ?_
        refine qpost_mk ?_
        exact Weak.refl _
      refine Hops_norm (by first | (simp only [tput, List.set_cons_zero, List.set_cons_succ, h1, h2, h3, decide_true, decide_false, List.length_map]; rfl) | rfl) ?_
      refine Hops_cons (fun T hl hr => ?_) ?_
      · skip
        refine AL_take rfl ((hr 8 rfl).trans rfl) ?_
        refine AL_move ((hr 0 (by kernel_rfl)).trans rfl) ?_
        refine AL_nil ?_
        refine qpost_mk ?_
        exact Weak.refl _
      refine Hops_norm (by first | (simp only [tput, List.set_cons_zero, List.set_cons_succ, h1, h2, h3, decide_true, decide_false, List.length_map]; rfl) | rfl) ?_
      refine Hops_cons (fun T hl hr => ?_) ?_
      · skip
        refine AL_take rfl ((hr 8 rfl).trans rfl) ?_
        first | refine AL_len_sl FUn.h ((hr 11 (by kernel_rfl)).trans rfl) ?_ | refine AL_len_own FUn.h ((hr 11 (by kernel_rfl)).trans rfl) ?_
        refine AL_nil ?_
        refine qpost_mk ?_
        exact Weak.refl _
      refine Hops_norm (by first | (simp only [tput, List.set_cons_zero, List.set_cons_succ, h1, h2, h3, decide_true, decide_false, List.length_map]; rfl) | rfl) ?_
      refine Hops_cons (fun T hl hr => ?_) ?_
      · skip
        refine AL_take rfl ((hr 8 rfl).trans rfl) ?_
        refine AL_lss ((hr 10 (by kernel_rfl)).trans rfl) ((hr 12 (by kernel_rfl)).trans rfl) ?_
        refine AL_nil ?_
        refine qpost_mk ?_
        exact Weak.refl _
      refine Hops_norm (by first | (simp only [tput, List.set_cons_zero, List.set_cons_succ, h1, h2, h3, decide_true, decide_false, List.length_map]; rfl) | rfl) ?_
      refine Hops_cons (fun T hl hr => ?_) ?_
      · skip
        first | refine AL_pick_t ((hr 8 (by kernel_rfl)).trans rfl) ((hr 13 (by kernel_rfl)).trans rfl) ?_ | refine AL_pick_f ((hr 8 (by kernel_rfl)).trans rfl) rfl ?_
        refine AL_nil ?_
        refine qpost_mk ?_
        exact Weak.refl _
      refine Hops_norm (by first | (simp only [tput, List.set_cons_zero, List.set_cons_succ, h1, h2, h3, decide_true, decide_false, List.length_map]; rfl) | rfl) ?_
      refine Hops_cons (fun T hl hr => ?_) ?_
      · skip
        refine AL_move ((hr 14 (by kernel_rfl)).trans rfl) ?_
        refine AL_nil ?_
        refine qpost_mk ?_
        exact Weak.refl _
      refine Hops_norm (by first | (simp only [tput, List.set_cons_zero, List.set_cons_succ, h1, h2, h3, decide_true, decide_false, List.length_map]; rfl) | rfl) ?_
      refine Hops_cons (fun T hl hr => ?_) ?_
      · skip
        refine AL_take rfl ((hr 15 rfl).trans rfl) ?_
        first | refine AL_fieldAddr_pt FFl.h FSz.h (by decide) ((hr 3 (by kernel_rfl)).trans rfl) ?_ | refine AL_fieldAddr_rp FFl.h FAg.h FSz.h (by decide) (by decide) ((hr 3 (by kernel_rfl)).trans rfl) rfl (fun h => by first | rfl | cases h) ?_
        refine AL_nil ?_
        refine qpost_mk ?_
        exact Weak.refl _
      refine Hops_norm (by first | (simp only [tput, List.set_cons_zero, List.set_cons_succ, h1, h2, h3, decide_true, decide_false, List.length_map]; rfl) | rfl) ?_
      refine Hops_cons (fun T hl hr => ?_) ?_
      · skip
        refine AL_take rfl ((hr 15 rfl).trans rfl) ?_
        first | refine AL_load_rp FSz.h ((hr 16 (by kernel_rfl)).trans rfl) FAg.h ?_ | refine AL_loadw FSz.h ((hr 16 (by kernel_rfl)).trans rfl) LK (by exact FAg.h) rfl ?_ | refine AL_load_pt FAg.h FSz.h (by decide) ((hr 16 (by kernel_rfl)).trans rfl) LK FSz.h (by exact rfl) (by exact rfl) (by exact rfl) ?_
        refine AL_nil ?_
        refine qpost_mk ?_
        exact Weak.refl _
      refine Hops_norm (by first | (simp only [tput, List.set_cons_zero, List.set_cons_succ, h1, h2, h3, decide_true, decide_false, List.length_map]; rfl) | rfl) ?_
      refine Hops_cons (fun T hl hr => ?_) ?_
      · skip
        refine AL_take rfl ((hr 15 rfl).trans rfl) ?_
        refine AL_geq ((hr 17 (by kernel_rfl)).trans rfl) rfl ?_
        refine AL_nil ?_
        refine qpost_mk ?_
        exact Weak.refl _
      refine Hops_norm (by first | (simp only [tput, List.set_cons_zero, List.set_cons_succ, h1, h2, h3, decide_true, decide_false, List.length_map]; rfl) | rfl) ?_
      refine Hops_cons (fun T hl hr => ?_) ?_
      · skip
        first | refine AL_pick_t ((hr 15 (by kernel_rfl)).trans rfl) ((hr 18 (by kernel_rfl)).trans rfl) ?_ | refine AL_pick_f ((hr 15 (by kernel_rfl)).trans rfl) rfl ?_
        refine AL_nil ?_
        refine qpost_mk ?_
        exact Weak.refl _
      refine Hops_norm (by first | (simp only [tput, List.set_cons_zero, List.set_cons_succ, h1, h2, h3, decide_true, decide_false, List.length_map]; rfl) | rfl) ?_
      refine Hops_cons (fun T hl hr => ?_) ?_
      · skip
        refine AL_move ((hr 19 (by kernel_rfl)).trans rfl) ?_
        refine AL_nil ?_
        refine qpost_mk ?_
        exact Weak.refl _
      refine Hops_norm (by first | (simp only [tput, List.set_cons_zero, List.set_cons_succ, h1, h2, h3, decide_true, decide_false, List.length_map]; rfl) | rfl) ?_
      refine Hops_cons (fun T hl hr => ?_) ?_
      · skip
        refine AL_leave rfl ((hr 20 rfl).trans rfl) (by decide) ?_
        refine AL_nil ?_
        refine qpost_mk ?_
        exact Weak.refl _
      refine Hops_norm (by first | (simp only [tput, List.set_cons_zero, List.set_cons_succ, h1, h2, h3, decide_true, decide_false, List.length_map]; rfl) | rfl) ?_
      refine Hops_cons (fun T hl hr => ?_) ?_
      · skip
        refine AL_leave rfl ((hr 20 rfl).trans rfl) (by decide) ?_
        refine AL_nil ?_
        refine qpost_mk ?_
        exact Weak.refl _
      refine Hops_norm (by first | (simp only [tput, List.set_cons_zero, List.set_cons_succ, h1, h2, h3, decide_true, decide_false, List.length_map]; rfl) | rfl) ?_
      refine Hops_cons (fun T hl hr => ?_) ?_
      · skip
        refine AL_leave rfl ((hr 20 rfl).trans rfl) (by decide) ?_
        refine AL_nil ?_
        refine qpost_mk ?_
        exact Weak.refl _
      refine Hops_norm (by first | (simp only [tput, List.set_cons_zero, List.set_cons_succ, h1, h2, h3, decide_true, decide_false, List.length_map]; rfl) | rfl) ?_
      refine Hops_cons (fun T hl hr => ?_) ?_
      · skip
        refine AL_leave rfl ((hr 20 rfl).trans rfl) (by decide) ?_
        refine AL_nil ?_
        refine qpost_mk ?_
        exact Weak.refl _
      refine Hops_norm (by first | (simp only [tput, List.set_cons_zero, List.set_cons_succ, h1, h2, h3, decide_true, decide_false, List.length_map]; rfl) | rfl) ?_
      refine Hops_cons (fun T hl hr => ?_) ?_
      · skip
        refine AL_leave rfl ((hr 20 rfl).trans rfl) (by decide) ?_
        refine AL_nil ?_
        refine qpost_mk ?_
        exact Weak.refl _
      refine Hops_norm (by first | (simp only [tput, List.set_cons_zero, List.set_cons_succ, h1, h2, h3, decide_true, decide_false, List.length_map]; rfl) | rfl) ?_
      refine Hops_cons (fun T hl hr => ?_) ?_
      · skip
        refine AL_leave rfl ((hr 20 rfl).trans rfl) (by decide) ?_
        refine AL_nil ?_
        refine qpost_mk ?_
        exact Weak.refl _
      refine Hops_norm (by first | (simp only [tput, List.set_cons_zero, List.set_cons_succ, h1, h2, h3, decide_true, decide_false, List.length_map]; rfl) | rfl) ?_
      refine Hops_cons (fun T hl hr => ?_) ?_
      · skip
        refine AL_leave rfl ((hr 20 rfl).trans rfl) (by decide) ?_
        refine AL_nil ?_
        refine qpost_mk ?_
        exact Weak.refl _
      refine Hops_norm (by first | (simp only [tput, List.set_cons_zero, List.set_cons_succ, h1, h2, h3, decide_true, decide_false, List.length_map]; rfl) | rfl) ?_
      refine Hops_cons (fun T hl hr => ?_) ?_
      · skip
        refine AL_leave rfl ((hr 20 rfl).trans rfl) (by decide) ?_
        refine AL_nil ?_
        refine qpost_mk ?_
        exact Weak.refl _
      refine Hops_norm (by first | (simp only [tput, List.set_cons_zero, List.set_cons_succ, h1, h2, h3, decide_true, decide_false, List.length_map]; rfl) | rfl) ?_
      refine Hops_cons (fun T hl hr => ?_) ?_
      · skip
        refine AL_leave rfl ((hr 20 rfl).trans rfl) (by decide) ?_
        refine AL_nil ?_
        refine qpost_mk ?_
        exact Weak.refl _
      refine Hops_norm (by first | (simp only [tput, List.set_cons_zero, List.set_cons_succ, h1, h2, h3, decide_true, decide_false, List.length_map]; rfl) | rfl) ?_
      refine Hops_cons (fun T hl hr => ?_) ?_
      · skip
        refine AL_leave rfl ((hr 20 rfl).trans rfl) (by decide) ?_
        refine AL_nil ?_
        refine qpost_mk ?_
        exact Weak.refl _
      refine Hops_norm (by first | (simp only [tput, List.set_cons_zero, List.set_cons_succ, h1, h2, h3, decide_true, decide_false, List.length_map]; rfl) | rfl) ?_
      refine Hops_cons (fun T hl hr => ?_) ?_
      · skip
        first | refine AL_pick_t ((hr 20 (by kernel_rfl)).trans rfl) ((hr 30 (by kernel_rfl)).trans rfl) ?_ | refine AL_pick_f ((hr 20 (by kernel_rfl)).trans rfl) rfl ?_
        refine AL_nil ?_
        refine qpost_mk ?_
        exact Weak.refl _
      refine Hops_norm (by first | (simp only [tput, List.set_cons_zero, List.set_cons_succ, h1, h2, h3, decide_true, decide_false, List.length_map]; rfl) | rfl) ?_
      refine Hops_cons (fun T hl hr => ?_) ?_
      · skip
        refine AL_assign ((hr 31 (by kernel_rfl)).trans rfl) ?_
        refine AL_nil ?_
        refine qpost_mk ?_
        exact Weak.refl _
      refine Hops_norm (by first | (simp only [tput, List.set_cons_zero, List.set_cons_succ, h1, h2, h3, decide_true, decide_false, List.length_map]; rfl) | rfl) ?_
      exact Hops_nil
    refine Q_norm (by first | (simp only [Tfin, tput, anyAt, setAll, List.foldl_cons, List.foldl_nil, List.set_cons_zero, List.set_cons_succ, h1, h2, h3, decide_true, decide_false, List.length_map]; rfl) | rfl) ?_
    refine GC2 ?_
    refine retQ_1 (H' := H) (.inr rfl) rfl SU ?_
    refine K_eq ?_ hK
    exact congrArg (fun b => AV.v (.bool b)) ((isPos_no (by omega)).symm)
  ·
    refine' AW_drawl (xs := [_, _, _, _, _, _, _, _, _, _, _, _, _, _, _, _, _, _, _, _, _, _, _, _, _, _, _, _]) (by kernel_rfl) ?hops4 ?_
    case hops4 =>
      refine Hops_cons (fun T hl hr => ?_) ?_
      · skip
        first | refine AL_fieldAddr_pt FFl.h FSz.h (by decide) ((hr 3 (by kernel_rfl)).trans rfl) ?_ | refine AL_fieldAddr_rp FFl.h FAg.h FSz.h (by decide) (by decide) ((hr 3 (by kernel_rfl)).trans rfl) rfl (fun h => by first | rfl | cases h) ?_
        refine AL_nil ?_
        refine qpost_mk ?_
        exact Weak.refl _
      refine Hops_norm (by first | (simp only [tput, List.set_cons_zero, List.set_cons_succ, h1, h2, h3, decide_true, decide_false, List.length_map]; rfl) | rfl) ?_
      refine Hops_cons (fun T hl hr => ?_) ?_
      · skip
        first | refine AL_load_rp FSz.h ((hr 5 (by kernel_rfl)).trans rfl) FAg.h ?_ | refine AL_loadw FSz.h ((hr 5 (by kernel_rfl)).trans rfl) LK (by exact FAg.h) rfl ?_ | refine AL_load_pt FAg.h FSz.h (by decide) ((hr 5 (by kernel_rfl)).trans rfl) LK FSz.h (by exact rfl) (by exact rfl) (by exact rfl) ?_
        refine AL_nil ?_
        refine qpost_mk ?_
        exact Weak.refl _
      refine Hops_norm (by first | (simp only [tput, List.set_cons_zero, List.set_cons_succ, h1, h2, h3, decide_true, decide_false, List.length_map]; rfl) | rfl) ?_
      refine Hops_cons (fun T hl hr => ?_) ?_
      · skip
        refine AL_geq ((hr 6 (by kernel_rfl)).trans rfl) rfl ?_
        refine AL_nil ?_
        refine qpost_mk ?_
        exact Weak.refl _
      refine Hops_norm (by first | (simp only [tput, List.set_cons_zero, List.set_cons_succ, h1, h2, h3, decide_true, decide_false, List.length_map]; rfl) | rfl) ?_
      refine Hops_cons (fun T hl hr => ?_) ?_
      · skip
        refine AL_move ((hr 7 (by kernel_rfl)).trans rfl) ?_
        refine AL_nil ?_
        refine qpost_mk ?_
        exact Weak.refl _
      refine Hops_norm (by first | (simp only [tput, List.set_cons_zero, List.set_cons_succ, h1, h2, h3, decide_true, decide_false, List.length_map]; rfl) | rfl) ?_
      refine Hops_cons (fun T hl hr => ?_) ?_
      · skip
        refine AL_take rfl ((hr 8 rfl).trans rfl) ?_
        first | refine AL_fieldAddr_pt FFl.h FSz.h (by decide) ((hr 3 (by kernel_rfl)).trans rfl) ?_ | refine AL_fieldAddr_rp FFl.h FAg.h FSz.h (by decide) (by decide) ((hr 3 (by kernel_rfl)).trans rfl) rfl (fun h => by first | rfl | cases h) ?_
        refine AL_nil ?_
        refine qpost_mk ?_
        exact Weak.refl _
      refine Hops_norm (by first | (simp only [tput, List.set_cons_zero, List.set_cons_succ, h1, h2, h3, decide_true, decide_false, List.length_map]; rfl) | rfl) ?_
      refine Hops_cons (fun T hl hr => ?_) ?_
      · skip
        refine AL_take rfl ((hr 8 rfl).trans rfl) ?_
        first | refine AL_load_rp FSz.h ((hr 9 (by kernel_rfl)).trans rfl) FAg.h ?_ | refine AL_loadw FSz.h ((hr 9 (by kernel_rfl)).trans rfl) LK (by exact FAg.h) rfl ?_ | refine AL_load_pt FAg.h FSz.h (by decide) ((hr 9 (by kernel_rfl)).trans rfl) LK FSz.h (by exact rfl) (by exact rfl) (by exact rfl) ?_
        refine AL_nil ?_
        refine qpost_mk ?_
        exact Weak.refl _
      refine Hops_norm (by first | (simp only [tput, List.set_cons_zero, List.set_cons_succ, h1, h2, h3, decide_true, decide_false, List.length_map]; rfl) | rfl) ?_
      refine Hops_cons (fun T hl hr => ?_) ?_
      · skip
        refine AL_take rfl ((hr 8 rfl).trans rfl) ?_
        refine AL_move ((hr 0 (by kernel_rfl)).trans rfl) ?_
        refine AL_nil ?_
        refine qpost_mk ?_
        exact Weak.refl _
      refine Hops_norm (by first | (simp only [tput, List.set_cons_zero, List.set_cons_succ, h1, h2, h3, decide_true, decide_false, List.length_map]; rfl) | rfl) ?_
      refine Hops_cons (fun T hl hr => ?_) ?_
      · skip
        refine AL_take rfl ((hr 8 rfl).trans rfl) ?_
        first | refine AL_len_sl FUn.h ((hr 11 (by kernel_rfl)).trans rfl) ?_ | refine AL_len_own FUn.h ((hr 11 (by kernel_rfl)).trans rfl) ?_
        refine AL_nil ?_
        refine qpost_mk ?_
        exact Weak.refl _
      refine Hops_norm (by first | (simp only [tput, List.set_cons_zero, List.set_cons_succ, h1, h2, h3, decide_true, decide_false, List.length_map]; rfl) | rfl) ?_
      refine Hops_cons (fun T hl hr => ?_) ?_
      · skip
        refine AL_take rfl ((hr 8 rfl).trans rfl) ?_
        refine AL_lss ((hr 10 (by kernel_rfl)).trans rfl) ((hr 12 (by kernel_rfl)).trans rfl) ?_
        refine AL_nil ?_
        refine qpost_mk ?_
        exact Weak.refl _
      refine Hops_norm (by first | (simp only [tput, List.set_cons_zero, List.set_cons_succ, h1, h2, h3, decide_true, decide_false, List.length_map]; rfl) | rfl) ?_
      refine Hops_cons (fun T hl hr => ?_) ?_
      · skip
        first | refine AL_pick_t ((hr 8 (by kernel_rfl)).trans rfl) ((hr 13 (by kernel_rfl)).trans rfl) ?_ | refine AL_pick_f ((hr 8 (by kernel_rfl)).trans rfl) rfl ?_
        refine AL_nil ?_
        refine qpost_mk ?_
        exact Weak.refl _
      refine Hops_norm (by first | (simp only [tput, List.set_cons_zero, List.set_cons_succ, h1, h2, h3, decide_true, decide_false, List.length_map]; rfl) | rfl) ?_
      refine Hops_cons (fun T hl hr => ?_) ?_
      · skip
        refine AL_move ((hr 14 (by kernel_rfl)).trans rfl) ?_
        refine AL_nil ?_
        refine qpost_mk ?_
        exact Weak.refl _
      refine Hops_norm (by first | (simp only [tput, List.set_cons_zero, List.set_cons_succ, h1, h2, h3, decide_true, decide_false, List.length_map]; rfl) | rfl) ?_
      refine Hops_cons (fun T hl hr => ?_) ?_
      · skip
        refine AL_take rfl ((hr 15 rfl).trans rfl) ?_
        first | refine AL_fieldAddr_pt FFl.h FSz.h (by decide) ((hr 3 (by kernel_rfl)).trans rfl) ?_ | refine AL_fieldAddr_rp FFl.h FAg.h FSz.h (by decide) (by decide) ((hr 3 (by kernel_rfl)).trans rfl) rfl (fun h => by first | rfl | cases h) ?_
        refine AL_nil ?_
        refine qpost_mk ?_
        exact Weak.refl _
      refine Hops_norm (by first | (simp only [tput, List.set_cons_zero, List.set_cons_succ, h1, h2, h3, decide_true, decide_false, List.length_map]; rfl) | rfl) ?_
      refine Hops_cons (fun T hl hr => ?_) ?_
      · skip
        refine AL_take rfl ((hr 15 rfl).trans rfl) ?_
        first | refine AL_load_rp FSz.h ((hr 16 (by kernel_rfl)).trans rfl) FAg.h ?_ | refine AL_loadw FSz.h ((hr 16 (by kernel_rfl)).trans rfl) LK (by exact FAg.h) rfl ?_ | refine AL_load_pt FAg.h FSz.h (by decide) ((hr 16 (by kernel_rfl)).trans rfl) LK FSz.h (by exact rfl) (by exact rfl) (by exact rfl) ?_
        refine AL_nil ?_
        refine qpost_mk ?_
        exact Weak.refl _
      refine Hops_norm (by first | (simp only [tput, List.set_cons_zero, List.set_cons_succ, h1, h2, h3, decide_true, decide_false, List.length_map]; rfl) | rfl) ?_
      refine Hops_cons (fun T hl hr => ?_) ?_
      · skip
        refine AL_take rfl ((hr 15 rfl).trans rfl) ?_
        refine AL_geq ((hr 17 (by kernel_rfl)).trans rfl) rfl ?_
        refine AL_nil ?_
        refine qpost_mk ?_
        exact Weak.refl _
      refine Hops_norm (by first | (simp only [tput, List.set_cons_zero, List.set_cons_succ, h1, h2, h3, decide_true, decide_false, List.length_map]; rfl) | rfl) ?_
      refine Hops_cons (fun T hl hr => ?_) ?_
      · skip
        first | refine AL_pick_t ((hr 15 (by kernel_rfl)).trans rfl) ((hr 18 (by kernel_rfl)).trans rfl) ?_ | refine AL_pick_f ((hr 15 (by kernel_rfl)).trans rfl) rfl ?_
        refine AL_nil ?_
        refine qpost_mk ?_
        exact Weak.refl _
      refine Hops_norm (by first | (simp only [tput, List.set_cons_zero, List.set_cons_succ, h1, h2, h3, decide_true, decide_false, List.length_map]; rfl) | rfl) ?_
      refine Hops_cons (fun T hl hr => ?_) ?_
      · skip
        refine AL_move ((hr 19 (by kernel_rfl)).trans rfl) ?_
        refine AL_nil ?_
        refine qpost_mk ?_
        exact Weak.refl _
      refine Hops_norm (by first | (simp only [tput, List.set_cons_zero, List.set_cons_succ, h1, h2, h3, decide_true, decide_false, List.length_map]; rfl) | rfl) ?_
      refine Hops_cons (fun T hl hr => ?_) ?_
      · skip
        refine AL_take rfl ((hr 20 rfl).trans rfl) ?_
        first | refine AL_fieldAddr_pt FFl.h FSz.h (by decide) ((hr 3 (by kernel_rfl)).trans rfl) ?_ | refine AL_fieldAddr_rp FFl.h FAg.h FSz.h (by decide) (by decide) ((hr 3 (by kernel_rfl)).trans rfl) rfl (fun h => by first | rfl | cases h) ?_
        refine AL_nil ?_
        refine qpost_mk ?_
        exact Weak.refl _
      refine Hops_norm (by first | (simp only [tput, List.set_cons_zero, List.set_cons_succ, h1, h2, h3, decide_true, decide_false, List.length_map]; rfl) | rfl) ?_
      refine Hops_cons (fun T hl hr => ?_) ?_
      · skip
        refine AL_take rfl ((hr 20 rfl).trans rfl) ?_
        first | refine AL_load_rp FSz.h ((hr 21 (by kernel_rfl)).trans rfl) FAg.h ?_ | refine AL_loadw FSz.h ((hr 21 (by kernel_rfl)).trans rfl) LK (by exact FAg.h) rfl ?_ | refine AL_load_pt FAg.h FSz.h (by decide) ((hr 21 (by kernel_rfl)).trans rfl) LK FSz.h (by exact rfl) (by exact rfl) (by exact rfl) ?_
        refine AL_nil ?_
        refine qpost_mk ?_
        exact Weak.refl _
      refine Hops_norm (by first | (simp only [tput, List.set_cons_zero, List.set_cons_succ, h1, h2, h3, decide_true, decide_false, List.length_map]; rfl) | rfl) ?_
      refine Hops_cons (fun T hl hr => ?_) ?_
      · skip
        refine AL_take rfl ((hr 20 rfl).trans rfl) ?_
        refine AL_move ((hr 0 (by kernel_rfl)).trans rfl) ?_
        refine AL_nil ?_
        refine qpost_mk ?_
        exact Weak.refl _
      refine Hops_norm (by first | (simp only [tput, List.set_cons_zero, List.set_cons_succ, h1, h2, h3, decide_true, decide_false, List.length_map]; rfl) | rfl) ?_
      refine Hops_cons (fun T hl hr => ?_) ?_
      · skip
        refine AL_take rfl ((hr 20 rfl).trans rfl) ?_
        first | refine AL_fieldAddr_pt FFl.h FSz.h (by decide) ((hr 3 (by kernel_rfl)).trans rfl) ?_ | refine AL_fieldAddr_rp FFl.h FAg.h FSz.h (by decide) (by decide) ((hr 3 (by kernel_rfl)).trans rfl) rfl (fun h => by first | rfl | cases h) ?_
        refine AL_nil ?_
        refine qpost_mk ?_
        exact Weak.refl _
      refine Hops_norm (by first | (simp only [tput, List.set_cons_zero, List.set_cons_succ, h1, h2, h3, decide_true, decide_false, List.length_map]; rfl) | rfl) ?_
      refine Hops_cons (fun T hl hr => ?_) ?_
      · skip
        refine AL_take rfl ((hr 20 rfl).trans rfl) ?_
        first | refine AL_load_rp FSz.h ((hr 24 (by kernel_rfl)).trans rfl) FAg.h ?_ | refine AL_loadw FSz.h ((hr 24 (by kernel_rfl)).trans rfl) LK (by exact FAg.h) rfl ?_ | refine AL_load_pt FAg.h FSz.h (by decide) ((hr 24 (by kernel_rfl)).trans rfl) LK FSz.h (by exact rfl) (by exact rfl) (by exact rfl) ?_
        refine AL_nil ?_
        refine qpost_mk ?_
        exact Weak.refl _
      refine Hops_norm (by first | (simp only [tput, List.set_cons_zero, List.set_cons_succ, h1, h2, h3, decide_true, decide_false, List.length_map]; rfl) | rfl) ?_
      refine Hops_cons (fun T hl hr => ?_) ?_
      · skip
        refine AL_take rfl ((hr 20 rfl).trans rfl) ?_
        first | refine AL_indexAddr_sl (y := lineAV (lineAt d p.line)) FUn.h FSz.h (by decide) ((hr 23 (by kernel_rfl)).trans rfl) ((hr 25 (by kernel_rfl)).trans rfl) ?_ ?_ ?_ ?_ | refine AL_indexAddr_own FUn.h FSz.h ((hr 23 (by kernel_rfl)).trans rfl) ((hr 25 (by kernel_rfl)).trans rfl) ?_ ?_ ?_
        · omega
        · simp only [List.length_map]; omega
        · exact map_getD l0 (i := p.line.toNat) (by omega)
        refine AL_nil ?_
        refine qpost_mk ?_
        exact Weak.refl _
      refine Hops_norm (by first | (simp only [tput, List.set_cons_zero, List.set_cons_succ, h1, h2, h3, decide_true, decide_false, List.length_map]; rfl) | rfl) ?_
      refine Hops_cons (fun T hl hr => ?_) ?_
      · skip
        refine AL_take rfl ((hr 20 rfl).trans rfl) ?_
        first | refine AL_fieldAddr_pt FFl.h FSz.h (by decide) ((hr 26 (by kernel_rfl)).trans rfl) ?_ | refine AL_fieldAddr_rp FFl.h FAg.h FSz.h (by decide) (by decide) ((hr 26 (by kernel_rfl)).trans rfl) rfl (fun h => by first | rfl | cases h) ?_
        refine AL_nil ?_
        refine qpost_mk ?_
        exact Weak.refl _
      refine Hops_norm (by first | (simp only [tput, List.set_cons_zero, List.set_cons_succ, h1, h2, h3, decide_true, decide_false, List.length_map]; rfl) | rfl) ?_
      refine Hops_cons (fun T hl hr => ?_) ?_
      · skip
        refine AL_take rfl ((hr 20 rfl).trans rfl) ?_
        first | refine AL_load_rp FSz.h ((hr 27 (by kernel_rfl)).trans rfl) FAg.h ?_ | refine AL_loadw FSz.h ((hr 27 (by kernel_rfl)).trans rfl) LK (by exact FAg.h) rfl ?_ | refine AL_load_pt FAg.h FSz.h (by decide) ((hr 27 (by kernel_rfl)).trans rfl) LK FSz.h (by exact rfl) (by exact rfl) (by exact rfl) ?_
        refine AL_nil ?_
        refine qpost_mk ?_
        exact Weak.refl _
      refine Hops_norm (by first | (simp only [tput, List.set_cons_zero, List.set_cons_succ, h1, h2, h3, decide_true, decide_false, List.length_map]; rfl) | rfl) ?_
      refine Hops_cons (fun T hl hr => ?_) ?_
      · skip
        refine AL_take rfl ((hr 20 rfl).trans rfl) ?_
        first | refine AL_len_sl FUn.h ((hr 28 (by kernel_rfl)).trans rfl) ?_ | refine AL_len_own FUn.h ((hr 28 (by kernel_rfl)).trans rfl) ?_
        refine AL_nil ?_
        refine qpost_mk ?_
        exact Weak.refl _
      refine Hops_norm (by first | (simp only [tput, List.set_cons_zero, List.set_cons_succ, h1, h2, h3, decide_true, decide_false, List.length_map]; rfl) | rfl) ?_
      refine Hops_cons (fun T hl hr => ?_) ?_
      · skip
        refine AL_take rfl ((hr 20 rfl).trans rfl) ?_
        refine AL_leq ((hr 22 (by kernel_rfl)).trans rfl) ((hr 29 (by kernel_rfl)).trans rfl) ?_
        refine AL_nil ?_
        refine qpost_mk ?_
        exact Weak.refl _
      refine Hops_norm (by first | (simp only [tput, List.set_cons_zero, List.set_cons_succ, h1, h2, h3, decide_true, decide_false, List.length_map]; rfl) | rfl) ?_
      refine Hops_cons (fun T hl hr => ?_) ?_
      · skip
        first | refine AL_pick_t ((hr 20 (by kernel_rfl)).trans rfl) ((hr 30 (by kernel_rfl)).trans rfl) ?_ | refine AL_pick_f ((hr 20 (by kernel_rfl)).trans rfl) rfl ?_
        refine AL_nil ?_
        refine qpost_mk ?_
        exact Weak.refl _
      refine Hops_norm (by first | (simp only [tput, List.set_cons_zero, List.set_cons_succ, h1, h2, h3, decide_true, decide_false, List.length_map]; rfl) | rfl) ?_
      refine Hops_cons (fun T hl hr => ?_) ?_
      · skip
        refine AL_assign ((hr 31 (by kernel_rfl)).trans rfl) ?_
        refine AL_nil ?_
        refine qpost_mk ?_
        exact Weak.refl _
      refine Hops_norm (by first | (simp only [tput, List.set_cons_zero, List.set_cons_succ, h1, h2, h3, decide_true, decide_false, List.length_map]; rfl) | rfl) ?_
      exact Hops_nil
    refine Q_norm (by first | (simp only [Tfin, tput, anyAt, setAll, List.foldl_cons, List.foldl_nil, List.set_cons_zero, List.set_cons_succ, h1, h2, h3, decide_true, decide_false, List.length_map]; rfl) | rfl) ?_
    refine GC2 ?_
    refine retQ_1 (H' := H) (.inr rfl) rfl SU ?_
    refine K_eq ?_ hK
    exact congrArg (fun b => AV.v (.bool b)) (((isPos_yes ⟨h1, h2, h3⟩).trans (by simp)).symm)

/-- cmp.isNaN[int] -/
theorem cmp_isNaN_int_ok (x : Int) :
    PF Tryz.prog 295 [.v (.int .i64 x)] (.v (.bool false)) := by
  intro H K hK
  refine AC_of Tryz.func295 rfl (rs := [.tmp 2]) rfl Tryz.ntmps295 rfl ?_
  refine AW_norm TP ?_
  refine GC2 ?_
  refine GO1 ?_
  refine GC4 ?_
  refine GO4 ?_
  refine GC3 ?_
  refine retQ_1 (H' := H) (.inr rfl) rfl SU ?_
  refine K_eq ?_ hK
  simp

/-- cmp.Compare[int] -/
theorem cmp_Compare_int_ok (x y : Int) :
    PF Tryz.prog 262 [.v (.int .i64 x), .v (.int .i64 y)] (.v (.int .i64 (cmpI x y))) := by
  intro H K hK
  refine AC_of Tryz.func262 rfl (rs := [.tmp 4]) rfl Tryz.ntmps262 rfl ?_
  refine AW_norm TP ?_
  refine GC2 ?_
  refine GO1 ?_
  refine GC4 ?_
  refine GO1 ?_
  refine AL_callp FEn.h XA (cmp_isNaN_int_ok _) ?_
  refine GO1 ?_
  refine GC4 ?_
  refine GO1 ?_
  refine AL_callp FEn.h XA (cmp_isNaN_int_ok _) ?_
  refine GO1 ?_
  refine GC5 ?_
  refine GO1 ?_
  refine GC2 ?_
  refine GI rfl (fun hc1 => ?_) (fun hc1 => ?_)
  ·
    refine GC3 ?_
    refine GO1 ?_
    refine GC2 ?_
    refine GI rfl (fun hc2 => ?_) (fun hc2 => ?_)
    ·
      refine GC2 ?_
      refine GO1 ?_
      refine GC5 ?_
      refine retQ_1 (H' := H) (.inr rfl) rfl SU ?_
      refine K_eq ?_ hK
      exact congrArg (fun z => AV.v (.int .i64 z)) (by unfold cmpI; (repeat' split) <;> first | rfl | (exfalso; first | omega | contradiction))
    ·
      refine GC4 ?_
      refine GO1 ?_
      refine GC4 ?_
      refine retQ_1 (H' := H) (.inr rfl) rfl SU ?_
      refine K_eq ?_ hK
      exact congrArg (fun z => AV.v (.int .i64 z)) (by unfold cmpI; (repeat' split) <;> first | rfl | (exfalso; first | omega | contradiction))
  ·
    refine GC5 ?_
    refine GO1 ?_
    refine GC2 ?_
    refine GI rfl (fun hc3 => ?_) (fun hc3 => ?_)
    ·
      refine GC2 ?_
      refine GO1 ?_
      refine GC4 ?_
      refine retQ_1 (H' := H) (.inr rfl) rfl SU ?_
      refine K_eq ?_ hK
      exact congrArg (fun z => AV.v (.int .i64 z)) (by unfold cmpI; (repeat' split) <;> first | rfl | (exfalso; first | omega | contradiction))
    ·
      refine GC5 ?_
      refine GO3 ?_
      refine GC2 ?_
      refine GI rfl (fun hc4 => ?_) (fun hc4 => ?_)
      ·
        refine GC2 ?_
        refine GO1 ?_
        refine GC4 ?_
        refine retQ_1 (H' := H) (.inr rfl) rfl SU ?_
        refine K_eq ?_ hK
        exact congrArg (fun z => AV.v (.int .i64 z)) (by unfold cmpI; (repeat' split) <;> first | rfl | (exfalso; first | omega | contradiction))
      ·
        refine GC5 ?_
        refine GO3 ?_
        refine GC2 ?_
        refine GI rfl (fun hc5 => ?_) (fun hc5 => ?_)
        ·
          refine GC2 ?_
          refine GO1 ?_
          refine GC4 ?_
          refine retQ_1 (H' := H) (.inr rfl) rfl SU ?_
          refine K_eq ?_ hK
          exact congrArg (fun z => AV.v (.int .i64 z)) (by unfold cmpI; (repeat' split) <;> first | rfl | (exfalso; first | omega | contradiction))
        ·
          refine GC4 ?_
          refine GO1 ?_
          refine GC3 ?_
          refine retQ_1 (H' := H) (.inr rfl) rfl SU ?_
          refine K_eq ?_ hK
          exact congrArg (fun z => AV.v (.int .i64 z)) (by unfold cmpI; (repeat' split) <;> first | rfl | (exfalso; first | omega | contradiction))

/-- cmp.Or[int] -/
theorem cmp_Or_int_ok (l : List Int) (hl : l.length ≤ 1000) :
    PF Tryz.prog 261 [.sl 3 (l.map intAV)] (.v (.int .i64 (orI l))) := by
  intro H K hK
  refine AC_of Tryz.func261 rfl (rs := [.tmp 2]) rfl Tryz.ntmps261 rfl ?_
  refine AW_norm TP ?_
  refine GC2 ?_
  refine GO1 ?_
  refine GC4 ?_
  refine GO1 ?_
  refine GC5 ?_
  refine GO3 ?_
  refine GC2 ?_
  refine AW_block ?_
  refine AW_loops (α := Nat) [2, 5, 8, 9, 10, 11, 12, 13, 14, 15, 16] (fun i => [(8, .v (.int .i64 (i : Int)))]) (fun i => H) (fun i => i ≤ l.length ∧ ∀ j, j < i → l.getD j 0 = 0) (fun i => l.length - i) (0) ?_ ?_ ?_ ?_
  · exact ⟨Nat.zero_le _, fun j hj => absurd hj (Nat.not_lt_zero j)⟩
  · repeat (first | exact SubH.refl _ | assumption | refine SubH.new ?_ (by assumption))
  · skip
    exact WK
  · intro i hI
    refine AW_norm TN ?_
    refine GC2 ?_
    refine GO1 ?_
    refine GC3 ?_
    refine GI rfl (fun hc1 => ?_) (fun hc1 => ?_)
    ·
      refine GC3 ?_
      refine AW_block ?_
      refine GC2 ?_
      first | refine AL_indexAddr_sl (y := intAV (l.getD i 0)) FUn.h FSz.h (by decide) rfl rfl ?_ ?_ ?_ ?_ | refine AL_indexAddr_own FUn.h FSz.h rfl rfl ?_ ?_ ?_
      · omega
      · simp only [List.length_map]; omega
      · exact map_getD 0 (i := i) (by omega)
      refine GO2 ?_
      refine GC4 ?_
      refine GO3 ?_
      refine GC2 ?_
      refine GI rfl (fun hc2 => ?_) (fun hc2 => ?_)
      ·
        refine GC2 ?_
        refine GO2 ?_
        refine GC5 ?_
        refine loopQ_r ?_
        refine GC2 ?_
        refine retQ_1 (H' := H) (.inr rfl) rfl SU ?_
        refine K_eq ?_ hK
        exact congrArg (fun z => AV.v (.int .i64 z)) (orI_some (i := i) (by omega) hc2 hI.2).symm
      ·
        refine GC4 ?_
        refine AL_addz rfl rfl (((i + 1 : Nat) : Int)) (by exact inc64 (by omega)) ?_
        refine GO1 ?_
        refine GC1 ?_
        refine loopQ_n (i + 1) ?_ ?_ ?_ ?_
        · exact ⟨by omega, fun j hj => by rcases Nat.lt_or_ge j i with h | h; exact hI.2 j h; rw [show j = i by omega]; first | exact hc2 | exact Decidable.not_not.1 hc2⟩
        · omega
        · repeat (first | exact SubH.refl _ | assumption | refine SubH.new ?_ (by assumption))
        · skip
          exact WK
    ·
      refine GC2 ?_
      refine loopQ_x ?_
      refine GC4 ?_
      refine GO2 ?_
      refine GC3 ?_
      refine retQ_1 (H' := H) (.inr rfl) rfl SU ?_
      refine K_eq ?_ hK
      exact congrArg (fun z => AV.v (.int .i64 z)) (orI_none (i := i) (by omega) hI.2).symm

/-- quillwork/doc.Cmp -/
theorem doc_Cmp_ok (a b : Pos) :
    PF Tryz.prog 197 [posAV a, posAV b] (.v (.int .i64 (cmpP a b))) := by
  intro H K hK
  refine AC_of Tryz.func197 rfl (rs := [.tmp 4]) rfl Tryz.ntmps197 rfl ?_
  refine AW_norm TP ?_
  refine GC2 ?_
  refine AL_box rfl rfl FSz.h rfl ?_
  intro b1 hb1
  have hn1 : H b1 = none := SubH.none SU hb1
  refine AL_box rfl rfl FSz.h rfl ?_
  intro b2 hb2
  have hn2 : H b2 = none := SubH.none SU hb2
  have hd2_1 : b2 ≠ b1 := AH.fresh_ne hb2 LK
  have hd1_2 : b1 ≠ b2 := Ne.symm hd2_1
  refine GO1 ?_
  refine GC3 ?_
  refine' AW_drawl (xs := [_, _, _, _, _, _, _, _, _, _, _, _, _]) (by kernel_rfl) ?hops1 ?_
  case hops1 =>
    refine GH4 ?_
    refine Hops_cons (fun T hl hr => ?_) ?_
    · skip
      refine AL_callp FEn.h (.cons (.ev ((hr 6 (by kernel_rfl)).trans rfl)) (.cons (.ev ((hr 8 (by kernel_rfl)).trans rfl)) (.nil))) (cmp_Compare_int_ok _ _) ?_
      refine AL_nil ?_
      refine qpost_mk ?_
      exact Weak.refl _
    refine Hops_norm TO ?_
    refine GH4 ?_
    refine Hops_cons (fun T hl hr => ?_) ?_
    · skip
      refine AL_callp FEn.h (.cons (.ev ((hr 11 (by kernel_rfl)).trans rfl)) (.cons (.ev ((hr 13 (by kernel_rfl)).trans rfl)) (.nil))) (cmp_Compare_int_ok _ _) ?_
      refine AL_nil ?_
      refine qpost_mk ?_
      exact Weak.refl _
    refine Hops_norm TO ?_
    refine Hops_cons (fun T hl hr => ?_) ?_
    · skip
      refine AL_buildSl FUn.h FSz.h FZe.h rfl (by decide) (by decide) (.cons (.ev ((hr 9 (by kernel_rfl)).trans rfl)) rfl (.cons (.ev ((hr 14 (by kernel_rfl)).trans rfl)) rfl (.nil))) rfl rfl ?_
      refine AL_nil ?_
      refine qpost_mk ?_
      exact Weak.refl _
    refine Hops_norm TO ?_
    refine Hops_cons (fun T hl hr => ?_) ?_
    · skip
      refine AL_callp FEn.h (.cons (.ev ((hr 15 (by kernel_rfl)).trans rfl)) (.nil)) (cmp_Or_int_ok [cmpI a.line b.line, cmpI a.col b.col] (by simp)) ?_
      refine AL_nil ?_
      refine qpost_mk ?_
      exact Weak.refl _
    refine Hops_norm TO ?_
    refine GH1 ?_
    exact Hops_nil
  refine Q_norm (by first | (simp only [Tfin, tput, anyAt, setAll, List.foldl_cons, List.foldl_nil, List.set_cons_zero, List.set_cons_succ]; rfl) | rfl) ?_
  refine GC2 ?_
  refine retQ_1 (H' := H) (.inr rfl) rfl SU ?_
  refine K_eq ?_ hK
  exact congrArg (fun z => AV.v (.int .i64 z)) (cmpP_or a b)

/-- quillwork/doc.May$1 -/
theorem doc_May_1_ok (l : Line) (hs : LS l) :
    PI TQ Tryz.prog 130 [lineAV l] (.v (.bool (offL l))) := by
  intro H K hT hK
  refine AC_of Tryz.func130 rfl (rs := [.tmp 2]) rfl Tryz.ntmps130 rfl ?_
  refine AW_norm TP ?_
  refine GC2 ?_
  refine AL_box rfl rfl FSz.h rfl ?_
  intro b1 hb1
  have hn1 : H b1 = none := SubH.none SU hb1
  refine GO1 ?_
  refine GC4 ?_
  refine GO1 ?_
  refine AL_callpi FEn.h XA HS (lines_May_ok l hs) ?_
  refine AL_norm TN ?_
  refine GO2 ?_
  refine GC3 ?_
  refine retQ_1 (H' := H) (.inr rfl) rfl SU ?_
  refine K_eq ?_ hK
  rfl

/-- quillwork/doc.May -/
theorem doc_May_ok (d : List Line) (hd : DS d) :
    PI TQ Tryz.prog 63 [linesAV d] (.v (.bool (docOK d))) := by
  intro H K hT hK
  refine AC_of Tryz.func63 rfl (rs := [.tmp 2]) rfl Tryz.ntmps63 rfl ?_
  refine AW_norm TP ?_
  refine GC2 ?_
  refine GO1 ?_
  refine GC4 ?_
  refine GO4 ?_
  refine AL_and (j := 3) (n := 3) (c := 6) (t := 9) (r := 10) (v := ?v1) [7, 8, 9] rfl rfl rfl rfl rfl rfl rfl (fun hg1 => ?_) ?_; rotate_left
  · refine GS ?_
    (try simp only [Bool.or_eq_true, Bool.and_eq_true, Bool.or_eq_false_iff, Bool.and_eq_false_iff, decide_eq_true_eq, decide_eq_false_iff_not, Bool.not_eq_true', Bool.not_eq_false', beq_iff_eq, ne_eq, Decidable.not_not, List.length_map] at hg1)
    refine GO3 ?_
    refine AL_nil (grpQ_mk ?_)
    exact WK
  refine AL_norm TN ?_
  refine GO1 ?_
  refine AL_and (j := 8) (n := 3) (c := 11) (t := 14) (r := 15) (v := ?v2) [12, 13, 14] rfl rfl rfl rfl rfl rfl rfl (fun hg2 => ?_) ?_; rotate_left
  · refine GS ?_
    (try simp only [Bool.or_eq_true, Bool.and_eq_true, Bool.or_eq_false_iff, Bool.and_eq_false_iff, decide_eq_true_eq, decide_eq_false_iff_not, Bool.not_eq_true', Bool.not_eq_false', beq_iff_eq, ne_eq, Decidable.not_not, List.length_map] at hg2)
    refine GO1 ?_
    refine AL_callp FEn.h XA (doc_Size_ok d hd) ?_
    refine GO1 ?_
    refine AL_nil (grpQ_mk ?_)
    exact WK
  refine AL_norm TN ?_
  refine GO1 ?_
  refine AL_and (j := 13) (n := 3) (c := 16) (t := 19) (r := 20) (v := ?v3) [17, 18, 19] rfl rfl rfl rfl rfl rfl rfl (fun hg3 => ?_) ?_; rotate_left
  · refine GS ?_
    (try simp only [Bool.or_eq_true, Bool.and_eq_true, Bool.or_eq_false_iff, Bool.and_eq_false_iff, decide_eq_true_eq, decide_eq_false_iff_not, Bool.not_eq_true', Bool.not_eq_false', beq_iff_eq, ne_eq, Decidable.not_not, List.length_map] at hg3)
    refine GO1 ?_
    refine AL_callpi FEn.h XA HS (slices_ContainsFunc_api_Line_api_Line_ok TQ offL d 130 [] (by have := hd.1; omega) FEn.h (fun c hc => doc_May_1_ok c (hd.2 c hc))) ?_
    refine GO1 ?_
    refine AL_nil (grpQ_mk ?_)
    exact WK
  refine AL_norm TN ?_
  refine GO1 ?_
  refine GC3 ?_
  refine retQ_1 (H' := H) (.inr rfl) rfl SU ?_
  refine K_eq ?_ hK
  rw [List.length_map]; exact congrArg (fun b => AV.v (.bool b)) (docOK_mk d)

/-- slices.Clone[[]int,int], what it hands back read from then on. -/
theorem slices_Clone_int_int_fz (zs : List Int) (hz : zs.length ≤ 1000000) : PF Tryz.prog 219 [.sl 3 (zs.map intAV)] (.sl 3 (zs.map intAV)) := fun H K hK => by
  refine AC_frzS 3 (zs.map intAV) (slices_Clone_int_int_ok zs hz H _ fun A c hF => ⟨A, c, hF, by rw [List.length_map], rfl, hK⟩)
/-- slices.Clone[[]quillwork/api.Cell,quillwork/api.Cell], what it hands back read from then on. -/
theorem slices_Clone_api_Cell_api_Cell_fz (zs : List Cell) (hz : zs.length ≤ 1000000) : PF Tryz.prog 220 [.sl 57 (zs.map cellAV)] (.sl 57 (zs.map cellAV)) := fun H K hK => by
  refine AC_frzS 57 (zs.map cellAV) (slices_Clone_api_Cell_api_Cell_ok zs hz H _ fun A c hF => ⟨A, c, hF, by rw [List.length_map], rfl, hK⟩)

end Go.Proofs
