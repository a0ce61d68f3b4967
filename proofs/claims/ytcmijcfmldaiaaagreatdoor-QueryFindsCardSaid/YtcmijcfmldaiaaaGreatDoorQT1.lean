/- The given statement of the law: for every input the law answers true. No conditions of our own. -/
import Derived.Test.YtcmijcfmldaiaaaGreatDoorQK1
import Derived.Test.YtcmijcfmldaiaaaGreatDoorTLp
import Derived.Test.YtcmijcfmldaiaaaGreatDoorProg
set_option autoImplicit false
set_option linter.unusedVariables false
set_option linter.unusedSimpArgs false
set_option maxRecDepth 100000
set_option maxHeartbeats 4000000
namespace Go.Proofs
open Go Go.RowKit Go.AL Go.Tags Go.IntWalk
open Go.Q (TQ)
attribute [local irreducible] AW AL seqQ blockQ retQ loopQ roundQ asgQ grpQ mQ qpost qpostL retQN retQM
instance ze166 : FZe Tryz.prog 166 (.agg #[.slice none 0 0, .int .i64 0, .slice none 0 0, .int .i64 0, .slice none 0 0, .int .i64 0, .slice none 0 0, .int .i64 0, .slice none 0 0, .int .i64 0, .slice none 0 0, .int .i64 0, .slice none 0 0, .int .i64 0, .slice none 0 0, .int .i64 0, .slice none 0 0, .int .i64 0, .slice none 0 0, .int .i64 0, .slice none 0 0, .int .i64 0, .slice none 0 0, .int .i64 0, .slice none 0 0, .int .i64 0, .slice none 0 0, .int .i64 0, .slice none 0 0, .int .i64 0, .slice none 0 0, .int .i64 0, .slice none 0 0, .int .i64 0]) := ⟨by kernel_rfl⟩
instance sz166 : FSz Tryz.prog 166 34 := ⟨by kernel_rfl⟩
instance ze120 : FZe Tryz.prog 120 (.agg #[.slice none 0 0, .int .i64 0]) := ⟨by kernel_rfl⟩
instance un38 : FUn Tryz.prog 38 (.slice 9) := ⟨by kernel_rfl⟩
instance ze9 : FZe Tryz.prog 9 (.string ⟨#[]⟩) := ⟨by kernel_rfl⟩
instance un166 : FUn Tryz.prog 166 (.array 17 120) := ⟨by kernel_rfl⟩
instance sz120 : FSz Tryz.prog 120 2 := ⟨by kernel_rfl⟩
instance ag166 : FAg Tryz.prog 166 true := ⟨by kernel_rfl⟩
instance sz38 : FSz Tryz.prog 38 1 := ⟨by kernel_rfl⟩
instance ag120 : FAg Tryz.prog 120 true := ⟨by kernel_rfl⟩
instance en201 : FEn Tryz.prog 201 := ⟨by kernel_rfl⟩
instance en121 : FEn Tryz.prog 121 := ⟨by kernel_rfl⟩
instance fl120_0 : FFl Tryz.prog 120 0 38 0 := ⟨by kernel_rfl⟩
instance ag38 : FAg Tryz.prog 38 false := ⟨by kernel_rfl⟩
instance un170 : FUn Tryz.prog 170 (.slice 38) := ⟨by kernel_rfl⟩
instance ze38 : FZe Tryz.prog 38 (.slice none 0 0) := ⟨by kernel_rfl⟩
instance en127 : FEn Tryz.prog 127 := ⟨by kernel_rfl⟩
instance en189 : FEn Tryz.prog 189 := ⟨by kernel_rfl⟩
instance un214 : FUn Tryz.prog 214 (.map 9 3) := ⟨by kernel_rfl⟩
instance en251 : FEn Tryz.prog 251 := ⟨by kernel_rfl⟩
instance en252 : FEn Tryz.prog 252 := ⟨by kernel_rfl⟩

/-- quillwork/tags.Line -/
theorem tags_Line_ok (k : Int) :
    PF Tryz.prog 58 [.v (.int .i64 k)] (.tup [.v (.int .i64 (lineOf k)), .v (.bool (lineB k))]) := by
  intro H K hK
  refine AC_of Tryz.func58 rfl (rs := [.tmp 2, .tmp 3]) rfl Tryz.ntmps58 rfl ?_
  refine AW_norm TP ?_
  refine GC2 ?_
  refine GO2 ?_
  refine GC5 ?_
  refine GO3 ?_
  refine AL_or (j := 2) (n := 2) (c := 6) (t := 8) (r := 9) (v := ?v1) [7, 8] rfl rfl rfl rfl rfl rfl rfl (fun hg1 => ?_) ?_; rotate_left
  · refine GS ?_
    (try simp only [Bool.or_eq_true, Bool.and_eq_true, Bool.or_eq_false_iff, Bool.and_eq_false_iff, decide_eq_true_eq, decide_eq_false_iff_not, Bool.not_eq_true', Bool.not_eq_false', beq_iff_eq, ne_eq, Decidable.not_not, List.length_map] at hg1)
    refine GO2 ?_
    refine AL_nil (grpQ_mk ?_)
    exact WK
  refine AL_norm TN ?_
  refine AL_norm TN ?_
  refine GC2 ?_
  refine GI rfl (fun hc2 => ?_) (fun hc2 => ?_)
  ·
    refine GC2 ?_
    refine GO2 ?_
    refine GC4 ?_
    refine retQ_2 (H' := H) (.inr rfl) rfl rfl SU ?_
    refine K_eq ?_ hK
    exact (line_no (by omega)).symm
  ·
    refine GC4 ?_
    refine GO1 ?_
    refine AL_addz rfl rfl (2 + k) (by exact i64_in _ (by omega)) ?_
    refine GO2 ?_
    refine GC3 ?_
    refine retQ_2 (H' := H) (.inr rfl) rfl rfl SU ?_
    refine K_eq ?_ hK
    rw [Int.add_comm]; exact (line_yes (by omega)).symm

/-- quillwork/tags.table -/
theorem tags_table_ok  :
    PF Tryz.prog 201 [] (tagTable) := by
  intro H K hK
  refine AC_of Tryz.func201 rfl (rs := [.cell 0 166]) rfl Tryz.ntmps201 rfl ?_
  refine AW_norm TP ?_
  refine GC2 ?_
  refine AL_alloc FZe.h (.agg (.own (.v (.own (.v (.own (.v (.own (.v (.own (.v (.own (.v (.own (.v (.own (.v (.own (.v (.own (.v (.own (.v (.own (.v (.own (.v (.own (.v (.own (.v (.own (.v (.own (.v .nil))))))))))))))))))))))))))))))))))) rfl FSz.h rfl ?_
  intro b1 hb1
  have hn1 : H b1 = none := SubH.none SU hb1
  refine AL_norm TN ?_
  refine GC4 ?_
  refine AL_build_sf (zs := [_, _]) (pl := [(0, 1), (1, 1)]) Tryz.underlying120 FZe.h (by kernel_rfl) (.cons (.nil (e := 9) rfl) rfl (.cons (.ev rfl) rfl (.nil))) rfl rfl rfl ?_
  refine AL_buildSl FUn.h FSz.h FZe.h rfl (by decide) (by decide) (.cons (.ev rfl) rfl (.nil)) rfl rfl ?_
  refine AL_build_sf (zs := [_, _]) (pl := [(0, 1), (1, 1)]) Tryz.underlying120 FZe.h (by kernel_rfl) (.cons (.ev rfl) rfl (.cons (.ev rfl) rfl (.nil))) rfl rfl rfl ?_
  refine AL_norm TN ?_
  refine AL_buildSl FUn.h FSz.h FZe.h rfl (by decide) (by decide) (.cons (.ev rfl) rfl (.nil)) rfl rfl ?_
  refine AL_build_sf (zs := [_, _]) (pl := [(0, 1), (1, 1)]) Tryz.underlying120 FZe.h (by kernel_rfl) (.cons (.ev rfl) rfl (.cons (.ev rfl) rfl (.nil))) rfl rfl rfl ?_
  refine AL_buildSl FUn.h FSz.h FZe.h rfl (by decide) (by decide) (.cons (.ev rfl) rfl (.nil)) rfl rfl ?_
  refine AL_build_sf (zs := [_, _]) (pl := [(0, 1), (1, 1)]) Tryz.underlying120 FZe.h (by kernel_rfl) (.cons (.ev rfl) rfl (.cons (.ev rfl) rfl (.nil))) rfl rfl rfl ?_
  refine AL_norm TN ?_
  refine AL_buildSl FUn.h FSz.h FZe.h rfl (by decide) (by decide) (.cons (.ev rfl) rfl (.nil)) rfl rfl ?_
  refine AL_build_sf (zs := [_, _]) (pl := [(0, 1), (1, 1)]) Tryz.underlying120 FZe.h (by kernel_rfl) (.cons (.ev rfl) rfl (.cons (.ev rfl) rfl (.nil))) rfl rfl rfl ?_
  refine AL_buildSl FUn.h FSz.h FZe.h rfl (by decide) (by decide) (.cons (.ev rfl) rfl (.nil)) rfl rfl ?_
  refine AL_build_sf (zs := [_, _]) (pl := [(0, 1), (1, 1)]) Tryz.underlying120 FZe.h (by kernel_rfl) (.cons (.ev rfl) rfl (.cons (.ev rfl) rfl (.nil))) rfl rfl rfl ?_
  refine AL_norm TN ?_
  refine AL_buildSl FUn.h FSz.h FZe.h rfl (by decide) (by decide) (.cons (.ev rfl) rfl (.nil)) rfl rfl ?_
  refine AL_build_sf (zs := [_, _]) (pl := [(0, 1), (1, 1)]) Tryz.underlying120 FZe.h (by kernel_rfl) (.cons (.ev rfl) rfl (.cons (.ev rfl) rfl (.nil))) rfl rfl rfl ?_
  refine AL_buildSl FUn.h FSz.h FZe.h rfl (by decide) (by decide) (.cons (.ev rfl) rfl (.nil)) rfl rfl ?_
  refine AL_build_sf (zs := [_, _]) (pl := [(0, 1), (1, 1)]) Tryz.underlying120 FZe.h (by kernel_rfl) (.cons (.ev rfl) rfl (.cons (.ev rfl) rfl (.nil))) rfl rfl rfl ?_
  refine AL_norm TN ?_
  refine AL_buildSl FUn.h FSz.h FZe.h rfl (by decide) (by decide) (.cons (.ev rfl) rfl (.nil)) rfl rfl ?_
  refine AL_build_sf (zs := [_, _]) (pl := [(0, 1), (1, 1)]) Tryz.underlying120 FZe.h (by kernel_rfl) (.cons (.ev rfl) rfl (.cons (.ev rfl) rfl (.nil))) rfl rfl rfl ?_
  refine AL_buildSl FUn.h FSz.h FZe.h rfl (by decide) (by decide) (.cons (.ev rfl) rfl (.nil)) rfl rfl ?_
  refine AL_build_sf (zs := [_, _]) (pl := [(0, 1), (1, 1)]) Tryz.underlying120 FZe.h (by kernel_rfl) (.cons (.ev rfl) rfl (.cons (.ev rfl) rfl (.nil))) rfl rfl rfl ?_
  refine AL_norm TN ?_
  refine AL_buildSl FUn.h FSz.h FZe.h rfl (by decide) (by decide) (.cons (.ev rfl) rfl (.nil)) rfl rfl ?_
  refine AL_build_sf (zs := [_, _]) (pl := [(0, 1), (1, 1)]) Tryz.underlying120 FZe.h (by kernel_rfl) (.cons (.ev rfl) rfl (.cons (.ev rfl) rfl (.nil))) rfl rfl rfl ?_
  refine AL_buildSl FUn.h FSz.h FZe.h rfl (by decide) (by decide) (.cons (.ev rfl) rfl (.cons (.ev rfl) rfl (.nil))) rfl rfl ?_
  refine AL_build_sf (zs := [_, _]) (pl := [(0, 1), (1, 1)]) Tryz.underlying120 FZe.h (by kernel_rfl) (.cons (.ev rfl) rfl (.cons (.ev rfl) rfl (.nil))) rfl rfl rfl ?_
  refine AL_norm TN ?_
  refine AL_buildSl FUn.h FSz.h FZe.h rfl (by decide) (by decide) (.cons (.ev rfl) rfl (.cons (.ev rfl) rfl (.nil))) rfl rfl ?_
  refine AL_build_sf (zs := [_, _]) (pl := [(0, 1), (1, 1)]) Tryz.underlying120 FZe.h (by kernel_rfl) (.cons (.ev rfl) rfl (.cons (.ev rfl) rfl (.nil))) rfl rfl rfl ?_
  refine AL_buildSl FUn.h FSz.h FZe.h rfl (by decide) (by decide) (.cons (.ev rfl) rfl (.cons (.ev rfl) rfl (.nil))) rfl rfl ?_
  refine AL_build_sf (zs := [_, _]) (pl := [(0, 1), (1, 1)]) Tryz.underlying120 FZe.h (by kernel_rfl) (.cons (.ev rfl) rfl (.cons (.ev rfl) rfl (.nil))) rfl rfl rfl ?_
  refine AL_norm TN ?_
  refine AL_buildSl FUn.h FSz.h FZe.h rfl (by decide) (by decide) (.cons (.ev rfl) rfl (.cons (.ev rfl) rfl (.cons (.ev rfl) rfl (.nil)))) rfl rfl ?_
  refine AL_build_sf (zs := [_, _]) (pl := [(0, 1), (1, 1)]) Tryz.underlying120 FZe.h (by kernel_rfl) (.cons (.ev rfl) rfl (.cons (.ev rfl) rfl (.nil))) rfl rfl rfl ?_
  refine AL_buildSl FUn.h FSz.h FZe.h rfl (by decide) (by decide) (.cons (.ev rfl) rfl (.nil)) rfl rfl ?_
  refine AL_build_sf (zs := [_, _]) (pl := [(0, 1), (1, 1)]) Tryz.underlying120 FZe.h (by kernel_rfl) (.cons (.ev rfl) rfl (.cons (.ev rfl) rfl (.nil))) rfl rfl rfl ?_
  refine AL_norm TN ?_
  refine AL_buildSl FUn.h FSz.h FZe.h rfl (by decide) (by decide) (.cons (.ev rfl) rfl (.nil)) rfl rfl ?_
  refine AL_build_sf (zs := [_, _]) (pl := [(0, 1), (1, 1)]) Tryz.underlying120 FZe.h (by kernel_rfl) (.cons (.ev rfl) rfl (.cons (.ev rfl) rfl (.nil))) rfl rfl rfl ?_
  refine AL_build_af (zs := [_, _, _, _, _, _, _, _, _, _, _, _, _, _, _, _, _, _, _, _, _, _, _, _, _, _, _, _, _, _, _, _, _, _]) FUn.h FZe.h FSz.h (.cons (.ev rfl) rfl (.cons (.ev rfl) rfl (.cons (.ev rfl) rfl (.cons (.ev rfl) rfl (.cons (.ev rfl) rfl (.cons (.ev rfl) rfl (.cons (.ev rfl) rfl (.cons (.ev rfl) rfl (.cons (.ev rfl) rfl (.cons (.ev rfl) rfl (.cons (.ev rfl) rfl (.cons (.ev rfl) rfl (.cons (.ev rfl) rfl (.cons (.ev rfl) rfl (.cons (.ev rfl) rfl (.cons (.ev rfl) rfl (.cons (.ev rfl) rfl (.nil)))))))))))))))))) rfl rfl rfl ?_
  refine GW ?_
  refine AL_norm TN ?_
  refine GC3 ?_
  first | refine retQ_cw (H' := H) (.inr rfl) FSz.h rfl LK (by exact FAg.h) (by exact rfl) SU ?_ | refine retQ_c (H' := H) (.inr rfl) FAg.h FSz.h FSz.h (by decide) rfl LK (by exact rfl) (by exact rfl) (by exact rfl) SU ?_
  refine K_eq ?_ hK
  rfl

/-- quillwork/tags.of -/
theorem tags_of_ok (k : Int) :
    PF Tryz.prog 121 [.v (.int .i64 k)] (tagRow k) := by
  intro H K hK
  refine AC_of Tryz.func121 rfl (rs := [.cell 2 120]) rfl Tryz.ntmps121 rfl ?_
  refine AW_norm TP ?_
  refine GC2 ?_
  refine AL_alloc FZe.h (.agg (.own (.v .nil))) rfl FSz.h rfl ?_
  intro b1 hb1
  have hn1 : H b1 = none := SubH.none SU hb1
  refine AL_norm TN ?_
  refine GC5 ?_
  refine GO3 ?_
  refine AL_or (j := 2) (n := 2) (c := 5) (t := 7) (r := 8) (v := ?v1) [6, 7] rfl rfl rfl rfl rfl rfl rfl (fun hg1 => ?_) ?_; rotate_left
  · refine GS ?_
    (try simp only [Bool.or_eq_true, Bool.and_eq_true, Bool.or_eq_false_iff, Bool.and_eq_false_iff, decide_eq_true_eq, decide_eq_false_iff_not, Bool.not_eq_true', Bool.not_eq_false', beq_iff_eq, ne_eq, Decidable.not_not, List.length_map] at hg1)
    refine GO2 ?_
    refine AL_nil (grpQ_mk ?_)
    exact WK
  refine AL_norm TN ?_
  refine AL_norm TN ?_
  refine GC2 ?_
  refine GI rfl (fun hc2 => ?_) (fun hc2 => ?_)
  ·
    refine GC2 ?_
    refine AL_build_struct (zs := [_, _]) (pl := [(0, 1), (1, 1)]) Tryz.underlying120 FZe.h (.sl (e := 9) (.v .nil)) (by kernel_rfl) (.nil) rfl ?_
    refine GW ?_
    refine AL_norm TN ?_
    refine GC4 ?_
    first | refine retQ_cw (H' := H) (.inr rfl) FSz.h rfl LK (by exact FAg.h) (by exact rfl) SU ?_ | refine retQ_c (H' := H) (.inr rfl) FAg.h FSz.h FSz.h (by decide) rfl LK (by exact rfl) (by exact rfl) (by exact rfl) SU ?_
    refine K_eq ?_ hK
    exact (row_out (by omega)).symm
  ·
    refine GC4 ?_
    refine AL_callp FEn.h XA (tags_table_ok) ?_
    refine AL_norm TN ?_
    refine GO1 ?_
    refine AL_index_arr (y := tagRow k) FUn.h FAg.h FSz.h rfl rfl ?_ ?_ ?_ ?_
    · omega
    · omega
    · exact row_at (by omega) (by omega)
    refine GW ?_
    refine AL_norm TN ?_
    refine GC3 ?_
    first | refine retQ_cw (H' := H) (.inr rfl) FSz.h rfl LK (by exact FAg.h) (by exact rfl) SU ?_ | refine retQ_c (H' := H) (.inr rfl) FAg.h FSz.h FSz.h (by decide) rfl LK (by exact rfl) (by exact rfl) (by exact rfl) SU ?_
    refine K_eq ?_ hK
    rfl

/-- quillwork/tags.Name -/
theorem tags_Name_ok (k : Int) :
    PF Tryz.prog 59 [.v (.int .i64 k)] (.v (.string (nameOf k))) := by
  intro H K hK
  refine AC_of Tryz.func59 rfl (rs := [.tmp 2]) rfl Tryz.ntmps59 rfl ?_
  refine AW_norm TP ?_
  refine GC2 ?_
  refine GO1 ?_
  refine GC5 ?_
  refine GO1 ?_
  refine AL_callp FEn.h XA (tags_of_ok _) ?_
  refine GO2 ?_
  refine GC4 ?_
  refine GO3 ?_
  refine GC2 ?_
  refine GI rfl (fun hc1 => ?_) (fun hc1 => ?_)
  ·
    refine GC2 ?_
    refine GO1 ?_
    first | refine AL_indexAddr_sl (y := strAV ((nm k).getD 0 ⟨#[]⟩)) FUn.h FSz.h (by decide) rfl rfl ?_ ?_ ?_ ?_ | refine AL_indexAddr_own FUn.h FSz.h rfl rfl ?_ ?_ ?_
    · omega
    · simp only [List.length_map]; omega
    · exact map_at (n := 0) (by omega)
    refine GO2 ?_
    refine GC4 ?_
    refine retQ_1 (H' := H) (.inr rfl) rfl SU ?_
    refine K_eq ?_ hK
    exact congrArg strAV (headD_get _)
  ·
    refine GC4 ?_
    refine GO1 ?_
    refine GC3 ?_
    refine retQ_1 (H' := H) (.inr rfl) rfl SU ?_
    refine K_eq ?_ hK
    have : nm k = [] := List.length_eq_zero_iff.1 (by omega); unfold nameOf; rw [this]; rfl

/-- quillwork/tags.Heading -/
theorem tags_Heading_ok (k : Int) :
    PF Tryz.prog 164 [.v (.int .i64 k)] (.v (.int .i64 (headOf k))) := by
  intro H K hK
  refine AC_of Tryz.func164 rfl (rs := [.tmp 2]) rfl Tryz.ntmps164 rfl ?_
  refine AW_norm TP ?_
  refine GC2 ?_
  refine GO1 ?_
  refine GC5 ?_
  refine GO3 ?_
  refine AL_and (j := 2) (n := 2) (c := 5) (t := 7) (r := 8) (v := ?v1) [6, 7] rfl rfl rfl rfl rfl rfl rfl (fun hg1 => ?_) ?_; rotate_left
  · refine GS ?_
    (try simp only [Bool.or_eq_true, Bool.and_eq_true, Bool.or_eq_false_iff, Bool.and_eq_false_iff, decide_eq_true_eq, decide_eq_false_iff_not, Bool.not_eq_true', Bool.not_eq_false', beq_iff_eq, ne_eq, Decidable.not_not, List.length_map] at hg1)
    refine GO2 ?_
    refine AL_nil (grpQ_mk ?_)
    exact WK
  refine AL_norm TN ?_
  refine AL_norm TN ?_
  refine GC2 ?_
  refine GI rfl (fun hc2 => ?_) (fun hc2 => ?_)
  ·
    refine GC2 ?_
    refine GO1 ?_
    refine AL_subz rfl rfl (k - 3) (by exact i64_in _ (by omega)) ?_
    refine AL_norm TN ?_
    refine AL_addz rfl rfl (k - 2) (by rw [show k - 3 + 1 = k - 2 by omega]; exact i64_in _ (by omega)) ?_
    refine GO1 ?_
    refine GC4 ?_
    refine retQ_1 (H' := H) (.inr rfl) rfl SU ?_
    refine K_eq ?_ hK
    rw [headOf, if_pos (by omega)]
  ·
    refine GC4 ?_
    refine GO1 ?_
    refine GC3 ?_
    refine retQ_1 (H' := H) (.inr rfl) rfl SU ?_
    refine K_eq ?_ hK
    rw [headOf, if_neg (by omega)]

/-- quillwork/quillworkref02.Names -/
theorem quillworkref02_Names_ok (k : Int) :
    PF Tryz.prog 127 [.v (.int .i64 k)] (.sl 9 ((nm k).map strAV)) := by
  intro H K hK
  refine AC_niled (e := 9) ?_
  refine AC_of Tryz.func127 rfl (rs := [.tmp 2]) rfl Tryz.ntmps127 rfl ?_
  refine AW_norm TP ?_
  refine GC2 ?_
  refine GO1 ?_
  refine GC4 ?_
  refine AL_buildSl FUn.h FSz.h FZe.h rfl (by decide) (by decide) (.cons (.ev rfl) rfl (.nil)) rfl rfl ?_
  refine AL_buildSl FUn.h FSz.h FZe.h rfl (by decide) (by decide) (.cons (.ev rfl) rfl (.nil)) rfl rfl ?_
  refine AL_buildSl FUn.h FSz.h FZe.h rfl (by decide) (by decide) (.cons (.ev rfl) rfl (.nil)) rfl rfl ?_
  refine AL_norm TN ?_
  refine AL_buildSl FUn.h FSz.h FZe.h rfl (by decide) (by decide) (.cons (.ev rfl) rfl (.nil)) rfl rfl ?_
  refine AL_buildSl FUn.h FSz.h FZe.h rfl (by decide) (by decide) (.cons (.ev rfl) rfl (.nil)) rfl rfl ?_
  refine AL_buildSl FUn.h FSz.h FZe.h rfl (by decide) (by decide) (.cons (.ev rfl) rfl (.nil)) rfl rfl ?_
  refine AL_buildSl FUn.h FSz.h FZe.h rfl (by decide) (by decide) (.cons (.ev rfl) rfl (.nil)) rfl rfl ?_
  refine AL_norm TN ?_
  refine AL_buildSl FUn.h FSz.h FZe.h rfl (by decide) (by decide) (.cons (.ev rfl) rfl (.nil)) rfl rfl ?_
  refine AL_buildSl FUn.h FSz.h FZe.h rfl (by decide) (by decide) (.cons (.ev rfl) rfl (.nil)) rfl rfl ?_
  refine AL_buildSl FUn.h FSz.h FZe.h rfl (by decide) (by decide) (.cons (.ev rfl) rfl (.nil)) rfl rfl ?_
  refine AL_buildSl FUn.h FSz.h FZe.h rfl (by decide) (by decide) (.cons (.ev rfl) rfl (.cons (.ev rfl) rfl (.nil))) rfl rfl ?_
  refine AL_norm TN ?_
  refine AL_buildSl FUn.h FSz.h FZe.h rfl (by decide) (by decide) (.cons (.ev rfl) rfl (.cons (.ev rfl) rfl (.nil))) rfl rfl ?_
  refine AL_buildSl FUn.h FSz.h FZe.h rfl (by decide) (by decide) (.cons (.ev rfl) rfl (.cons (.ev rfl) rfl (.nil))) rfl rfl ?_
  refine AL_buildSl FUn.h FSz.h FZe.h rfl (by decide) (by decide) (.cons (.ev rfl) rfl (.cons (.ev rfl) rfl (.cons (.ev rfl) rfl (.nil)))) rfl rfl ?_
  refine AL_buildSl FUn.h FSz.h FZe.h rfl (by decide) (by decide) (.cons (.ev rfl) rfl (.nil)) rfl rfl ?_
  refine AL_norm TN ?_
  refine AL_buildSl FUn.h FSz.h FZe.h rfl (by decide) (by decide) (.cons (.ev rfl) rfl (.nil)) rfl rfl ?_
  refine AL_buildSl FUn.h FSz.h FZe.h rfl (by decide) (by decide) (.cons (.nil (e := 9) rfl) rfl (.cons (.ev rfl) rfl (.cons (.ev rfl) rfl (.cons (.ev rfl) rfl (.cons (.ev rfl) rfl (.cons (.ev rfl) rfl (.cons (.ev rfl) rfl (.cons (.ev rfl) rfl (.cons (.ev rfl) rfl (.cons (.ev rfl) rfl (.cons (.ev rfl) rfl (.cons (.ev rfl) rfl (.cons (.ev rfl) rfl (.cons (.ev rfl) rfl (.cons (.ev rfl) rfl (.cons (.ev rfl) rfl (.cons (.ev rfl) rfl (.nil)))))))))))))))))) rfl rfl ?_
  refine GO1 ?_
  refine GC5 ?_
  refine GO3 ?_
  refine AL_or (j := 2) (n := 2) (c := 23) (t := 25) (r := 26) (v := ?v1) [24, 25] rfl rfl rfl rfl rfl rfl rfl (fun hg1 => ?_) ?_; rotate_left
  · refine GS ?_
    (try simp only [Bool.or_eq_true, Bool.and_eq_true, Bool.or_eq_false_iff, Bool.and_eq_false_iff, decide_eq_true_eq, decide_eq_false_iff_not, Bool.not_eq_true', Bool.not_eq_false', beq_iff_eq, ne_eq, Decidable.not_not, List.length_map] at hg1)
    refine GO2 ?_
    refine AL_nil (grpQ_mk ?_)
    exact WK
  refine AL_norm TN ?_
  refine AL_norm TN ?_
  refine GC2 ?_
  refine GI rfl (fun hc2 => ?_) (fun hc2 => ?_)
  ·
    refine GC2 ?_
    refine GO1 ?_
    refine GC4 ?_
    refine retQ_1 (H' := H) (.inr rfl) rfl SU ?_
    exact .inr ⟨rfl, by rw [nm_out hc2] at hK; exact hK⟩
  ·
    refine GC4 ?_
    refine GO2 ?_
    first | refine AL_indexAddr_sl (y := .sl 9 ((nm k).map strAV)) FUn.h FSz.h (by decide) rfl rfl ?_ ?_ ?_ ?_ | refine AL_indexAddr_own FUn.h FSz.h rfl rfl ?_ ?_ ?_
    · omega
    · simp only [List.length_cons, List.length_nil]; omega
    · exact names_at (by omega) (by omega)
    refine GO2 ?_
    refine GC3 ?_
    refine retQ_1 (H' := H) (.inr rfl) rfl SU ?_
    exact .inl hK

/-- quillwork/quillworkref02.Name -/
theorem quillworkref02_Name_ok (k : Int) :
    PF Tryz.prog 62 [.v (.int .i64 k)] (.v (.string (nameOf k))) := by
  intro H K hK
  refine AC_of Tryz.func62 rfl (rs := [.tmp 2]) rfl Tryz.ntmps62 rfl ?_
  refine AW_norm TP ?_
  refine GC2 ?_
  refine GO1 ?_
  refine GC4 ?_
  refine GO1 ?_
  refine AL_callp FEn.h XA (quillworkref02_Names_ok _) ?_
  refine GO1 ?_
  refine GC5 ?_
  refine GO3 ?_
  refine GC2 ?_
  refine GI rfl (fun hc1 => ?_) (fun hc1 => ?_)
  ·
    refine GC2 ?_
    refine GO1 ?_
    refine GC4 ?_
    refine retQ_1 (H' := H) (.inr rfl) rfl SU ?_
    refine K_eq ?_ hK
    have : nm k = [] := List.length_eq_zero_iff.1 (by omega); unfold nameOf; rw [this]; rfl
  ·
    refine GC4 ?_
    refine GO1 ?_
    first | refine AL_indexAddr_sl (y := strAV ((nm k).getD 0 ⟨#[]⟩)) FUn.h FSz.h (by decide) rfl rfl ?_ ?_ ?_ ?_ | refine AL_indexAddr_own FUn.h FSz.h rfl rfl ?_ ?_ ?_
    · omega
    · simp only [List.length_map]; omega
    · exact map_at (n := 0) (by omega)
    refine GO2 ?_
    refine GC3 ?_
    refine retQ_1 (H' := H) (.inr rfl) rfl SU ?_
    refine K_eq ?_ hK
    exact congrArg strAV (headD_get _)

/-- quillwork/quillworkref02.same -/
theorem quillworkref02_same_ok (s n : ByteArray) (hs : s.size < 35184372088832) :
    PF Tryz.prog 189 [.v (.string s), .v (.string n)] (.v (.bool (sameB s n))) := by
  intro H K hK
  refine AC_of Tryz.func189 rfl (rs := [.tmp 4]) rfl Tryz.ntmps189 rfl ?_
  refine AW_norm TP ?_
  refine GC2 ?_
  refine GO1 ?_
  refine GC5 ?_
  refine GO5 ?_
  refine GC2 ?_
  refine GI rfl (fun hc1 => ?_) (fun hc1 => ?_)
  ·
    refine GC2 ?_
    refine GO1 ?_
    refine GC4 ?_
    refine retQ_1 (H' := H) (.inr rfl) rfl SU ?_
    refine K_eq ?_ hK
    exact congrArg (fun b => AV.v (.bool b)) (same_size (by omega)).symm
  ·
    refine GC5 ?_
    refine GO1 ?_
    refine GC2 ?_
    refine AW_block ?_
    refine AW_loops (α := Nat) [4, 5, 6, 12, 13, 14, 15, 16, 17, 18, 19, 20, 21, 22, 23, 24, 25, 26, 27, 28, 29, 30, 31, 32, 33] (fun i => [(5, .v (.int .i64 (i : Int)))]) (fun i => H) (fun i => i ≤ s.size ∧ ∀ j, j < i → lowR ((bAt s j).toNat : Int) = ((bAt n j).toNat : Int)) (fun i => s.size - i) (0) ?_ ?_ ?_ ?_
    · exact ⟨Nat.zero_le _, fun j hj => absurd hj (Nat.not_lt_zero j)⟩
    · repeat (first | exact SubH.refl _ | assumption | refine SubH.new ?_ (by assumption))
    · skip
      exact WK
    · intro i hI
      refine AW_norm TN ?_
      refine GC3 ?_
      refine GO4 ?_
      refine GC2 ?_
      refine GI rfl (fun hc2 => ?_) (fun hc2 => ?_)
      ·
        refine GC3 ?_
        refine AW_block ?_
        refine GC2 ?_
        refine GO2 ?_
        first | refine AL_index_strn FUn.h rfl rfl ?_ ?_ ?_ | refine AL_index_strb FUn.h rfl rfl ?_ ?_ ?_
        · omega
        · omega
        refine GO1 ?_
        refine GC5 ?_
        refine GO3 ?_
        refine AL_and (j := 2) (n := 2) (c := 23) (t := 25) (r := 26) (v := ?v3) [24, 25] rfl rfl rfl rfl rfl rfl rfl (fun hg3 => ?_) ?_; rotate_left
        · refine GS ?_
          (try simp only [Bool.or_eq_true, Bool.and_eq_true, Bool.or_eq_false_iff, Bool.and_eq_false_iff, decide_eq_true_eq, decide_eq_false_iff_not, Bool.not_eq_true', Bool.not_eq_false', beq_iff_eq, ne_eq, Decidable.not_not, List.length_map] at hg3)
          refine GO2 ?_
          refine AL_nil (grpQ_mk ?_)
          exact WK
        refine AL_norm TN ?_
        refine AL_norm TN ?_
        refine GC2 ?_
        refine GI rfl (fun hc4 => ?_) (fun hc4 => ?_)
        ·
          refine GC1 ?_
          refine GO1 ?_
          refine AL_addz rfl rfl (lowR ((bAt s i).toNat : Int)) (by rw [lowR, if_pos (by omega)]; exact u8_in _ (by omega)) ?_
          refine GO1 ?_
          refine GC4 ?_
          refine GO3 ?_
          first | refine AL_index_strn FUn.h rfl rfl ?_ ?_ ?_ | refine AL_index_strb FUn.h rfl rfl ?_ ?_ ?_
          · omega
          · omega
          refine GO1 ?_
          refine GC2 ?_
          refine GI rfl (fun hc5 => ?_) (fun hc5 => ?_)
          ·
            refine GC2 ?_
            refine GO1 ?_
            refine GC5 ?_
            refine loopQ_r ?_
            refine GC2 ?_
            refine retQ_1 (H' := H) (.inr rfl) rfl SU ?_
            refine K_eq ?_ hK
            exact congrArg (fun b => AV.v (.bool b)) (same_byte (i := i) (by omega) hc5).symm
          ·
            refine GC4 ?_
            refine GO1 ?_
            refine AL_addz rfl rfl (((i + 1 : Nat) : Int)) (by exact inc64 (by omega)) ?_
            refine GO1 ?_
            refine GC1 ?_
            refine loopQ_n (i + 1) ?_ ?_ ?_ ?_
            · exact ⟨by omega, fun j hj => by rcases Nat.lt_or_ge j i with h | h; exact hI.2 j h; rw [show j = i by omega]; exact hc5⟩
            · omega
            · repeat (first | exact SubH.refl _ | assumption | refine SubH.new ?_ (by assumption))
            · skip
              exact WK
        ·
          refine GC4 ?_
          refine GO3 ?_
          first | refine AL_index_strn FUn.h rfl rfl ?_ ?_ ?_ | refine AL_index_strb FUn.h rfl rfl ?_ ?_ ?_
          · omega
          · omega
          refine GO1 ?_
          refine GC2 ?_
          refine GI rfl (fun hc6 => ?_) (fun hc6 => ?_)
          ·
            refine GC2 ?_
            refine GO1 ?_
            refine GC5 ?_
            refine loopQ_r ?_
            refine GC2 ?_
            refine retQ_1 (H' := H) (.inr rfl) rfl SU ?_
            refine K_eq ?_ hK
            exact congrArg (fun b => AV.v (.bool b)) (same_byte (i := i) (by omega) (by rw [low_not (by omega)]; exact hc6)).symm
          ·
            refine GC4 ?_
            refine GO1 ?_
            refine AL_addz rfl rfl (((i + 1 : Nat) : Int)) (by exact inc64 (by omega)) ?_
            refine GO1 ?_
            refine GC1 ?_
            refine loopQ_n (i + 1) ?_ ?_ ?_ ?_
            · exact ⟨by omega, fun j hj => by rcases Nat.lt_or_ge j i with h | h; exact hI.2 j h; rw [show j = i by omega]; rw [low_not (by omega)]; exact hc6⟩
            · omega
            · repeat (first | exact SubH.refl _ | assumption | refine SubH.new ?_ (by assumption))
            · skip
              exact WK
      ·
        refine GC2 ?_
        refine loopQ_x ?_
        refine GC4 ?_
        refine GO1 ?_
        refine GC3 ?_
        refine retQ_1 (H' := H) (.inr rfl) rfl SU ?_
        refine K_eq ?_ hK
        exact congrArg (fun b => AV.v (.bool b)) (same_all (by omega) (fun j hj => hI.2 j (by omega))).symm

/-- quillwork/quillworkref02.Find -/
theorem quillworkref02_Find_ok (x : ByteArray) (hs : x.size < 35184372088832) :
    PF Tryz.prog 108 [.v (.string x)] (findAV (refFind x)) := by
  intro H K hK
  refine AC_of Tryz.func108 rfl (rs := [.tmp 2, .tmp 3]) rfl Tryz.ntmps108 rfl ?_
  refine AW_norm TP ?_
  refine GC2 ?_
  refine GO2 ?_
  refine GC5 ?_
  refine GO1 ?_
  refine GC2 ?_
  refine AW_block ?_
  refine AW_loops (α := Nat) [2, 3, 4, 5, 6, 7, 8, 9, 10, 11, 12, 13, 14, 15, 16, 17, 18, 19, 20, 21, 22, 23, 24, 25] (fun s => [(4, .v (.int .i64 (s : Int)))]) (fun s => H) (fun s => 1 ≤ s ∧ s ≤ 17 ∧ ∀ j, 1 ≤ j → j < s → hits x j = false) (fun s => 17 - s) (1) ?_ ?_ ?_ ?_
  · exact ⟨Nat.le_refl _, by omega, fun j h1 h2 => absurd h2 (by omega)⟩
  · repeat (first | exact SubH.refl _ | assumption | refine SubH.new ?_ (by assumption))
  · skip
    exact WK
  · intro k hI
    refine AW_norm TN ?_
    refine GC3 ?_
    refine GO2 ?_
    refine GC2 ?_
    refine GI rfl (fun hc1 => ?_) (fun hc1 => ?_)
    ·
      refine GC3 ?_
      refine AW_block ?_
      refine GC2 ?_
      refine GO1 ?_
      refine AL_callp FEn.h XA (quillworkref02_Names_ok _) ?_
      refine GO1 ?_
      refine GC4 ?_
      refine GO1 ?_
      refine GC2 ?_
      refine AW_block ?_
      refine AW_loops (α := Nat) [2, 3, 6, 13, 14, 15, 16, 17, 18, 19, 20, 21, 22, 23, 24, 25] (fun s => [(6, .v (.int .i64 (s : Int)))]) (fun s => H) (fun s => s ≤ (nm k).length ∧ ∀ j, j < s → sameB x ((nm k).getD j ⟨#[]⟩) = false) (fun s => (nm k).length - s) (0) ?_ ?_ ?_ ?_
      · exact ⟨Nat.zero_le _, fun j hj => absurd hj (Nat.not_lt_zero j)⟩
      · repeat (first | exact SubH.refl _ | assumption | refine SubH.new ?_ (by assumption))
      · skip
        exact WK
      · intro i hJ; have hl3 := nm_len k
        refine AW_norm TN ?_
        refine GC3 ?_
        refine GO4 ?_
        refine GC2 ?_
        refine GI rfl (fun hc2 => ?_) (fun hc2 => ?_)
        ·
          refine GC3 ?_
          refine AW_block ?_
          refine GC2 ?_
          refine GO3 ?_
          first | refine AL_indexAddr_sl (y := strAV ((nm k).getD i ⟨#[]⟩)) FUn.h FSz.h (by decide) rfl rfl ?_ ?_ ?_ ?_ | refine AL_indexAddr_own FUn.h FSz.h rfl rfl ?_ ?_ ?_
          · omega
          · simp only [List.length_map]; omega
          · exact map_at (n := i) (by omega)
          refine GO1 ?_
          refine AL_callp FEn.h XA (quillworkref02_same_ok _ _ hs) ?_
          refine AL_norm TN ?_
          refine GC2 ?_
          refine GI rfl (fun hc3 => ?_) (fun hc3 => ?_)
          ·
            refine GC2 ?_
            refine GO3 ?_
            refine GC5 ?_
            refine loopQ_r ?_
            refine GC3 ?_
            refine loopQ_r ?_
            refine GC2 ?_
            refine retQ_2 (H' := H) (.inr rfl) rfl rfl SU ?_
            refine K_eq ?_ hK
            exact congrArg findAV (refFind_some hI.1 (by omega) hI.2.2 (by omega) hc3).symm
          ·
            refine GC4 ?_
            refine GO1 ?_
            refine AL_addz rfl rfl (((i + 1 : Nat) : Int)) (by exact inc64 (by omega)) ?_
            refine GO1 ?_
            refine GC1 ?_
            refine loopQ_n (i + 1) ?_ ?_ ?_ ?_
            · exact ⟨by omega, upto_no hJ.2 hc3⟩
            · omega
            · repeat (first | exact SubH.refl _ | assumption | refine SubH.new ?_ (by assumption))
            · skip
              exact WK
        ·
          refine GC2 ?_
          refine loopQ_x ?_
          refine GC4 ?_
          refine GO1 ?_
          refine AL_addz rfl rfl (((k + 1 : Nat) : Int)) (by exact inc64 (by omega)) ?_
          refine AL_norm TN ?_
          refine GO1 ?_
          refine GC1 ?_
          refine loopQ_n (k + 1) ?_ ?_ ?_ ?_
          · exact ⟨by omega, by omega, fun j h1 h2 => by rcases Nat.lt_or_ge j k with h | h; exact hI.2.2 j h1 h; rw [show j = k by omega]; exact hits_no (i := i) (by omega) hJ.2⟩
          · omega
          · repeat (first | exact SubH.refl _ | assumption | refine SubH.new ?_ (by assumption))
          · skip
            exact WK
    ·
      refine GC2 ?_
      refine loopQ_x ?_
      refine GC4 ?_
      refine GO2 ?_
      refine GC3 ?_
      refine retQ_2 (H' := H) (.inr rfl) rfl rfl SU ?_
      refine K_eq ?_ hK
      exact congrArg findAV (refFind_none (fun j h1 h2 => hI.2.2 j h1 (by omega))).symm

/-- quillwork/tags.names -/
theorem tags_names_ok  :
    ∀ H (K : AV → AH → Prop), (∀ b, H b = none → K (.v (.map (some b))) (H.upd b (some (.raw (mapObj namesMap))))) → AC Tryz.prog 251 [] H K := by
  intro H K hK
  refine AC_of Tryz.func251 rfl (rs := [.tmp 0]) rfl Tryz.ntmps251 rfl ?_
  refine AW_norm TP ?_
  refine GC2 ?_
  refine GO1 ?_
  refine GC4 ?_
  refine AL_makeMap ?_
  intro b1 hb1
  have hn1 : H b1 = none := SubH.none SU hb1
  refine GO1 ?_
  refine GC5 ?_
  refine AL_callp FEn.h XA (tags_table_ok) ?_
  refine AL_norm TN ?_
  refine GO1 ?_
  refine GC2 ?_
  refine AW_block ?_
  refine AW_loops (α := Nat) [2, 3, 5, 8, 9, 10, 11, 12, 13, 14, 15, 16, 17, 18, 19, 20, 21, 22, 23] (fun s => [(8, .v (.int .i64 (s : Int)))]) (fun s => H.upd b1 (some (.raw (mapObj (upto s))))) (fun s => s ≤ 17) (fun s => 17 - s) (0) ?_ ?_ ?_ ?_
  · exact Nat.zero_le _
  · repeat (first | exact SubH.refl _ | assumption | refine SubH.new ?_ (by assumption))
  · skip
    exact WK
  · intro k hI
    refine AW_norm TN ?_
    refine GC2 ?_
    refine GO1 ?_
    refine GC3 ?_
    refine GI rfl (fun hc1 => ?_) (fun hc1 => ?_)
    ·
      refine GC3 ?_
      refine AW_block ?_
      refine GC2 ?_
      refine GO1 ?_
      refine AL_index_arr (y := tagRow k) FUn.h FAg.h FSz.h rfl rfl ?_ ?_ ?_ ?_
      · omega
      · omega
      · exact row_at (k := (k : Int)) (by omega) (by omega)
      refine AL_norm TN ?_
      refine AL_alloc FZe.h (.agg (.own (.v .nil))) rfl FSz.h rfl ?_
      intro b2 hb2
      have hn2 : H b2 = none := SubH.none SU hb2
      have hd2_1 : b2 ≠ b1 := AH.fresh_ne hb2 LK
      have hd1_2 : b1 ≠ b2 := Ne.symm hd2_1
      refine GO1 ?_
      refine GW ?_
      refine AL_norm TN ?_
      refine GC4 ?_
      refine GO4 ?_
      refine GC2 ?_
      refine AW_block ?_
      refine AW_loops (α := Nat) [5, 15, 16, 17, 18, 19, 20, 21, 22] (fun s => [(15, .v (.int .i64 (s : Int)))]) (fun s => H.upd b1 (some (.raw (mapObj (addNames (upto k) ((nm k).take s) k))))) (fun s => s ≤ (nm k).length) (fun s => (nm k).length - s) (0) ?_ ?_ ?_ ?_
      · exact Nat.zero_le _
      · repeat (first | exact SubH.refl _ | assumption | refine SubH.new ?_ (by assumption))
      · skip
        exact WK
      · intro i hJ; have hl3 := nm_len k
        refine AW_norm TN ?_
        refine GC2 ?_
        refine GO1 ?_
        refine GC3 ?_
        refine GI rfl (fun hc2 => ?_) (fun hc2 => ?_)
        ·
          refine GC3 ?_
          refine AW_block ?_
          refine GC2 ?_
          first | refine AL_indexAddr_sl (y := strAV ((nm k).getD i ⟨#[]⟩)) FUn.h FSz.h (by decide) rfl rfl ?_ ?_ ?_ ?_ | refine AL_indexAddr_own FUn.h FSz.h rfl rfl ?_ ?_ ?_
          · omega
          · simp only [List.length_map]; omega
          · exact map_at (n := i) (by omega)
          refine AL_norm TN ?_
          refine GO2 ?_
          refine GC3 ?_
          refine GO3 ?_
          refine AL_mapUpdate FUn.h FUn.h rfl rfl rfl LK ?_
          refine AL_heap (by first | (simp only [AH.upd_upd]; rfl) | rfl) ?_
          refine AL_norm TN ?_
          refine GC4 ?_
          refine AL_addz rfl rfl (((i + 1 : Nat) : Int)) (by exact inc64 (by omega)) ?_
          refine GO1 ?_
          refine GC1 ?_
          refine loopQ_n (i + 1) ?_ ?_ ?_ ?_
          · exact (by omega)
          · omega
          · rw [← addNames_next (by omega)]; exact SubH.refl _
          · skip
            exact WK
        ·
          refine GC2 ?_
          refine loopQ_x ?_
          refine GC4 ?_
          refine AL_addz rfl rfl (((k + 1 : Nat) : Int)) (by exact inc64 (by omega)) ?_
          refine AL_norm TN ?_
          refine GO1 ?_
          refine GC1 ?_
          refine loopQ_n (k + 1) ?_ ?_ ?_ ?_
          · exact (by omega)
          · omega
          · rw [← addNames_all (i := i) (by omega)]; exact SubH.refl _
          · skip
            exact WK
    · obtain rfl : k = 17 := by omega
      refine GC2 ?_
      refine loopQ_x ?_
      refine GC4 ?_
      refine GO2 ?_
      refine GC3 ?_
      refine retQ_1 (H' := H.upd b1 (some (.raw (mapObj namesMap)))) (.inr rfl) rfl SU ?_
      exact hK b1 hn1

/-- quillwork/tags.low -/
theorem tags_low_ok (x : ByteArray) (hs : x.size < 35184372088832) :
    PI TQ Tryz.prog 252 [.v (.string x)] (.v (.string (lowStr x))) := by
  intro H K hT hK
  refine AC_of Tryz.func252 rfl (rs := [.tmp 2]) rfl Tryz.ntmps252 rfl ?_
  refine AW_norm TP ?_
  refine GC2 ?_
  refine GO1 ?_
  refine GC4 ?_
  refine GO1 ?_
  refine AL_callpi FEn.h XA HS (Q.map_tags x hs) ?_
  refine GO1 ?_
  refine GC3 ?_
  refine retQ_1 (H' := H) (.inr rfl) rfl SU ?_
  refine K_eq ?_ hK
  rfl

/-- quillwork/tags.Find -/
theorem tags_Find_ok (x : ByteArray) (hs : x.size < 35184372088832) :
    PI TQ Tryz.prog 163 [.v (.string x)] (findAV (refFind x)) := by
  intro H K hT hK
  refine AC_of Tryz.func163 rfl (rs := [.tmp 2, .tmp 3]) rfl Tryz.ntmps163 rfl ?_
  refine AW_norm TP ?_
  refine GC2 ?_
  refine GO2 ?_
  refine GC4 ?_
  refine AL_callk FEn.h XA (tags_names_ok H (fun x H1 => ∃ b, H b = none ∧ x = .v (.map (some b)) ∧ H1 = H.upd b (some (.raw (mapObj namesMap)))) (fun b hb => ⟨b, hb, rfl, rfl⟩)) ?_
  rintro _ _ ⟨bm, hbm, rfl, rfl⟩
  refine GO1 ?_
  refine AL_callpi FEn.h XA HS (tags_low_ok x hs) ?_
  refine AL_lookup FUn.h FUn.h FZe.h rfl rfl LK ?_
  refine GO5 ?_
  refine GC4 ?_
  refine GO4 ?_
  refine GC3 ?_
  refine retQ_2 (H' := H) (.inr rfl) rfl rfl SU ?_
  refine K_eq ?_ hK
  exact find_law x


end Go.Proofs
