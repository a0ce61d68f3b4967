/- The given statement of the law: for every input the law answers true. No conditions of our own. -/
import Derived.Test.YtcmijcfmldaiaaaGreatDoorQC
import Derived.Test.YtcmijcfmldaiaaaGreatDoorQKa
import Derived.Test.YtcmijcfmldaiaaaGreatDoorProg
set_option autoImplicit false
set_option linter.unusedVariables false
set_option linter.unusedSimpArgs false
set_option maxRecDepth 100000
set_option maxHeartbeats 4000000
namespace Go.Proofs
open Go Go.RowKit Go.AL Go.Q Go.IntWalk
theorem sz26 : szOf Tryz.prog 26 = some 7 := by kernel_rfl
theorem ze24 : zeroOf Tryz.prog 24 = some (.agg #[.int .i64 0, .int .i64 0]) := by kernel_rfl
theorem fl26_1 : fldOf Tryz.prog 26 1 = some (24, 1) := by kernel_rfl
theorem ag24 : aggOf Tryz.prog 24 = some true := by kernel_rfl
theorem fl26_2 : fldOf Tryz.prog 26 2 = some (24, 3) := by kernel_rfl
theorem en197 : entersOf Tryz.prog 197 = true := by kernel_rfl
theorem en277 : entersOf Tryz.prog 277 = true := by kernel_rfl
theorem en220 : entersOf Tryz.prog 220 = true := by kernel_rfl
theorem en290 : entersOf Tryz.prog 290 = true := by kernel_rfl

/-- quillwork/typing.Span -/
theorem typing_Span_ok (s : St) :
  PF Tryz.prog 114 [stAV s] (.tup [posAV (spanS s).1, posAV (spanS s).2]) := by
 intro H K hK
 refine AC_of Tryz.func114 rfl (rs := [.cell 2 24, .cell 3 24]) rfl Tryz.ntmps114 rfl ?_
 refine AW_norm TP ?_
 refine AW_seq ?_
 refine AW_region ?_
 refine AL_box rfl rfl sz26 rfl ?_
 intro b1 hb1
 refine AL_norm TN ?_
 refine AL_frzpt 1 rfl (AH.upd_same _ _ _) ?_
 refine AL_heap (AH.upd_none_eq hb1) ?_
 refine AL_norm TN ?_
 clear hb1
 refine AL_alloc ze24 (.agg (.v (.v .nil))) rfl sz24 rfl ?_
 intro b2 hb2
 have hn2 : H b2 = none := SubH.none SU hb2
 refine AL_alloc ze24 (.agg (.v (.v .nil))) rfl sz24 rfl ?_
 intro b3 hb3
 have hn3 : H b3 = none := SubH.none SU hb3
 have hd3_2 : b3 ≠ b2 := AH.fresh_ne hb3 LK
 have hd2_3 : b2 ≠ b3 := Ne.symm hd3_2
 refine AL_norm TN ?_
 refine AL_nil ?_
 refine seqQ_n ?_
 refine AW_seq ?_
 refine AW_seq ?_
 refine AW_region ?_
 first | refine AL_fieldAddr_pt fl26_1 sz24 (by decide) rfl ?_ | refine AL_fieldAddr_rp fl26_1 ag24 sz24 (by decide) (by decide) rfl rfl (fun h => by first | rfl | cases h) ?_
 refine AL_norm TN ?_
 first | refine AL_load_rp sz24 rfl ag24 ?_ | refine AL_loadw sz24 rfl LK (by exact ag24) (by exact rfl) ?_ | refine AL_load_pt ag24 sz24 (by decide) rfl LK (by first | assumption | exact sz3 | exact sz57 | exact sz60 | exact sz21 | exact sz9 | exact sz52 | exact sz58 | exact sz24 | exact sz26) (by exact rfl) (by exact rfl) (by exact rfl) ?_
 first | refine AL_fieldAddr_pt fl26_2 sz24 (by decide) rfl ?_ | refine AL_fieldAddr_rp fl26_2 ag24 sz24 (by decide) (by decide) rfl rfl (fun h => by first | rfl | cases h) ?_
 first | refine AL_load_rp sz24 rfl ag24 ?_ | refine AL_loadw sz24 rfl LK (by exact ag24) (by exact rfl) ?_ | refine AL_load_pt ag24 sz24 (by decide) rfl LK (by first | assumption | exact sz3 | exact sz57 | exact sz60 | exact sz21 | exact sz9 | exact sz52 | exact sz58 | exact sz24 | exact sz26) (by exact rfl) (by exact rfl) (by exact rfl) ?_
 refine AL_callp en197 (.cons (.ev rfl) (.cons (.ev rfl) (.nil))) (doc_Cmp_ok _ _) ?_
 refine AL_norm TN ?_
 refine AL_gtr rfl rfl ?_
 refine AL_norm TN ?_
 refine AL_nil ?_
 refine seqQ_n ?_
 refine AW_cond rfl (fun hc1 => ?_) (fun hc1 => ?_)
 · try simp only [Bool.or_eq_true, Bool.and_eq_true, Bool.or_eq_false_iff, Bool.and_eq_false_iff, decide_eq_true_eq, decide_eq_false_iff_not, Bool.not_eq_true', Bool.not_eq_false', beq_iff_eq, ne_eq, Decidable.not_not, List.length_map] at hc1
  refine AW_seq ?_
  refine' AW_drawL (xs := [_, _, _, _, _, _]) [4, 5] [0, 1, 3, 4, 2, 5] (fun m => match m with | 0 => (H.upd b2 (some (.row 24 1 [posAV p0]))).upd b3 (some (.row 24 1 [posAV p0])) | 1 => (H.upd b2 (some (.row 24 1 [posAV s.f]))).upd b3 (some (.row 24 1 [posAV p0])) | _ => (H.upd b2 (some (.row 24 1 [posAV s.f]))).upd b3 (some (.row 24 1 [posAV s.a]))) rfl (by kernel_rfl) ?hops1 ?_
  case hops1 =>
   refine HopsL_cons (fun m T hl hr hm hm2 => ?_) ?_
   · skip
    replace hm : 0 ≤ m := hm
    replace hm2 : m ≤ 0 := hm2
    obtain rfl : m = 0 := by omega
    refine AL_heap (by rfl : _ = (H.upd b2 (some (.row 24 1 [posAV p0]))).upd b3 (some (.row 24 1 [posAV p0]))) ?_
    first | refine AL_fieldAddr_pt fl26_2 sz24 (by decide) ((hr 1 (by kernel_rfl)).trans rfl) ?_ | refine AL_fieldAddr_rp fl26_2 ag24 sz24 (by decide) (by decide) ((hr 1 (by kernel_rfl)).trans rfl) rfl (fun h => by first | rfl | cases h) ?_
    refine AL_nil ?_
    refine qpostL_mk ?_ ?_
    rotate_left
    exact Weak.refl _
    show SubH ((H.upd b2 (some (.row 24 1 [posAV p0]))).upd b3 (some (.row 24 1 [posAV p0]))) _
    exact SubH.refl _
   refine HopsL_norm TO ?_
   refine HopsL_cons (fun m T hl hr hm hm2 => ?_) ?_
   · skip
    replace hm : 0 ≤ m := hm
    replace hm2 : m ≤ 0 := hm2
    obtain rfl : m = 0 := by omega
    refine AL_heap (by rfl : _ = (H.upd b2 (some (.row 24 1 [posAV p0]))).upd b3 (some (.row 24 1 [posAV p0]))) ?_
    first | refine AL_load_rp sz24 ((hr 10 (by kernel_rfl)).trans rfl) ag24 ?_ | refine AL_loadw sz24 ((hr 10 (by kernel_rfl)).trans rfl) LK (by exact ag24) (by exact rfl) ?_ | refine AL_load_pt ag24 sz24 (by decide) ((hr 10 (by kernel_rfl)).trans rfl) LK (by first | assumption | exact sz3 | exact sz57 | exact sz60 | exact sz21 | exact sz9 | exact sz52 | exact sz58 | exact sz24 | exact sz26) (by exact rfl) (by exact rfl) (by exact rfl) ?_
    refine AL_nil ?_
    refine qpostL_mk ?_ ?_
    rotate_left
    exact Weak.refl _
    show SubH ((H.upd b2 (some (.row 24 1 [posAV p0]))).upd b3 (some (.row 24 1 [posAV p0]))) _
    exact SubH.refl _
   refine HopsL_norm TO ?_
   refine HopsL_cons (fun m T hl hr hm hm2 => ?_) ?_
   · skip
    replace hm : 0 ≤ m := hm
    replace hm2 : m ≤ 1 := hm2
    obtain rfl | rfl : m = 0 ∨ m = 1 := by omega
    ·
     refine AL_heap (by rfl : _ = (H.upd b2 (some (.row 24 1 [posAV p0]))).upd b3 (some (.row 24 1 [posAV p0]))) ?_
     first | refine AL_fieldAddr_pt fl26_1 sz24 (by decide) ((hr 1 (by kernel_rfl)).trans rfl) ?_ | refine AL_fieldAddr_rp fl26_1 ag24 sz24 (by decide) (by decide) ((hr 1 (by kernel_rfl)).trans rfl) rfl (fun h => by first | rfl | cases h) ?_
     refine AL_nil ?_
     refine qpostL_mk ?_ ?_
     rotate_left
     exact Weak.refl _
     show SubH ((H.upd b2 (some (.row 24 1 [posAV p0]))).upd b3 (some (.row 24 1 [posAV p0]))) _
     exact SubH.refl _
    ·
     refine AL_heap (by rfl : _ = (H.upd b2 (some (.row 24 1 [posAV s.f]))).upd b3 (some (.row 24 1 [posAV p0]))) ?_
     first | refine AL_fieldAddr_pt fl26_1 sz24 (by decide) ((hr 1 (by kernel_rfl)).trans rfl) ?_ | refine AL_fieldAddr_rp fl26_1 ag24 sz24 (by decide) (by decide) ((hr 1 (by kernel_rfl)).trans rfl) rfl (fun h => by first | rfl | cases h) ?_
     refine AL_nil ?_
     refine qpostL_mk ?_ ?_
     rotate_left
     exact Weak.refl _
     show SubH ((H.upd b2 (some (.row 24 1 [posAV s.f]))).upd b3 (some (.row 24 1 [posAV p0]))) _
     exact SubH.refl _
   refine HopsL_norm TO ?_
   refine HopsL_cons (fun m T hl hr hm hm2 => ?_) ?_
   · skip
    replace hm : 0 ≤ m := hm
    replace hm2 : m ≤ 1 := hm2
    obtain rfl | rfl : m = 0 ∨ m = 1 := by omega
    ·
     refine AL_heap (by rfl : _ = (H.upd b2 (some (.row 24 1 [posAV p0]))).upd b3 (some (.row 24 1 [posAV p0]))) ?_
     first | refine AL_load_rp sz24 ((hr 12 (by kernel_rfl)).trans rfl) ag24 ?_ | refine AL_loadw sz24 ((hr 12 (by kernel_rfl)).trans rfl) LK (by exact ag24) (by exact rfl) ?_ | refine AL_load_pt ag24 sz24 (by decide) ((hr 12 (by kernel_rfl)).trans rfl) LK (by first | assumption | exact sz3 | exact sz57 | exact sz60 | exact sz21 | exact sz9 | exact sz52 | exact sz58 | exact sz24 | exact sz26) (by exact rfl) (by exact rfl) (by exact rfl) ?_
     refine AL_nil ?_
     refine qpostL_mk ?_ ?_
     rotate_left
     exact Weak.refl _
     show SubH ((H.upd b2 (some (.row 24 1 [posAV p0]))).upd b3 (some (.row 24 1 [posAV p0]))) _
     exact SubH.refl _
    ·
     refine AL_heap (by rfl : _ = (H.upd b2 (some (.row 24 1 [posAV s.f]))).upd b3 (some (.row 24 1 [posAV p0]))) ?_
     first | refine AL_load_rp sz24 ((hr 12 (by kernel_rfl)).trans rfl) ag24 ?_ | refine AL_loadw sz24 ((hr 12 (by kernel_rfl)).trans rfl) LK (by exact ag24) (by exact rfl) ?_ | refine AL_load_pt ag24 sz24 (by decide) ((hr 12 (by kernel_rfl)).trans rfl) LK (by first | assumption | exact sz3 | exact sz57 | exact sz60 | exact sz21 | exact sz9 | exact sz52 | exact sz58 | exact sz24 | exact sz26) (by exact rfl) (by exact rfl) (by exact rfl) ?_
     refine AL_nil ?_
     refine qpostL_mk ?_ ?_
     rotate_left
     exact Weak.refl _
     show SubH ((H.upd b2 (some (.row 24 1 [posAV s.f]))).upd b3 (some (.row 24 1 [posAV p0]))) _
     exact SubH.refl _
   refine HopsL_norm TO ?_
   refine HopsL_cons (fun m T hl hr hm hm2 => ?_) ?_
   · skip
    replace hm : 0 ≤ m := hm
    replace hm2 : m ≤ 0 := hm2
    obtain rfl : m = 0 := by omega
    refine AL_heap (by rfl : _ = (H.upd b2 (some (.row 24 1 [posAV p0]))).upd b3 (some (.row 24 1 [posAV p0]))) ?_
    first | refine AL_store_w sz24 ((hr 2 (by kernel_rfl)).trans rfl) (.ev ((hr 11 (by kernel_rfl)).trans rfl)) rfl LK rfl (by exact rfl) ?_ | refine AL_store ((hr 2 (by kernel_rfl)).trans rfl) (.ev ((hr 11 (by kernel_rfl)).trans rfl)) rfl LK (by first | assumption | exact sz3 | exact sz57 | exact sz60 | exact sz21 | exact sz9 | exact sz52 | exact sz58 | exact sz24 | exact sz26) (by exact rfl) sz24 rfl (by decide) (fun h => by first | (cases h; done) | exact ⟨rfl, rfl, rfl⟩) ?_
    refine AL_heap (by first | (simp only [AH.upd_upd]; rfl) | rfl) ?_
    refine AL_nil ?_
    refine qpostL_mk ?_ ?_
    rotate_left
    exact Weak.refl _
    show SubH ((H.upd b2 (some (.row 24 1 [posAV s.f]))).upd b3 (some (.row 24 1 [posAV p0]))) _
    first | exact SubH.refl _ | (refine SubH.of_eq (funext fun j => ?_); simp only [AH.upd]; (repeat' split) <;> first | rfl | omega)
   refine HopsL_norm TO ?_
   refine HopsL_cons (fun m T hl hr hm hm2 => ?_) ?_
   · skip
    replace hm : 1 ≤ m := hm
    replace hm2 : m ≤ 1 := hm2
    obtain rfl : m = 1 := by omega
    refine AL_heap (by rfl : _ = (H.upd b2 (some (.row 24 1 [posAV s.f]))).upd b3 (some (.row 24 1 [posAV p0]))) ?_
    first | refine AL_store_w sz24 ((hr 3 (by kernel_rfl)).trans rfl) (.ev ((hr 13 (by kernel_rfl)).trans rfl)) rfl LK rfl (by exact rfl) ?_ | refine AL_store ((hr 3 (by kernel_rfl)).trans rfl) (.ev ((hr 13 (by kernel_rfl)).trans rfl)) rfl LK (by first | assumption | exact sz3 | exact sz57 | exact sz60 | exact sz21 | exact sz9 | exact sz52 | exact sz58 | exact sz24 | exact sz26) (by exact rfl) sz24 rfl (by decide) (fun h => by first | (cases h; done) | exact ⟨rfl, rfl, rfl⟩) ?_
    refine AL_heap (by first | (simp only [AH.upd_upd]; rfl) | rfl) ?_
    refine AL_nil ?_
    refine qpostL_mk ?_ ?_
    rotate_left
    exact Weak.refl _
    show SubH ((H.upd b2 (some (.row 24 1 [posAV s.f]))).upd b3 (some (.row 24 1 [posAV s.a]))) _
    first | exact SubH.refl _ | (refine SubH.of_eq (funext fun j => ?_); simp only [AH.upd]; (repeat' split) <;> first | rfl | omega)
   refine HopsL_norm TO ?_
   exact HopsL_nil
  refine Q_norm (by first | (simp only [Tfin, tput, anyAt, setAll, List.foldl_cons, List.foldl_nil, List.set_cons_zero, List.set_cons_succ]; rfl) | rfl) ?_
  refine seqQ_n ?_
  refine AW_ret ?_
  refine seqQ_r ?_
  refine' retQ_g (H' := H) (.inr rfl) ?rv1 SU ?_
  case rv1 => exact .cons (.cell rfl LK (by first | assumption | exact sz3 | exact sz57 | exact sz60 | exact sz21 | exact sz9 | exact sz52 | exact sz58 | exact sz24 | exact sz26) rfl ag24 sz24 rfl rfl (by decide)) (.cons (.cell rfl LK (by first | assumption | exact sz3 | exact sz57 | exact sz60 | exact sz21 | exact sz9 | exact sz52 | exact sz58 | exact sz24 | exact sz26) rfl ag24 sz24 rfl rfl (by decide)) (.nil))
  refine K_eq ?_ hK
  show AV.tup [posAV s.f, posAV s.a] = _; unfold spanS; rw [if_pos (by omega)]
 · try simp only [Bool.or_eq_true, Bool.and_eq_true, Bool.or_eq_false_iff, Bool.and_eq_false_iff, decide_eq_true_eq, decide_eq_false_iff_not, Bool.not_eq_true', Bool.not_eq_false', beq_iff_eq, ne_eq, Decidable.not_not, List.length_map] at hc1
  refine AW_skip ?_
  refine seqQ_n ?_
  refine AW_seq ?_
  refine' AW_drawL (xs := [_, _, _, _, _, _]) [4, 5] [0, 1, 3, 4, 2, 5] (fun m => match m with | 0 => (H.upd b2 (some (.row 24 1 [posAV p0]))).upd b3 (some (.row 24 1 [posAV p0])) | 1 => (H.upd b2 (some (.row 24 1 [posAV s.a]))).upd b3 (some (.row 24 1 [posAV p0])) | _ => (H.upd b2 (some (.row 24 1 [posAV s.a]))).upd b3 (some (.row 24 1 [posAV s.f]))) rfl (by kernel_rfl) ?hops2 ?_
  case hops2 =>
   refine HopsL_cons (fun m T hl hr hm hm2 => ?_) ?_
   · skip
    replace hm : 0 ≤ m := hm
    replace hm2 : m ≤ 0 := hm2
    obtain rfl : m = 0 := by omega
    refine AL_heap (by rfl : _ = (H.upd b2 (some (.row 24 1 [posAV p0]))).upd b3 (some (.row 24 1 [posAV p0]))) ?_
    first | refine AL_fieldAddr_pt fl26_1 sz24 (by decide) ((hr 1 (by kernel_rfl)).trans rfl) ?_ | refine AL_fieldAddr_rp fl26_1 ag24 sz24 (by decide) (by decide) ((hr 1 (by kernel_rfl)).trans rfl) rfl (fun h => by first | rfl | cases h) ?_
    refine AL_nil ?_
    refine qpostL_mk ?_ ?_
    rotate_left
    exact Weak.refl _
    show SubH ((H.upd b2 (some (.row 24 1 [posAV p0]))).upd b3 (some (.row 24 1 [posAV p0]))) _
    exact SubH.refl _
   refine HopsL_norm TO ?_
   refine HopsL_cons (fun m T hl hr hm hm2 => ?_) ?_
   · skip
    replace hm : 0 ≤ m := hm
    replace hm2 : m ≤ 0 := hm2
    obtain rfl : m = 0 := by omega
    refine AL_heap (by rfl : _ = (H.upd b2 (some (.row 24 1 [posAV p0]))).upd b3 (some (.row 24 1 [posAV p0]))) ?_
    first | refine AL_load_rp sz24 ((hr 14 (by kernel_rfl)).trans rfl) ag24 ?_ | refine AL_loadw sz24 ((hr 14 (by kernel_rfl)).trans rfl) LK (by exact ag24) (by exact rfl) ?_ | refine AL_load_pt ag24 sz24 (by decide) ((hr 14 (by kernel_rfl)).trans rfl) LK (by first | assumption | exact sz3 | exact sz57 | exact sz60 | exact sz21 | exact sz9 | exact sz52 | exact sz58 | exact sz24 | exact sz26) (by exact rfl) (by exact rfl) (by exact rfl) ?_
    refine AL_nil ?_
    refine qpostL_mk ?_ ?_
    rotate_left
    exact Weak.refl _
    show SubH ((H.upd b2 (some (.row 24 1 [posAV p0]))).upd b3 (some (.row 24 1 [posAV p0]))) _
    exact SubH.refl _
   refine HopsL_norm TO ?_
   refine HopsL_cons (fun m T hl hr hm hm2 => ?_) ?_
   · skip
    replace hm : 0 ≤ m := hm
    replace hm2 : m ≤ 1 := hm2
    obtain rfl | rfl : m = 0 ∨ m = 1 := by omega
    ·
     refine AL_heap (by rfl : _ = (H.upd b2 (some (.row 24 1 [posAV p0]))).upd b3 (some (.row 24 1 [posAV p0]))) ?_
     first | refine AL_fieldAddr_pt fl26_2 sz24 (by decide) ((hr 1 (by kernel_rfl)).trans rfl) ?_ | refine AL_fieldAddr_rp fl26_2 ag24 sz24 (by decide) (by decide) ((hr 1 (by kernel_rfl)).trans rfl) rfl (fun h => by first | rfl | cases h) ?_
     refine AL_nil ?_
     refine qpostL_mk ?_ ?_
     rotate_left
     exact Weak.refl _
     show SubH ((H.upd b2 (some (.row 24 1 [posAV p0]))).upd b3 (some (.row 24 1 [posAV p0]))) _
     exact SubH.refl _
    ·
     refine AL_heap (by rfl : _ = (H.upd b2 (some (.row 24 1 [posAV s.a]))).upd b3 (some (.row 24 1 [posAV p0]))) ?_
     first | refine AL_fieldAddr_pt fl26_2 sz24 (by decide) ((hr 1 (by kernel_rfl)).trans rfl) ?_ | refine AL_fieldAddr_rp fl26_2 ag24 sz24 (by decide) (by decide) ((hr 1 (by kernel_rfl)).trans rfl) rfl (fun h => by first | rfl | cases h) ?_
     refine AL_nil ?_
     refine qpostL_mk ?_ ?_
     rotate_left
     exact Weak.refl _
     show SubH ((H.upd b2 (some (.row 24 1 [posAV s.a]))).upd b3 (some (.row 24 1 [posAV p0]))) _
     exact SubH.refl _
   refine HopsL_norm TO ?_
   refine HopsL_cons (fun m T hl hr hm hm2 => ?_) ?_
   · skip
    replace hm : 0 ≤ m := hm
    replace hm2 : m ≤ 1 := hm2
    obtain rfl | rfl : m = 0 ∨ m = 1 := by omega
    ·
     refine AL_heap (by rfl : _ = (H.upd b2 (some (.row 24 1 [posAV p0]))).upd b3 (some (.row 24 1 [posAV p0]))) ?_
     first | refine AL_load_rp sz24 ((hr 16 (by kernel_rfl)).trans rfl) ag24 ?_ | refine AL_loadw sz24 ((hr 16 (by kernel_rfl)).trans rfl) LK (by exact ag24) (by exact rfl) ?_ | refine AL_load_pt ag24 sz24 (by decide) ((hr 16 (by kernel_rfl)).trans rfl) LK (by first | assumption | exact sz3 | exact sz57 | exact sz60 | exact sz21 | exact sz9 | exact sz52 | exact sz58 | exact sz24 | exact sz26) (by exact rfl) (by exact rfl) (by exact rfl) ?_
     refine AL_nil ?_
     refine qpostL_mk ?_ ?_
     rotate_left
     exact Weak.refl _
     show SubH ((H.upd b2 (some (.row 24 1 [posAV p0]))).upd b3 (some (.row 24 1 [posAV p0]))) _
     exact SubH.refl _
    ·
     refine AL_heap (by rfl : _ = (H.upd b2 (some (.row 24 1 [posAV s.a]))).upd b3 (some (.row 24 1 [posAV p0]))) ?_
     first | refine AL_load_rp sz24 ((hr 16 (by kernel_rfl)).trans rfl) ag24 ?_ | refine AL_loadw sz24 ((hr 16 (by kernel_rfl)).trans rfl) LK (by exact ag24) (by exact rfl) ?_ | refine AL_load_pt ag24 sz24 (by decide) ((hr 16 (by kernel_rfl)).trans rfl) LK (by first | assumption | exact sz3 | exact sz57 | exact sz60 | exact sz21 | exact sz9 | exact sz52 | exact sz58 | exact sz24 | exact sz26) (by exact rfl) (by exact rfl) (by exact rfl) ?_
     refine AL_nil ?_
     refine qpostL_mk ?_ ?_
     rotate_left
     exact Weak.refl _
     show SubH ((H.upd b2 (some (.row 24 1 [posAV s.a]))).upd b3 (some (.row 24 1 [posAV p0]))) _
     exact SubH.refl _
   refine HopsL_norm TO ?_
   refine HopsL_cons (fun m T hl hr hm hm2 => ?_) ?_
   · skip
    replace hm : 0 ≤ m := hm
    replace hm2 : m ≤ 0 := hm2
    obtain rfl : m = 0 := by omega
    refine AL_heap (by rfl : _ = (H.upd b2 (some (.row 24 1 [posAV p0]))).upd b3 (some (.row 24 1 [posAV p0]))) ?_
    first | refine AL_store_w sz24 ((hr 2 (by kernel_rfl)).trans rfl) (.ev ((hr 15 (by kernel_rfl)).trans rfl)) rfl LK rfl (by exact rfl) ?_ | refine AL_store ((hr 2 (by kernel_rfl)).trans rfl) (.ev ((hr 15 (by kernel_rfl)).trans rfl)) rfl LK (by first | assumption | exact sz3 | exact sz57 | exact sz60 | exact sz21 | exact sz9 | exact sz52 | exact sz58 | exact sz24 | exact sz26) (by exact rfl) sz24 rfl (by decide) (fun h => by first | (cases h; done) | exact ⟨rfl, rfl, rfl⟩) ?_
    refine AL_heap (by first | (simp only [AH.upd_upd]; rfl) | rfl) ?_
    refine AL_nil ?_
    refine qpostL_mk ?_ ?_
    rotate_left
    exact Weak.refl _
    show SubH ((H.upd b2 (some (.row 24 1 [posAV s.a]))).upd b3 (some (.row 24 1 [posAV p0]))) _
    first | exact SubH.refl _ | (refine SubH.of_eq (funext fun j => ?_); simp only [AH.upd]; (repeat' split) <;> first | rfl | omega)
   refine HopsL_norm TO ?_
   refine HopsL_cons (fun m T hl hr hm hm2 => ?_) ?_
   · skip
    replace hm : 1 ≤ m := hm
    replace hm2 : m ≤ 1 := hm2
    obtain rfl : m = 1 := by omega
    refine AL_heap (by rfl : _ = (H.upd b2 (some (.row 24 1 [posAV s.a]))).upd b3 (some (.row 24 1 [posAV p0]))) ?_
    first | refine AL_store_w sz24 ((hr 3 (by kernel_rfl)).trans rfl) (.ev ((hr 17 (by kernel_rfl)).trans rfl)) rfl LK rfl (by exact rfl) ?_ | refine AL_store ((hr 3 (by kernel_rfl)).trans rfl) (.ev ((hr 17 (by kernel_rfl)).trans rfl)) rfl LK (by first | assumption | exact sz3 | exact sz57 | exact sz60 | exact sz21 | exact sz9 | exact sz52 | exact sz58 | exact sz24 | exact sz26) (by exact rfl) sz24 rfl (by decide) (fun h => by first | (cases h; done) | exact ⟨rfl, rfl, rfl⟩) ?_
    refine AL_heap (by first | (simp only [AH.upd_upd]; rfl) | rfl) ?_
    refine AL_nil ?_
    refine qpostL_mk ?_ ?_
    rotate_left
    exact Weak.refl _
    show SubH ((H.upd b2 (some (.row 24 1 [posAV s.a]))).upd b3 (some (.row 24 1 [posAV s.f]))) _
    first | exact SubH.refl _ | (refine SubH.of_eq (funext fun j => ?_); simp only [AH.upd]; (repeat' split) <;> first | rfl | omega)
   refine HopsL_norm TO ?_
   exact HopsL_nil
  refine Q_norm (by first | (simp only [Tfin, tput, anyAt, setAll, List.foldl_cons, List.foldl_nil, List.set_cons_zero, List.set_cons_succ]; rfl) | rfl) ?_
  refine seqQ_n ?_
  refine AW_ret ?_
  refine' retQ_g (H' := H) (.inr rfl) ?rv2 SU ?_
  case rv2 => exact .cons (.cell rfl LK (by first | assumption | exact sz3 | exact sz57 | exact sz60 | exact sz21 | exact sz9 | exact sz52 | exact sz58 | exact sz24 | exact sz26) rfl ag24 sz24 rfl rfl (by decide)) (.cons (.cell rfl LK (by first | assumption | exact sz3 | exact sz57 | exact sz60 | exact sz21 | exact sz9 | exact sz52 | exact sz58 | exact sz24 | exact sz26) rfl ag24 sz24 rfl rfl (by decide)) (.nil))
  refine K_eq ?_ hK
  show AV.tup [posAV s.a, posAV s.f] = _; unfold spanS; rw [if_neg (by omega)]

/-- quillwork/css.Over -/
theorem css_Over_ok (b s c : Int) :
  PF Tryz.prog 290 [.v (.int .i64 b), .v (.int .i64 s), .v (.int .i64 c)] (.v (.int .i64 (overB b s c))) := by
 intro H K hK
 refine AC_of Tryz.func290 rfl (rs := [.tmp 6]) rfl Tryz.ntmps290 rfl ?_
 refine AW_norm TP ?_
 refine AW_seq ?_
 refine AW_region ?_
 refine AL_assign rfl ?_
 refine AL_norm TN ?_
 refine AL_nil (seqQ_n (AW_seq (AW_region ?_)))
 refine AL_move rfl ?_
 refine AL_move rfl ?_
 refine AL_bits rfl rfl (by decide) ?_
 refine AL_norm TN ?_
 refine AL_move rfl ?_
 refine AL_bits rfl rfl (by decide) ?_
 refine AL_assign rfl ?_
 refine AL_norm TN ?_
 refine AL_nil ?_
 refine seqQ_n ?_
 refine AW_ret ?_
 refine retQ_1 (H' := H) (.inr rfl) rfl SU ?_
 refine K_eq ?_ hK
 rfl

/-- quillwork/cells.span -/
theorem cells_span_ok (l : List Cell) (i j : Int) :
  PF Tryz.prog 277 [cellsAV l, .v (.int .i64 i), .v (.int .i64 j)] (.v (.bool (spanC l i j))) := by
 intro H K hK
 refine AC_of Tryz.func277 rfl (rs := [.tmp 6]) rfl Tryz.ntmps277 rfl ?_
 refine AW_norm TP ?_
 refine AW_seq ?_
 refine AW_region ?_
 refine AL_assign rfl ?_
 refine AL_norm TN ?_
 refine AL_nil (seqQ_n (AW_seq (AW_region ?_)))
 refine AL_move rfl ?_
 refine AL_geq rfl rfl ?_
 refine AL_move rfl ?_
 refine AL_norm TN ?_
 refine AL_and (j := 2) (n := 3) (c := 9) (t := 12) (r := 13) (v := ?v1) [10, 11, 12] rfl rfl rfl rfl rfl rfl rfl (fun hg1 => ?_) ?_; rotate_left
 · simp only [List.take_succ_cons, List.take_zero, List.map_cons, List.map_nil, strip, Nat.reduceBEq, beq_self_eq_true, Bool.and_self, Bool.true_and, Bool.false_and, cond_true, cond_false]
  try simp only [Bool.or_eq_true, Bool.and_eq_true, Bool.or_eq_false_iff, Bool.and_eq_false_iff, decide_eq_true_eq, decide_eq_false_iff_not, Bool.not_eq_true', Bool.not_eq_false', beq_iff_eq, ne_eq, Decidable.not_not, List.length_map] at hg1
  refine AL_move rfl ?_
  refine AL_move rfl ?_
  refine AL_leq rfl rfl ?_
  refine AL_nil (grpQ_mk ?_)
  try simp only [tput, anyAt, setAll, List.foldl_cons, List.foldl_nil, List.set_cons_zero, List.set_cons_succ]
  repeat (first | exact Weak.nil | refine Weak.cons ?_ | refine Weak.consAny ?_)
 refine AL_norm TN ?_
 refine AL_move rfl ?_
 refine AL_norm TN ?_
 refine AL_and (j := 7) (n := 4) (c := 14) (t := 18) (r := 19) (v := ?v2) [15, 16, 17, 18] rfl rfl rfl rfl rfl rfl rfl (fun hg2 => ?_) ?_; rotate_left
 · simp only [List.take_succ_cons, List.take_zero, List.map_cons, List.map_nil, strip, Nat.reduceBEq, beq_self_eq_true, Bool.and_self, Bool.true_and, Bool.false_and, cond_true, cond_false]
  try simp only [Bool.or_eq_true, Bool.and_eq_true, Bool.or_eq_false_iff, Bool.and_eq_false_iff, decide_eq_true_eq, decide_eq_false_iff_not, Bool.not_eq_true', Bool.not_eq_false', beq_iff_eq, ne_eq, Decidable.not_not, List.length_map] at hg2
  refine AL_move rfl ?_
  refine AL_move rfl ?_
  first | refine AL_len_sl un58 rfl ?_ | refine AL_len_own un58 rfl ?_
  refine AL_leq rfl rfl ?_
  refine AL_nil (grpQ_mk ?_)
  try simp only [tput, anyAt, setAll, List.foldl_cons, List.foldl_nil, List.set_cons_zero, List.set_cons_succ]
  repeat (first | exact Weak.nil | refine Weak.cons ?_ | refine Weak.consAny ?_)
 refine AL_norm TN ?_
 refine AL_assign rfl ?_
 refine AL_norm TN ?_
 refine AL_nil ?_
 refine seqQ_n ?_
 refine AW_ret ?_
 refine retQ_1 (H' := H) (.inr rfl) rfl SU ?_
 refine K_eq ?_ hK
 rw [List.length_map]; exact congrArg (fun b => AV.v (.bool b)) (spanC_mk l i j)

/-- quillwork/cells.Part -/
theorem cells_Part_ok (l : List Cell) (i j : Int) (hl : l.length ≤ 20000) :
  PF Tryz.prog 266 [cellsAV l, .v (.int .i64 i), .v (.int .i64 j)] (rcAV (partC l i j)) := by
 intro H K hK
 refine AC_tup0 57 ?_
 refine AC_of Tryz.func266 rfl (rs := [.tmp 6, .tmp 7]) rfl Tryz.ntmps266 rfl ?_
 refine AW_norm TP ?_
 refine AW_seq ?_
 refine AW_region ?_
 refine AL_assign rfl ?_
 refine AL_assign rfl ?_
 refine AL_norm TN ?_
 refine AL_nil ?_
 refine seqQ_n ?_
 refine AW_seq ?_
 refine AW_seq ?_
 refine AW_region ?_
 refine AL_move rfl ?_
 refine AL_move rfl ?_
 refine AL_norm TN ?_
 refine AL_move rfl ?_
 refine AL_callp en277 (.cons (.ev rfl) (.cons (.ev rfl) (.cons (.ev rfl) (.nil)))) (cells_span_ok _ _ _) ?_
 refine AL_not rfl ?_
 refine AL_norm TN ?_
 refine AL_nil ?_
 refine seqQ_n ?_
 refine AW_cond rfl (fun hc1 => ?_) (fun hc1 => ?_)
 · try simp only [Bool.or_eq_true, Bool.and_eq_true, Bool.or_eq_false_iff, Bool.and_eq_false_iff, decide_eq_true_eq, decide_eq_false_iff_not, Bool.not_eq_true', Bool.not_eq_false', beq_iff_eq, ne_eq, Decidable.not_not, List.length_map] at hc1
  refine AW_seq ?_
  refine AW_region ?_
  refine AL_assign rfl ?_
  refine AL_norm TN ?_
  refine AL_assign rfl ?_
  refine AL_norm TN ?_
  refine AL_nil ?_
  refine seqQ_n ?_
  refine AW_ret ?_
  refine seqQ_r ?_
  refine retQ_2 (H' := H) (.inr rfl) rfl rfl SU ?_
  exact .inr ⟨none, 0, [], _, ⟨rfl, rfl⟩, rfl, rfl, by rw [partC_no hc1] at hK; exact hK⟩
 · try simp only [Bool.or_eq_true, Bool.and_eq_true, Bool.or_eq_false_iff, Bool.and_eq_false_iff, decide_eq_true_eq, decide_eq_false_iff_not, Bool.not_eq_true', Bool.not_eq_false', beq_iff_eq, ne_eq, Decidable.not_not, List.length_map] at hc1; have hsp := spanC_ok hc1
  refine AW_skip ?_
  refine seqQ_n ?_
  refine AW_seq ?_
  refine AW_region ?_
  refine AL_move rfl ?_
  refine AL_move rfl ?_
  refine AL_move rfl ?_
  refine AL_norm TN ?_
  first | refine AL_slice_slN un58 sz57 rfl ⟨_, rfl⟩ ⟨_, rfl⟩ ?_ ?_ ?_ | refine AL_slice_sl un58 sz57 rfl ⟨_, _, rfl, by omega, rfl⟩ ⟨_, _, rfl, by omega, rfl⟩ ?_ ?_ ?_
  · simp only [List.length_map]; omega
  · omega
  refine AL_norm TN ?_
  rw [cut_map cellAV]
  refine AL_norm TN ?_
  refine AL_callp en220 (.cons (.ev rfl) (.nil)) (slices_Clone_api_Cell_api_Cell_fz (cut l i j) (by unfold cut; simp only [List.length_drop, List.length_take]; omega)) ?_
  refine AL_assign rfl ?_
  refine AL_assign rfl ?_
  refine AL_norm TN ?_
  refine AL_nil ?_
  refine seqQ_n ?_
  refine AW_ret ?_
  refine retQ_2 (H' := H) (.inr rfl) rfl rfl SU ?_
  rw [partC_yes hc1] at hK; exact .inl hK

/-- quillwork/cells.Set$1 -/
theorem cells_Set_1_ok  :
  ∀ (s c : Int) (x : Cell), ChgC Tryz.prog 289 [.rp 3 (.v (.int .i64 s)), .rp 3 (.v (.int .i64 c))] 57 3 (cellAV x) (cellAV (setF (bitAnd s 15) (bitAnd c 15) x)) := by
 intro s c x H K b cp i xs hb hx hK
 refine AC_of Tryz.func289 rfl (rs := []) rfl Tryz.ntmps289 rfl ?_
 refine AW_norm TP ?_
 refine' AW_drawL (xs := [_, _, _, _, _, _, _, _, _, _, _, _, _]) [12] [0, 0, 1, 2, 3, 0, 1, 0, 1, 4, 5, 6, 7] (fun m => match m with | 0 => H | _ => H.upd b (some (.row 57 cp (xs.set i (cellAV (setF (bitAnd s 15) (bitAnd c 15) x)))))) rfl (by kernel_rfl) ?hops1 ?_
 case hops1 =>
  refine HopsL_cons (fun m T hl hr hm hm2 => ?_) ?_
  · skip
   replace hm : 0 ≤ m := hm
   replace hm2 : m ≤ 0 := hm2
   obtain rfl : m = 0 := by omega
   refine AL_heap (by rfl : _ = H) ?_
   refine AL_move ((hr 0 (by kernel_rfl)).trans rfl) ?_
   refine AL_nil ?_
   refine qpostL_mk ?_ ?_
   rotate_left
   exact Weak.refl _
   show SubH (H) _
   exact SubH.refl _
  refine HopsL_norm TO ?_
  refine HopsL_cons (fun m T hl hr hm hm2 => ?_) ?_
  · skip
   replace hm : 0 ≤ m := hm
   replace hm2 : m ≤ 0 := hm2
   obtain rfl : m = 0 := by omega
   refine AL_heap (by rfl : _ = H) ?_
   refine AL_move ((hr 0 (by kernel_rfl)).trans rfl) ?_
   refine AL_nil ?_
   refine qpostL_mk ?_ ?_
   rotate_left
   exact Weak.refl _
   show SubH (H) _
   exact SubH.refl _
  refine HopsL_norm TO ?_
  refine HopsL_cons (fun m T hl hr hm hm2 => ?_) ?_
  · skip
   replace hm : 0 ≤ m := hm
   replace hm2 : m ≤ 0 := hm2
   obtain rfl : m = 0 := by omega
   refine AL_heap (by rfl : _ = H) ?_
   refine AL_nilCheck ((hr 5 (by kernel_rfl)).trans rfl) trivial ?_
   refine AL_nil ?_
   refine qpostL_mk ?_ ?_
   rotate_left
   exact Weak.refl _
   show SubH (H) _
   exact SubH.refl _
  refine HopsL_norm TO ?_
  refine HopsL_cons (fun m T hl hr hm hm2 => ?_) ?_
  · skip
   replace hm : 0 ≤ m := hm
   replace hm2 : m ≤ 0 := hm2
   obtain rfl : m = 0 := by omega
   refine AL_heap (by rfl : _ = H) ?_
   first | refine AL_fieldAddr_pt fl57_1 sz3 (by decide) ((hr 6 (by kernel_rfl)).trans rfl) ?_ | refine AL_fieldAddr_rp fl57_1 ag3 sz3 (by decide) (by decide) ((hr 6 (by kernel_rfl)).trans rfl) rfl (fun h => by first | rfl | cases h) ?_
   refine AL_nil ?_
   refine qpostL_mk ?_ ?_
   rotate_left
   exact Weak.refl _
   show SubH (H) _
   exact SubH.refl _
  refine HopsL_norm TO ?_
  refine HopsL_cons (fun m T hl hr hm hm2 => ?_) ?_
  · skip
   replace hm : 0 ≤ m := hm
   replace hm2 : m ≤ 0 := hm2
   obtain rfl : m = 0 := by omega
   refine AL_heap (by rfl : _ = H) ?_
   refine AL_load_pt (x := cellAV x) ag3 sz3 (by decide) ((hr 7 (by kernel_rfl)).trans rfl) LK (by first | assumption | exact sz3 | exact sz57 | exact sz60 | exact sz21 | exact sz9 | exact sz52 | exact sz58 | exact sz24 | exact sz26) (hx) (by exact rfl) (by exact rfl) ?_
   refine AL_nil ?_
   refine qpostL_mk ?_ ?_
   rotate_left
   exact Weak.refl _
   show SubH (H) _
   exact SubH.refl _
  refine HopsL_norm TO ?_
  refine HopsL_cons (fun m T hl hr hm hm2 => ?_) ?_
  · skip
   replace hm : 0 ≤ m := hm
   replace hm2 : m ≤ 0 := hm2
   obtain rfl : m = 0 := by omega
   refine AL_heap (by rfl : _ = H) ?_
   first | refine AL_load_rp sz3 ((hr 1 (by kernel_rfl)).trans rfl) ag3 ?_ | refine AL_loadw sz3 ((hr 1 (by kernel_rfl)).trans rfl) LK (by exact ag3) (by exact rfl) ?_ | refine AL_load_pt ag3 sz3 (by decide) ((hr 1 (by kernel_rfl)).trans rfl) LK (by first | assumption | exact sz3 | exact sz57 | exact sz60 | exact sz21 | exact sz9 | exact sz52 | exact sz58 | exact sz24 | exact sz26) (by exact rfl) (by exact rfl) (by exact rfl) ?_
   refine AL_nil ?_
   refine qpostL_mk ?_ ?_
   rotate_left
   exact Weak.refl _
   show SubH (H) _
   exact SubH.refl _
  refine HopsL_norm TO ?_
  refine HopsL_cons (fun m T hl hr hm hm2 => ?_) ?_
  · skip
   replace hm : 0 ≤ m := hm
   replace hm2 : m ≤ 0 := hm2
   obtain rfl : m = 0 := by omega
   refine AL_heap (by rfl : _ = H) ?_
   refine AL_bits ((hr 9 (by kernel_rfl)).trans rfl) rfl (by decide) ?_
   refine AL_nil ?_
   refine qpostL_mk ?_ ?_
   rotate_left
   exact Weak.refl _
   show SubH (H) _
   exact SubH.refl _
  refine HopsL_norm TO ?_
  refine HopsL_cons (fun m T hl hr hm hm2 => ?_) ?_
  · skip
   replace hm : 0 ≤ m := hm
   replace hm2 : m ≤ 0 := hm2
   obtain rfl : m = 0 := by omega
   refine AL_heap (by rfl : _ = H) ?_
   first | refine AL_load_rp sz3 ((hr 2 (by kernel_rfl)).trans rfl) ag3 ?_ | refine AL_loadw sz3 ((hr 2 (by kernel_rfl)).trans rfl) LK (by exact ag3) (by exact rfl) ?_ | refine AL_load_pt ag3 sz3 (by decide) ((hr 2 (by kernel_rfl)).trans rfl) LK (by first | assumption | exact sz3 | exact sz57 | exact sz60 | exact sz21 | exact sz9 | exact sz52 | exact sz58 | exact sz24 | exact sz26) (by exact rfl) (by exact rfl) (by exact rfl) ?_
   refine AL_nil ?_
   refine qpostL_mk ?_ ?_
   rotate_left
   exact Weak.refl _
   show SubH (H) _
   exact SubH.refl _
  refine HopsL_norm TO ?_
  refine HopsL_cons (fun m T hl hr hm hm2 => ?_) ?_
  · skip
   replace hm : 0 ≤ m := hm
   replace hm2 : m ≤ 0 := hm2
   obtain rfl : m = 0 := by omega
   refine AL_heap (by rfl : _ = H) ?_
   refine AL_bits ((hr 11 (by kernel_rfl)).trans rfl) rfl (by decide) ?_
   refine AL_nil ?_
   refine qpostL_mk ?_ ?_
   rotate_left
   exact Weak.refl _
   show SubH (H) _
   exact SubH.refl _
  refine HopsL_norm TO ?_
  refine HopsL_cons (fun m T hl hr hm hm2 => ?_) ?_
  · skip
   replace hm : 0 ≤ m := hm
   replace hm2 : m ≤ 0 := hm2
   obtain rfl : m = 0 := by omega
   refine AL_heap (by rfl : _ = H) ?_
   refine AL_callp en290 (.cons (.ev ((hr 8 (by kernel_rfl)).trans rfl)) (.cons (.ev ((hr 10 (by kernel_rfl)).trans rfl)) (.cons (.ev ((hr 12 (by kernel_rfl)).trans rfl)) (.nil)))) (css_Over_ok _ _ _) ?_
   refine AL_nil ?_
   refine qpostL_mk ?_ ?_
   rotate_left
   exact Weak.refl _
   show SubH (H) _
   exact SubH.refl _
  refine HopsL_norm TO ?_
  refine HopsL_cons (fun m T hl hr hm hm2 => ?_) ?_
  · skip
   replace hm : 0 ≤ m := hm
   replace hm2 : m ≤ 1 := hm2
   obtain rfl | rfl : m = 0 ∨ m = 1 := by omega
   ·
    refine AL_heap (by rfl : _ = H) ?_
    refine AL_nilCheck ((hr 4 (by kernel_rfl)).trans rfl) trivial ?_
    refine AL_nil ?_
    refine qpostL_mk ?_ ?_
    rotate_left
    exact Weak.refl _
    show SubH (H) _
    exact SubH.refl _
   ·
    refine AL_heap (by rfl : _ = H.upd b (some (.row 57 cp (xs.set i (cellAV (setF (bitAnd s 15) (bitAnd c 15) x)))))) ?_
    refine AL_nilCheck ((hr 4 (by kernel_rfl)).trans rfl) trivial ?_
    refine AL_nil ?_
    refine qpostL_mk ?_ ?_
    rotate_left
    exact Weak.refl _
    show SubH (H.upd b (some (.row 57 cp (xs.set i (cellAV (setF (bitAnd s 15) (bitAnd c 15) x)))))) _
    exact SubH.refl _
  refine HopsL_norm TO ?_
  refine HopsL_cons (fun m T hl hr hm hm2 => ?_) ?_
  · skip
   replace hm : 0 ≤ m := hm
   replace hm2 : m ≤ 0 := hm2
   obtain rfl : m = 0 := by omega
   refine AL_heap (by rfl : _ = H) ?_
   first | refine AL_fieldAddr_pt fl57_1 sz3 (by decide) ((hr 14 (by kernel_rfl)).trans rfl) ?_ | refine AL_fieldAddr_rp fl57_1 ag3 sz3 (by decide) (by decide) ((hr 14 (by kernel_rfl)).trans rfl) rfl (fun h => by first | rfl | cases h) ?_
   refine AL_nil ?_
   refine qpostL_mk ?_ ?_
   rotate_left
   exact Weak.refl _
   show SubH (H) _
   exact SubH.refl _
  refine HopsL_norm TO ?_
  refine HopsL_cons (fun m T hl hr hm hm2 => ?_) ?_
  · skip
   replace hm : 0 ≤ m := hm
   replace hm2 : m ≤ 0 := hm2
   obtain rfl : m = 0 := by omega
   refine AL_heap (by rfl : _ = H) ?_
   first | refine AL_store_w sz3 ((hr 15 (by kernel_rfl)).trans rfl) (.ev ((hr 13 (by kernel_rfl)).trans rfl)) rfl LK rfl (by exact rfl) ?_ | refine AL_store ((hr 15 (by kernel_rfl)).trans rfl) (.ev ((hr 13 (by kernel_rfl)).trans rfl)) rfl LK (by first | assumption | exact sz3 | exact sz57 | exact sz60 | exact sz21 | exact sz9 | exact sz52 | exact sz58 | exact sz24 | exact sz26) (by exact hx) sz3 rfl (by decide) (fun h => by first | (cases h; done) | exact ⟨rfl, rfl, rfl⟩) ?_
   refine AL_heap (by first | (simp only [AH.upd_upd]; rfl) | rfl) ?_
   refine AL_nil ?_
   refine qpostL_mk ?_ ?_
   rotate_left
   exact Weak.refl _
   show SubH (H.upd b (some (.row 57 cp (xs.set i (cellAV (setF (bitAnd s 15) (bitAnd c 15) x)))))) _
   exact SubH.refl _
  refine HopsL_norm TO ?_
  exact HopsL_nil
 refine Q_norm (by first | (simp only [Tfin, tput, anyAt, setAll, List.foldl_cons, List.foldl_nil, List.set_cons_zero, List.set_cons_succ]; rfl) | rfl) ?_
 refine retQ_0 (H' := H.upd b (some (.row 57 cp (xs.set i (cellAV (setF (bitAnd s 15) (bitAnd c 15) x)))))) (.inl rfl) (SubH.refl _) ?_
 exact hK

/-- quillwork/cells.Link$1 -/
theorem cells_Link_1_ok  :
  ∀ (h : ByteArray) (x : Cell), ChgC Tryz.prog 288 [.rp 9 (.v (.string h))] 57 3 (cellAV x) (cellAV (linkF h x)) := by
 intro h x H K b cp i xs hb hx hK
 refine AC_of Tryz.func288 rfl (rs := []) rfl Tryz.ntmps288 rfl ?_
 refine AW_norm TP ?_
 refine AW_region ?_
 refine AL_move rfl ?_
 first | refine AL_load_rp sz9 rfl ag9 ?_ | refine AL_loadw sz9 rfl LK (by exact ag9) (by exact rfl) ?_ | refine AL_load_pt ag9 sz9 (by decide) rfl LK (by first | assumption | exact sz3 | exact sz57 | exact sz60 | exact sz21 | exact sz9 | exact sz52 | exact sz58 | exact sz24 | exact sz26) (by exact rfl) (by exact rfl) (by exact rfl) ?_
 refine AL_nilCheck rfl trivial ?_
 first | refine AL_fieldAddr_pt fl57_2 sz9 (by decide) rfl ?_ | refine AL_fieldAddr_rp fl57_2 ag9 sz9 (by decide) (by decide) rfl rfl (fun h => by first | rfl | cases h) ?_
 refine AL_norm TN ?_
 first | refine AL_store_w sz9 rfl (.ev rfl) rfl LK rfl (by exact rfl) ?_ | refine AL_store rfl (.ev rfl) rfl LK (by first | assumption | exact sz3 | exact sz57 | exact sz60 | exact sz21 | exact sz9 | exact sz52 | exact sz58 | exact sz24 | exact sz26) (by exact hx) sz9 rfl (by decide) (fun h => by first | (cases h; done) | exact ⟨rfl, rfl, rfl⟩) ?_
 refine AL_heap (by first | (simp only [AH.upd_upd]; rfl) | rfl) ?_
 refine AL_norm TN ?_
 refine AL_nil ?_
 refine retQ_0 (H' := H.upd b (some (.row 57 cp (xs.set i (cellAV (linkF h x)))))) (.inl rfl) (SubH.refl _) ?_
 exact hK

/-- quillwork/cells.each -/
theorem cells_each_ok  :
  ∀ (g : Cell → Cell) (f : FuncId) (cps : List AV) (l : List Cell) (i j : Int), l.length ≤ 20000 → entersOf Tryz.prog f = true → (∀ x, ChgC Tryz.prog f cps 57 3 (cellAV x) (cellAV (g x))) → PF Tryz.prog 287 [cellsAV l, .v (.int .i64 i), .v (.int .i64 j), .fn (.func f) [] cps] (rcAV (eachC g l i j)) := by
 intro g f cps l i j hl hen hch H K hK
 refine AC_tup0 57 ?_
 refine AC_of Tryz.func287 rfl (rs := [.tmp 8, .tmp 9]) rfl Tryz.ntmps287 rfl ?_
 refine AW_norm TP ?_
 refine AW_seq ?_
 refine AW_region ?_
 refine AL_assign rfl ?_
 refine AL_assign rfl ?_
 refine AL_norm TN ?_
 refine AL_nil ?_
 refine seqQ_n ?_
 refine AW_seq ?_
 refine AW_seq ?_
 refine AW_region ?_
 refine AL_move rfl ?_
 refine AL_move rfl ?_
 refine AL_norm TN ?_
 refine AL_move rfl ?_
 refine AL_callp en277 (.cons (.ev rfl) (.cons (.ev rfl) (.cons (.ev rfl) (.nil)))) (cells_span_ok _ _ _) ?_
 refine AL_not rfl ?_
 refine AL_norm TN ?_
 refine AL_nil ?_
 refine seqQ_n ?_
 refine AW_cond rfl (fun hc1 => ?_) (fun hc1 => ?_)
 · try simp only [Bool.or_eq_true, Bool.and_eq_true, Bool.or_eq_false_iff, Bool.and_eq_false_iff, decide_eq_true_eq, decide_eq_false_iff_not, Bool.not_eq_true', Bool.not_eq_false', beq_iff_eq, ne_eq, Decidable.not_not, List.length_map] at hc1
  refine AW_seq ?_
  refine AW_region ?_
  refine AL_assign rfl ?_
  refine AL_norm TN ?_
  refine AL_assign rfl ?_
  refine AL_norm TN ?_
  refine AL_nil ?_
  refine seqQ_n ?_
  refine AW_ret ?_
  refine seqQ_r ?_
  refine retQ_2 (H' := H) (.inr rfl) rfl rfl (SubH.refl _) ?_
  exact .inr ⟨none, 0, [], _, ⟨rfl, rfl⟩, rfl, rfl, by rw [eachC_no hc1] at hK; exact hK⟩
 · try simp only [Bool.or_eq_true, Bool.and_eq_true, Bool.or_eq_false_iff, Bool.and_eq_false_iff, decide_eq_true_eq, decide_eq_false_iff_not, Bool.not_eq_true', Bool.not_eq_false', beq_iff_eq, ne_eq, Decidable.not_not, List.length_map] at hc1; have hsp := spanC_ok hc1
  refine AW_skip ?_
  refine seqQ_n ?_
  refine AW_seq ?_
  refine AW_region ?_
  refine AL_move rfl ?_
  refine AL_callk en220 (.cons (.ev rfl) (.nil)) (slices_Clone_api_Cell_api_Cell_ok l (by omega) H (fun x H1 => ∃ A c, Fresh H A c (l.map cellAV) ∧ x = .own A c l.length ∧ H1 = H.put A 57 c (l.map cellAV)) (fun A c h => ⟨A, c, h, rfl, rfl⟩)) ?_
  rintro _ _ ⟨A, c, hF, rfl, rfl⟩
  refine AL_assign rfl ?_
  refine AL_norm TN ?_
  refine AL_nil ?_
  refine seqQ_n ?_
  refine AW_seq ?_
  refine AW_seq ?_
  refine AW_region ?_
  refine AL_move rfl ?_
  refine AL_norm TN ?_
  refine AL_assign rfl ?_
  refine AL_norm TN ?_
  refine AL_nil ?_
  refine seqQ_n ?_
  refine AW_block ?_
  refine AW_loops (α := Nat) [11, 20, 21, 22, 23, 24, 25, 26, 27, 28, 29] (fun k => [(11, .v (.int .i64 (k : Int)))]) (fun k => H.put A 57 c ((mapC g l i (k : Int)).map cellAV)) (fun k => i.toNat ≤ k ∧ (k : Int) ≤ j) (fun k => j.toNat - k) (i.toNat) ?_ ?_ ?_ ?_
  · exact ⟨Nat.le_refl _, by omega⟩
  · rw [show ((i.toNat : Nat) : Int) = i by omega, mapC_zero g l i (by omega) (by omega)]; exact SubH.refl _
  · rw [Int.toNat_of_nonneg hsp.1]
   try simp only [tput, anyAt, setAll, List.foldl_cons, List.foldl_nil, List.set_cons_zero, List.set_cons_succ]
   repeat (first | exact Weak.nil | refine Weak.cons ?_ | refine Weak.consAny ?_)
  · intro k hI
   refine AW_norm TN ?_
   refine AW_seq ?_
   refine AW_seq ?_
   refine AW_region ?_
   refine AL_move rfl ?_
   refine AL_move rfl ?_
   refine AL_lss rfl rfl ?_
   refine AL_norm TN ?_
   refine AL_nil ?_
   refine seqQ_n ?_
   refine AW_cond rfl (fun hc2 => ?_) (fun hc2 => ?_)
   · try simp only [Bool.or_eq_true, Bool.and_eq_true, Bool.or_eq_false_iff, Bool.and_eq_false_iff, decide_eq_true_eq, decide_eq_false_iff_not, Bool.not_eq_true', Bool.not_eq_false', beq_iff_eq, ne_eq, Decidable.not_not, List.length_map] at hc2; obtain ⟨bo, rfl⟩ : ∃ bo, A = some bo := hF.some (by rw [List.length_map]; omega)
    refine AW_skip ?_
    refine seqQ_n ?_
    refine AW_seq ?_
    refine AW_block ?_
    refine AW_region ?_
    refine AL_move rfl ?_
    refine AL_norm TN ?_
    refine AL_move rfl ?_
    refine AL_move rfl ?_
    first | refine AL_indexAddr_sl un58 sz57 (by decide) rfl rfl ?_ ?_ ?_ ?_ | refine AL_indexAddr_own un58 sz57 rfl rfl ?_ ?_ ?_
    · omega
    · omega
    refine AL_callv rfl hen (.cons (.ev rfl) .nil) (hch (l.getD k c0) _ (fun x H1 => x = .tup [] ∧ H1 = H.put (some bo) 57 c ((mapC g l i ((k + 1 : Nat) : Int)).map cellAV)) bo c _ _ (AH.upd_same _ _ _) (by rw [show i = ((i.toNat : Nat) : Int) by omega]; exact mapC_at g l i.toNat k (by omega) (by omega)) ⟨rfl, ?_⟩) ?_; rotate_left; rintro _ _ ⟨rfl, rfl⟩; rotate_left; (rw [show i = ((i.toNat : Nat) : Int) by omega]; rw [← mapC_nextA g l i.toNat k (by omega) (by omega)]; exact AH.upd_upd _ _ _ _)
    refine AL_norm TN ?_
    refine AL_nil ?_
    refine blockQ_n ?_
    refine seqQ_n ?_
    refine AW_region ?_
    refine AL_move rfl ?_
    refine AL_norm TN ?_
    refine AL_addz rfl rfl (((k + 1 : Nat) : Int)) (by exact inc64 (by omega)) ?_
    refine AL_assign rfl ?_
    refine AL_norm TN ?_
    refine AL_nil ?_
    refine loopQ_n (k + 1) ?_ ?_ ?_ ?_
    · exact ⟨by omega, by omega⟩
    · omega
    · exact SubH.refl _
    · skip
     try simp only [tput, anyAt, setAll, List.foldl_cons, List.foldl_nil, List.set_cons_zero, List.set_cons_succ]
     repeat (first | exact Weak.nil | refine Weak.cons ?_ | refine Weak.consAny ?_)
   · try simp only [Bool.or_eq_true, Bool.and_eq_true, Bool.or_eq_false_iff, Bool.and_eq_false_iff, decide_eq_true_eq, decide_eq_false_iff_not, Bool.not_eq_true', Bool.not_eq_false', beq_iff_eq, ne_eq, Decidable.not_not, List.length_map] at hc2
    refine AW_exit ?_
    refine seqQ_x ?_
    refine loopQ_x ?_
    refine blockQ_hit ?_
    refine seqQ_n ?_
    refine AW_seq ?_
    refine AW_region ?_
    refine AL_move rfl ?_
    refine AL_assign rfl ?_
    refine AL_norm TN ?_
    refine AL_assign rfl ?_
    refine AL_norm TN ?_
    refine AL_nil ?_
    refine seqQ_n ?_
    refine AW_ret ?_
    refine retQ_2 (H' := H.put A 57 c ((mapC g l i j).map cellAV)) (.inr rfl) rfl rfl (by rw [show (k : Int) = j by omega]; exact SubH.refl _) ?_
    rw [eachC_yes hc1] at hK; exact .inr ⟨A, c, (mapC g l i j).map cellAV, _, hF.len (by rw [List.length_map, List.length_map, mapC_len g l i j (by omega) (by omega) (by omega)]), by rw [List.length_map, mapC_len g l i j (by omega) (by omega) (by omega)], rfl, hK⟩


end Go.Proofs
