/- The given statement of the law: for every input the law answers true. No conditions of our own. -/
import Derived.Test.YtcmijcfmldaiaaaGreatDoorQC
import Derived.Test.YtcmijcfmldaiaaaGreatDoorQKa
import Derived.Test.YtcmijcfmldaiaaaGreatDoorProg
set_option autoImplicit false
set_option linter.unusedVariables false
set_option linter.unusedSimpArgs false
set_option maxRecDepth 100000
set_option maxHeartbeats 4000000
namespace Go.Proofs
open Go Go.RowKit Go.AL Go.Q Go.IntWalk
attribute [local irreducible] AW AL seqQ blockQ retQ loopQ roundQ asgQ grpQ mQ qpost qpostL retQN retQM
instance sz26 : FSz Tryz.prog 26 7 := ⟨by kernel_rfl⟩
instance ze24 : FZe Tryz.prog 24 (.agg #[.int .i64 0, .int .i64 0]) := ⟨by kernel_rfl⟩
instance fl26_1 : FFl Tryz.prog 26 1 24 1 := ⟨by kernel_rfl⟩
instance ag24 : FAg Tryz.prog 24 true := ⟨by kernel_rfl⟩
instance fl26_2 : FFl Tryz.prog 26 2 24 3 := ⟨by kernel_rfl⟩
instance en197 : FEn Tryz.prog 197 := ⟨by kernel_rfl⟩
instance en277 : FEn Tryz.prog 277 := ⟨by kernel_rfl⟩
instance en220 : FEn Tryz.prog 220 := ⟨by kernel_rfl⟩
instance en290 : FEn Tryz.prog 290 := ⟨by kernel_rfl⟩

/-- quillwork/typing.Span -/
theorem typing_Span_ok (s : St) :
    PF Tryz.prog 114 [stAV s] (.tup [posAV (spanS s).1, posAV (spanS s).2]) := by
  intro H K hK
  refine AC_of Tryz.func114 rfl (rs := [.cell 2 24, .cell 3 24]) rfl Tryz.ntmps114 rfl ?_
  refine AW_norm TP ?_
  refine GC2 ?_
  refine GF ?_
  refine AL_alloc FZe.h (.agg (.v (.v .nil))) rfl FSz.h rfl ?_
  intro b2 hb2
  have hn2 : H b2 = none := SubH.none SU hb2
  refine AL_alloc FZe.h (.agg (.v (.v .nil))) rfl FSz.h rfl ?_
  intro b3 hb3
  have hn3 : H b3 = none := SubH.none SU hb3
  have hd3_2 : b3 ≠ b2 := AH.fresh_ne hb3 LK
  have hd2_3 : b2 ≠ b3 := Ne.symm hd3_2
  refine AL_norm TN ?_
  refine GC5 ?_
  refine GO4 ?_
  refine AL_callp FEn.h XA (doc_Cmp_ok _ _) ?_
  refine AL_norm TN ?_
  refine GO1 ?_
  refine GC2 ?_
  refine GI rfl (fun hc1 => ?_) (fun hc1 => ?_)
  ·
    refine GC1 ?_
    refine' AW_drawL (xs := [_, _, _, _, _, _]) [4, 5] [0, 1, 3, 4, 2, 5] (fun m => match m with | 0 => (H.upd b2 (some (.row 24 1 [posAV p0]))).upd b3 (some (.row 24 1 [posAV p0])) | 1 => (H.upd b2 (some (.row 24 1 [posAV s.f]))).upd b3 (some (.row 24 1 [posAV p0])) | _ => (H.upd b2 (some (.row 24 1 [posAV s.f]))).upd b3 (some (.row 24 1 [posAV s.a]))) rfl (by kernel_rfl) ?hops1 ?_
    case hops1 =>
      refine HopsL_cons (fun m T hl hr hm hm2 => ?_) ?_
      · skip
        replace hm : 0 ≤ m := hm
        replace hm2 : m ≤ 0 := hm2
        obtain rfl : m = 0 := by omega
        refine AL_heap (by rfl : _ = (H.upd b2 (some (.row 24 1 [posAV p0]))).upd b3 (some (.row 24 1 [posAV p0]))) ?_
        first | refine AL_fieldAddr_pt FFl.h FSz.h (by decide) ((hr 1 (by kernel_rfl)).trans rfl) ?_ | refine AL_fieldAddr_rp FFl.h FAg.h FSz.h (by decide) (by decide) ((hr 1 (by kernel_rfl)).trans rfl) rfl (fun h => by first | rfl | cases h) ?_
        refine AL_nil ?_
        refine qpostL_mk ?_ ?_
        rotate_left
        exact Weak.refl _
        show SubH ((H.upd b2 (some (.row 24 1 [posAV p0]))).upd b3 (some (.row 24 1 [posAV p0]))) _
        exact SubH.refl _
      refine HopsL_norm TO ?_
      refine HopsL_cons (fun m T hl hr hm hm2 => ?_) ?_
      · skip
        replace hm : 0 ≤ m := hm
        replace hm2 : m ≤ 0 := hm2
        obtain rfl : m = 0 := by omega
        refine AL_heap (by rfl : _ = (H.upd b2 (some (.row 24 1 [posAV p0]))).upd b3 (some (.row 24 1 [posAV p0]))) ?_
        first | refine AL_load_rp FSz.h ((hr 10 (by kernel_rfl)).trans rfl) FAg.h ?_ | refine AL_loadw FSz.h ((hr 10 (by kernel_rfl)).trans rfl) LK (by exact FAg.h) rfl ?_ | refine AL_load_pt FAg.h FSz.h (by decide) ((hr 10 (by kernel_rfl)).trans rfl) LK FSz.h (by exact rfl) (by exact rfl) (by exact rfl) ?_
        refine AL_nil ?_
        refine qpostL_mk ?_ ?_
        rotate_left
        exact Weak.refl _
        show SubH ((H.upd b2 (some (.row 24 1 [posAV p0]))).upd b3 (some (.row 24 1 [posAV p0]))) _
        exact SubH.refl _
      refine HopsL_norm TO ?_
      refine HopsL_cons (fun m T hl hr hm hm2 => ?_) ?_
      · skip
        replace hm : 0 ≤ m := hm
        replace hm2 : m ≤ 1 := hm2
        obtain rfl | rfl : m = 0 ∨ m = 1 := by omega
        ·
          refine AL_heap (by rfl : _ = (H.upd b2 (some (.row 24 1 [posAV p0]))).upd b3 (some (.row 24 1 [posAV p0]))) ?_
          first | refine AL_fieldAddr_pt FFl.h FSz.h (by decide) ((hr 1 (by kernel_rfl)).trans rfl) ?_ | refine AL_fieldAddr_rp FFl.h FAg.h FSz.h (by decide) (by decide) ((hr 1 (by kernel_rfl)).trans rfl) rfl (fun h => by first | rfl | cases h) ?_
          refine AL_nil ?_
          refine qpostL_mk ?_ ?_
          rotate_left
          exact Weak.refl _
          show SubH ((H.upd b2 (some (.row 24 1 [posAV p0]))).upd b3 (some (.row 24 1 [posAV p0]))) _
          exact SubH.refl _
        ·
          refine AL_heap (by rfl : _ = (H.upd b2 (some (.row 24 1 [posAV s.f]))).upd b3 (some (.row 24 1 [posAV p0]))) ?_
          first | refine AL_fieldAddr_pt FFl.h FSz.h (by decide) ((hr 1 (by kernel_rfl)).trans rfl) ?_ | refine AL_fieldAddr_rp FFl.h FAg.h FSz.h (by decide) (by decide) ((hr 1 (by kernel_rfl)).trans rfl) rfl (fun h => by first | rfl | cases h) ?_
          refine AL_nil ?_
          refine qpostL_mk ?_ ?_
          rotate_left
          exact Weak.refl _
          show SubH ((H.upd b2 (some (.row 24 1 [posAV s.f]))).upd b3 (some (.row 24 1 [posAV p0]))) _
          exact SubH.refl _
      refine HopsL_norm TO ?_
      refine HopsL_cons (fun m T hl hr hm hm2 => ?_) ?_
      · skip
        replace hm : 0 ≤ m := hm
        replace hm2 : m ≤ 1 := hm2
        obtain rfl | rfl : m = 0 ∨ m = 1 := by omega
        ·
          refine AL_heap (by rfl : _ = (H.upd b2 (some (.row 24 1 [posAV p0]))).upd b3 (some (.row 24 1 [posAV p0]))) ?_
          first | refine AL_load_rp FSz.h ((hr 12 (by kernel_rfl)).trans rfl) FAg.h ?_ | refine AL_loadw FSz.h ((hr 12 (by kernel_rfl)).trans rfl) LK (by exact FAg.h) rfl ?_ | refine AL_load_pt FAg.h FSz.h (by decide) ((hr 12 (by kernel_rfl)).trans rfl) LK FSz.h (by exact rfl) (by exact rfl) (by exact rfl) ?_
          refine AL_nil ?_
          refine qpostL_mk ?_ ?_
          rotate_left
          exact Weak.refl _
          show SubH ((H.upd b2 (some (.row 24 1 [posAV p0]))).upd b3 (some (.row 24 1 [posAV p0]))) _
          exact SubH.refl _
        ·
          refine AL_heap (by rfl : _ = (H.upd b2 (some (.row 24 1 [posAV s.f]))).upd b3 (some (.row 24 1 [posAV p0]))) ?_
          first | refine AL_load_rp FSz.h ((hr 12 (by kernel_rfl)).trans rfl) FAg.h ?_ | refine AL_loadw FSz.h ((hr 12 (by kernel_rfl)).trans rfl) LK (by exact FAg.h) rfl ?_ | refine AL_load_pt FAg.h FSz.h (by decide) ((hr 12 (by kernel_rfl)).trans rfl) LK FSz.h (by exact rfl) (by exact rfl) (by exact rfl) ?_
          refine AL_nil ?_
          refine qpostL_mk ?_ ?_
          rotate_left
          exact Weak.refl _
          show SubH ((H.upd b2 (some (.row 24 1 [posAV s.f]))).upd b3 (some (.row 24 1 [posAV p0]))) _
          exact SubH.refl _
      refine HopsL_norm TO ?_
      refine HopsL_cons (fun m T hl hr hm hm2 => ?_) ?_
      · skip
        replace hm : 0 ≤ m := hm
        replace hm2 : m ≤ 0 := hm2
        obtain rfl : m = 0 := by omega
        refine AL_heap (by rfl : _ = (H.upd b2 (some (.row 24 1 [posAV p0]))).upd b3 (some (.row 24 1 [posAV p0]))) ?_
        first | refine AL_store_w FSz.h ((hr 2 (by kernel_rfl)).trans rfl) (.ev ((hr 11 (by kernel_rfl)).trans rfl)) rfl LK rfl (by exact rfl) ?_ | refine AL_store ((hr 2 (by kernel_rfl)).trans rfl) (.ev ((hr 11 (by kernel_rfl)).trans rfl)) rfl LK FSz.h (by exact rfl) FSz.h rfl (by decide) (fun h => by first | (cases h; done) | exact ⟨rfl, rfl, rfl⟩) ?_
        refine AL_heap (by first | (simp only [AH.upd_upd]; rfl) | rfl) ?_
        refine AL_nil ?_
        refine qpostL_mk ?_ ?_
        rotate_left
        exact Weak.refl _
        show SubH ((H.upd b2 (some (.row 24 1 [posAV s.f]))).upd b3 (some (.row 24 1 [posAV p0]))) _
        first | exact SubH.refl _ | (refine SubH.of_eq (funext fun j => ?_); simp only [AH.upd]; (repeat' split) <;> first | rfl | omega)
      refine HopsL_norm TO ?_
      refine HopsL_cons (fun m T hl hr hm hm2 => ?_) ?_
      · skip
        replace hm : 1 ≤ m := hm
        replace hm2 : m ≤ 1 := hm2
        obtain rfl : m = 1 := by omega
        refine AL_heap (by rfl : _ = (H.upd b2 (some (.row 24 1 [posAV s.f]))).upd b3 (some (.row 24 1 [posAV p0]))) ?_
        first | refine AL_store_w FSz.h ((hr 3 (by kernel_rfl)).trans rfl) (.ev ((hr 13 (by kernel_rfl)).trans rfl)) rfl LK rfl (by exact rfl) ?_ | refine AL_store ((hr 3 (by kernel_rfl)).trans rfl) (.ev ((hr 13 (by kernel_rfl)).trans rfl)) rfl LK FSz.h (by exact rfl) FSz.h rfl (by decide) (fun h => by first | (cases h; done) | exact ⟨rfl, rfl, rfl⟩) ?_
        refine AL_heap (by first | (simp only [AH.upd_upd]; rfl) | rfl) ?_
        refine AL_nil ?_
        refine qpostL_mk ?_ ?_
        rotate_left
        exact Weak.refl _
        show SubH ((H.upd b2 (some (.row 24 1 [posAV s.f]))).upd b3 (some (.row 24 1 [posAV s.a]))) _
        first | exact SubH.refl _ | (refine SubH.of_eq (funext fun j => ?_); simp only [AH.upd]; (repeat' split) <;> first | rfl | omega)
      refine HopsL_norm TO ?_
      exact HopsL_nil
    refine Q_norm (by first | (simp only [Tfin, tput, anyAt, setAll, List.foldl_cons, List.foldl_nil, List.set_cons_zero, List.set_cons_succ]; rfl) | rfl) ?_
    refine GC3 ?_
    refine' retQ_g (H' := H) (.inr rfl) ?rv1 SU ?_
    case rv1 => exact .cons (.cell rfl LK FSz.h rfl FAg.h FSz.h rfl rfl (by decide)) (.cons (.cell rfl LK FSz.h rfl FAg.h FSz.h rfl rfl (by decide)) (.nil))
    refine K_eq ?_ hK
    show AV.tup [posAV s.f, posAV s.a] = _; unfold spanS; rw [if_pos (by omega)]
  ·
    refine GC3 ?_
    refine' AW_drawL (xs := [_, _, _, _, _, _]) [4, 5] [0, 1, 3, 4, 2, 5] (fun m => match m with | 0 => (H.upd b2 (some (.row 24 1 [posAV p0]))).upd b3 (some (.row 24 1 [posAV p0])) | 1 => (H.upd b2 (some (.row 24 1 [posAV s.a]))).upd b3 (some (.row 24 1 [posAV p0])) | _ => (H.upd b2 (some (.row 24 1 [posAV s.a]))).upd b3 (some (.row 24 1 [posAV s.f]))) rfl (by kernel_rfl) ?hops2 ?_
    case hops2 =>
      refine HopsL_cons (fun m T hl hr hm hm2 => ?_) ?_
      · skip
        replace hm : 0 ≤ m := hm
        replace hm2 : m ≤ 0 := hm2
        obtain rfl : m = 0 := by omega
        refine AL_heap (by rfl : _ = (H.upd b2 (some (.row 24 1 [posAV p0]))).upd b3 (some (.row 24 1 [posAV p0]))) ?_
        first | refine AL_fieldAddr_pt FFl.h FSz.h (by decide) ((hr 1 (by kernel_rfl)).trans rfl) ?_ | refine AL_fieldAddr_rp FFl.h FAg.h FSz.h (by decide) (by decide) ((hr 1 (by kernel_rfl)).trans rfl) rfl (fun h => by first | rfl | cases h) ?_
        refine AL_nil ?_
        refine qpostL_mk ?_ ?_
        rotate_left
        exact Weak.refl _
        show SubH ((H.upd b2 (some (.row 24 1 [posAV p0]))).upd b3 (some (.row 24 1 [posAV p0]))) _
        exact SubH.refl _
      refine HopsL_norm TO ?_
      refine HopsL_cons (fun m T hl hr hm hm2 => ?_) ?_
      · skip
        replace hm : 0 ≤ m := hm
        replace hm2 : m ≤ 0 := hm2
        obtain rfl : m = 0 := by omega
        refine AL_heap (by rfl : _ = (H.upd b2 (some (.row 24 1 [posAV p0]))).upd b3 (some (.row 24 1 [posAV p0]))) ?_
        first | refine AL_load_rp FSz.h ((hr 14 (by kernel_rfl)).trans rfl) FAg.h ?_ | refine AL_loadw FSz.h ((hr 14 (by kernel_rfl)).trans rfl) LK (by exact FAg.h) rfl ?_ | refine AL_load_pt FAg.h FSz.h (by decide) ((hr 14 (by kernel_rfl)).trans rfl) LK FSz.h (by exact rfl) (by exact rfl) (by exact rfl) ?_
        refine AL_nil ?_
        refine qpostL_mk ?_ ?_
        rotate_left
        exact Weak.refl _
        show SubH ((H.upd b2 (some (.row 24 1 [posAV p0]))).upd b3 (some (.row 24 1 [posAV p0]))) _
        exact SubH.refl _
      refine HopsL_norm TO ?_
      refine HopsL_cons (fun m T hl hr hm hm2 => ?_) ?_
      · skip
        replace hm : 0 ≤ m := hm
        replace hm2 : m ≤ 1 := hm2
        obtain rfl | rfl : m = 0 ∨ m = 1 := by omega
        ·
          refine AL_heap (by rfl : _ = (H.upd b2 (some (.row 24 1 [posAV p0]))).upd b3 (some (.row 24 1 [posAV p0]))) ?_
          first | refine AL_fieldAddr_pt FFl.h FSz.h (by decide) ((hr 1 (by kernel_rfl)).trans rfl) ?_ | refine AL_fieldAddr_rp FFl.h FAg.h FSz.h (by decide) (by decide) ((hr 1 (by kernel_rfl)).trans rfl) rfl (fun h => by first | rfl | cases h) ?_
          refine AL_nil ?_
          refine qpostL_mk ?_ ?_
          rotate_left
          exact Weak.refl _
          show SubH ((H.upd b2 (some (.row 24 1 [posAV p0]))).upd b3 (some (.row 24 1 [posAV p0]))) _
          exact SubH.refl _
        ·
          refine AL_heap (by rfl : _ = (H.upd b2 (some (.row 24 1 [posAV s.a]))).upd b3 (some (.row 24 1 [posAV p0]))) ?_
          first | refine AL_fieldAddr_pt FFl.h FSz.h (by decide) ((hr 1 (by kernel_rfl)).trans rfl) ?_ | refine AL_fieldAddr_rp FFl.h FAg.h FSz.h (by decide) (by decide) ((hr 1 (by kernel_rfl)).trans rfl) rfl (fun h => by first | rfl | cases h) ?_
          refine AL_nil ?_
          refine qpostL_mk ?_ ?_
          rotate_left
          exact Weak.refl _
          show SubH ((H.upd b2 (some (.row 24 1 [posAV s.a]))).upd b3 (some (.row 24 1 [posAV p0]))) _
          exact SubH.refl _
      refine HopsL_norm TO ?_
      refine HopsL_cons (fun m T hl hr hm hm2 => ?_) ?_
      · skip
        replace hm : 0 ≤ m := hm
        replace hm2 : m ≤ 1 := hm2
        obtain rfl | rfl : m = 0 ∨ m = 1 := by omega
        ·
          refine AL_heap (by rfl : _ = (H.upd b2 (some (.row 24 1 [posAV p0]))).upd b3 (some (.row 24 1 [posAV p0]))) ?_
          first | refine AL_load_rp FSz.h ((hr 16 (by kernel_rfl)).trans rfl) FAg.h ?_ | refine AL_loadw FSz.h ((hr 16 (by kernel_rfl)).trans rfl) LK (by exact FAg.h) rfl ?_ | refine AL_load_pt FAg.h FSz.h (by decide) ((hr 16 (by kernel_rfl)).trans rfl) LK FSz.h (by exact rfl) (by exact rfl) (by exact rfl) ?_
          refine AL_nil ?_
          refine qpostL_mk ?_ ?_
          rotate_left
          exact Weak.refl _
          show SubH ((H.upd b2 (some (.row 24 1 [posAV p0]))).upd b3 (some (.row 24 1 [posAV p0]))) _
          exact SubH.refl _
        ·
          refine AL_heap (by rfl : _ = (H.upd b2 (some (.row 24 1 [posAV s.a]))).upd b3 (some (.row 24 1 [posAV p0]))) ?_
          first | refine AL_load_rp FSz.h ((hr 16 (by kernel_rfl)).trans rfl) FAg.h ?_ | refine AL_loadw FSz.h ((hr 16 (by kernel_rfl)).trans rfl) LK (by exact FAg.h) rfl ?_ | refine AL_load_pt FAg.h FSz.h (by decide) ((hr 16 (by kernel_rfl)).trans rfl) LK FSz.h (by exact rfl) (by exact rfl) (by exact rfl) ?_
          refine AL_nil ?_
          refine qpostL_mk ?_ ?_
          rotate_left
          exact Weak.refl _
          show SubH ((H.upd b2 (some (.row 24 1 [posAV s.a]))).upd b3 (some (.row 24 1 [posAV p0]))) _
          exact SubH.refl _
      refine HopsL_norm TO ?_
      refine HopsL_cons (fun m T hl hr hm hm2 => ?_) ?_
      · skip
        replace hm : 0 ≤ m := hm
        replace hm2 : m ≤ 0 := hm2
        obtain rfl : m = 0 := by omega
        refine AL_heap (by rfl : _ = (H.upd b2 (some (.row 24 1 [posAV p0]))).upd b3 (some (.row 24 1 [posAV p0]))) ?_
        first | refine AL_store_w FSz.h ((hr 2 (by kernel_rfl)).trans rfl) (.ev ((hr 15 (by kernel_rfl)).trans rfl)) rfl LK rfl (by exact rfl) ?_ | refine AL_store ((hr 2 (by kernel_rfl)).trans rfl) (.ev ((hr 15 (by kernel_rfl)).trans rfl)) rfl LK FSz.h (by exact rfl) FSz.h rfl (by decide) (fun h => by first | (cases h; done) | exact ⟨rfl, rfl, rfl⟩) ?_
        refine AL_heap (by first | (simp only [AH.upd_upd]; rfl) | rfl) ?_
        refine AL_nil ?_
        refine qpostL_mk ?_ ?_
        rotate_left
        exact Weak.refl _
        show SubH ((H.upd b2 (some (.row 24 1 [posAV s.a]))).upd b3 (some (.row 24 1 [posAV p0]))) _
        first | exact SubH.refl _ | (refine SubH.of_eq (funext fun j => ?_); simp only [AH.upd]; (repeat' split) <;> first | rfl | omega)
      refine HopsL_norm TO ?_
      refine HopsL_cons (fun m T hl hr hm hm2 => ?_) ?_
      · skip
        replace hm : 1 ≤ m := hm
        replace hm2 : m ≤ 1 := hm2
        obtain rfl : m = 1 := by omega
        refine AL_heap (by rfl : _ = (H.upd b2 (some (.row 24 1 [posAV s.a]))).upd b3 (some (.row 24 1 [posAV p0]))) ?_
        first | refine AL_store_w FSz.h ((hr 3 (by kernel_rfl)).trans rfl) (.ev ((hr 17 (by kernel_rfl)).trans rfl)) rfl LK rfl (by exact rfl) ?_ | refine AL_store ((hr 3 (by kernel_rfl)).trans rfl) (.ev ((hr 17 (by kernel_rfl)).trans rfl)) rfl LK FSz.h (by exact rfl) FSz.h rfl (by decide) (fun h => by first | (cases h; done) | exact ⟨rfl, rfl, rfl⟩) ?_
        refine AL_heap (by first | (simp only [AH.upd_upd]; rfl) | rfl) ?_
        refine AL_nil ?_
        refine qpostL_mk ?_ ?_
        rotate_left
        exact Weak.refl _
        show SubH ((H.upd b2 (some (.row 24 1 [posAV s.a]))).upd b3 (some (.row 24 1 [posAV s.f]))) _
        first | exact SubH.refl _ | (refine SubH.of_eq (funext fun j => ?_); simp only [AH.upd]; (repeat' split) <;> first | rfl | omega)
      refine HopsL_norm TO ?_
      exact HopsL_nil
    refine Q_norm (by first | (simp only [Tfin, tput, anyAt, setAll, List.foldl_cons, List.foldl_nil, List.set_cons_zero, List.set_cons_succ]; rfl) | rfl) ?_
    refine GC2 ?_
    refine' retQ_g (H' := H) (.inr rfl) ?rv2 SU ?_
    case rv2 => exact .cons (.cell rfl LK FSz.h rfl FAg.h FSz.h rfl rfl (by decide)) (.cons (.cell rfl LK FSz.h rfl FAg.h FSz.h rfl rfl (by decide)) (.nil))
    refine K_eq ?_ hK
    show AV.tup [posAV s.a, posAV s.f] = _; unfold spanS; rw [if_neg (by omega)]

/-- quillwork/css.Over -/
theorem css_Over_ok (b s c : Int) :
    PF Tryz.prog 290 [.v (.int .i64 b), .v (.int .i64 s), .v (.int .i64 c)] (.v (.int .i64 (overB b s c))) := by
  intro H K hK
  refine AC_of Tryz.func290 rfl (rs := [.tmp 6]) rfl Tryz.ntmps290 rfl ?_
  refine AW_norm TP ?_
  refine GC2 ?_
  refine GO1 ?_
  refine GC4 ?_
  refine GO2 ?_
  refine AL_bits rfl rfl (by decide) ?_
  refine AL_norm TN ?_
  refine GO1 ?_
  refine AL_bits rfl rfl (by decide) ?_
  refine GO1 ?_
  refine GC3 ?_
  refine retQ_1 (H' := H) (.inr rfl) rfl SU ?_
  refine K_eq ?_ hK
  rfl

/-- quillwork/cells.span -/
theorem cells_span_ok (l : List Cell) (i j : Int) :
    PF Tryz.prog 277 [cellsAV l, .v (.int .i64 i), .v (.int .i64 j)] (.v (.bool (spanC l i j))) := by
  intro H K hK
  refine AC_of Tryz.func277 rfl (rs := [.tmp 6]) rfl Tryz.ntmps277 rfl ?_
  refine AW_norm TP ?_
  refine GC2 ?_
  refine GO1 ?_
  refine GC4 ?_
  refine GO3 ?_
  refine AL_and (j := 2) (n := 3) (c := 9) (t := 12) (r := 13) (v := ?v1) [10, 11, 12] rfl rfl rfl rfl rfl rfl rfl (fun hg1 => ?_) ?_; rotate_left
  · refine GS ?_
    (try simp only [Bool.or_eq_true, Bool.and_eq_true, Bool.or_eq_false_iff, Bool.and_eq_false_iff, decide_eq_true_eq, decide_eq_false_iff_not, Bool.not_eq_true', Bool.not_eq_false', beq_iff_eq, ne_eq, Decidable.not_not, List.length_map] at hg1)
    refine GO3 ?_
    refine AL_nil (grpQ_mk ?_)
    exact WK
  refine AL_norm TN ?_
  refine GO1 ?_
  refine AL_and (j := 7) (n := 4) (c := 14) (t := 18) (r := 19) (v := ?v2) [15, 16, 17, 18] rfl rfl rfl rfl rfl rfl rfl (fun hg2 => ?_) ?_; rotate_left
  · refine GS ?_
    (try simp only [Bool.or_eq_true, Bool.and_eq_true, Bool.or_eq_false_iff, Bool.and_eq_false_iff, decide_eq_true_eq, decide_eq_false_iff_not, Bool.not_eq_true', Bool.not_eq_false', beq_iff_eq, ne_eq, Decidable.not_not, List.length_map] at hg2)
    refine GO4 ?_
    refine AL_nil (grpQ_mk ?_)
    exact WK
  refine AL_norm TN ?_
  refine GO1 ?_
  refine GC3 ?_
  refine retQ_1 (H' := H) (.inr rfl) rfl SU ?_
  refine K_eq ?_ hK
  rw [List.length_map]; exact congrArg (fun b => AV.v (.bool b)) (spanC_mk l i j)

/-- quillwork/cells.Part -/
theorem cells_Part_ok (l : List Cell) (i j : Int) (hl : l.length ≤ 20000) :
    PF Tryz.prog 266 [cellsAV l, .v (.int .i64 i), .v (.int .i64 j)] (rcAV (partC l i j)) := by
  intro H K hK
  refine AC_tup0 57 ?_
  refine AC_of Tryz.func266 rfl (rs := [.tmp 6, .tmp 7]) rfl Tryz.ntmps266 rfl ?_
  refine AW_norm TP ?_
  refine GC2 ?_
  refine GO2 ?_
  refine GC5 ?_
  refine GO3 ?_
  refine AL_callp FEn.h XA (cells_span_ok _ _ _) ?_
  refine GO1 ?_
  refine GC2 ?_
  refine GI rfl (fun hc1 => ?_) (fun hc1 => ?_)
  ·
    refine GC2 ?_
    refine GO2 ?_
    refine GC4 ?_
    refine retQ_2 (H' := H) (.inr rfl) rfl rfl SU ?_
    exact .inr ⟨none, 0, [], _, ⟨rfl, rfl⟩, rfl, rfl, by rw [partC_no hc1] at hK; exact hK⟩
  · have hsp := spanC_ok hc1
    refine GC4 ?_
    refine GO3 ?_
    first | refine AL_slice_slN FUn.h FSz.h rfl ⟨_, rfl⟩ ⟨_, rfl⟩ ?_ ?_ ?_ | refine AL_slice_sl FUn.h FSz.h rfl ⟨_, _, rfl, by omega, rfl⟩ ⟨_, _, rfl, by omega, rfl⟩ ?_ ?_ ?_
    · simp only [List.length_map]; omega
    · omega
    refine AL_norm TN ?_
    rw [cut_map cellAV]
    refine AL_norm TN ?_
    refine AL_callp FEn.h XA (slices_Clone_api_Cell_api_Cell_fz (cut l i j) (by unfold cut; simp only [List.length_drop, List.length_take]; omega)) ?_
    refine GO2 ?_
    refine GC3 ?_
    refine retQ_2 (H' := H) (.inr rfl) rfl rfl SU ?_
    rw [partC_yes hc1] at hK; exact .inl hK

/-- quillwork/cells.Set$1 -/
theorem cells_Set_1_ok  :
    ∀ (s c : Int) (x : Cell), ChgC Tryz.prog 289 [.rp 3 (.v (.int .i64 s)), .rp 3 (.v (.int .i64 c))] 57 3 (cellAV x) (cellAV (setF (bitAnd s 15) (bitAnd c 15) x)) := by
  intro s c x H K b cp i xs hb hx hK
  refine AC_of Tryz.func289 rfl (rs := []) rfl Tryz.ntmps289 rfl ?_
  refine AW_norm TP ?_
  refine' AW_drawL (xs := [_, _, _, _, _, _, _, _, _, _, _, _, _]) [12] [0, 0, 1, 2, 3, 0, 1, 0, 1, 4, 5, 6, 7] (fun m => match m with | 0 => H | _ => H.upd b (some (.row 57 cp (xs.set i (cellAV (setF (bitAnd s 15) (bitAnd c 15) x)))))) rfl (by kernel_rfl) ?hops1 ?_
  case hops1 =>
    refine HopsL_cons (fun m T hl hr hm hm2 => ?_) ?_
    · skip
      replace hm : 0 ≤ m := hm
      replace hm2 : m ≤ 0 := hm2
      obtain rfl : m = 0 := by omega
      refine AL_heap (by rfl : _ = H) ?_
      refine AL_move ((hr 0 (by kernel_rfl)).trans rfl) ?_
      refine AL_nil ?_
      refine qpostL_mk ?_ ?_
      rotate_left
      exact Weak.refl _
      show SubH (H) _
      exact SubH.refl _
    refine HopsL_norm TO ?_
    refine HopsL_cons (fun m T hl hr hm hm2 => ?_) ?_
    · skip
      replace hm : 0 ≤ m := hm
      replace hm2 : m ≤ 0 := hm2
      obtain rfl : m = 0 := by omega
      refine AL_heap (by rfl : _ = H) ?_
      refine AL_move ((hr 0 (by kernel_rfl)).trans rfl) ?_
      refine AL_nil ?_
      refine qpostL_mk ?_ ?_
      rotate_left
      exact Weak.refl _
      show SubH (H) _
      exact SubH.refl _
    refine HopsL_norm TO ?_
    refine HopsL_cons (fun m T hl hr hm hm2 => ?_) ?_
    · skip
      replace hm : 0 ≤ m := hm
      replace hm2 : m ≤ 0 := hm2
      obtain rfl : m = 0 := by omega
      refine AL_heap (by rfl : _ = H) ?_
      refine AL_nilCheck ((hr 5 (by kernel_rfl)).trans rfl) trivial ?_
      refine AL_nil ?_
      refine qpostL_mk ?_ ?_
      rotate_left
      exact Weak.refl _
      show SubH (H) _
      exact SubH.refl _
    refine HopsL_norm TO ?_
    refine HopsL_cons (fun m T hl hr hm hm2 => ?_) ?_
    · skip
      replace hm : 0 ≤ m := hm
      replace hm2 : m ≤ 0 := hm2
      obtain rfl : m = 0 := by omega
      refine AL_heap (by rfl : _ = H) ?_
      first | refine AL_fieldAddr_pt FFl.h FSz.h (by decide) ((hr 6 (by kernel_rfl)).trans rfl) ?_ | refine AL_fieldAddr_rp FFl.h FAg.h FSz.h (by decide) (by decide) ((hr 6 (by kernel_rfl)).trans rfl) rfl (fun h => by first | rfl | cases h) ?_
      refine AL_nil ?_
      refine qpostL_mk ?_ ?_
      rotate_left
      exact Weak.refl _
      show SubH (H) _
      exact SubH.refl _
    refine HopsL_norm TO ?_
    refine HopsL_cons (fun m T hl hr hm hm2 => ?_) ?_
    · skip
      replace hm : 0 ≤ m := hm
      replace hm2 : m ≤ 0 := hm2
      obtain rfl : m = 0 := by omega
      refine AL_heap (by rfl : _ = H) ?_
      refine AL_load_pt (x := cellAV x) FAg.h FSz.h (by decide) ((hr 7 (by kernel_rfl)).trans rfl) LK FSz.h (hx) (by exact rfl) (by exact rfl) ?_
      refine AL_nil ?_
      refine qpostL_mk ?_ ?_
      rotate_left
      exact Weak.refl _
      show SubH (H) _
      exact SubH.refl _
    refine HopsL_norm TO ?_
    refine HopsL_cons (fun m T hl hr hm hm2 => ?_) ?_
    · skip
      replace hm : 0 ≤ m := hm
      replace hm2 : m ≤ 0 := hm2
      obtain rfl : m = 0 := by omega
      refine AL_heap (by rfl : _ = H) ?_
      first | refine AL_load_rp FSz.h ((hr 1 (by kernel_rfl)).trans rfl) FAg.h ?_ | refine AL_loadw FSz.h ((hr 1 (by kernel_rfl)).trans rfl) LK (by exact FAg.h) rfl ?_ | refine AL_load_pt FAg.h FSz.h (by decide) ((hr 1 (by kernel_rfl)).trans rfl) LK FSz.h (by exact rfl) (by exact rfl) (by exact rfl) ?_
      refine AL_nil ?_
      refine qpostL_mk ?_ ?_
      rotate_left
      exact Weak.refl _
      show SubH (H) _
      exact SubH.refl _
    refine HopsL_norm TO ?_
    refine HopsL_cons (fun m T hl hr hm hm2 => ?_) ?_
    · skip
      replace hm : 0 ≤ m := hm
      replace hm2 : m ≤ 0 := hm2
      obtain rfl : m = 0 := by omega
      refine AL_heap (by rfl : _ = H) ?_
      refine AL_bits ((hr 9 (by kernel_rfl)).trans rfl) rfl (by decide) ?_
      refine AL_nil ?_
      refine qpostL_mk ?_ ?_
      rotate_left
      exact Weak.refl _
      show SubH (H) _
      exact SubH.refl _
    refine HopsL_norm TO ?_
    refine HopsL_cons (fun m T hl hr hm hm2 => ?_) ?_
    · skip
      replace hm : 0 ≤ m := hm
      replace hm2 : m ≤ 0 := hm2
      obtain rfl : m = 0 := by omega
      refine AL_heap (by rfl : _ = H) ?_
      first | refine AL_load_rp FSz.h ((hr 2 (by kernel_rfl)).trans rfl) FAg.h ?_ | refine AL_loadw FSz.h ((hr 2 (by kernel_rfl)).trans rfl) LK (by exact FAg.h) rfl ?_ | refine AL_load_pt FAg.h FSz.h (by decide) ((hr 2 (by kernel_rfl)).trans rfl) LK FSz.h (by exact rfl) (by exact rfl) (by exact rfl) ?_
      refine AL_nil ?_
      refine qpostL_mk ?_ ?_
      rotate_left
      exact Weak.refl _
      show SubH (H) _
      exact SubH.refl _
    refine HopsL_norm TO ?_
    refine HopsL_cons (fun m T hl hr hm hm2 => ?_) ?_
    · skip
      replace hm : 0 ≤ m := hm
      replace hm2 : m ≤ 0 := hm2
      obtain rfl : m = 0 := by omega
      refine AL_heap (by rfl : _ = H) ?_
      refine AL_bits ((hr 11 (by kernel_rfl)).trans rfl) rfl (by decide) ?_
      refine AL_nil ?_
      refine qpostL_mk ?_ ?_
      rotate_left
      exact Weak.refl _
      show SubH (H) _
      exact SubH.refl _
    refine HopsL_norm TO ?_
    refine HopsL_cons (fun m T hl hr hm hm2 => ?_) ?_
    · skip
      replace hm : 0 ≤ m := hm
      replace hm2 : m ≤ 0 := hm2
      obtain rfl : m = 0 := by omega
      refine AL_heap (by rfl : _ = H) ?_
      refine AL_callp FEn.h (.cons (.ev ((hr 8 (by kernel_rfl)).trans rfl)) (.cons (.ev ((hr 10 (by kernel_rfl)).trans rfl)) (.cons (.ev ((hr 12 (by kernel_rfl)).trans rfl)) (.nil)))) (css_Over_ok _ _ _) ?_
      refine AL_nil ?_
      refine qpostL_mk ?_ ?_
      rotate_left
      exact Weak.refl _
      show SubH (H) _
      exact SubH.refl _
    refine HopsL_norm TO ?_
    refine HopsL_cons (fun m T hl hr hm hm2 => ?_) ?_
    · skip
      replace hm : 0 ≤ m := hm
      replace hm2 : m ≤ 1 := hm2
      obtain rfl | rfl : m = 0 ∨ m = 1 := by omega
      ·
        refine AL_heap (by rfl : _ = H) ?_
        refine AL_nilCheck ((hr 4 (by kernel_rfl)).trans rfl) trivial ?_
        refine AL_nil ?_
        refine qpostL_mk ?_ ?_
        rotate_left
        exact Weak.refl _
        show SubH (H) _
        exact SubH.refl _
      ·
        refine AL_heap (by rfl : _ = H.upd b (some (.row 57 cp (xs.set i (cellAV (setF (bitAnd s 15) (bitAnd c 15) x)))))) ?_
        refine AL_nilCheck ((hr 4 (by kernel_rfl)).trans rfl) trivial ?_
        refine AL_nil ?_
        refine qpostL_mk ?_ ?_
        rotate_left
        exact Weak.refl _
        show SubH (H.upd b (some (.row 57 cp (xs.set i (cellAV (setF (bitAnd s 15) (bitAnd c 15) x)))))) _
        exact SubH.refl _
    refine HopsL_norm TO ?_
    refine HopsL_cons (fun m T hl hr hm hm2 => ?_) ?_
    · skip
      replace hm : 0 ≤ m := hm
      replace hm2 : m ≤ 0 := hm2
      obtain rfl : m = 0 := by omega
      refine AL_heap (by rfl : _ = H) ?_
      first | refine AL_fieldAddr_pt FFl.h FSz.h (by decide) ((hr 14 (by kernel_rfl)).trans rfl) ?_ | refine AL_fieldAddr_rp FFl.h FAg.h FSz.h (by decide) (by decide) ((hr 14 (by kernel_rfl)).trans rfl) rfl (fun h => by first | rfl | cases h) ?_
      refine AL_nil ?_
      refine qpostL_mk ?_ ?_
      rotate_left
      exact Weak.refl _
      show SubH (H) _
      exact SubH.refl _
    refine HopsL_norm TO ?_
    refine HopsL_cons (fun m T hl hr hm hm2 => ?_) ?_
    · skip
      replace hm : 0 ≤ m := hm
      replace hm2 : m ≤ 0 := hm2
      obtain rfl : m = 0 := by omega
      refine AL_heap (by rfl : _ = H) ?_
      first | refine AL_store_w FSz.h ((hr 15 (by kernel_rfl)).trans rfl) (.ev ((hr 13 (by kernel_rfl)).trans rfl)) rfl LK rfl (by exact rfl) ?_ | refine AL_store ((hr 15 (by kernel_rfl)).trans rfl) (.ev ((hr 13 (by kernel_rfl)).trans rfl)) rfl LK FSz.h (by exact hx) FSz.h rfl (by decide) (fun h => by first | (cases h; done) | exact ⟨rfl, rfl, rfl⟩) ?_
      refine AL_heap (by first | (simp only [AH.upd_upd]; rfl) | rfl) ?_
      refine AL_nil ?_
      refine qpostL_mk ?_ ?_
      rotate_left
      exact Weak.refl _
      show SubH (H.upd b (some (.row 57 cp (xs.set i (cellAV (setF (bitAnd s 15) (bitAnd c 15) x)))))) _
      exact SubH.refl _
    refine HopsL_norm TO ?_
    exact HopsL_nil
  refine Q_norm (by first | (simp only [Tfin, tput, anyAt, setAll, List.foldl_cons, List.foldl_nil, List.set_cons_zero, List.set_cons_succ]; rfl) | rfl) ?_
  refine retQ_0 (H' := H.upd b (some (.row 57 cp (xs.set i (cellAV (setF (bitAnd s 15) (bitAnd c 15) x)))))) (.inl rfl) (SubH.refl _) ?_
  exact hK

/-- quillwork/cells.Link$1 -/
theorem cells_Link_1_ok  :
    ∀ (h : ByteArray) (x : Cell), ChgC Tryz.prog 288 [.rp 9 (.v (.string h))] 57 3 (cellAV x) (cellAV (linkF h x)) := by
  intro h x H K b cp i xs hb hx hK
  refine AC_of Tryz.func288 rfl (rs := []) rfl Tryz.ntmps288 rfl ?_
  refine AW_norm TP ?_
  refine GC1 ?_
  refine GO4 ?_
  first | refine AL_store_w FSz.h rfl XV rfl LK rfl (by exact rfl) ?_ | refine AL_store rfl XV rfl LK FSz.h (by exact hx) FSz.h rfl (by decide) (fun h => by first | (cases h; done) | exact ⟨rfl, rfl, rfl⟩) ?_
  refine AL_heap (by first | (simp only [AH.upd_upd]; rfl) | rfl) ?_
  refine AL_norm TN ?_
  refine GC1 ?_
  refine retQ_0 (H' := H.upd b (some (.row 57 cp (xs.set i (cellAV (linkF h x)))))) (.inl rfl) (SubH.refl _) ?_
  exact hK

/-- quillwork/cells.each -/
theorem cells_each_ok  :
    ∀ (g : Cell → Cell) (f : FuncId) (cps : List AV) (l : List Cell) (i j : Int), l.length ≤ 20000 → entersOf Tryz.prog f = true → (∀ x, ChgC Tryz.prog f cps 57 3 (cellAV x) (cellAV (g x))) → PF Tryz.prog 287 [cellsAV l, .v (.int .i64 i), .v (.int .i64 j), .fn (.func f) [] cps] (rcAV (eachC g l i j)) := by
  intro g f cps l i j hl hen hch H K hK
  refine AC_tup0 57 ?_
  refine AC_of Tryz.func287 rfl (rs := [.tmp 8, .tmp 9]) rfl Tryz.ntmps287 rfl ?_
  refine AW_norm TP ?_
  refine GC2 ?_
  refine GO2 ?_
  refine GC5 ?_
  refine GO3 ?_
  refine AL_callp FEn.h XA (cells_span_ok _ _ _) ?_
  refine GO1 ?_
  refine GC2 ?_
  refine GI rfl (fun hc1 => ?_) (fun hc1 => ?_)
  ·
    refine GC2 ?_
    refine GO2 ?_
    refine GC4 ?_
    refine retQ_2 (H' := H) (.inr rfl) rfl rfl (SubH.refl _) ?_
    exact .inr ⟨none, 0, [], _, ⟨rfl, rfl⟩, rfl, rfl, by rw [eachC_no hc1] at hK; exact hK⟩
  · have hsp := spanC_ok hc1
    refine GC4 ?_
    refine GO1 ?_
    refine AL_callk FEn.h XA (slices_Clone_api_Cell_api_Cell_ok l (by omega) H (fun x H1 => ∃ A c, Fresh H A c (l.map cellAV) ∧ x = .own A c l.length ∧ H1 = H.put A 57 c (l.map cellAV)) (fun A c h => ⟨A, c, h, rfl, rfl⟩)) ?_
    rintro _ _ ⟨A, c, hF, rfl, rfl⟩
    refine GO1 ?_
    refine GC5 ?_
    refine GO2 ?_
    refine GC2 ?_
    refine AW_block ?_
    refine AW_loops (α := Nat) [11, 20, 21, 22, 23, 24, 25, 26, 27, 28, 29] (fun k => [(11, .v (.int .i64 (k : Int)))]) (fun k => H.put A 57 c ((mapC g l i (k : Int)).map cellAV)) (fun k => i.toNat ≤ k ∧ (k : Int) ≤ j) (fun k => j.toNat - k) (i.toNat) ?_ ?_ ?_ ?_
    · exact ⟨Nat.le_refl _, by omega⟩
    · rw [show ((i.toNat : Nat) : Int) = i by omega, mapC_zero g l i (by omega) (by omega)]; exact SubH.refl _
    · rw [Int.toNat_of_nonneg hsp.1]
      exact WK
    · intro k hI
      refine AW_norm TN ?_
      refine GC3 ?_
      refine GO3 ?_
      refine GC2 ?_
      refine GI rfl (fun hc2 => ?_) (fun hc2 => ?_)
      · obtain ⟨bo, rfl⟩ : ∃ bo, A = some bo := hF.some (by rw [List.length_map]; omega)
        refine GC3 ?_
        refine AW_block ?_
        refine GC1 ?_
        refine GO3 ?_
        first | refine AL_indexAddr_sl FUn.h FSz.h (by decide) rfl rfl ?_ ?_ ?_ ?_ | refine AL_indexAddr_own FUn.h FSz.h rfl rfl ?_ ?_ ?_
        · omega
        · omega
        refine AL_callv rfl hen (.cons (.ev rfl) .nil) (hch (l.getD k c0) _ (fun x H1 => x = .tup [] ∧ H1 = H.put (some bo) 57 c ((mapC g l i ((k + 1 : Nat) : Int)).map cellAV)) bo c _ _ (AH.upd_same _ _ _) (by rw [show i = ((i.toNat : Nat) : Int) by omega]; exact mapC_at g l i.toNat k (by omega) (by omega)) ⟨rfl, ?_⟩) ?_; rotate_left; rintro _ _ ⟨rfl, rfl⟩; rotate_left; (rw [show i = ((i.toNat : Nat) : Int) by omega]; rw [← mapC_nextA g l i.toNat k (by omega) (by omega)]; exact AH.upd_upd _ _ _ _)
        refine AL_norm TN ?_
        refine GC4 ?_
        refine GO1 ?_
        refine AL_addz rfl rfl (((k + 1 : Nat) : Int)) (by exact inc64 (by omega)) ?_
        refine GO1 ?_
        refine GC1 ?_
        refine loopQ_n (k + 1) ?_ ?_ ?_ ?_
        · exact ⟨by omega, by omega⟩
        · omega
        · exact SubH.refl _
        · skip
          exact WK
      ·
        refine GC2 ?_
        refine loopQ_x ?_
        refine GC4 ?_
        refine GO3 ?_
        refine GC3 ?_
        refine retQ_2 (H' := H.put A 57 c ((mapC g l i j).map cellAV)) (.inr rfl) rfl rfl (by rw [show (k : Int) = j by omega]; exact SubH.refl _) ?_
        rw [eachC_yes hc1] at hK; exact .inr ⟨A, c, (mapC g l i j).map cellAV, _, hF.len (by rw [List.length_map, List.length_map, mapC_len g l i j (by omega) (by omega) (by omega)]), by rw [List.length_map, mapC_len g l i j (by omega) (by omega) (by omega)], rfl, hK⟩


end Go.Proofs
