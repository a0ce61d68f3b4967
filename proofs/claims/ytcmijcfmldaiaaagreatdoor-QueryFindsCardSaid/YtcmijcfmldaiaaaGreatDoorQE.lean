/- The given statement of the law: for every input the law answers true. No conditions of our own. -/
import Derived.Test.YtcmijcfmldaiaaaGreatDoorQD
import Derived.Test.YtcmijcfmldaiaaaGreatDoorProg
set_option autoImplicit false
set_option linter.unusedVariables false
set_option linter.unusedSimpArgs false
set_option maxRecDepth 100000
set_option maxHeartbeats 4000000
namespace Go.Proofs
open Go Go.RowKit Go.AL Go.Q Go.IntWalk
attribute [local irreducible] AW AL seqQ blockQ retQ loopQ roundQ asgQ grpQ mQ qpost qpostL retQN retQM
instance en287 : FEn Tryz.prog 287 := ⟨by kernel_rfl⟩
instance en219 : FEn Tryz.prog 219 := ⟨by kernel_rfl⟩
instance en134 : FEn Tryz.prog 134 := ⟨by kernel_rfl⟩
instance inf60 : FIn Tryz.prog 60 (.agg #[.int .i64 0, .slice none 0 0, .int .i64 0, .slice none 0 0]) 4 64 := ⟨by kernel_rfl⟩
instance ze26 : FZe Tryz.prog 26 (.agg #[.slice none 0 0, .int .i64 0, .int .i64 0, .int .i64 0, .int .i64 0, .int .i64 0, .int .i64 0]) := ⟨by kernel_rfl⟩
instance fl26_0 : FFl Tryz.prog 26 0 22 0 := ⟨by kernel_rfl⟩
instance sz22 : FSz Tryz.prog 22 1 := ⟨by kernel_rfl⟩
instance ag22 : FAg Tryz.prog 22 false := ⟨by kernel_rfl⟩
instance en69 : FEn Tryz.prog 69 := ⟨by kernel_rfl⟩
instance ag26 : FAg Tryz.prog 26 true := ⟨by kernel_rfl⟩
instance en63 : FEn Tryz.prog 63 := ⟨by kernel_rfl⟩
instance en64 : FEn Tryz.prog 64 := ⟨by kernel_rfl⟩
instance un223 : FUn Tryz.prog 223 (.array 2 3) := ⟨by kernel_rfl⟩
instance ze223 : FZe Tryz.prog 223 (.agg #[.int .i64 0, .int .i64 0]) := ⟨by kernel_rfl⟩

/-- quillwork/cells.Set -/
theorem cells_Set_ok (l : List Cell) (i j s c : Int) (hl : l.length ≤ 20000) :
    PF Tryz.prog 250 [cellsAV l, .v (.int .i64 i), .v (.int .i64 j), .v (.int .i64 s), .v (.int .i64 c)] (rcAV (eachC (setF (bitAnd s 15) (bitAnd c 15)) l i j)) := by
  intro H K hK
  refine AC_of Tryz.func250 rfl (rs := [.tmp 10, .tmp 11]) rfl Tryz.ntmps250 rfl ?_
  refine AW_norm TP ?_
  refine GC2 ?_
  refine GF ?_
  refine GF ?_
  refine GO2 ?_
  refine GC4 ?_
  refine GO3 ?_
  refine AL_makeFunc (.nil) (.cons (.ev rfl) (.cons (.ev rfl) (.nil))) ?_
  refine AL_callp FEn.h XA (cells_each_ok (setF (bitAnd s 15) (bitAnd c 15)) 289 _ l i j hl FEn.h (cells_Set_1_ok s c)) ?_
  refine AL_norm TN ?_
  refine GO4 ?_
  refine GC3 ?_
  refine retQ_2 (H' := H) (.inr rfl) rfl rfl SU ?_
  refine K_eq ?_ hK
  rfl

/-- quillwork/cells.Link -/
theorem cells_Link_ok (l : List Cell) (i j : Int) (h : ByteArray) (hl : l.length ≤ 20000) (hh : h.size ≤ 200000) :
    PI TQ Tryz.prog 248 [cellsAV l, .v (.int .i64 i), .v (.int .i64 j), strAV h] (rcAV (if linkOK h = true then eachC (linkF h) l i j else ([], 1))) := by
  intro H K hT hK
  refine AC_tup0 57 ?_
  refine AC_of Tryz.func248 rfl (rs := [.tmp 8, .tmp 9]) rfl Tryz.ntmps248 rfl ?_
  refine AW_norm TP ?_
  refine GC2 ?_
  refine GF ?_
  refine GO2 ?_
  refine GC5 ?_
  refine GO1 ?_
  refine AL_callpi FEn.h XA HS (cells_link_ok h hh) ?_
  refine GO1 ?_
  refine GC2 ?_
  refine GI rfl (fun hc1 => ?_) (fun hc1 => ?_)
  ·
    refine GC2 ?_
    refine GO2 ?_
    refine GC4 ?_
    refine retQ_2 (H' := H) (.inr rfl) rfl rfl SU ?_
    exact .inr ⟨none, 0, [], _, ⟨rfl, rfl⟩, rfl, rfl, by rw [if_neg (by rw [hc1]; exact Bool.false_ne_true)] at hK; exact hK⟩
  ·
    refine GC4 ?_
    refine GO3 ?_
    refine AL_makeFunc (.nil) (.cons (.ev rfl) (.nil)) ?_
    refine AL_callp FEn.h XA (cells_each_ok (linkF h) 288 _ l i j hl FEn.h (cells_Link_1_ok h)) ?_
    refine AL_norm TN ?_
    refine GO4 ?_
    refine GC3 ?_
    refine retQ_2 (H' := H) (.inr rfl) rfl rfl SU ?_
    rw [if_pos hc1] at hK; exact .inl hK

/-- quillwork/lines.Own -/
theorem lines_Own_ok (l : Line) (hs : LS l) :
    PF Tryz.prog 134 [lineAV l] (lineAV l) := by
  intro H K hK
  refine AC_of Tryz.func134 rfl (rs := [.cell 2 60]) rfl Tryz.ntmps134 rfl ?_
  refine AW_norm TP ?_
  refine GC2 ?_
  refine AL_box rfl rfl FSz.h rfl ?_
  intro b1 hb1
  have hn1 : H b1 = none := SubH.none SU hb1
  refine AL_alloc FZe.h (.agg (.v (.own (.v (.own .nil))))) rfl FSz.h rfl ?_
  intro b2 hb2
  have hn2 : H b2 = none := SubH.none SU hb2
  have hd2_1 : b2 ≠ b1 := AH.fresh_ne hb2 LK
  have hd1_2 : b1 ≠ b2 := Ne.symm hd2_1
  refine AL_norm TN ?_
  refine GC3 ?_
  refine' AW_drawL (xs := [_, _, _, _, _, _, _, _, _, _]) [7, 9] [0, 1, 2, 0, 1, 3, 3, 4, 5, 6] (fun _ => (H.upd b1 (some (.row 60 1 [lineAV l]))).upd b2 (some (.row 60 1 [.ag [.v (.int .i64 0), .own none 0 0, .v (.int .i64 0), .own none 0 0]]))) rfl (by kernel_rfl) ?hops1 ?_
  case hops1 =>
    refine HopsL_cons (fun m T hl hr hm hm2 => ?_) ?_
    · skip
      replace hm : 0 ≤ m := hm
      replace hm2 : m ≤ 0 := hm2
      obtain rfl : m = 0 := by omega
      refine AL_heap (by rfl : _ = (H.upd b1 (some (.row 60 1 [lineAV l]))).upd b2 (some (.row 60 1 [.ag [.v (.int .i64 0), .own none 0 0, .v (.int .i64 0), .own none 0 0]]))) ?_
      first | refine AL_fieldAddr_pt FFl.h FSz.h (by decide) ((hr 1 (by kernel_rfl)).trans rfl) ?_ | refine AL_fieldAddr_rp FFl.h FAg.h FSz.h (by decide) (by decide) ((hr 1 (by kernel_rfl)).trans rfl) rfl (fun h => by first | rfl | cases h) ?_
      refine AL_nil ?_
      refine qpostL_mk ?_ ?_
      rotate_left
      exact Weak.refl _
      show SubH ((H.upd b1 (some (.row 60 1 [lineAV l]))).upd b2 (some (.row 60 1 [.ag [.v (.int .i64 0), .own none 0 0, .v (.int .i64 0), .own none 0 0]]))) _
      exact SubH.refl _
    refine HopsL_norm TO ?_
    refine HopsL_cons (fun m T hl hr hm hm2 => ?_) ?_
    · skip
      replace hm : 0 ≤ m := hm
      replace hm2 : m ≤ 0 := hm2
      obtain rfl : m = 0 := by omega
      refine AL_heap (by rfl : _ = (H.upd b1 (some (.row 60 1 [lineAV l]))).upd b2 (some (.row 60 1 [.ag [.v (.int .i64 0), .own none 0 0, .v (.int .i64 0), .own none 0 0]]))) ?_
      first | refine AL_load_rp FSz.h ((hr 3 (by kernel_rfl)).trans rfl) FAg.h ?_ | refine AL_loadw FSz.h ((hr 3 (by kernel_rfl)).trans rfl) LK (by exact FAg.h) rfl ?_ | refine AL_load_pt FAg.h FSz.h (by decide) ((hr 3 (by kernel_rfl)).trans rfl) LK FSz.h (by exact rfl) (by exact rfl) (by exact rfl) ?_
      refine AL_nil ?_
      refine qpostL_mk ?_ ?_
      rotate_left
      exact Weak.refl _
      show SubH ((H.upd b1 (some (.row 60 1 [lineAV l]))).upd b2 (some (.row 60 1 [.ag [.v (.int .i64 0), .own none 0 0, .v (.int .i64 0), .own none 0 0]]))) _
      exact SubH.refl _
    refine HopsL_norm TO ?_
    refine HopsL_cons (fun m T hl hr hm hm2 => ?_) ?_
    · skip
      replace hm : 0 ≤ m := hm
      replace hm2 : m ≤ 0 := hm2
      obtain rfl : m = 0 := by omega
      refine AL_heap (by rfl : _ = (H.upd b1 (some (.row 60 1 [lineAV l]))).upd b2 (some (.row 60 1 [.ag [.v (.int .i64 0), .own none 0 0, .v (.int .i64 0), .own none 0 0]]))) ?_
      refine AL_callp FEn.h (.cons (.ev ((hr 4 (by kernel_rfl)).trans rfl)) (.nil)) (slices_Clone_int_int_fz l.lists (by have := hs.1; omega)) ?_
      refine AL_nil ?_
      refine qpostL_mk ?_ ?_
      rotate_left
      exact Weak.refl _
      show SubH ((H.upd b1 (some (.row 60 1 [lineAV l]))).upd b2 (some (.row 60 1 [.ag [.v (.int .i64 0), .own none 0 0, .v (.int .i64 0), .own none 0 0]]))) _
      exact SubH.refl _
    refine HopsL_norm TO ?_
    refine HopsL_cons (fun m T hl hr hm hm2 => ?_) ?_
    · skip
      replace hm : 0 ≤ m := hm
      replace hm2 : m ≤ 0 := hm2
      obtain rfl : m = 0 := by omega
      refine AL_heap (by rfl : _ = (H.upd b1 (some (.row 60 1 [lineAV l]))).upd b2 (some (.row 60 1 [.ag [.v (.int .i64 0), .own none 0 0, .v (.int .i64 0), .own none 0 0]]))) ?_
      first | refine AL_fieldAddr_pt FFl.h FSz.h (by decide) ((hr 1 (by kernel_rfl)).trans rfl) ?_ | refine AL_fieldAddr_rp FFl.h FAg.h FSz.h (by decide) (by decide) ((hr 1 (by kernel_rfl)).trans rfl) rfl (fun h => by first | rfl | cases h) ?_
      refine AL_nil ?_
      refine qpostL_mk ?_ ?_
      rotate_left
      exact Weak.refl _
      show SubH ((H.upd b1 (some (.row 60 1 [lineAV l]))).upd b2 (some (.row 60 1 [.ag [.v (.int .i64 0), .own none 0 0, .v (.int .i64 0), .own none 0 0]]))) _
      exact SubH.refl _
    refine HopsL_norm TO ?_
    refine HopsL_cons (fun m T hl hr hm hm2 => ?_) ?_
    · skip
      replace hm : 0 ≤ m := hm
      replace hm2 : m ≤ 0 := hm2
      obtain rfl : m = 0 := by omega
      refine AL_heap (by rfl : _ = (H.upd b1 (some (.row 60 1 [lineAV l]))).upd b2 (some (.row 60 1 [.ag [.v (.int .i64 0), .own none 0 0, .v (.int .i64 0), .own none 0 0]]))) ?_
      first | refine AL_load_rp FSz.h ((hr 6 (by kernel_rfl)).trans rfl) FAg.h ?_ | refine AL_loadw FSz.h ((hr 6 (by kernel_rfl)).trans rfl) LK (by exact FAg.h) rfl ?_ | refine AL_load_pt FAg.h FSz.h (by decide) ((hr 6 (by kernel_rfl)).trans rfl) LK FSz.h (by exact rfl) (by exact rfl) (by exact rfl) ?_
      refine AL_nil ?_
      refine qpostL_mk ?_ ?_
      rotate_left
      exact Weak.refl _
      show SubH ((H.upd b1 (some (.row 60 1 [lineAV l]))).upd b2 (some (.row 60 1 [.ag [.v (.int .i64 0), .own none 0 0, .v (.int .i64 0), .own none 0 0]]))) _
      exact SubH.refl _
    refine HopsL_norm TO ?_
    refine HopsL_cons (fun m T hl hr hm hm2 => ?_) ?_
    · skip
      replace hm : 0 ≤ m := hm
      replace hm2 : m ≤ 0 := hm2
      obtain rfl : m = 0 := by omega
      refine AL_heap (by rfl : _ = (H.upd b1 (some (.row 60 1 [lineAV l]))).upd b2 (some (.row 60 1 [.ag [.v (.int .i64 0), .own none 0 0, .v (.int .i64 0), .own none 0 0]]))) ?_
      refine AL_callp FEn.h (.cons (.ev ((hr 7 (by kernel_rfl)).trans rfl)) (.nil)) (slices_Clone_api_Cell_api_Cell_fz l.cells (by have := hs.2.1; omega)) ?_
      refine AL_nil ?_
      refine qpostL_mk ?_ ?_
      rotate_left
      exact Weak.refl _
      show SubH ((H.upd b1 (some (.row 60 1 [lineAV l]))).upd b2 (some (.row 60 1 [.ag [.v (.int .i64 0), .own none 0 0, .v (.int .i64 0), .own none 0 0]]))) _
      exact SubH.refl _
    refine HopsL_norm TO ?_
    refine HopsL_cons (fun m T hl hr hm hm2 => ?_) ?_
    · skip
      replace hm : 0 ≤ m := hm
      replace hm2 : m ≤ 0 := hm2
      obtain rfl : m = 0 := by omega
      refine AL_heap (by rfl : _ = (H.upd b1 (some (.row 60 1 [lineAV l]))).upd b2 (some (.row 60 1 [.ag [.v (.int .i64 0), .own none 0 0, .v (.int .i64 0), .own none 0 0]]))) ?_
      first | refine AL_fieldAddr_pt FFl.h FSz.h (by decide) ((hr 1 (by kernel_rfl)).trans rfl) ?_ | refine AL_fieldAddr_rp FFl.h FAg.h FSz.h (by decide) (by decide) ((hr 1 (by kernel_rfl)).trans rfl) rfl (fun h => by first | rfl | cases h) ?_
      refine AL_nil ?_
      refine qpostL_mk ?_ ?_
      rotate_left
      exact Weak.refl _
      show SubH ((H.upd b1 (some (.row 60 1 [lineAV l]))).upd b2 (some (.row 60 1 [.ag [.v (.int .i64 0), .own none 0 0, .v (.int .i64 0), .own none 0 0]]))) _
      exact SubH.refl _
    refine HopsL_norm TO ?_
    refine HopsL_cons (fun m T hl hr hm hm2 => ?_) ?_
    · skip
      replace hm : 0 ≤ m := hm
      replace hm2 : m ≤ 0 := hm2
      obtain rfl : m = 0 := by omega
      refine AL_heap (by rfl : _ = (H.upd b1 (some (.row 60 1 [lineAV l]))).upd b2 (some (.row 60 1 [.ag [.v (.int .i64 0), .own none 0 0, .v (.int .i64 0), .own none 0 0]]))) ?_
      first | refine AL_store_w FSz.h ((hr 9 (by kernel_rfl)).trans rfl) (.ev ((hr 5 (by kernel_rfl)).trans rfl)) rfl LK rfl (by exact rfl) ?_ | refine AL_store ((hr 9 (by kernel_rfl)).trans rfl) (.ev ((hr 5 (by kernel_rfl)).trans rfl)) rfl LK FSz.h (by exact rfl) FSz.h rfl (by decide) (fun h => by first | (cases h; done) | exact ⟨rfl, rfl, rfl⟩) ?_
      refine AL_heap (by first | (simp only [AH.upd_upd]; rfl) | rfl) ?_
      refine AL_nil ?_
      refine qpostL_mk ?_ ?_
      rotate_left
      exact Weak.refl _
      show SubH ((H.upd b1 (some (.row 60 1 [lineAV l]))).upd b2 (some (.row 60 1 [.ag [.v (.int .i64 0), .own none 0 0, .v (.int .i64 0), .own none 0 0]]))) _
      first | exact SubH.refl _ | (refine SubH.of_eq (funext fun j => ?_); simp only [AH.upd]; (repeat' split) <;> first | rfl | omega)
    refine HopsL_norm TO ?_
    refine HopsL_cons (fun m T hl hr hm hm2 => ?_) ?_
    · skip
      replace hm : 1 ≤ m := hm
      replace hm2 : m ≤ 1 := hm2
      obtain rfl : m = 1 := by omega
      refine AL_heap (by rfl : _ = (H.upd b1 (some (.row 60 1 [lineAV l]))).upd b2 (some (.row 60 1 [.ag [.v (.int .i64 0), .own none 0 0, .v (.int .i64 0), .own none 0 0]]))) ?_
      first | refine AL_fieldAddr_pt FFl.h FSz.h (by decide) ((hr 1 (by kernel_rfl)).trans rfl) ?_ | refine AL_fieldAddr_rp FFl.h FAg.h FSz.h (by decide) (by decide) ((hr 1 (by kernel_rfl)).trans rfl) rfl (fun h => by first | rfl | cases h) ?_
      refine AL_nil ?_
      refine qpostL_mk ?_ ?_
      rotate_left
      exact Weak.refl _
      show SubH ((H.upd b1 (some (.row 60 1 [lineAV l]))).upd b2 (some (.row 60 1 [.ag [.v (.int .i64 0), .own none 0 0, .v (.int .i64 0), .own none 0 0]]))) _
      exact SubH.refl _
    refine HopsL_norm TO ?_
    refine HopsL_cons (fun m T hl hr hm hm2 => ?_) ?_
    · skip
      replace hm : 1 ≤ m := hm
      replace hm2 : m ≤ 1 := hm2
      obtain rfl : m = 1 := by omega
      refine AL_heap (by rfl : _ = (H.upd b1 (some (.row 60 1 [lineAV l]))).upd b2 (some (.row 60 1 [.ag [.v (.int .i64 0), .own none 0 0, .v (.int .i64 0), .own none 0 0]]))) ?_
      first | refine AL_store_w FSz.h ((hr 10 (by kernel_rfl)).trans rfl) (.ev ((hr 8 (by kernel_rfl)).trans rfl)) rfl LK rfl (by exact rfl) ?_ | refine AL_store ((hr 10 (by kernel_rfl)).trans rfl) (.ev ((hr 8 (by kernel_rfl)).trans rfl)) rfl LK FSz.h (by exact rfl) FSz.h rfl (by decide) (fun h => by first | (cases h; done) | exact ⟨rfl, rfl, rfl⟩) ?_
      refine AL_heap (by first | (simp only [AH.upd_upd]; rfl) | rfl) ?_
      refine AL_nil ?_
      refine qpostL_mk ?_ ?_
      rotate_left
      exact Weak.refl _
      show SubH ((H.upd b1 (some (.row 60 1 [lineAV l]))).upd b2 (some (.row 60 1 [.ag [.v (.int .i64 0), .own none 0 0, .v (.int .i64 0), .own none 0 0]]))) _
      first | exact SubH.refl _ | (refine SubH.of_eq (funext fun j => ?_); simp only [AH.upd]; (repeat' split) <;> first | rfl | omega)
    refine HopsL_norm TO ?_
    exact HopsL_nil
  refine Q_norm (by first | (simp only [Tfin, tput, anyAt, setAll, List.foldl_cons, List.foldl_nil, List.set_cons_zero, List.set_cons_succ]; rfl) | rfl) ?_
  refine GC3 ?_
  refine GO1 ?_
  refine GW ?_
  refine AL_norm TN ?_
  refine GC3 ?_
  first | refine retQ_cw (H' := H) (.inr rfl) FSz.h rfl LK (by exact FAg.h) (by exact rfl) SU ?_ | refine retQ_c (H' := H) (.inr rfl) FAg.h FSz.h FSz.h (by decide) rfl LK (by exact rfl) (by exact rfl) (by exact rfl) SU ?_
  refine K_eq ?_ hK
  rfl

/-- quillwork/lines.Frame -/
theorem lines_Frame_ok (l : Line) (hs : LS l) :
    PF Tryz.prog 265 [lineAV l] (lineAV { l with cells := [] }) := by
  intro H K hK
  refine AC_of Tryz.func265 rfl (rs := [.cell 2 60]) rfl Tryz.ntmps265 rfl ?_
  refine AW_norm TP ?_
  refine GC2 ?_
  refine AL_box rfl rfl FSz.h rfl ?_
  intro b1 hb1
  have hn1 : H b1 = none := SubH.none SU hb1
  refine AL_alloc FZe.h (.agg (.v (.own (.v (.own .nil))))) rfl FSz.h rfl ?_
  intro b2 hb2
  have hn2 : H b2 = none := SubH.none SU hb2
  have hd2_1 : b2 ≠ b1 := AH.fresh_ne hb2 LK
  have hd1_2 : b1 ≠ b2 := Ne.symm hd2_1
  refine AL_norm TN ?_
  refine GC4 ?_
  refine GO1 ?_
  refine AL_callp FEn.h XA (lines_Own_ok l hs) ?_
  refine AL_norm TN ?_
  refine GW ?_
  refine AL_norm TN ?_
  refine GC4 ?_
  refine GO1 ?_
  first | refine AL_store_w FSz.h rfl (.nil (e := 57) rfl) rfl LK rfl (by exact rfl) ?_ | refine AL_store rfl (.nil (e := 57) rfl) rfl LK FSz.h (by exact rfl) FSz.h rfl (by decide) (fun h => by first | (cases h; done) | exact ⟨rfl, rfl, rfl⟩) ?_
  refine AL_heap (by first | (simp only [AH.upd_upd]; rfl) | rfl) ?_
  refine AL_norm TN ?_
  refine GC4 ?_
  refine GO1 ?_
  refine GW ?_
  refine AL_norm TN ?_
  refine GC3 ?_
  first | refine retQ_cw (H' := H) (.inr rfl) FSz.h rfl LK (by exact FAg.h) (by exact rfl) SU ?_ | refine retQ_c (H' := H) (.inr rfl) FAg.h FSz.h FSz.h (by decide) rfl LK (by exact rfl) (by exact rfl) (by exact rfl) SU ?_
  refine K_eq ?_ hK
  rfl

/-- quillwork/doc.Own -/
theorem doc_Own_ok  :
    ∀ (d : List Line), DS d → ∀ (H : AH) (K : AV → AH → Prop), (∀ A c, Fresh H A c (d.map lineAV) → K (.own A c d.length) (H.put A 60 c (d.map lineAV))) → AC Tryz.prog 69 [linesAV d] H K := by
  intro d hd H K hK
  have hdl := hd.1
  refine AC_of Tryz.func69 rfl (rs := [.tmp 2]) rfl Tryz.ntmps69 rfl ?_
  refine AW_norm TP ?_
  refine GC2 ?_
  refine GO1 ?_
  refine GC4 ?_
  refine GO1 ?_
  refine GC5 ?_
  refine GO3 ?_
  refine GC2 ?_
  refine AW_block ?_
  refine AW_loops (α := Nat × Option Nat × Nat) [3, 5, 8, 9, 10, 11, 12, 13, 14, 15, 16, 17] (fun z => [(8, .v (.int .i64 (z.1 : Int))), (3, .own z.2.1 z.2.2 z.1)]) (fun z => H.put z.2.1 60 z.2.2 ((d.take z.1).map lineAV)) (fun z => z.1 ≤ d.length ∧ Fresh H z.2.1 z.2.2 ((d.take z.1).map lineAV)) (fun z => d.length - z.1) ((0, none, 0)) ?_ ?_ ?_ ?_
  · exact ⟨Nat.zero_le _, rfl, rfl⟩
  · exact SubH.refl _
  · skip
    exact WK
  · rintro ⟨i, A, c⟩ hI; dsimp only at hI ⊢
    refine AW_norm TN ?_
    refine GC2 ?_
    refine GO1 ?_
    refine GC3 ?_
    refine GI rfl (fun hc1 => ?_) (fun hc1 => ?_)
    ·
      refine GC3 ?_
      refine AW_block ?_
      refine GC2 ?_
      first | refine AL_indexAddr_sl (y := lineAV (d.getD i l0)) FUn.h FSz.h (by decide) rfl rfl ?_ ?_ ?_ ?_ | refine AL_indexAddr_own FUn.h FSz.h rfl rfl ?_ ?_ ?_
      · omega
      · simp only [List.length_map]; omega
      · exact map_getD l0 (i := i) (by omega)
      refine GO1 ?_
      refine AL_alloc FZe.h (.agg (.v (.own (.v (.own .nil))))) rfl FSz.h rfl ?_
      intro b1 hb1
      have hn1 : H b1 = none := SubH.none (by repeat (first | exact SubH.refl _ | exact hI.2.subH | refine SubH.upd ?_ (by assumption))) hb1
      refine GW ?_
      refine AL_norm TN ?_
      refine GC3 ?_
      refine GO2 ?_
      refine AL_callp FEn.h XA (lines_Own_ok _ (hd.at (i := i) (by omega))) ?_
      refine AL_sub' (H' := H.put A 60 c ((d.take i).map lineAV)) (SubH.new (SubH.refl _) hb1) ?_
      refine AL_append1p FUn.h FIn.h rfl (by decide) (by decide) (by decide) rfl rfl (fun h => by cases h) rfl rfl rfl hI.2 (by rw [List.length_map, List.length_take]; omega) (by omega) ?_
      intro ba ca hba
      refine AL_norm TN ?_
      refine GO1 ?_
      refine GC4 ?_
      refine AL_addz rfl rfl (((i + 1 : Nat) : Int)) (by exact inc64 (by omega)) ?_
      refine GO1 ?_
      refine GC1 ?_
      refine loopQ_n ((i + 1, some ba, ca)) ?_ ?_ ?_ ?_
      · exact ⟨by omega, hba⟩
      · (show d.length - (i + 1) < d.length - i; omega)
      · (show SubH (H.put (some ba) 60 ca ((d.take (i + 1)).map lineAV)) _); rw [← take_map_next l0 (g := lineAV) (by omega)]; exact SubH.refl _
      · skip
        exact WK
    ·
      refine GC2 ?_
      refine loopQ_x ?_
      refine GC4 ?_
      refine GO2 ?_
      refine GC3 ?_
      refine retQ_1 (H' := H.put A 60 c (d.map lineAV)) (.inr rfl) rfl (by rw [show d.take i = d from List.take_of_length_le (by omega)]; exact SubH.refl _) ?_
      have e : i = d.length := (by omega); subst e; rw [List.take_length] at hI; exact hK A c hI.2

/-- quillwork/typing.Own -/
theorem typing_Own_ok  :
    ∀ (s : Q.St), DS s.lines → ∀ (H : AH) (K : AV → AH → Prop), (∀ A c, Fresh H A c (s.lines.map lineAV) → K (stOwn s A c) (H.put A 60 c (s.lines.map lineAV))) → AC Tryz.prog 31 [stAV s] H K := by
  intro s hd H K hK
  refine AC_of Tryz.func31 rfl (rs := [.cell 2 26]) rfl Tryz.ntmps31 rfl ?_
  refine AW_norm TP ?_
  refine GC2 ?_
  refine AL_box rfl rfl FSz.h rfl ?_
  intro b1 hb1
  have hn1 : H b1 = none := SubH.none SU hb1
  refine AL_alloc FZe.h (.agg (.own (.v (.v (.v (.v (.v (.v .nil)))))))) rfl FSz.h rfl ?_
  intro b2 hb2
  have hn2 : H b2 = none := SubH.none SU hb2
  have hd2_1 : b2 ≠ b1 := AH.fresh_ne hb2 (by repeat (first | refine Fresh.look hF ?_ | exact AH.upd_same _ _ _ | exact hH | assumption | refine AH.look_other (by assumption) ?_))
  have hd1_2 : b1 ≠ b2 := Ne.symm hd2_1
  refine AL_norm TN ?_
  refine GC4 ?_
  refine GO1 ?_
  first | refine AL_load_rp FSz.h rfl FAg.h ?_ | refine AL_loadw FSz.h rfl (by repeat (first | refine Fresh.look hF ?_ | exact AH.upd_same _ _ _ | exact hH | assumption | refine AH.look_other (by assumption) ?_)) (by exact FAg.h) rfl ?_ | refine AL_load_pt FAg.h FSz.h (by decide) rfl (by repeat (first | refine Fresh.look hF ?_ | exact AH.upd_same _ _ _ | exact hH | assumption | refine AH.look_other (by assumption) ?_)) FSz.h (by exact rfl) (by exact rfl) (by exact rfl) ?_
  refine AL_norm TN ?_
  refine AL_callk FEn.h XA (doc_Own_ok s.lines hd _ (fun x H1 => ∃ A c, Fresh _ A c (s.lines.map lineAV) ∧ x = .own A c s.lines.length ∧ H1 = AH.put _ A 60 c (s.lines.map lineAV)) (fun A c h => ⟨A, c, h, rfl, rfl⟩)) ?_
  rintro _ _ ⟨A, c, hF, rfl, rfl⟩
  refine GO1 ?_
  first | refine AL_store_w FSz.h rfl XV rfl (by repeat (first | refine Fresh.look hF ?_ | exact AH.upd_same _ _ _ | exact hH | assumption | refine AH.look_other (by assumption) ?_)) rfl (by exact rfl) ?_ | refine AL_store rfl XV rfl (by repeat (first | refine Fresh.look hF ?_ | exact AH.upd_same _ _ _ | exact hH | assumption | refine AH.look_other (by assumption) ?_)) FSz.h (by exact rfl) FSz.h rfl (by decide) (fun h => by first | (cases h; done) | exact ⟨rfl, rfl, rfl⟩) ?_
  refine AL_heap (by first | (simp only [AH.upd_upd]; rfl) | rfl) ?_
  refine AL_norm TN ?_
  refine GC4 ?_
  first | refine AL_load_rp FSz.h rfl FAg.h ?_ | refine AL_loadw FSz.h rfl (by repeat (first | refine Fresh.look hF ?_ | exact AH.upd_same _ _ _ | exact hH | assumption | refine AH.look_other (by assumption) ?_)) (by exact FAg.h) rfl ?_ | refine AL_load_pt FAg.h FSz.h (by decide) rfl (by repeat (first | refine Fresh.look hF ?_ | exact AH.upd_same _ _ _ | exact hH | assumption | refine AH.look_other (by assumption) ?_)) FSz.h (by exact rfl) (by exact rfl) (by exact rfl) ?_
  refine AL_norm TN ?_
  first | refine AL_store_w FSz.h rfl XV rfl (by repeat (first | refine Fresh.look hF ?_ | exact AH.upd_same _ _ _ | exact hH | assumption | refine AH.look_other (by assumption) ?_)) rfl (by exact rfl) ?_ | refine AL_store rfl XV rfl (by repeat (first | refine Fresh.look hF ?_ | exact AH.upd_same _ _ _ | exact hH | assumption | refine AH.look_other (by assumption) ?_)) FSz.h (by exact rfl) FSz.h rfl (by decide) (fun h => by first | (cases h; done) | exact ⟨rfl, rfl, rfl⟩) ?_
  refine AL_heap (by first | (simp only [AH.upd_upd]; rfl) | rfl) ?_
  refine AL_norm TN ?_
  refine GC3 ?_
  first | refine retQ_cw (H' := H.put A 60 c (s.lines.map lineAV)) (.inr rfl) FSz.h rfl (by repeat (first | refine Fresh.look hF ?_ | exact AH.upd_same _ _ _ | exact hH | assumption | refine AH.look_other (by assumption) ?_)) (by exact FAg.h) (by exact rfl) (own_sub2 hn1 hn2 hF) ?_ | refine retQ_c (H' := H.put A 60 c (s.lines.map lineAV)) (.inr rfl) FAg.h FSz.h FSz.h (by decide) rfl (by repeat (first | refine Fresh.look hF ?_ | exact AH.upd_same _ _ _ | exact hH | assumption | refine AH.look_other (by assumption) ?_)) (by exact rfl) (by exact rfl) (by exact rfl) (own_sub2 hn1 hn2 hF) ?_
  exact hK A c ((hF.sub (SubH.refl _ |>.upd hn1 |>.upd hn2)))

/-- quillwork/doc.span -/
theorem doc_span_ok (d : List Line) (a b : Pos) (hd : DS d) :
    PI TQ Tryz.prog 227 [linesAV d, posAV a, posAV b] (.v (.bool (spanD d a b))) := by
  intro H K hT hK
  refine AC_of Tryz.func227 rfl (rs := [.tmp 6]) rfl Tryz.ntmps227 rfl ?_
  refine AW_norm TP ?_
  refine GC2 ?_
  refine GF ?_
  refine GF ?_
  refine GO1 ?_
  refine GC4 ?_
  refine GO1 ?_
  refine AL_callpi FEn.h XA HS (doc_May_ok d hd) ?_
  refine GO1 ?_
  refine AL_and (j := 2) (n := 3) (c := 9) (t := 12) (r := 13) (v := ?v1) [10, 11, 12] rfl rfl rfl rfl rfl rfl rfl (fun hg1 => ?_) ?_; rotate_left
  · refine GS ?_
    (try simp only [Bool.or_eq_true, Bool.and_eq_true, Bool.or_eq_false_iff, Bool.and_eq_false_iff, decide_eq_true_eq, decide_eq_false_iff_not, Bool.not_eq_true', Bool.not_eq_false', beq_iff_eq, ne_eq, Decidable.not_not, List.length_map] at hg1)
    refine GO2 ?_
    refine AL_callp FEn.h XA (doc_Is_ok _ _) ?_
    refine AL_nil (grpQ_mk ?_)
    exact WK
  refine AL_norm TN ?_
  refine GO1 ?_
  refine AL_and (j := 7) (n := 3) (c := 14) (t := 17) (r := 18) (v := ?v2) [15, 16, 17] rfl rfl rfl rfl rfl rfl rfl (fun hg2 => ?_) ?_; rotate_left
  · refine GS ?_
    (try simp only [Bool.or_eq_true, Bool.and_eq_true, Bool.or_eq_false_iff, Bool.and_eq_false_iff, decide_eq_true_eq, decide_eq_false_iff_not, Bool.not_eq_true', Bool.not_eq_false', beq_iff_eq, ne_eq, Decidable.not_not, List.length_map] at hg2)
    refine GO2 ?_
    refine AL_callp FEn.h XA (doc_Is_ok _ _) ?_
    refine AL_nil (grpQ_mk ?_)
    exact WK
  refine AL_norm TN ?_
  refine GO1 ?_
  refine AL_and (j := 12) (n := 4) (c := 19) (t := 23) (r := 24) (v := ?v3) [20, 21, 22, 23] rfl rfl rfl rfl rfl rfl rfl (fun hg3 => ?_) ?_; rotate_left
  · refine GS ?_
    (try simp only [Bool.or_eq_true, Bool.and_eq_true, Bool.or_eq_false_iff, Bool.and_eq_false_iff, decide_eq_true_eq, decide_eq_false_iff_not, Bool.not_eq_true', Bool.not_eq_false', beq_iff_eq, ne_eq, Decidable.not_not, List.length_map] at hg3)
    refine GO2 ?_
    refine AL_callp FEn.h XA (doc_Cmp_ok _ _) ?_
    refine GO1 ?_
    refine AL_nil (grpQ_mk ?_)
    exact WK
  refine AL_norm TN ?_
  refine GO1 ?_
  refine GC3 ?_
  refine retQ_1 (H' := H) (.inr rfl) rfl SU ?_
  refine K_eq ?_ hK
  rfl

/-- quillwork/doc.between -/
theorem doc_between_ok (d : List Line) (a b : Pos) :
    PF Tryz.prog 263 [linesAV d, posAV a, posAV b] (.fn (.func 296) [] [.rp 24 (posAV a), .rp 24 (posAV b), .rp 22 (linesAV d)]) := by
  intro H K hK
  refine AC_of Tryz.func263 rfl (rs := [.tmp 6]) rfl Tryz.ntmps263 rfl ?_
  refine AW_norm TP ?_
  refine GC2 ?_
  refine GF ?_
  refine GF ?_
  refine GF ?_
  refine GO1 ?_
  refine GC4 ?_
  refine AL_makeFunc (.nil) (.cons (.ev rfl) (.cons (.ev rfl) (.cons (.ev rfl) (.nil)))) ?_
  refine AL_norm TN ?_
  refine GO1 ?_
  refine GC3 ?_
  refine retQ_1 (H' := H) (.inr rfl) rfl SU ?_
  refine K_eq ?_ hK
  rfl

/-- quillwork/doc.between$1 -/
theorem doc_between_1_ok  :
    ∀ (d : List Line) (a b : Pos) (I : AH → Prop), DS d → 0 ≤ a.line → b.line < (d.length : Int) → IterC Tryz.prog 296 [.rp 24 (posAV a), .rp 24 (posAV b), .rp 22 (linesAV d)] (betL d a b) I := by
  intro d a b I hd ha hb l J Jx hI0 hY H K hJ hK
  have hdl := hd.1
  refine AC_of Tryz.func296 rfl (rs := []) rfl Tryz.ntmps296 rfl ?_
  refine AW_norm TP ?_
  refine GC2 ?_
  refine GO3 ?_
  refine GC2 ?_
  refine AW_block ?_
  refine AW_loops (α := Int × AH) [5, 6, 7, 10, 11, 12, 13, 14, 15, 16, 17, 18, 19, 20, 21, 22, 23, 24, 25, 26, 27, 28, 29, 30, 31, 32, 33, 34, 35, 36, 37, 38, 39, 40] (fun z => [(5, .v (.int .i64 z.1))]) (fun z => z.2) (fun z => a.line ≤ z.1 ∧ z.1 ≤ max a.line (b.line + 1) ∧ J (z.1 - a.line).toNat z.2) (fun z => (b.line + 1 - z.1).toNat) ((a.line, H)) ?_ ?_ ?_ ?_
  · exact ⟨Int.le_refl _, by omega, by rw [Int.sub_self]; exact hJ⟩
  · repeat (first | exact SubH.refl _ | assumption | refine SubH.new ?_ (by assumption))
  · skip
    exact WK
  · rintro ⟨i, H1⟩ hI; dsimp only at hI ⊢
    refine AW_norm TN ?_
    refine GC3 ?_
    refine GO4 ?_
    refine GC2 ?_
    refine GI rfl (fun hc1 => ?_) (fun hc1 => ?_)
    ·
      refine GC3 ?_
      refine AW_block ?_
      refine GC1 ?_
      refine' AW_drawL (xs := [_, _, _, _, _, _, _, _]) [] [0, 0, 1, 2, 3, 4, 0, 5] (fun _ => _) rfl (by kernel_rfl) ?hops1 ?_
      case hops1 =>
        refine HopsL_cons (fun m T hl hr hm hm2 => ?_) ?_
        · skip
          replace hm : 0 ≤ m := hm
          replace hm2 : m ≤ 0 := hm2
          obtain rfl : m = 0 := by omega
          first | refine AL_load_rp FSz.h ((hr 3 (by kernel_rfl)).trans rfl) FAg.h ?_ | refine AL_loadw FSz.h ((hr 3 (by kernel_rfl)).trans rfl) LK (by exact FAg.h) rfl ?_ | refine AL_load_pt FAg.h FSz.h (by decide) ((hr 3 (by kernel_rfl)).trans rfl) LK FSz.h (by exact rfl) (by exact rfl) (by exact rfl) ?_
          refine AL_nil ?_
          refine qpostL_mk ?_ ?_
          rotate_left
          exact Weak.refl _
          exact SubH.refl _
        refine HopsL_norm TO ?_
        refine HopsL_cons (fun m T hl hr hm hm2 => ?_) ?_
        · skip
          replace hm : 0 ≤ m := hm
          replace hm2 : m ≤ 0 := hm2
          obtain rfl : m = 0 := by omega
          refine AL_move ((hr 5 (by kernel_rfl)).trans rfl) ?_
          refine AL_nil ?_
          refine qpostL_mk ?_ ?_
          rotate_left
          exact Weak.refl _
          exact SubH.refl _
        refine HopsL_norm TO ?_
        refine HopsL_cons (fun m T hl hr hm hm2 => ?_) ?_
        · skip
          replace hm : 0 ≤ m := hm
          replace hm2 : m ≤ 0 := hm2
          obtain rfl : m = 0 := by omega
          first | refine AL_indexAddr_sl (y := lineAV (lineAt d i)) FUn.h FSz.h (by decide) ((hr 16 (by kernel_rfl)).trans rfl) ((hr 17 (by kernel_rfl)).trans rfl) ?_ ?_ ?_ ?_ | refine AL_indexAddr_own FUn.h FSz.h ((hr 16 (by kernel_rfl)).trans rfl) ((hr 17 (by kernel_rfl)).trans rfl) ?_ ?_ ?_
          · omega
          · simp only [List.length_map]; omega
          · exact map_getD l0 (i := i.toNat) (by omega)
          refine AL_nil ?_
          refine qpostL_mk ?_ ?_
          rotate_left
          exact Weak.refl _
          exact SubH.refl _
        refine HopsL_norm TO ?_
        refine HopsL_cons (fun m T hl hr hm hm2 => ?_) ?_
        · skip
          replace hm : 0 ≤ m := hm
          replace hm2 : m ≤ 0 := hm2
          obtain rfl : m = 0 := by omega
          first | refine AL_fieldAddr_pt FFl.h FSz.h (by decide) ((hr 18 (by kernel_rfl)).trans rfl) ?_ | refine AL_fieldAddr_rp FFl.h FAg.h FSz.h (by decide) (by decide) ((hr 18 (by kernel_rfl)).trans rfl) rfl (fun h => by first | rfl | cases h) ?_
          refine AL_nil ?_
          refine qpostL_mk ?_ ?_
          rotate_left
          exact Weak.refl _
          exact SubH.refl _
        refine HopsL_norm TO ?_
        refine HopsL_cons (fun m T hl hr hm hm2 => ?_) ?_
        · skip
          replace hm : 0 ≤ m := hm
          replace hm2 : m ≤ 0 := hm2
          obtain rfl : m = 0 := by omega
          first | refine AL_load_rp FSz.h ((hr 19 (by kernel_rfl)).trans rfl) FAg.h ?_ | refine AL_loadw FSz.h ((hr 19 (by kernel_rfl)).trans rfl) LK (by exact FAg.h) rfl ?_ | refine AL_load_pt FAg.h FSz.h (by decide) ((hr 19 (by kernel_rfl)).trans rfl) LK FSz.h (by exact rfl) (by exact rfl) (by exact rfl) ?_
          refine AL_nil ?_
          refine qpostL_mk ?_ ?_
          rotate_left
          exact Weak.refl _
          exact SubH.refl _
        refine HopsL_norm TO ?_
        refine HopsL_cons (fun m T hl hr hm hm2 => ?_) ?_
        · skip
          replace hm : 0 ≤ m := hm
          replace hm2 : m ≤ 0 := hm2
          obtain rfl : m = 0 := by omega
          first | refine AL_len_sl FUn.h ((hr 20 (by kernel_rfl)).trans rfl) ?_ | refine AL_len_own FUn.h ((hr 20 (by kernel_rfl)).trans rfl) ?_
          refine AL_nil ?_
          refine qpostL_mk ?_ ?_
          rotate_left
          exact Weak.refl _
          exact SubH.refl _
        refine HopsL_norm TO ?_
        refine HopsL_cons (fun m T hl hr hm hm2 => ?_) ?_
        · skip
          replace hm : 0 ≤ m := hm
          replace hm2 : m ≤ 0 := hm2
          obtain rfl : m = 0 := by omega
          refine AL_assign rfl ?_
          refine AL_nil ?_
          refine qpostL_mk ?_ ?_
          rotate_left
          exact Weak.refl _
          exact SubH.refl _
        refine HopsL_norm TO ?_
        refine HopsL_cons (fun m T hl hr hm hm2 => ?_) ?_
        · skip
          replace hm : 0 ≤ m := hm
          replace hm2 : m ≤ 0 := hm2
          obtain rfl : m = 0 := by omega
          refine AL_assign ((hr 21 (by kernel_rfl)).trans rfl) ?_
          refine AL_nil ?_
          refine qpostL_mk ?_ ?_
          rotate_left
          exact Weak.refl _
          exact SubH.refl _
        refine HopsL_norm TO ?_
        exact HopsL_nil
      refine Q_norm (by first | (simp only [Tfin, tput, anyAt, setAll, List.foldl_cons, List.foldl_nil, List.set_cons_zero, List.set_cons_succ]; rfl) | rfl) ?_
      refine GC4 ?_
      refine GO4 ?_
      refine GC2 ?_
      refine GI rfl (fun hc2 => ?_) (fun hc2 => ?_)
      ·
        refine GC1 ?_
        refine GO3 ?_
        refine GC5 ?_
        refine GO4 ?_
        refine GC2 ?_
        refine GI rfl (fun hc3 => ?_) (fun hc3 => ?_)
        ·
          refine GC1 ?_
          refine GO3 ?_
          refine GC4 ?_
          refine GO4 ?_
          refine AL_build_af (zs := [_, _]) FUn.h FZe.h FSz.h (.cons (.ev rfl) rfl (.cons (.ev rfl) rfl (.nil))) rfl rfl rfl ?_
          refine AL_yield rfl (.cons (.ev rfl) (.cons (.ev rfl) .nil)) (hY _ _ _ (by exact betL_mk hI.1 (by omega) (if_pos hc2) (if_pos hc3)) hI.2.2) ?_; rintro bb H2 hK2
          refine GO1 ?_
          refine GC2 ?_
          refine GI rfl (fun hc4 => ?_) (fun hc4 => ?_)
          ·
            refine GC3 ?_
            refine loopQ_r ?_
            refine GC1 ?_
            refine retQ_0 (H' := _) (.inr rfl) SU ?_
            exact hK _ _ (.inr (by rw [if_neg (by rw [hc4]; decide)] at hK2; exact hK2))
          ·
            refine GC4 ?_
            refine GO1 ?_
            refine AL_addz rfl rfl (i + 1) (by exact i64_in (by omega)) ?_
            refine GO1 ?_
            refine GC1 ?_
            refine loopQ_n ((i + 1, H2)) ?_ ?_ ?_ ?_
            · (have h3 : J ((i + 1 - a.line).toNat) H2 := (by rw [if_pos hc4] at hK2; rw [show (i + 1 - a.line).toNat = (i - a.line).toNat + 1 by omega]; exact hK2)); exact ⟨by omega, by omega, h3⟩
            · (show (b.line + 1 - (i + 1)).toNat < (b.line + 1 - i).toNat; omega)
            · repeat (first | exact SubH.refl _ | assumption | refine SubH.new ?_ (by assumption))
            · skip
              exact WK
        ·
          refine GC4 ?_
          refine GO4 ?_
          refine AL_build_af (zs := [_, _]) FUn.h FZe.h FSz.h (.cons (.ev rfl) rfl (.cons (.ev rfl) rfl (.nil))) rfl rfl rfl ?_
          refine AL_yield rfl (.cons (.ev rfl) (.cons (.ev rfl) .nil)) (hY _ _ _ (by exact betL_mk hI.1 (by omega) (if_pos hc2) ((if_neg hc3).trans (by rw [List.length_map]))) hI.2.2) ?_; rintro bb H2 hK2
          refine AL_norm TN ?_
          refine GO1 ?_
          refine GC2 ?_
          refine GI rfl (fun hc5 => ?_) (fun hc5 => ?_)
          ·
            refine GC3 ?_
            refine loopQ_r ?_
            refine GC1 ?_
            refine retQ_0 (H' := _) (.inr rfl) SU ?_
            exact hK _ _ (.inr (by rw [if_neg (by rw [hc5]; decide)] at hK2; exact hK2))
          ·
            refine GC4 ?_
            refine GO1 ?_
            refine AL_addz rfl rfl (i + 1) (by exact i64_in (by omega)) ?_
            refine GO1 ?_
            refine GC1 ?_
            refine loopQ_n ((i + 1, H2)) ?_ ?_ ?_ ?_
            · (have h3 : J ((i + 1 - a.line).toNat) H2 := (by rw [if_pos hc5] at hK2; rw [show (i + 1 - a.line).toNat = (i - a.line).toNat + 1 by omega]; exact hK2)); exact ⟨by omega, by omega, h3⟩
            · (show (b.line + 1 - (i + 1)).toNat < (b.line + 1 - i).toNat; omega)
            · repeat (first | exact SubH.refl _ | assumption | refine SubH.new ?_ (by assumption))
            · skip
              exact WK
      ·
        refine GC5 ?_
        refine GO4 ?_
        refine GC2 ?_
        refine GI rfl (fun hc6 => ?_) (fun hc6 => ?_)
        ·
          refine GC1 ?_
          refine GO3 ?_
          refine GC4 ?_
          refine GO4 ?_
          refine AL_build_af (zs := [_, _]) FUn.h FZe.h FSz.h (.cons (.ev rfl) rfl (.cons (.ev rfl) rfl (.nil))) rfl rfl rfl ?_
          refine AL_yield rfl (.cons (.ev rfl) (.cons (.ev rfl) .nil)) (hY _ _ _ (by exact betL_mk hI.1 (by omega) (if_neg hc2) (if_pos hc6)) hI.2.2) ?_; rintro bb H2 hK2
          refine AL_norm TN ?_
          refine GO1 ?_
          refine GC2 ?_
          refine GI rfl (fun hc7 => ?_) (fun hc7 => ?_)
          ·
            refine GC3 ?_
            refine loopQ_r ?_
            refine GC1 ?_
            refine retQ_0 (H' := _) (.inr rfl) SU ?_
            exact hK _ _ (.inr (by rw [if_neg (by rw [hc7]; decide)] at hK2; exact hK2))
          ·
            refine GC4 ?_
            refine GO1 ?_
            refine AL_addz rfl rfl (i + 1) (by exact i64_in (by omega)) ?_
            refine GO1 ?_
            refine GC1 ?_
            refine loopQ_n ((i + 1, H2)) ?_ ?_ ?_ ?_
            · (have h3 : J ((i + 1 - a.line).toNat) H2 := (by rw [if_pos hc7] at hK2; rw [show (i + 1 - a.line).toNat = (i - a.line).toNat + 1 by omega]; exact hK2)); exact ⟨by omega, by omega, h3⟩
            · (show (b.line + 1 - (i + 1)).toNat < (b.line + 1 - i).toNat; omega)
            · repeat (first | exact SubH.refl _ | assumption | refine SubH.new ?_ (by assumption))
            · skip
              exact WK
        ·
          refine GC4 ?_
          refine GO4 ?_
          refine AL_build_af (zs := [_, _]) FUn.h FZe.h FSz.h (.cons (.ev rfl) rfl (.cons (.ev rfl) rfl (.nil))) rfl rfl rfl ?_
          refine AL_norm TN ?_
          refine AL_yield rfl (.cons (.ev rfl) (.cons (.ev rfl) .nil)) (hY _ _ _ (by exact betL_mk hI.1 (by omega) (if_neg hc2) ((if_neg hc6).trans (by rw [List.length_map]))) hI.2.2) ?_; rintro bb H2 hK2
          refine GO1 ?_
          refine GC2 ?_
          refine GI rfl (fun hc8 => ?_) (fun hc8 => ?_)
          ·
            refine GC3 ?_
            refine loopQ_r ?_
            refine GC1 ?_
            refine retQ_0 (H' := _) (.inr rfl) SU ?_
            exact hK _ _ (.inr (by rw [if_neg (by rw [hc8]; decide)] at hK2; exact hK2))
          ·
            refine GC4 ?_
            refine GO1 ?_
            refine AL_addz rfl rfl (i + 1) (by exact i64_in (by omega)) ?_
            refine AL_norm TN ?_
            refine GO1 ?_
            refine GC1 ?_
            refine loopQ_n ((i + 1, H2)) ?_ ?_ ?_ ?_
            · (have h3 : J ((i + 1 - a.line).toNat) H2 := (by rw [if_pos hc8] at hK2; rw [show (i + 1 - a.line).toNat = (i - a.line).toNat + 1 by omega]; exact hK2)); exact ⟨by omega, by omega, h3⟩
            · (show (b.line + 1 - (i + 1)).toNat < (b.line + 1 - i).toNat; omega)
            · repeat (first | exact SubH.refl _ | assumption | refine SubH.new ?_ (by assumption))
            · skip
              exact WK
    ·
      refine GC2 ?_
      refine loopQ_x ?_
      refine GC1 ?_
      refine retQ_0 (H' := _) (.inl rfl) SU ?_
      exact hK _ _ (.inl (by rw [betL_len, show (b.line + 1 - a.line).toNat = (i - a.line).toNat by omega]; exact hI.2.2))


end Go.Proofs
