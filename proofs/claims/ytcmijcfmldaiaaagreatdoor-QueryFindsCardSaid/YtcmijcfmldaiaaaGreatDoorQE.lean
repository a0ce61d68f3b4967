/- The given statement of the law: for every input the law answers true. No conditions of our own. -/
import Derived.Test.YtcmijcfmldaiaaaGreatDoorQD
import Derived.Test.YtcmijcfmldaiaaaGreatDoorProg
set_option autoImplicit false
set_option linter.unusedVariables false
set_option linter.unusedSimpArgs false
set_option maxRecDepth 100000
set_option maxHeartbeats 4000000
namespace Go.Proofs
open Go Go.RowKit Go.AL Go.Q Go.IntWalk
theorem en289 : entersOf Tryz.prog 289 = true := by kernel_rfl
theorem en288 : entersOf Tryz.prog 288 = true := by kernel_rfl
theorem en287 : entersOf Tryz.prog 287 = true := by kernel_rfl
theorem en219 : entersOf Tryz.prog 219 = true := by kernel_rfl
theorem en134 : entersOf Tryz.prog 134 = true := by kernel_rfl
theorem inf60 : infoOf Tryz.prog 60 = some (some (.agg #[.int .i64 0, .slice none 0 0, .int .i64 0, .slice none 0 0]), 4, 64) := by kernel_rfl
theorem ze26 : zeroOf Tryz.prog 26 = some (.agg #[.slice none 0 0, .int .i64 0, .int .i64 0, .int .i64 0, .int .i64 0, .int .i64 0, .int .i64 0]) := by kernel_rfl
theorem fl26_0 : fldOf Tryz.prog 26 0 = some (22, 0) := by kernel_rfl
theorem sz22 : szOf Tryz.prog 22 = some 1 := by kernel_rfl
theorem ag22 : aggOf Tryz.prog 22 = some false := by kernel_rfl
theorem en69 : entersOf Tryz.prog 69 = true := by kernel_rfl
theorem ag26 : aggOf Tryz.prog 26 = some true := by kernel_rfl
theorem en63 : entersOf Tryz.prog 63 = true := by kernel_rfl
theorem en64 : entersOf Tryz.prog 64 = true := by kernel_rfl
theorem un223 : Tryz.prog.underlying 223 = some (.array 2 3) := by kernel_rfl
theorem ze223 : zeroOf Tryz.prog 223 = some (.agg #[.int .i64 0, .int .i64 0]) := by kernel_rfl

/-- quillwork/cells.Set -/
theorem cells_Set_ok (l : List Cell) (i j s c : Int) (hl : l.length ≤ 20000) :
  PF Tryz.prog 250 [cellsAV l, .v (.int .i64 i), .v (.int .i64 j), .v (.int .i64 s), .v (.int .i64 c)] (rcAV (eachC (setF (bitAnd s 15) (bitAnd c 15)) l i j)) := by
 intro H K hK
 refine AC_of Tryz.func250 rfl (rs := [.tmp 10, .tmp 11]) rfl Tryz.ntmps250 rfl ?_
 refine AW_norm TP ?_
 refine AW_seq ?_
 refine AW_region ?_
 refine AL_box rfl rfl sz3 rfl ?_
 intro b1 hb1
 refine AL_norm TN ?_
 refine AL_frzpt 8 rfl (AH.upd_same _ _ _) ?_
 refine AL_heap (AH.upd_none_eq hb1) ?_
 refine AL_norm TN ?_
 clear hb1
 refine AL_box rfl rfl sz3 rfl ?_
 intro b2 hb2
 refine AL_norm TN ?_
 refine AL_frzpt 9 rfl (AH.upd_same _ _ _) ?_
 refine AL_heap (AH.upd_none_eq hb2) ?_
 refine AL_norm TN ?_
 clear hb2
 refine AL_assign rfl ?_
 refine AL_assign rfl ?_
 refine AL_norm TN ?_
 refine AL_nil (seqQ_n (AW_seq (AW_region ?_)))
 refine AL_move rfl ?_
 refine AL_norm TN ?_
 refine AL_move rfl ?_
 refine AL_move rfl ?_
 refine AL_makeFunc (.nil) (.cons (.ev rfl) (.cons (.ev rfl) (.nil))) ?_
 refine AL_callp en287 (.cons (.ev rfl) (.cons (.ev rfl) (.cons (.ev rfl) (.cons (.ev rfl) (.nil))))) (cells_each_ok (setF (bitAnd s 15) (bitAnd c 15)) 289 _ l i j hl en289 (cells_Set_1_ok s c)) ?_
 refine AL_norm TN ?_
 refine AL_extract rfl rfl ?_
 refine AL_extract rfl rfl ?_
 refine AL_assign rfl ?_
 refine AL_assign rfl ?_
 refine AL_norm TN ?_
 refine AL_nil ?_
 refine seqQ_n ?_
 refine AW_ret ?_
 refine retQ_2 (H' := H) (.inr rfl) rfl rfl SU ?_
 refine K_eq ?_ hK
 rfl

/-- quillwork/cells.Link -/
theorem cells_Link_ok (l : List Cell) (i j : Int) (h : ByteArray) (hl : l.length ≤ 20000) (hh : h.size ≤ 200000) :
  PI TQ Tryz.prog 248 [cellsAV l, .v (.int .i64 i), .v (.int .i64 j), strAV h] (rcAV (if linkOK h = true then eachC (linkF h) l i j else ([], 1))) := by
 intro H K hT hK
 refine AC_tup0 57 ?_
 refine AC_of Tryz.func248 rfl (rs := [.tmp 8, .tmp 9]) rfl Tryz.ntmps248 rfl ?_
 refine AW_norm TP ?_
 refine AW_seq ?_
 refine AW_region ?_
 refine AL_box rfl rfl sz9 rfl ?_
 intro b1 hb1
 refine AL_norm TN ?_
 refine AL_frzpt 7 rfl (AH.upd_same _ _ _) ?_
 refine AL_heap (AH.upd_none_eq hb1) ?_
 refine AL_norm TN ?_
 clear hb1
 refine AL_assign rfl ?_
 refine AL_assign rfl ?_
 refine AL_norm TN ?_
 refine AL_nil ?_
 refine seqQ_n ?_
 refine AW_seq ?_
 refine AW_seq ?_
 refine AW_region ?_
 first | refine AL_load_rp sz9 rfl ag9 ?_ | refine AL_loadw sz9 rfl LK (by exact ag9) (by exact rfl) ?_ | refine AL_load_pt ag9 sz9 (by decide) rfl LK (by first | assumption | exact sz3 | exact sz57 | exact sz60 | exact sz21 | exact sz9 | exact sz52 | exact sz58 | exact sz24 | exact sz26 | exact sz22) (by exact rfl) (by exact rfl) (by exact rfl) ?_
 refine AL_norm TN ?_
 refine AL_callpi en270 (.cons (.ev rfl) (.nil)) HS (cells_link_ok h hh) ?_
 refine AL_not rfl ?_
 refine AL_norm TN ?_
 refine AL_nil ?_
 refine seqQ_n ?_
 refine AW_cond rfl (fun hc1 => ?_) (fun hc1 => ?_)
 · try simp only [Bool.or_eq_true, Bool.and_eq_true, Bool.or_eq_false_iff, Bool.and_eq_false_iff, decide_eq_true_eq, decide_eq_false_iff_not, Bool.not_eq_true', Bool.not_eq_false', beq_iff_eq, ne_eq, Decidable.not_not, List.length_map] at hc1
  refine AW_seq ?_
  refine AW_region ?_
  refine AL_assign rfl ?_
  refine AL_assign rfl ?_
  refine AL_norm TN ?_
  refine AL_nil ?_
  refine seqQ_n ?_
  refine AW_ret ?_
  refine seqQ_r ?_
  refine retQ_2 (H' := H) (.inr rfl) rfl rfl SU ?_
  exact .inr ⟨none, 0, [], _, ⟨rfl, rfl⟩, rfl, rfl, by rw [if_neg (by rw [hc1]; exact Bool.false_ne_true)] at hK; exact hK⟩
 · try simp only [Bool.or_eq_true, Bool.and_eq_true, Bool.or_eq_false_iff, Bool.and_eq_false_iff, decide_eq_true_eq, decide_eq_false_iff_not, Bool.not_eq_true', Bool.not_eq_false', beq_iff_eq, ne_eq, Decidable.not_not, List.length_map] at hc1
  refine AW_skip ?_
  refine seqQ_n ?_
  refine AW_seq ?_
  refine AW_region ?_
  refine AL_move rfl ?_
  refine AL_norm TN ?_
  refine AL_move rfl ?_
  refine AL_move rfl ?_
  refine AL_makeFunc (.nil) (.cons (.ev rfl) (.nil)) ?_
  refine AL_callp en287 (.cons (.ev rfl) (.cons (.ev rfl) (.cons (.ev rfl) (.cons (.ev rfl) (.nil))))) (cells_each_ok (linkF h) 288 _ l i j hl en288 (cells_Link_1_ok h)) ?_
  refine AL_norm TN ?_
  refine AL_extract rfl rfl ?_
  refine AL_extract rfl rfl ?_
  refine AL_assign rfl ?_
  refine AL_assign rfl ?_
  refine AL_norm TN ?_
  refine AL_nil ?_
  refine seqQ_n ?_
  refine AW_ret ?_
  refine retQ_2 (H' := H) (.inr rfl) rfl rfl SU ?_
  rw [if_pos hc1] at hK; exact .inl hK

/-- quillwork/lines.Own -/
theorem lines_Own_ok (l : Line) (hs : LS l) :
  PF Tryz.prog 134 [lineAV l] (lineAV l) := by
 intro H K hK
 refine AC_of Tryz.func134 rfl (rs := [.cell 2 60]) rfl Tryz.ntmps134 rfl ?_
 refine AW_norm TP ?_
 refine AW_seq ?_
 refine AW_region ?_
 refine AL_box rfl rfl sz60 rfl ?_
 intro b1 hb1
 have hn1 : H b1 = none := SubH.none SU hb1
 refine AL_alloc ze60 (.agg (.v (.own (.v (.own .nil))))) rfl sz60 rfl ?_
 intro b2 hb2
 have hn2 : H b2 = none := SubH.none SU hb2
 have hd2_1 : b2 ≠ b1 := AH.fresh_ne hb2 LK
 have hd1_2 : b1 ≠ b2 := Ne.symm hd2_1
 refine AL_norm TN ?_
 refine AL_nil ?_
 refine seqQ_n ?_
 refine AW_seq ?_
 refine' AW_drawL (xs := [_, _, _, _, _, _, _, _, _, _]) [7, 9] [0, 1, 2, 0, 1, 3, 3, 4, 5, 6] (fun _ => (H.upd b1 (some (.row 60 1 [lineAV l]))).upd b2 (some (.row 60 1 [.ag [.v (.int .i64 0), .own none 0 0, .v (.int .i64 0), .own none 0 0]]))) rfl (by kernel_rfl) ?hops1 ?_
 case hops1 =>
  refine HopsL_cons (fun m T hl hr hm hm2 => ?_) ?_
  · skip
   replace hm : 0 ≤ m := hm
   replace hm2 : m ≤ 0 := hm2
   obtain rfl : m = 0 := by omega
   refine AL_heap (by rfl : _ = (H.upd b1 (some (.row 60 1 [lineAV l]))).upd b2 (some (.row 60 1 [.ag [.v (.int .i64 0), .own none 0 0, .v (.int .i64 0), .own none 0 0]]))) ?_
   first | refine AL_fieldAddr_pt fl60_1 sz52 (by decide) ((hr 1 (by kernel_rfl)).trans rfl) ?_ | refine AL_fieldAddr_rp fl60_1 ag52 sz52 (by decide) (by decide) ((hr 1 (by kernel_rfl)).trans rfl) rfl (fun h => by first | rfl | cases h) ?_
   refine AL_nil ?_
   refine qpostL_mk ?_ ?_
   rotate_left
   exact Weak.refl _
   show SubH ((H.upd b1 (some (.row 60 1 [lineAV l]))).upd b2 (some (.row 60 1 [.ag [.v (.int .i64 0), .own none 0 0, .v (.int .i64 0), .own none 0 0]]))) _
   exact SubH.refl _
  refine HopsL_norm TO ?_
  refine HopsL_cons (fun m T hl hr hm hm2 => ?_) ?_
  · skip
   replace hm : 0 ≤ m := hm
   replace hm2 : m ≤ 0 := hm2
   obtain rfl : m = 0 := by omega
   refine AL_heap (by rfl : _ = (H.upd b1 (some (.row 60 1 [lineAV l]))).upd b2 (some (.row 60 1 [.ag [.v (.int .i64 0), .own none 0 0, .v (.int .i64 0), .own none 0 0]]))) ?_
   first | refine AL_load_rp sz52 ((hr 3 (by kernel_rfl)).trans rfl) ag52 ?_ | refine AL_loadw sz52 ((hr 3 (by kernel_rfl)).trans rfl) LK (by exact ag52) (by exact rfl) ?_ | refine AL_load_pt ag52 sz52 (by decide) ((hr 3 (by kernel_rfl)).trans rfl) LK (by first | assumption | exact sz3 | exact sz57 | exact sz60 | exact sz21 | exact sz9 | exact sz52 | exact sz58 | exact sz24 | exact sz26 | exact sz22) (by exact rfl) (by exact rfl) (by exact rfl) ?_
   refine AL_nil ?_
   refine qpostL_mk ?_ ?_
   rotate_left
   exact Weak.refl _
   show SubH ((H.upd b1 (some (.row 60 1 [lineAV l]))).upd b2 (some (.row 60 1 [.ag [.v (.int .i64 0), .own none 0 0, .v (.int .i64 0), .own none 0 0]]))) _
   exact SubH.refl _
  refine HopsL_norm TO ?_
  refine HopsL_cons (fun m T hl hr hm hm2 => ?_) ?_
  · skip
   replace hm : 0 ≤ m := hm
   replace hm2 : m ≤ 0 := hm2
   obtain rfl : m = 0 := by omega
   refine AL_heap (by rfl : _ = (H.upd b1 (some (.row 60 1 [lineAV l]))).upd b2 (some (.row 60 1 [.ag [.v (.int .i64 0), .own none 0 0, .v (.int .i64 0), .own none 0 0]]))) ?_
   refine AL_callp en219 (.cons (.ev ((hr 4 (by kernel_rfl)).trans rfl)) (.nil)) (slices_Clone_int_int_fz l.lists (by have := hs.1; omega)) ?_
   refine AL_nil ?_
   refine qpostL_mk ?_ ?_
   rotate_left
   exact Weak.refl _
   show SubH ((H.upd b1 (some (.row 60 1 [lineAV l]))).upd b2 (some (.row 60 1 [.ag [.v (.int .i64 0), .own none 0 0, .v (.int .i64 0), .own none 0 0]]))) _
   exact SubH.refl _
  refine HopsL_norm TO ?_
  refine HopsL_cons (fun m T hl hr hm hm2 => ?_) ?_
  · skip
   replace hm : 0 ≤ m := hm
   replace hm2 : m ≤ 0 := hm2
   obtain rfl : m = 0 := by omega
   refine AL_heap (by rfl : _ = (H.upd b1 (some (.row 60 1 [lineAV l]))).upd b2 (some (.row 60 1 [.ag [.v (.int .i64 0), .own none 0 0, .v (.int .i64 0), .own none 0 0]]))) ?_
   first | refine AL_fieldAddr_pt fl60_3 sz58 (by decide) ((hr 1 (by kernel_rfl)).trans rfl) ?_ | refine AL_fieldAddr_rp fl60_3 ag58 sz58 (by decide) (by decide) ((hr 1 (by kernel_rfl)).trans rfl) rfl (fun h => by first | rfl | cases h) ?_
   refine AL_nil ?_
   refine qpostL_mk ?_ ?_
   rotate_left
   exact Weak.refl _
   show SubH ((H.upd b1 (some (.row 60 1 [lineAV l]))).upd b2 (some (.row 60 1 [.ag [.v (.int .i64 0), .own none 0 0, .v (.int .i64 0), .own none 0 0]]))) _
   exact SubH.refl _
  refine HopsL_norm TO ?_
  refine HopsL_cons (fun m T hl hr hm hm2 => ?_) ?_
  · skip
   replace hm : 0 ≤ m := hm
   replace hm2 : m ≤ 0 := hm2
   obtain rfl : m = 0 := by omega
   refine AL_heap (by rfl : _ = (H.upd b1 (some (.row 60 1 [lineAV l]))).upd b2 (some (.row 60 1 [.ag [.v (.int .i64 0), .own none 0 0, .v (.int .i64 0), .own none 0 0]]))) ?_
   first | refine AL_load_rp sz58 ((hr 6 (by kernel_rfl)).trans rfl) ag58 ?_ | refine AL_loadw sz58 ((hr 6 (by kernel_rfl)).trans rfl) LK (by exact ag58) (by exact rfl) ?_ | refine AL_load_pt ag58 sz58 (by decide) ((hr 6 (by kernel_rfl)).trans rfl) LK (by first | assumption | exact sz3 | exact sz57 | exact sz60 | exact sz21 | exact sz9 | exact sz52 | exact sz58 | exact sz24 | exact sz26 | exact sz22) (by exact rfl) (by exact rfl) (by exact rfl) ?_
   refine AL_nil ?_
   refine qpostL_mk ?_ ?_
   rotate_left
   exact Weak.refl _
   show SubH ((H.upd b1 (some (.row 60 1 [lineAV l]))).upd b2 (some (.row 60 1 [.ag [.v (.int .i64 0), .own none 0 0, .v (.int .i64 0), .own none 0 0]]))) _
   exact SubH.refl _
  refine HopsL_norm TO ?_
  refine HopsL_cons (fun m T hl hr hm hm2 => ?_) ?_
  · skip
   replace hm : 0 ≤ m := hm
   replace hm2 : m ≤ 0 := hm2
   obtain rfl : m = 0 := by omega
   refine AL_heap (by rfl : _ = (H.upd b1 (some (.row 60 1 [lineAV l]))).upd b2 (some (.row 60 1 [.ag [.v (.int .i64 0), .own none 0 0, .v (.int .i64 0), .own none 0 0]]))) ?_
   refine AL_callp en220 (.cons (.ev ((hr 7 (by kernel_rfl)).trans rfl)) (.nil)) (slices_Clone_api_Cell_api_Cell_fz l.cells (by have := hs.2.1; omega)) ?_
   refine AL_nil ?_
   refine qpostL_mk ?_ ?_
   rotate_left
   exact Weak.refl _
   show SubH ((H.upd b1 (some (.row 60 1 [lineAV l]))).upd b2 (some (.row 60 1 [.ag [.v (.int .i64 0), .own none 0 0, .v (.int .i64 0), .own none 0 0]]))) _
   exact SubH.refl _
  refine HopsL_norm TO ?_
  refine HopsL_cons (fun m T hl hr hm hm2 => ?_) ?_
  · skip
   replace hm : 0 ≤ m := hm
   replace hm2 : m ≤ 0 := hm2
   obtain rfl : m = 0 := by omega
   refine AL_heap (by rfl : _ = (H.upd b1 (some (.row 60 1 [lineAV l]))).upd b2 (some (.row 60 1 [.ag [.v (.int .i64 0), .own none 0 0, .v (.int .i64 0), .own none 0 0]]))) ?_
   first | refine AL_fieldAddr_pt fl60_1 sz52 (by decide) ((hr 1 (by kernel_rfl)).trans rfl) ?_ | refine AL_fieldAddr_rp fl60_1 ag52 sz52 (by decide) (by decide) ((hr 1 (by kernel_rfl)).trans rfl) rfl (fun h => by first | rfl | cases h) ?_
   refine AL_nil ?_
   refine qpostL_mk ?_ ?_
   rotate_left
   exact Weak.refl _
   show SubH ((H.upd b1 (some (.row 60 1 [lineAV l]))).upd b2 (some (.row 60 1 [.ag [.v (.int .i64 0), .own none 0 0, .v (.int .i64 0), .own none 0 0]]))) _
   exact SubH.refl _
  refine HopsL_norm TO ?_
  refine HopsL_cons (fun m T hl hr hm hm2 => ?_) ?_
  · skip
   replace hm : 0 ≤ m := hm
   replace hm2 : m ≤ 0 := hm2
   obtain rfl : m = 0 := by omega
   refine AL_heap (by rfl : _ = (H.upd b1 (some (.row 60 1 [lineAV l]))).upd b2 (some (.row 60 1 [.ag [.v (.int .i64 0), .own none 0 0, .v (.int .i64 0), .own none 0 0]]))) ?_
   first | refine AL_store_w sz52 ((hr 9 (by kernel_rfl)).trans rfl) (.ev ((hr 5 (by kernel_rfl)).trans rfl)) rfl LK rfl (by exact rfl) ?_ | refine AL_store ((hr 9 (by kernel_rfl)).trans rfl) (.ev ((hr 5 (by kernel_rfl)).trans rfl)) rfl LK (by first | assumption | exact sz3 | exact sz57 | exact sz60 | exact sz21 | exact sz9 | exact sz52 | exact sz58 | exact sz24 | exact sz26 | exact sz22) (by exact rfl) sz52 rfl (by decide) (fun h => by first | (cases h; done) | exact ⟨rfl, rfl, rfl⟩) ?_
   refine AL_heap (by first | (simp only [AH.upd_upd]; rfl) | rfl) ?_
   refine AL_nil ?_
   refine qpostL_mk ?_ ?_
   rotate_left
   exact Weak.refl _
   show SubH ((H.upd b1 (some (.row 60 1 [lineAV l]))).upd b2 (some (.row 60 1 [.ag [.v (.int .i64 0), .own none 0 0, .v (.int .i64 0), .own none 0 0]]))) _
   first | exact SubH.refl _ | (refine SubH.of_eq (funext fun j => ?_); simp only [AH.upd]; (repeat' split) <;> first | rfl | omega)
  refine HopsL_norm TO ?_
  refine HopsL_cons (fun m T hl hr hm hm2 => ?_) ?_
  · skip
   replace hm : 1 ≤ m := hm
   replace hm2 : m ≤ 1 := hm2
   obtain rfl : m = 1 := by omega
   refine AL_heap (by rfl : _ = (H.upd b1 (some (.row 60 1 [lineAV l]))).upd b2 (some (.row 60 1 [.ag [.v (.int .i64 0), .own none 0 0, .v (.int .i64 0), .own none 0 0]]))) ?_
   first | refine AL_fieldAddr_pt fl60_3 sz58 (by decide) ((hr 1 (by kernel_rfl)).trans rfl) ?_ | refine AL_fieldAddr_rp fl60_3 ag58 sz58 (by decide) (by decide) ((hr 1 (by kernel_rfl)).trans rfl) rfl (fun h => by first | rfl | cases h) ?_
   refine AL_nil ?_
   refine qpostL_mk ?_ ?_
   rotate_left
   exact Weak.refl _
   show SubH ((H.upd b1 (some (.row 60 1 [lineAV l]))).upd b2 (some (.row 60 1 [.ag [.v (.int .i64 0), .own none 0 0, .v (.int .i64 0), .own none 0 0]]))) _
   exact SubH.refl _
  refine HopsL_norm TO ?_
  refine HopsL_cons (fun m T hl hr hm hm2 => ?_) ?_
  · skip
   replace hm : 1 ≤ m := hm
   replace hm2 : m ≤ 1 := hm2
   obtain rfl : m = 1 := by omega
   refine AL_heap (by rfl : _ = (H.upd b1 (some (.row 60 1 [lineAV l]))).upd b2 (some (.row 60 1 [.ag [.v (.int .i64 0), .own none 0 0, .v (.int .i64 0), .own none 0 0]]))) ?_
   first | refine AL_store_w sz58 ((hr 10 (by kernel_rfl)).trans rfl) (.ev ((hr 8 (by kernel_rfl)).trans rfl)) rfl LK rfl (by exact rfl) ?_ | refine AL_store ((hr 10 (by kernel_rfl)).trans rfl) (.ev ((hr 8 (by kernel_rfl)).trans rfl)) rfl LK (by first | assumption | exact sz3 | exact sz57 | exact sz60 | exact sz21 | exact sz9 | exact sz52 | exact sz58 | exact sz24 | exact sz26 | exact sz22) (by exact rfl) sz58 rfl (by decide) (fun h => by first | (cases h; done) | exact ⟨rfl, rfl, rfl⟩) ?_
   refine AL_heap (by first | (simp only [AH.upd_upd]; rfl) | rfl) ?_
   refine AL_nil ?_
   refine qpostL_mk ?_ ?_
   rotate_left
   exact Weak.refl _
   show SubH ((H.upd b1 (some (.row 60 1 [lineAV l]))).upd b2 (some (.row 60 1 [.ag [.v (.int .i64 0), .own none 0 0, .v (.int .i64 0), .own none 0 0]]))) _
   first | exact SubH.refl _ | (refine SubH.of_eq (funext fun j => ?_); simp only [AH.upd]; (repeat' split) <;> first | rfl | omega)
  refine HopsL_norm TO ?_
  exact HopsL_nil
 refine Q_norm (by first | (simp only [Tfin, tput, anyAt, setAll, List.foldl_cons, List.foldl_nil, List.set_cons_zero, List.set_cons_succ]; rfl) | rfl) ?_
 refine seqQ_n ?_
 refine AW_seq ?_
 refine AW_region ?_
 first | refine AL_load_rp sz60 rfl ag60 ?_ | refine AL_loadw sz60 rfl LK (by exact ag60) (by exact rfl) ?_ | refine AL_load_pt ag60 sz60 (by decide) rfl LK (by first | assumption | exact sz3 | exact sz57 | exact sz60 | exact sz21 | exact sz9 | exact sz52 | exact sz58 | exact sz24 | exact sz26 | exact sz22) (by exact rfl) (by exact rfl) (by exact rfl) ?_
 first | refine AL_store_w sz60 rfl (.ev rfl) rfl LK rfl (by exact rfl) ?_ | refine AL_store rfl (.ev rfl) rfl LK (by first | assumption | exact sz3 | exact sz57 | exact sz60 | exact sz21 | exact sz9 | exact sz52 | exact sz58 | exact sz24 | exact sz26 | exact sz22) (by exact rfl) sz60 rfl (by decide) (fun h => by first | (cases h; done) | exact ⟨rfl, rfl, rfl⟩) ?_
 refine AL_heap (by first | (simp only [AH.upd_upd]; rfl) | rfl) ?_
 refine AL_norm TN ?_
 refine AL_nil ?_
 refine seqQ_n ?_
 refine AW_ret ?_
 first | refine retQ_cw (H' := H) (.inr rfl) sz60 rfl LK (by exact ag60) (by exact rfl) SU ?_ | refine retQ_c (H' := H) (.inr rfl) ag60 sz60 (by first | assumption | exact sz3 | exact sz57 | exact sz60 | exact sz21 | exact sz9 | exact sz52 | exact sz58 | exact sz24 | exact sz26 | exact sz22) (by decide) rfl LK (by exact rfl) (by exact rfl) (by exact rfl) SU ?_
 refine K_eq ?_ hK
 rfl

/-- quillwork/lines.Frame -/
theorem lines_Frame_ok (l : Line) (hs : LS l) :
  PF Tryz.prog 265 [lineAV l] (lineAV { l with cells := [] }) := by
 intro H K hK
 refine AC_of Tryz.func265 rfl (rs := [.cell 2 60]) rfl Tryz.ntmps265 rfl ?_
 refine AW_norm TP ?_
 refine AW_seq ?_
 refine AW_region ?_
 refine AL_box rfl rfl sz60 rfl ?_
 intro b1 hb1
 have hn1 : H b1 = none := SubH.none SU hb1
 refine AL_alloc ze60 (.agg (.v (.own (.v (.own .nil))))) rfl sz60 rfl ?_
 intro b2 hb2
 have hn2 : H b2 = none := SubH.none SU hb2
 have hd2_1 : b2 ≠ b1 := AH.fresh_ne hb2 LK
 have hd1_2 : b1 ≠ b2 := Ne.symm hd2_1
 refine AL_norm TN ?_
 refine AL_nil (seqQ_n (AW_seq (AW_region ?_)))
 first | refine AL_load_rp sz60 rfl ag60 ?_ | refine AL_loadw sz60 rfl LK (by exact ag60) (by exact rfl) ?_ | refine AL_load_pt ag60 sz60 (by decide) rfl LK (by first | assumption | exact sz3 | exact sz57 | exact sz60 | exact sz21 | exact sz9 | exact sz52 | exact sz58 | exact sz24 | exact sz26 | exact sz22) (by exact rfl) (by exact rfl) (by exact rfl) ?_
 refine AL_callp en134 (.cons (.ev rfl) (.nil)) (lines_Own_ok l hs) ?_
 refine AL_norm TN ?_
 first | refine AL_store_w sz60 rfl (.ev rfl) rfl LK rfl (by exact rfl) ?_ | refine AL_store rfl (.ev rfl) rfl LK (by first | assumption | exact sz3 | exact sz57 | exact sz60 | exact sz21 | exact sz9 | exact sz52 | exact sz58 | exact sz24 | exact sz26 | exact sz22) (by exact rfl) sz60 rfl (by decide) (fun h => by first | (cases h; done) | exact ⟨rfl, rfl, rfl⟩) ?_
 refine AL_heap (by first | (simp only [AH.upd_upd]; rfl) | rfl) ?_
 refine AL_norm TN ?_
 refine AL_nil (seqQ_n (AW_seq (AW_region ?_)))
 first | refine AL_fieldAddr_pt fl60_3 sz58 (by decide) rfl ?_ | refine AL_fieldAddr_rp fl60_3 ag58 sz58 (by decide) (by decide) rfl rfl (fun h => by first | rfl | cases h) ?_
 first | refine AL_store_w sz58 rfl (.nil (e := 57) rfl) rfl LK rfl (by exact rfl) ?_ | refine AL_store rfl (.nil (e := 57) rfl) rfl LK (by first | assumption | exact sz3 | exact sz57 | exact sz60 | exact sz21 | exact sz9 | exact sz52 | exact sz58 | exact sz24 | exact sz26 | exact sz22) (by exact rfl) sz58 rfl (by decide) (fun h => by first | (cases h; done) | exact ⟨rfl, rfl, rfl⟩) ?_
 refine AL_heap (by first | (simp only [AH.upd_upd]; rfl) | rfl) ?_
 refine AL_norm TN ?_
 refine AL_nil (seqQ_n (AW_seq (AW_region ?_)))
 first | refine AL_load_rp sz60 rfl ag60 ?_ | refine AL_loadw sz60 rfl LK (by exact ag60) (by exact rfl) ?_ | refine AL_load_pt ag60 sz60 (by decide) rfl LK (by first | assumption | exact sz3 | exact sz57 | exact sz60 | exact sz21 | exact sz9 | exact sz52 | exact sz58 | exact sz24 | exact sz26 | exact sz22) (by exact rfl) (by exact rfl) (by exact rfl) ?_
 refine AL_norm TN ?_
 first | refine AL_store_w sz60 rfl (.ev rfl) rfl LK rfl (by exact rfl) ?_ | refine AL_store rfl (.ev rfl) rfl LK (by first | assumption | exact sz3 | exact sz57 | exact sz60 | exact sz21 | exact sz9 | exact sz52 | exact sz58 | exact sz24 | exact sz26 | exact sz22) (by exact rfl) sz60 rfl (by decide) (fun h => by first | (cases h; done) | exact ⟨rfl, rfl, rfl⟩) ?_
 refine AL_heap (by first | (simp only [AH.upd_upd]; rfl) | rfl) ?_
 refine AL_norm TN ?_
 refine AL_nil ?_
 refine seqQ_n ?_
 refine AW_ret ?_
 first | refine retQ_cw (H' := H) (.inr rfl) sz60 rfl LK (by exact ag60) (by exact rfl) SU ?_ | refine retQ_c (H' := H) (.inr rfl) ag60 sz60 (by first | assumption | exact sz3 | exact sz57 | exact sz60 | exact sz21 | exact sz9 | exact sz52 | exact sz58 | exact sz24 | exact sz26 | exact sz22) (by decide) rfl LK (by exact rfl) (by exact rfl) (by exact rfl) SU ?_
 refine K_eq ?_ hK
 rfl

/-- quillwork/doc.Own -/
theorem doc_Own_ok  :
  ∀ (d : List Line), DS d → ∀ (H : AH) (K : AV → AH → Prop), (∀ A c, Fresh H A c (d.map lineAV) → K (.own A c d.length) (H.put A 60 c (d.map lineAV))) → AC Tryz.prog 69 [linesAV d] H K := by
 intro d hd H K hK
 have hdl := hd.1
 refine AC_of Tryz.func69 rfl (rs := [.tmp 2]) rfl Tryz.ntmps69 rfl ?_
 refine AW_norm TP ?_
 refine AW_seq ?_
 refine AW_region ?_
 refine AL_assign rfl ?_
 refine AL_norm TN ?_
 refine AL_nil (seqQ_n (AW_seq (AW_region ?_)))
 refine AL_assign rfl ?_
 refine AL_norm TN ?_
 refine AL_nil ?_
 refine seqQ_n ?_
 refine AW_seq ?_
 refine AW_seq ?_
 refine AW_region ?_
 refine AL_move rfl ?_
 first | refine AL_len_sl un22 rfl ?_ | refine AL_len_own un22 rfl ?_
 refine AL_norm TN ?_
 refine AL_move rfl ?_
 refine AL_norm TN ?_
 refine AL_nil ?_
 refine seqQ_n ?_
 refine AW_block ?_
 refine AW_loops (α := Nat × Option Nat × Nat) [3, 5, 8, 9, 10, 11, 12, 13, 14, 15, 16, 17] (fun z => [(8, .v (.int .i64 (z.1 : Int))), (3, .own z.2.1 z.2.2 z.1)]) (fun z => H.put z.2.1 60 z.2.2 ((d.take z.1).map lineAV)) (fun z => z.1 ≤ d.length ∧ Fresh H z.2.1 z.2.2 ((d.take z.1).map lineAV)) (fun z => d.length - z.1) ((0, none, 0)) ?_ ?_ ?_ ?_
 · exact ⟨Nat.zero_le _, rfl, rfl⟩
 · exact SubH.refl _
 · skip
  try simp only [tput, anyAt, setAll, List.foldl_cons, List.foldl_nil, List.set_cons_zero, List.set_cons_succ]
  repeat (first | exact Weak.nil | refine Weak.cons ?_ | refine Weak.consAny ?_)
 · rintro ⟨i, A, c⟩ hI; dsimp only at hI ⊢
  refine AW_norm TN ?_
  refine AW_seq ?_
  refine AW_region ?_
  refine AL_lss rfl rfl ?_
  refine AL_norm TN ?_
  refine AL_nil ?_
  refine seqQ_n ?_
  refine AW_seq ?_
  refine AW_cond rfl (fun hc1 => ?_) (fun hc1 => ?_)
  · try simp only [Bool.or_eq_true, Bool.and_eq_true, Bool.or_eq_false_iff, Bool.and_eq_false_iff, decide_eq_true_eq, decide_eq_false_iff_not, Bool.not_eq_true', Bool.not_eq_false', beq_iff_eq, ne_eq, Decidable.not_not, List.length_map] at hc1
   refine AW_skip ?_
   refine seqQ_n ?_
   refine AW_seq ?_
   refine AW_block ?_
   refine AW_seq ?_
   refine AW_region ?_
   first | refine AL_indexAddr_sl (y := lineAV (d.getD i l0)) un22 sz60 (by decide) rfl rfl ?_ ?_ ?_ ?_ | refine AL_indexAddr_own un22 sz60 rfl rfl ?_ ?_ ?_
   · omega
   · simp only [List.length_map]; omega
   · exact map_getD l0 (i := i) (by omega)
   first | refine AL_load_rp sz60 rfl ag60 ?_ | refine AL_loadw sz60 rfl LK (by exact ag60) (by exact rfl) ?_ | refine AL_load_pt ag60 sz60 (by decide) rfl LK (by first | assumption | exact sz3 | exact sz57 | exact sz60 | exact sz21 | exact sz9 | exact sz52 | exact sz58 | exact sz24 | exact sz26 | exact sz22) (by exact rfl) (by exact rfl) (by exact rfl) ?_
   refine AL_norm TN ?_
   refine AL_alloc ze60 (.agg (.v (.own (.v (.own .nil))))) rfl sz60 rfl ?_
   intro b1 hb1
   have hn1 : H b1 = none := SubH.none (by repeat (first | exact SubH.refl _ | exact hI.2.subH | refine SubH.upd ?_ (by assumption))) hb1
   first | refine AL_store_w sz60 rfl (.ev rfl) rfl LK rfl (by exact rfl) ?_ | refine AL_store rfl (.ev rfl) rfl LK (by first | assumption | exact sz3 | exact sz57 | exact sz60 | exact sz21 | exact sz9 | exact sz52 | exact sz58 | exact sz24 | exact sz26 | exact sz22) (by exact rfl) sz60 rfl (by decide) (fun h => by first | (cases h; done) | exact ⟨rfl, rfl, rfl⟩) ?_
   refine AL_heap (by first | (simp only [AH.upd_upd]; rfl) | rfl) ?_
   refine AL_norm TN ?_
   refine AL_nil ?_
   refine seqQ_n ?_
   refine AW_region ?_
   refine AL_move rfl ?_
   first | refine AL_load_rp sz60 rfl ag60 ?_ | refine AL_loadw sz60 rfl LK (by exact ag60) (by exact rfl) ?_ | refine AL_load_pt ag60 sz60 (by decide) rfl LK (by first | assumption | exact sz3 | exact sz57 | exact sz60 | exact sz21 | exact sz9 | exact sz52 | exact sz58 | exact sz24 | exact sz26 | exact sz22) (by exact rfl) (by exact rfl) (by exact rfl) ?_
   refine AL_norm TN ?_
   refine AL_callp en134 (.cons (.ev rfl) (.nil)) (lines_Own_ok _ (hd.at (i := i) (by omega))) ?_
   refine AL_sub' (H' := H.put A 60 c ((d.take i).map lineAV)) (SubH.new (SubH.refl _) hb1) ?_
   refine AL_append1p un22 inf60 rfl (by decide) (by decide) (by decide) rfl rfl (fun h => by cases h) rfl rfl rfl hI.2 (by rw [List.length_map, List.length_take]; omega) (by omega) ?_
   intro ba ca hba
   refine AL_norm TN ?_
   refine AL_assign rfl ?_
   refine AL_norm TN ?_
   refine AL_nil ?_
   refine blockQ_n ?_
   refine seqQ_n ?_
   refine AW_region ?_
   refine AL_addz rfl rfl (((i + 1 : Nat) : Int)) (by exact inc64 (by omega)) ?_
   refine AL_move rfl ?_
   refine AL_norm TN ?_
   refine AL_nil ?_
   refine loopQ_n ((i + 1, some ba, ca)) ?_ ?_ ?_ ?_
   · exact ⟨by omega, hba⟩
   · (show d.length - (i + 1) < d.length - i; omega)
   · (show SubH (H.put (some ba) 60 ca ((d.take (i + 1)).map lineAV)) _); rw [← take_map_next l0 (g := lineAV) (by omega)]; exact SubH.refl _
   · skip
    try simp only [tput, anyAt, setAll, List.foldl_cons, List.foldl_nil, List.set_cons_zero, List.set_cons_succ]
    repeat (first | exact Weak.nil | refine Weak.cons ?_ | refine Weak.consAny ?_)
  · try simp only [Bool.or_eq_true, Bool.and_eq_true, Bool.or_eq_false_iff, Bool.and_eq_false_iff, decide_eq_true_eq, decide_eq_false_iff_not, Bool.not_eq_true', Bool.not_eq_false', beq_iff_eq, ne_eq, Decidable.not_not, List.length_map] at hc1
   refine AW_exit ?_
   refine seqQ_x ?_
   refine loopQ_x ?_
   refine blockQ_hit ?_
   refine seqQ_n ?_
   refine AW_seq ?_
   refine AW_region ?_
   refine AL_move rfl ?_
   refine AL_norm TN ?_
   refine AL_assign rfl ?_
   refine AL_norm TN ?_
   refine AL_nil ?_
   refine seqQ_n ?_
   refine AW_ret ?_
   refine retQ_1 (H' := H.put A 60 c (d.map lineAV)) (.inr rfl) rfl (by rw [show d.take i = d from List.take_of_length_le (by omega)]; exact SubH.refl _) ?_
   have e : i = d.length := (by omega); subst e; rw [List.take_length] at hI; exact hK A c hI.2

/-- quillwork/typing.Own -/
theorem typing_Own_ok  :
  ∀ (s : Q.St), DS s.lines → ∀ (H : AH) (K : AV → AH → Prop), (∀ A c, Fresh H A c (s.lines.map lineAV) → K (stOwn s A c) (H.put A 60 c (s.lines.map lineAV))) → AC Tryz.prog 31 [stAV s] H K := by
 intro s hd H K hK
 refine AC_of Tryz.func31 rfl (rs := [.cell 2 26]) rfl Tryz.ntmps31 rfl ?_
 refine AW_norm TP ?_
 refine AW_seq ?_
 refine AW_region ?_
 refine AL_box rfl rfl sz26 rfl ?_
 intro b1 hb1
 have hn1 : H b1 = none := SubH.none SU hb1
 refine AL_alloc ze26 (.agg (.own (.v (.v (.v (.v (.v (.v .nil)))))))) rfl sz26 rfl ?_
 intro b2 hb2
 have hn2 : H b2 = none := SubH.none SU hb2
 have hd2_1 : b2 ≠ b1 := AH.fresh_ne hb2 (by repeat (first | refine Fresh.look hF ?_ | exact AH.upd_same _ _ _ | exact hH | assumption | refine AH.look_other (by assumption) ?_))
 have hd1_2 : b1 ≠ b2 := Ne.symm hd2_1
 refine AL_norm TN ?_
 refine AL_nil (seqQ_n (AW_seq (AW_region ?_)))
 first | refine AL_fieldAddr_pt fl26_0 sz22 (by decide) rfl ?_ | refine AL_fieldAddr_rp fl26_0 ag22 sz22 (by decide) (by decide) rfl rfl (fun h => by first | rfl | cases h) ?_
 first | refine AL_load_rp sz22 rfl ag22 ?_ | refine AL_loadw sz22 rfl (by repeat (first | refine Fresh.look hF ?_ | exact AH.upd_same _ _ _ | exact hH | assumption | refine AH.look_other (by assumption) ?_)) (by exact ag22) (by exact rfl) ?_ | refine AL_load_pt ag22 sz22 (by decide) rfl (by repeat (first | refine Fresh.look hF ?_ | exact AH.upd_same _ _ _ | exact hH | assumption | refine AH.look_other (by assumption) ?_)) (by first | assumption | exact sz3 | exact sz57 | exact sz60 | exact sz21 | exact sz9 | exact sz52 | exact sz58 | exact sz24 | exact sz26 | exact sz22) (by exact rfl) (by exact rfl) (by exact rfl) ?_
 refine AL_norm TN ?_
 refine AL_callk en69 (.cons (.ev rfl) (.nil)) (doc_Own_ok s.lines hd _ (fun x H1 => ∃ A c, Fresh _ A c (s.lines.map lineAV) ∧ x = .own A c s.lines.length ∧ H1 = AH.put _ A 60 c (s.lines.map lineAV)) (fun A c h => ⟨A, c, h, rfl, rfl⟩)) ?_
 rintro _ _ ⟨A, c, hF, rfl, rfl⟩
 first | refine AL_fieldAddr_pt fl26_0 sz22 (by decide) rfl ?_ | refine AL_fieldAddr_rp fl26_0 ag22 sz22 (by decide) (by decide) rfl rfl (fun h => by first | rfl | cases h) ?_
 first | refine AL_store_w sz22 rfl (.ev rfl) rfl (by repeat (first | refine Fresh.look hF ?_ | exact AH.upd_same _ _ _ | exact hH | assumption | refine AH.look_other (by assumption) ?_)) rfl (by exact rfl) ?_ | refine AL_store rfl (.ev rfl) rfl (by repeat (first | refine Fresh.look hF ?_ | exact AH.upd_same _ _ _ | exact hH | assumption | refine AH.look_other (by assumption) ?_)) (by first | assumption | exact sz3 | exact sz57 | exact sz60 | exact sz21 | exact sz9 | exact sz52 | exact sz58 | exact sz24 | exact sz26 | exact sz22) (by exact rfl) sz22 rfl (by decide) (fun h => by first | (cases h; done) | exact ⟨rfl, rfl, rfl⟩) ?_
 refine AL_heap (by first | (simp only [AH.upd_upd]; rfl) | rfl) ?_
 refine AL_norm TN ?_
 refine AL_nil (seqQ_n (AW_seq (AW_region ?_)))
 first | refine AL_load_rp sz26 rfl ag26 ?_ | refine AL_loadw sz26 rfl (by repeat (first | refine Fresh.look hF ?_ | exact AH.upd_same _ _ _ | exact hH | assumption | refine AH.look_other (by assumption) ?_)) (by exact ag26) (by exact rfl) ?_ | refine AL_load_pt ag26 sz26 (by decide) rfl (by repeat (first | refine Fresh.look hF ?_ | exact AH.upd_same _ _ _ | exact hH | assumption | refine AH.look_other (by assumption) ?_)) (by first | assumption | exact sz3 | exact sz57 | exact sz60 | exact sz21 | exact sz9 | exact sz52 | exact sz58 | exact sz24 | exact sz26 | exact sz22) (by exact rfl) (by exact rfl) (by exact rfl) ?_
 refine AL_norm TN ?_
 first | refine AL_store_w sz26 rfl (.ev rfl) rfl (by repeat (first | refine Fresh.look hF ?_ | exact AH.upd_same _ _ _ | exact hH | assumption | refine AH.look_other (by assumption) ?_)) rfl (by exact rfl) ?_ | refine AL_store rfl (.ev rfl) rfl (by repeat (first | refine Fresh.look hF ?_ | exact AH.upd_same _ _ _ | exact hH | assumption | refine AH.look_other (by assumption) ?_)) (by first | assumption | exact sz3 | exact sz57 | exact sz60 | exact sz21 | exact sz9 | exact sz52 | exact sz58 | exact sz24 | exact sz26 | exact sz22) (by exact rfl) sz26 rfl (by decide) (fun h => by first | (cases h; done) | exact ⟨rfl, rfl, rfl⟩) ?_
 refine AL_heap (by first | (simp only [AH.upd_upd]; rfl) | rfl) ?_
 refine AL_norm TN ?_
 refine AL_nil ?_
 refine seqQ_n ?_
 refine AW_ret ?_
 first | refine retQ_cw (H' := H.put A 60 c (s.lines.map lineAV)) (.inr rfl) sz26 rfl (by repeat (first | refine Fresh.look hF ?_ | exact AH.upd_same _ _ _ | exact hH | assumption | refine AH.look_other (by assumption) ?_)) (by exact ag26) (by exact rfl) (own_sub2 hn1 hn2 hF) ?_ | refine retQ_c (H' := H.put A 60 c (s.lines.map lineAV)) (.inr rfl) ag26 sz26 (by first | assumption | exact sz3 | exact sz57 | exact sz60 | exact sz21 | exact sz9 | exact sz52 | exact sz58 | exact sz24 | exact sz26 | exact sz22) (by decide) rfl (by repeat (first | refine Fresh.look hF ?_ | exact AH.upd_same _ _ _ | exact hH | assumption | refine AH.look_other (by assumption) ?_)) (by exact rfl) (by exact rfl) (by exact rfl) (own_sub2 hn1 hn2 hF) ?_
 exact hK A c ((hF.sub (SubH.refl _ |>.upd hn1 |>.upd hn2)))

/-- quillwork/doc.span -/
theorem doc_span_ok (d : List Line) (a b : Pos) (hd : DS d) :
  PI TQ Tryz.prog 227 [linesAV d, posAV a, posAV b] (.v (.bool (spanD d a b))) := by
 intro H K hT hK
 refine AC_of Tryz.func227 rfl (rs := [.tmp 6]) rfl Tryz.ntmps227 rfl ?_
 refine AW_norm TP ?_
 refine AW_seq ?_
 refine AW_region ?_
 refine AL_box rfl rfl sz24 rfl ?_
 intro b1 hb1
 refine AL_norm TN ?_
 refine AL_frzpt 4 rfl (AH.upd_same _ _ _) ?_
 refine AL_heap (AH.upd_none_eq hb1) ?_
 refine AL_norm TN ?_
 clear hb1
 refine AL_box rfl rfl sz24 rfl ?_
 intro b2 hb2
 refine AL_norm TN ?_
 refine AL_frzpt 5 rfl (AH.upd_same _ _ _) ?_
 refine AL_heap (AH.upd_none_eq hb2) ?_
 refine AL_norm TN ?_
 clear hb2
 refine AL_assign rfl ?_
 refine AL_norm TN ?_
 refine AL_nil (seqQ_n (AW_seq (AW_region ?_)))
 refine AL_move rfl ?_
 refine AL_norm TN ?_
 refine AL_callpi en63 (.cons (.ev rfl) (.nil)) HS (doc_May_ok d hd) ?_
 refine AL_move rfl ?_
 refine AL_and (j := 2) (n := 3) (c := 9) (t := 12) (r := 13) (v := ?v1) [10, 11, 12] rfl rfl rfl rfl rfl rfl rfl (fun hg1 => ?_) ?_; rotate_left
 · simp only [List.take_succ_cons, List.take_zero, List.map_cons, List.map_nil, strip, Nat.reduceBEq, beq_self_eq_true, Bool.and_self, Bool.true_and, Bool.false_and, cond_true, cond_false]
  try simp only [Bool.or_eq_true, Bool.and_eq_true, Bool.or_eq_false_iff, Bool.and_eq_false_iff, decide_eq_true_eq, decide_eq_false_iff_not, Bool.not_eq_true', Bool.not_eq_false', beq_iff_eq, ne_eq, Decidable.not_not, List.length_map] at hg1
  refine AL_move rfl ?_
  first | refine AL_load_rp sz24 rfl ag24 ?_ | refine AL_loadw sz24 rfl LK (by exact ag24) (by exact rfl) ?_ | refine AL_load_pt ag24 sz24 (by decide) rfl LK (by first | assumption | exact sz3 | exact sz57 | exact sz60 | exact sz21 | exact sz9 | exact sz52 | exact sz58 | exact sz24 | exact sz26 | exact sz22) (by exact rfl) (by exact rfl) (by exact rfl) ?_
  refine AL_norm TN ?_
  refine AL_callp en64 (.cons (.ev rfl) (.cons (.ev rfl) (.nil))) (doc_Is_ok _ _) ?_
  refine AL_nil (grpQ_mk ?_)
  try simp only [tput, anyAt, setAll, List.foldl_cons, List.foldl_nil, List.set_cons_zero, List.set_cons_succ]
  repeat (first | exact Weak.nil | refine Weak.cons ?_ | refine Weak.consAny ?_)
 refine AL_norm TN ?_
 refine AL_move rfl ?_
 refine AL_and (j := 7) (n := 3) (c := 14) (t := 17) (r := 18) (v := ?v2) [15, 16, 17] rfl rfl rfl rfl rfl rfl rfl (fun hg2 => ?_) ?_; rotate_left
 · simp only [List.take_succ_cons, List.take_zero, List.map_cons, List.map_nil, strip, Nat.reduceBEq, beq_self_eq_true, Bool.and_self, Bool.true_and, Bool.false_and, cond_true, cond_false]
  try simp only [Bool.or_eq_true, Bool.and_eq_true, Bool.or_eq_false_iff, Bool.and_eq_false_iff, decide_eq_true_eq, decide_eq_false_iff_not, Bool.not_eq_true', Bool.not_eq_false', beq_iff_eq, ne_eq, Decidable.not_not, List.length_map] at hg2
  refine AL_move rfl ?_
  first | refine AL_load_rp sz24 rfl ag24 ?_ | refine AL_loadw sz24 rfl LK (by exact ag24) (by exact rfl) ?_ | refine AL_load_pt ag24 sz24 (by decide) rfl LK (by first | assumption | exact sz3 | exact sz57 | exact sz60 | exact sz21 | exact sz9 | exact sz52 | exact sz58 | exact sz24 | exact sz26 | exact sz22) (by exact rfl) (by exact rfl) (by exact rfl) ?_
  refine AL_norm TN ?_
  refine AL_callp en64 (.cons (.ev rfl) (.cons (.ev rfl) (.nil))) (doc_Is_ok _ _) ?_
  refine AL_nil (grpQ_mk ?_)
  try simp only [tput, anyAt, setAll, List.foldl_cons, List.foldl_nil, List.set_cons_zero, List.set_cons_succ]
  repeat (first | exact Weak.nil | refine Weak.cons ?_ | refine Weak.consAny ?_)
 refine AL_norm TN ?_
 refine AL_move rfl ?_
 refine AL_and (j := 12) (n := 4) (c := 19) (t := 23) (r := 24) (v := ?v3) [20, 21, 22, 23] rfl rfl rfl rfl rfl rfl rfl (fun hg3 => ?_) ?_; rotate_left
 · simp only [List.take_succ_cons, List.take_zero, List.map_cons, List.map_nil, strip, Nat.reduceBEq, beq_self_eq_true, Bool.and_self, Bool.true_and, Bool.false_and, cond_true, cond_false]
  try simp only [Bool.or_eq_true, Bool.and_eq_true, Bool.or_eq_false_iff, Bool.and_eq_false_iff, decide_eq_true_eq, decide_eq_false_iff_not, Bool.not_eq_true', Bool.not_eq_false', beq_iff_eq, ne_eq, Decidable.not_not, List.length_map] at hg3
  first | refine AL_load_rp sz24 rfl ag24 ?_ | refine AL_loadw sz24 rfl LK (by exact ag24) (by exact rfl) ?_ | refine AL_load_pt ag24 sz24 (by decide) rfl LK (by first | assumption | exact sz3 | exact sz57 | exact sz60 | exact sz21 | exact sz9 | exact sz52 | exact sz58 | exact sz24 | exact sz26 | exact sz22) (by exact rfl) (by exact rfl) (by exact rfl) ?_
  first | refine AL_load_rp sz24 rfl ag24 ?_ | refine AL_loadw sz24 rfl LK (by exact ag24) (by exact rfl) ?_ | refine AL_load_pt ag24 sz24 (by decide) rfl LK (by first | assumption | exact sz3 | exact sz57 | exact sz60 | exact sz21 | exact sz9 | exact sz52 | exact sz58 | exact sz24 | exact sz26 | exact sz22) (by exact rfl) (by exact rfl) (by exact rfl) ?_
  refine AL_norm TN ?_
  refine AL_callp en197 (.cons (.ev rfl) (.cons (.ev rfl) (.nil))) (doc_Cmp_ok _ _) ?_
  refine AL_leq rfl rfl ?_
  refine AL_nil (grpQ_mk ?_)
  try simp only [tput, anyAt, setAll, List.foldl_cons, List.foldl_nil, List.set_cons_zero, List.set_cons_succ]
  repeat (first | exact Weak.nil | refine Weak.cons ?_ | refine Weak.consAny ?_)
 refine AL_norm TN ?_
 refine AL_assign rfl ?_
 refine AL_norm TN ?_
 refine AL_nil ?_
 refine seqQ_n ?_
 refine AW_ret ?_
 refine retQ_1 (H' := H) (.inr rfl) rfl SU ?_
 refine K_eq ?_ hK
 rfl

/-- quillwork/doc.between -/
theorem doc_between_ok (d : List Line) (a b : Pos) :
  PF Tryz.prog 263 [linesAV d, posAV a, posAV b] (.fn (.func 296) [] [.rp 24 (posAV a), .rp 24 (posAV b), .rp 22 (linesAV d)]) := by
 intro H K hK
 refine AC_of Tryz.func263 rfl (rs := [.tmp 6]) rfl Tryz.ntmps263 rfl ?_
 refine AW_norm TP ?_
 refine AW_seq ?_
 refine AW_region ?_
 refine AL_box rfl rfl sz22 rfl ?_
 intro b1 hb1
 refine AL_norm TN ?_
 refine AL_frzpt 3 rfl (AH.upd_same _ _ _) ?_
 refine AL_heap (AH.upd_none_eq hb1) ?_
 refine AL_norm TN ?_
 clear hb1
 refine AL_box rfl rfl sz24 rfl ?_
 intro b2 hb2
 refine AL_norm TN ?_
 refine AL_frzpt 4 rfl (AH.upd_same _ _ _) ?_
 refine AL_heap (AH.upd_none_eq hb2) ?_
 refine AL_norm TN ?_
 clear hb2
 refine AL_box rfl rfl sz24 rfl ?_
 intro b3 hb3
 refine AL_norm TN ?_
 refine AL_frzpt 5 rfl (AH.upd_same _ _ _) ?_
 refine AL_heap (AH.upd_none_eq hb3) ?_
 refine AL_norm TN ?_
 clear hb3
 refine AL_assign rfl ?_
 refine AL_norm TN ?_
 refine AL_nil (seqQ_n (AW_seq (AW_region ?_)))
 refine AL_makeFunc (.nil) (.cons (.ev rfl) (.cons (.ev rfl) (.cons (.ev rfl) (.nil)))) ?_
 refine AL_norm TN ?_
 refine AL_assign rfl ?_
 refine AL_norm TN ?_
 refine AL_nil ?_
 refine seqQ_n ?_
 refine AW_ret ?_
 refine retQ_1 (H' := H) (.inr rfl) rfl SU ?_
 refine K_eq ?_ hK
 rfl

/-- quillwork/doc.between$1 -/
theorem doc_between_1_ok  :
  ∀ (d : List Line) (a b : Pos) (I : AH → Prop), DS d → 0 ≤ a.line → b.line < (d.length : Int) → IterC Tryz.prog 296 [.rp 24 (posAV a), .rp 24 (posAV b), .rp 22 (linesAV d)] (betL d a b) I := by
 intro d a b I hd ha hb l J Jx hI0 hY H K hJ hK
 have hdl := hd.1
 refine AC_of Tryz.func296 rfl (rs := []) rfl Tryz.ntmps296 rfl ?_
 refine AW_norm TP ?_
 refine AW_seq ?_
 refine AW_region ?_
 first | refine AL_fieldAddr_pt fl24_0 sz3 (by decide) rfl ?_ | refine AL_fieldAddr_rp fl24_0 ag3 sz3 (by decide) (by decide) rfl rfl (fun h => by first | rfl | cases h) ?_
 first | refine AL_load_rp sz3 rfl ag3 ?_ | refine AL_loadw sz3 rfl LK (by exact ag3) (by exact rfl) ?_ | refine AL_load_pt ag3 sz3 (by decide) rfl LK (by first | assumption | exact sz3 | exact sz57 | exact sz60 | exact sz21 | exact sz9 | exact sz52 | exact sz58 | exact sz24 | exact sz26 | exact sz22) (by exact rfl) (by exact rfl) (by exact rfl) ?_
 refine AL_assign rfl ?_
 refine AL_norm TN ?_
 refine AL_nil ?_
 refine seqQ_n ?_
 refine AW_block ?_
 refine AW_loops (α := Int × AH) [5, 6, 7, 10, 11, 12, 13, 14, 15, 16, 17, 18, 19, 20, 21, 22, 23, 24, 25, 26, 27, 28, 29, 30, 31, 32, 33, 34, 35, 36, 37, 38, 39, 40] (fun z => [(5, .v (.int .i64 z.1))]) (fun z => z.2) (fun z => a.line ≤ z.1 ∧ z.1 ≤ max a.line (b.line + 1) ∧ J (z.1 - a.line).toNat z.2) (fun z => (b.line + 1 - z.1).toNat) ((a.line, H)) ?_ ?_ ?_ ?_
 · exact ⟨Int.le_refl _, by omega, by rw [Int.sub_self]; exact hJ⟩
 · repeat (first | exact SubH.refl _ | assumption | refine SubH.new ?_ (by assumption))
 · skip
  try simp only [tput, anyAt, setAll, List.foldl_cons, List.foldl_nil, List.set_cons_zero, List.set_cons_succ]
  repeat (first | exact Weak.nil | refine Weak.cons ?_ | refine Weak.consAny ?_)
 · rintro ⟨i, H1⟩ hI; dsimp only at hI ⊢
  refine AW_norm TN ?_
  refine AW_seq ?_
  refine AW_seq ?_
  refine AW_region ?_
  refine AL_move rfl ?_
  refine AL_norm TN ?_
  first | refine AL_fieldAddr_pt fl24_0 sz3 (by decide) rfl ?_ | refine AL_fieldAddr_rp fl24_0 ag3 sz3 (by decide) (by decide) rfl rfl (fun h => by first | rfl | cases h) ?_
  first | refine AL_load_rp sz3 rfl ag3 ?_ | refine AL_loadw sz3 rfl LK (by exact ag3) (by exact rfl) ?_ | refine AL_load_pt ag3 sz3 (by decide) rfl LK (by first | assumption | exact sz3 | exact sz57 | exact sz60 | exact sz21 | exact sz9 | exact sz52 | exact sz58 | exact sz24 | exact sz26 | exact sz22) (by exact rfl) (by exact rfl) (by exact rfl) ?_
  refine AL_leq rfl rfl ?_
  refine AL_norm TN ?_
  refine AL_nil ?_
  refine seqQ_n ?_
  refine AW_cond rfl (fun hc1 => ?_) (fun hc1 => ?_)
  · try simp only [Bool.or_eq_true, Bool.and_eq_true, Bool.or_eq_false_iff, Bool.and_eq_false_iff, decide_eq_true_eq, decide_eq_false_iff_not, Bool.not_eq_true', Bool.not_eq_false', beq_iff_eq, ne_eq, Decidable.not_not, List.length_map] at hc1
   refine AW_skip ?_
   refine seqQ_n ?_
   refine AW_seq ?_
   refine AW_block ?_
   refine AW_seq ?_
   refine' AW_drawL (xs := [_, _, _, _, _, _, _, _]) [] [0, 0, 1, 2, 3, 4, 0, 5] (fun _ => _) rfl (by kernel_rfl) ?hops1 ?_
   case hops1 =>
    refine HopsL_cons (fun m T hl hr hm hm2 => ?_) ?_
    · skip
     replace hm : 0 ≤ m := hm
     replace hm2 : m ≤ 0 := hm2
     obtain rfl : m = 0 := by omega
     first | refine AL_load_rp sz22 ((hr 3 (by kernel_rfl)).trans rfl) ag22 ?_ | refine AL_loadw sz22 ((hr 3 (by kernel_rfl)).trans rfl) LK (by exact ag22) (by exact rfl) ?_ | refine AL_load_pt ag22 sz22 (by decide) ((hr 3 (by kernel_rfl)).trans rfl) LK (by first | assumption | exact sz3 | exact sz57 | exact sz60 | exact sz21 | exact sz9 | exact sz52 | exact sz58 | exact sz24 | exact sz26 | exact sz22) (by exact rfl) (by exact rfl) (by exact rfl) ?_
     refine AL_nil ?_
     refine qpostL_mk ?_ ?_
     rotate_left
     exact Weak.refl _
     exact SubH.refl _
    refine HopsL_norm TO ?_
    refine HopsL_cons (fun m T hl hr hm hm2 => ?_) ?_
    · skip
     replace hm : 0 ≤ m := hm
     replace hm2 : m ≤ 0 := hm2
     obtain rfl : m = 0 := by omega
     refine AL_move ((hr 5 (by kernel_rfl)).trans rfl) ?_
     refine AL_nil ?_
     refine qpostL_mk ?_ ?_
     rotate_left
     exact Weak.refl _
     exact SubH.refl _
    refine HopsL_norm TO ?_
    refine HopsL_cons (fun m T hl hr hm hm2 => ?_) ?_
    · skip
     replace hm : 0 ≤ m := hm
     replace hm2 : m ≤ 0 := hm2
     obtain rfl : m = 0 := by omega
     first | refine AL_indexAddr_sl (y := lineAV (lineAt d i)) un22 sz60 (by decide) ((hr 16 (by kernel_rfl)).trans rfl) ((hr 17 (by kernel_rfl)).trans rfl) ?_ ?_ ?_ ?_ | refine AL_indexAddr_own un22 sz60 ((hr 16 (by kernel_rfl)).trans rfl) ((hr 17 (by kernel_rfl)).trans rfl) ?_ ?_ ?_
     · omega
     · simp only [List.length_map]; omega
     · exact map_getD l0 (i := i.toNat) (by omega)
     refine AL_nil ?_
     refine qpostL_mk ?_ ?_
     rotate_left
     exact Weak.refl _
     exact SubH.refl _
    refine HopsL_norm TO ?_
    refine HopsL_cons (fun m T hl hr hm hm2 => ?_) ?_
    · skip
     replace hm : 0 ≤ m := hm
     replace hm2 : m ≤ 0 := hm2
     obtain rfl : m = 0 := by omega
     first | refine AL_fieldAddr_pt fl60_3 sz58 (by decide) ((hr 18 (by kernel_rfl)).trans rfl) ?_ | refine AL_fieldAddr_rp fl60_3 ag58 sz58 (by decide) (by decide) ((hr 18 (by kernel_rfl)).trans rfl) rfl (fun h => by first | rfl | cases h) ?_
     refine AL_nil ?_
     refine qpostL_mk ?_ ?_
     rotate_left
     exact Weak.refl _
     exact SubH.refl _
    refine HopsL_norm TO ?_
    refine HopsL_cons (fun m T hl hr hm hm2 => ?_) ?_
    · skip
     replace hm : 0 ≤ m := hm
     replace hm2 : m ≤ 0 := hm2
     obtain rfl : m = 0 := by omega
     first | refine AL_load_rp sz58 ((hr 19 (by kernel_rfl)).trans rfl) ag58 ?_ | refine AL_loadw sz58 ((hr 19 (by kernel_rfl)).trans rfl) LK (by exact ag58) (by exact rfl) ?_ | refine AL_load_pt ag58 sz58 (by decide) ((hr 19 (by kernel_rfl)).trans rfl) LK (by first | assumption | exact sz3 | exact sz57 | exact sz60 | exact sz21 | exact sz9 | exact sz52 | exact sz58 | exact sz24 | exact sz26 | exact sz22) (by exact rfl) (by exact rfl) (by exact rfl) ?_
     refine AL_nil ?_
     refine qpostL_mk ?_ ?_
     rotate_left
     exact Weak.refl _
     exact SubH.refl _
    refine HopsL_norm TO ?_
    refine HopsL_cons (fun m T hl hr hm hm2 => ?_) ?_
    · skip
     replace hm : 0 ≤ m := hm
     replace hm2 : m ≤ 0 := hm2
     obtain rfl : m = 0 := by omega
     first | refine AL_len_sl un58 ((hr 20 (by kernel_rfl)).trans rfl) ?_ | refine AL_len_own un58 ((hr 20 (by kernel_rfl)).trans rfl) ?_
     refine AL_nil ?_
     refine qpostL_mk ?_ ?_
     rotate_left
     exact Weak.refl _
     exact SubH.refl _
    refine HopsL_norm TO ?_
    refine HopsL_cons (fun m T hl hr hm hm2 => ?_) ?_
    · skip
     replace hm : 0 ≤ m := hm
     replace hm2 : m ≤ 0 := hm2
     obtain rfl : m = 0 := by omega
     refine AL_assign rfl ?_
     refine AL_nil ?_
     refine qpostL_mk ?_ ?_
     rotate_left
     exact Weak.refl _
     exact SubH.refl _
    refine HopsL_norm TO ?_
    refine HopsL_cons (fun m T hl hr hm hm2 => ?_) ?_
    · skip
     replace hm : 0 ≤ m := hm
     replace hm2 : m ≤ 0 := hm2
     obtain rfl : m = 0 := by omega
     refine AL_assign ((hr 21 (by kernel_rfl)).trans rfl) ?_
     refine AL_nil ?_
     refine qpostL_mk ?_ ?_
     rotate_left
     exact Weak.refl _
     exact SubH.refl _
    refine HopsL_norm TO ?_
    exact HopsL_nil
   refine Q_norm (by first | (simp only [Tfin, tput, anyAt, setAll, List.foldl_cons, List.foldl_nil, List.set_cons_zero, List.set_cons_succ]; rfl) | rfl) ?_
   refine seqQ_n ?_
   refine AW_seq ?_
   refine AW_seq ?_
   refine AW_region ?_
   refine AL_move rfl ?_
   refine AL_norm TN ?_
   first | refine AL_fieldAddr_pt fl24_0 sz3 (by decide) rfl ?_ | refine AL_fieldAddr_rp fl24_0 ag3 sz3 (by decide) (by decide) rfl rfl (fun h => by first | rfl | cases h) ?_
   first | refine AL_load_rp sz3 rfl ag3 ?_ | refine AL_loadw sz3 rfl LK (by exact ag3) (by exact rfl) ?_ | refine AL_load_pt ag3 sz3 (by decide) rfl LK (by first | assumption | exact sz3 | exact sz57 | exact sz60 | exact sz21 | exact sz9 | exact sz52 | exact sz58 | exact sz24 | exact sz26 | exact sz22) (by exact rfl) (by exact rfl) (by exact rfl) ?_
   refine AL_eql rfl rfl ?_
   refine AL_norm TN ?_
   refine AL_nil ?_
   refine seqQ_n ?_
   refine AW_cond rfl (fun hc2 => ?_) (fun hc2 => ?_)
   · try simp only [Bool.or_eq_true, Bool.and_eq_true, Bool.or_eq_false_iff, Bool.and_eq_false_iff, decide_eq_true_eq, decide_eq_false_iff_not, Bool.not_eq_true', Bool.not_eq_false', beq_iff_eq, ne_eq, Decidable.not_not, List.length_map] at hc2
    refine AW_region ?_
    first | refine AL_fieldAddr_pt fl24_1 sz3 (by decide) rfl ?_ | refine AL_fieldAddr_rp fl24_1 ag3 sz3 (by decide) (by decide) rfl rfl (fun h => by first | rfl | cases h) ?_
    refine AL_norm TN ?_
    first | refine AL_load_rp sz3 rfl ag3 ?_ | refine AL_loadw sz3 rfl LK (by exact ag3) (by exact rfl) ?_ | refine AL_load_pt ag3 sz3 (by decide) rfl LK (by first | assumption | exact sz3 | exact sz57 | exact sz60 | exact sz21 | exact sz9 | exact sz52 | exact sz58 | exact sz24 | exact sz26 | exact sz22) (by exact rfl) (by exact rfl) (by exact rfl) ?_
    refine AL_assign rfl ?_
    refine AL_norm TN ?_
    refine AL_nil ?_
    refine seqQ_n ?_
    refine AW_seq ?_
    refine AW_seq ?_
    refine AW_region ?_
    refine AL_move rfl ?_
    first | refine AL_fieldAddr_pt fl24_0 sz3 (by decide) rfl ?_ | refine AL_fieldAddr_rp fl24_0 ag3 sz3 (by decide) (by decide) rfl rfl (fun h => by first | rfl | cases h) ?_
    refine AL_norm TN ?_
    first | refine AL_load_rp sz3 rfl ag3 ?_ | refine AL_loadw sz3 rfl LK (by exact ag3) (by exact rfl) ?_ | refine AL_load_pt ag3 sz3 (by decide) rfl LK (by first | assumption | exact sz3 | exact sz57 | exact sz60 | exact sz21 | exact sz9 | exact sz52 | exact sz58 | exact sz24 | exact sz26 | exact sz22) (by exact rfl) (by exact rfl) (by exact rfl) ?_
    refine AL_eql rfl rfl ?_
    refine AL_norm TN ?_
    refine AL_nil ?_
    refine seqQ_n ?_
    refine AW_cond rfl (fun hc3 => ?_) (fun hc3 => ?_)
    · try simp only [Bool.or_eq_true, Bool.and_eq_true, Bool.or_eq_false_iff, Bool.and_eq_false_iff, decide_eq_true_eq, decide_eq_false_iff_not, Bool.not_eq_true', Bool.not_eq_false', beq_iff_eq, ne_eq, Decidable.not_not, List.length_map] at hc3
     refine AW_region ?_
     first | refine AL_fieldAddr_pt fl24_1 sz3 (by decide) rfl ?_ | refine AL_fieldAddr_rp fl24_1 ag3 sz3 (by decide) (by decide) rfl rfl (fun h => by first | rfl | cases h) ?_
     first | refine AL_load_rp sz3 rfl ag3 ?_ | refine AL_loadw sz3 rfl LK (by exact ag3) (by exact rfl) ?_ | refine AL_load_pt ag3 sz3 (by decide) rfl LK (by first | assumption | exact sz3 | exact sz57 | exact sz60 | exact sz21 | exact sz9 | exact sz52 | exact sz58 | exact sz24 | exact sz26 | exact sz22) (by exact rfl) (by exact rfl) (by exact rfl) ?_
     refine AL_norm TN ?_
     refine AL_assign rfl ?_
     refine AL_norm TN ?_
     refine AL_nil (seqQ_n (AW_seq (AW_region ?_)))
     refine AL_move rfl ?_
     refine AL_move rfl ?_
     refine AL_move rfl ?_
     refine AL_norm TN ?_
     refine AL_move rfl ?_
     refine AL_build_af (zs := [_, _]) un223 ze223 sz3 (.cons (.ev rfl) rfl (.cons (.ev rfl) rfl (.nil))) rfl rfl rfl ?_
     refine AL_yield rfl (.cons (.ev rfl) (.cons (.ev rfl) .nil)) (hY _ _ _ (by exact betL_mk hI.1 (by omega) (if_pos hc2) (if_pos hc3)) hI.2.2) ?_; rintro bb H2 hK2
     refine AL_not rfl ?_
     refine AL_norm TN ?_
     refine AL_nil ?_
     refine seqQ_n ?_
     refine AW_cond rfl (fun hc4 => ?_) (fun hc4 => ?_)
     · try simp only [Bool.or_eq_true, Bool.and_eq_true, Bool.or_eq_false_iff, Bool.and_eq_false_iff, decide_eq_true_eq, decide_eq_false_iff_not, Bool.not_eq_true', Bool.not_eq_false', beq_iff_eq, ne_eq, Decidable.not_not, List.length_map] at hc4
      refine AW_ret ?_
      refine blockQ_r ?_
      refine seqQ_r ?_
      refine loopQ_r ?_
      refine blockQ_r ?_
      refine retQ_0 (H' := _) (.inr rfl) SU ?_
      exact hK _ _ (.inr (by rw [if_neg (by rw [hc4]; decide)] at hK2; exact hK2))
     · try simp only [Bool.or_eq_true, Bool.and_eq_true, Bool.or_eq_false_iff, Bool.and_eq_false_iff, decide_eq_true_eq, decide_eq_false_iff_not, Bool.not_eq_true', Bool.not_eq_false', beq_iff_eq, ne_eq, Decidable.not_not, List.length_map] at hc4
      refine AW_skip ?_
      refine blockQ_n ?_
      refine seqQ_n ?_
      refine AW_region ?_
      refine AL_move rfl ?_
      refine AL_norm TN ?_
      refine AL_addz rfl rfl (i + 1) (by exact i64_in (by omega)) ?_
      refine AL_assign rfl ?_
      refine AL_norm TN ?_
      refine AL_nil ?_
      refine loopQ_n ((i + 1, H2)) ?_ ?_ ?_ ?_
      · (have h3 : J ((i + 1 - a.line).toNat) H2 := (by rw [if_pos hc4] at hK2; rw [show (i + 1 - a.line).toNat = (i - a.line).toNat + 1 by omega]; exact hK2)); exact ⟨by omega, by omega, h3⟩
      · (show (b.line + 1 - (i + 1)).toNat < (b.line + 1 - i).toNat; omega)
      · repeat (first | exact SubH.refl _ | assumption | refine SubH.new ?_ (by assumption))
      · skip
       try simp only [tput, anyAt, setAll, List.foldl_cons, List.foldl_nil, List.set_cons_zero, List.set_cons_succ]
       repeat (first | exact Weak.nil | refine Weak.cons ?_ | refine Weak.consAny ?_)
    · try simp only [Bool.or_eq_true, Bool.and_eq_true, Bool.or_eq_false_iff, Bool.and_eq_false_iff, decide_eq_true_eq, decide_eq_false_iff_not, Bool.not_eq_true', Bool.not_eq_false', beq_iff_eq, ne_eq, Decidable.not_not, List.length_map] at hc3
     refine AW_skip ?_
     refine seqQ_n ?_
     refine AW_seq ?_
     refine AW_region ?_
     refine AL_move rfl ?_
     refine AL_move rfl ?_
     refine AL_norm TN ?_
     refine AL_move rfl ?_
     refine AL_move rfl ?_
     refine AL_build_af (zs := [_, _]) un223 ze223 sz3 (.cons (.ev rfl) rfl (.cons (.ev rfl) rfl (.nil))) rfl rfl rfl ?_
     refine AL_yield rfl (.cons (.ev rfl) (.cons (.ev rfl) .nil)) (hY _ _ _ (by exact betL_mk hI.1 (by omega) (if_pos hc2) ((if_neg hc3).trans (by rw [List.length_map]))) hI.2.2) ?_; rintro bb H2 hK2
     refine AL_norm TN ?_
     refine AL_not rfl ?_
     refine AL_norm TN ?_
     refine AL_nil ?_
     refine seqQ_n ?_
     refine AW_cond rfl (fun hc5 => ?_) (fun hc5 => ?_)
     · try simp only [Bool.or_eq_true, Bool.and_eq_true, Bool.or_eq_false_iff, Bool.and_eq_false_iff, decide_eq_true_eq, decide_eq_false_iff_not, Bool.not_eq_true', Bool.not_eq_false', beq_iff_eq, ne_eq, Decidable.not_not, List.length_map] at hc5
      refine AW_ret ?_
      refine blockQ_r ?_
      refine seqQ_r ?_
      refine loopQ_r ?_
      refine blockQ_r ?_
      refine retQ_0 (H' := _) (.inr rfl) SU ?_
      exact hK _ _ (.inr (by rw [if_neg (by rw [hc5]; decide)] at hK2; exact hK2))
     · try simp only [Bool.or_eq_true, Bool.and_eq_true, Bool.or_eq_false_iff, Bool.and_eq_false_iff, decide_eq_true_eq, decide_eq_false_iff_not, Bool.not_eq_true', Bool.not_eq_false', beq_iff_eq, ne_eq, Decidable.not_not, List.length_map] at hc5
      refine AW_skip ?_
      refine blockQ_n ?_
      refine seqQ_n ?_
      refine AW_region ?_
      refine AL_move rfl ?_
      refine AL_addz rfl rfl (i + 1) (by exact i64_in (by omega)) ?_
      refine AL_assign rfl ?_
      refine AL_norm TN ?_
      refine AL_nil ?_
      refine loopQ_n ((i + 1, H2)) ?_ ?_ ?_ ?_
      · (have h3 : J ((i + 1 - a.line).toNat) H2 := (by rw [if_pos hc5] at hK2; rw [show (i + 1 - a.line).toNat = (i - a.line).toNat + 1 by omega]; exact hK2)); exact ⟨by omega, by omega, h3⟩
      · (show (b.line + 1 - (i + 1)).toNat < (b.line + 1 - i).toNat; omega)
      · repeat (first | exact SubH.refl _ | assumption | refine SubH.new ?_ (by assumption))
      · skip
       try simp only [tput, anyAt, setAll, List.foldl_cons, List.foldl_nil, List.set_cons_zero, List.set_cons_succ]
       repeat (first | exact Weak.nil | refine Weak.cons ?_ | refine Weak.consAny ?_)
   · try simp only [Bool.or_eq_true, Bool.and_eq_true, Bool.or_eq_false_iff, Bool.and_eq_false_iff, decide_eq_true_eq, decide_eq_false_iff_not, Bool.not_eq_true', Bool.not_eq_false', beq_iff_eq, ne_eq, Decidable.not_not, List.length_map] at hc2
    refine AW_skip ?_
    refine seqQ_n ?_
    refine AW_seq ?_
    refine AW_seq ?_
    refine AW_region ?_
    refine AL_move rfl ?_
    refine AL_norm TN ?_
    first | refine AL_fieldAddr_pt fl24_0 sz3 (by decide) rfl ?_ | refine AL_fieldAddr_rp fl24_0 ag3 sz3 (by decide) (by decide) rfl rfl (fun h => by first | rfl | cases h) ?_
    first | refine AL_load_rp sz3 rfl ag3 ?_ | refine AL_loadw sz3 rfl LK (by exact ag3) (by exact rfl) ?_ | refine AL_load_pt ag3 sz3 (by decide) rfl LK (by first | assumption | exact sz3 | exact sz57 | exact sz60 | exact sz21 | exact sz9 | exact sz52 | exact sz58 | exact sz24 | exact sz26 | exact sz22) (by exact rfl) (by exact rfl) (by exact rfl) ?_
    refine AL_eql rfl rfl ?_
    refine AL_norm TN ?_
    refine AL_nil ?_
    refine seqQ_n ?_
    refine AW_cond rfl (fun hc6 => ?_) (fun hc6 => ?_)
    · try simp only [Bool.or_eq_true, Bool.and_eq_true, Bool.or_eq_false_iff, Bool.and_eq_false_iff, decide_eq_true_eq, decide_eq_false_iff_not, Bool.not_eq_true', Bool.not_eq_false', beq_iff_eq, ne_eq, Decidable.not_not, List.length_map] at hc6
     refine AW_region ?_
     first | refine AL_fieldAddr_pt fl24_1 sz3 (by decide) rfl ?_ | refine AL_fieldAddr_rp fl24_1 ag3 sz3 (by decide) (by decide) rfl rfl (fun h => by first | rfl | cases h) ?_
     refine AL_norm TN ?_
     first | refine AL_load_rp sz3 rfl ag3 ?_ | refine AL_loadw sz3 rfl LK (by exact ag3) (by exact rfl) ?_ | refine AL_load_pt ag3 sz3 (by decide) rfl LK (by first | assumption | exact sz3 | exact sz57 | exact sz60 | exact sz21 | exact sz9 | exact sz52 | exact sz58 | exact sz24 | exact sz26 | exact sz22) (by exact rfl) (by exact rfl) (by exact rfl) ?_
     refine AL_assign rfl ?_
     refine AL_norm TN ?_
     refine AL_nil (seqQ_n (AW_seq (AW_region ?_)))
     refine AL_move rfl ?_
     refine AL_move rfl ?_
     refine AL_norm TN ?_
     refine AL_move rfl ?_
     refine AL_move rfl ?_
     refine AL_build_af (zs := [_, _]) un223 ze223 sz3 (.cons (.ev rfl) rfl (.cons (.ev rfl) rfl (.nil))) rfl rfl rfl ?_
     refine AL_yield rfl (.cons (.ev rfl) (.cons (.ev rfl) .nil)) (hY _ _ _ (by exact betL_mk hI.1 (by omega) (if_neg hc2) (if_pos hc6)) hI.2.2) ?_; rintro bb H2 hK2
     refine AL_norm TN ?_
     refine AL_not rfl ?_
     refine AL_norm TN ?_
     refine AL_nil ?_
     refine seqQ_n ?_
     refine AW_cond rfl (fun hc7 => ?_) (fun hc7 => ?_)
     · try simp only [Bool.or_eq_true, Bool.and_eq_true, Bool.or_eq_false_iff, Bool.and_eq_false_iff, decide_eq_true_eq, decide_eq_false_iff_not, Bool.not_eq_true', Bool.not_eq_false', beq_iff_eq, ne_eq, Decidable.not_not, List.length_map] at hc7
      refine AW_ret ?_
      refine blockQ_r ?_
      refine seqQ_r ?_
      refine loopQ_r ?_
      refine blockQ_r ?_
      refine retQ_0 (H' := _) (.inr rfl) SU ?_
      exact hK _ _ (.inr (by rw [if_neg (by rw [hc7]; decide)] at hK2; exact hK2))
     · try simp only [Bool.or_eq_true, Bool.and_eq_true, Bool.or_eq_false_iff, Bool.and_eq_false_iff, decide_eq_true_eq, decide_eq_false_iff_not, Bool.not_eq_true', Bool.not_eq_false', beq_iff_eq, ne_eq, Decidable.not_not, List.length_map] at hc7
      refine AW_skip ?_
      refine blockQ_n ?_
      refine seqQ_n ?_
      refine AW_region ?_
      refine AL_move rfl ?_
      refine AL_addz rfl rfl (i + 1) (by exact i64_in (by omega)) ?_
      refine AL_assign rfl ?_
      refine AL_norm TN ?_
      refine AL_nil ?_
      refine loopQ_n ((i + 1, H2)) ?_ ?_ ?_ ?_
      · (have h3 : J ((i + 1 - a.line).toNat) H2 := (by rw [if_pos hc7] at hK2; rw [show (i + 1 - a.line).toNat = (i - a.line).toNat + 1 by omega]; exact hK2)); exact ⟨by omega, by omega, h3⟩
      · (show (b.line + 1 - (i + 1)).toNat < (b.line + 1 - i).toNat; omega)
      · repeat (first | exact SubH.refl _ | assumption | refine SubH.new ?_ (by assumption))
      · skip
       try simp only [tput, anyAt, setAll, List.foldl_cons, List.foldl_nil, List.set_cons_zero, List.set_cons_succ]
       repeat (first | exact Weak.nil | refine Weak.cons ?_ | refine Weak.consAny ?_)
    · try simp only [Bool.or_eq_true, Bool.and_eq_true, Bool.or_eq_false_iff, Bool.and_eq_false_iff, decide_eq_true_eq, decide_eq_false_iff_not, Bool.not_eq_true', Bool.not_eq_false', beq_iff_eq, ne_eq, Decidable.not_not, List.length_map] at hc6
     refine AW_skip ?_
     refine seqQ_n ?_
     refine AW_seq ?_
     refine AW_region ?_
     refine AL_move rfl ?_
     refine AL_norm TN ?_
     refine AL_move rfl ?_
     refine AL_move rfl ?_
     refine AL_move rfl ?_
     refine AL_build_af (zs := [_, _]) un223 ze223 sz3 (.cons (.ev rfl) rfl (.cons (.ev rfl) rfl (.nil))) rfl rfl rfl ?_
     refine AL_norm TN ?_
     refine AL_yield rfl (.cons (.ev rfl) (.cons (.ev rfl) .nil)) (hY _ _ _ (by exact betL_mk hI.1 (by omega) (if_neg hc2) ((if_neg hc6).trans (by rw [List.length_map]))) hI.2.2) ?_; rintro bb H2 hK2
     refine AL_not rfl ?_
     refine AL_norm TN ?_
     refine AL_nil ?_
     refine seqQ_n ?_
     refine AW_cond rfl (fun hc8 => ?_) (fun hc8 => ?_)
     · try simp only [Bool.or_eq_true, Bool.and_eq_true, Bool.or_eq_false_iff, Bool.and_eq_false_iff, decide_eq_true_eq, decide_eq_false_iff_not, Bool.not_eq_true', Bool.not_eq_false', beq_iff_eq, ne_eq, Decidable.not_not, List.length_map] at hc8
      refine AW_ret ?_
      refine blockQ_r ?_
      refine seqQ_r ?_
      refine loopQ_r ?_
      refine blockQ_r ?_
      refine retQ_0 (H' := _) (.inr rfl) SU ?_
      exact hK _ _ (.inr (by rw [if_neg (by rw [hc8]; decide)] at hK2; exact hK2))
     · try simp only [Bool.or_eq_true, Bool.and_eq_true, Bool.or_eq_false_iff, Bool.and_eq_false_iff, decide_eq_true_eq, decide_eq_false_iff_not, Bool.not_eq_true', Bool.not_eq_false', beq_iff_eq, ne_eq, Decidable.not_not, List.length_map] at hc8
      refine AW_skip ?_
      refine blockQ_n ?_
      refine seqQ_n ?_
      refine AW_region ?_
      refine AL_move rfl ?_
      refine AL_addz rfl rfl (i + 1) (by exact i64_in (by omega)) ?_
      refine AL_norm TN ?_
      refine AL_assign rfl ?_
      refine AL_norm TN ?_
      refine AL_nil ?_
      refine loopQ_n ((i + 1, H2)) ?_ ?_ ?_ ?_
      · (have h3 : J ((i + 1 - a.line).toNat) H2 := (by rw [if_pos hc8] at hK2; rw [show (i + 1 - a.line).toNat = (i - a.line).toNat + 1 by omega]; exact hK2)); exact ⟨by omega, by omega, h3⟩
      · (show (b.line + 1 - (i + 1)).toNat < (b.line + 1 - i).toNat; omega)
      · repeat (first | exact SubH.refl _ | assumption | refine SubH.new ?_ (by assumption))
      · skip
       try simp only [tput, anyAt, setAll, List.foldl_cons, List.foldl_nil, List.set_cons_zero, List.set_cons_succ]
       repeat (first | exact Weak.nil | refine Weak.cons ?_ | refine Weak.consAny ?_)
  · try simp only [Bool.or_eq_true, Bool.and_eq_true, Bool.or_eq_false_iff, Bool.and_eq_false_iff, decide_eq_true_eq, decide_eq_false_iff_not, Bool.not_eq_true', Bool.not_eq_false', beq_iff_eq, ne_eq, Decidable.not_not, List.length_map] at hc1
   refine AW_exit ?_
   refine seqQ_x ?_
   refine loopQ_x ?_
   refine blockQ_hit ?_
   refine retQ_0 (H' := _) (.inl rfl) SU ?_
   exact hK _ _ (.inl (by rw [betL_len, show (b.line + 1 - a.line).toNat = (i - a.line).toNat by omega]; exact hI.2.2))


end Go.Proofs
