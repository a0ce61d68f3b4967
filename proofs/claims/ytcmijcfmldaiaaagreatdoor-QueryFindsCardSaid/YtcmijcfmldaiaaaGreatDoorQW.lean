/- The walks of the functions, each said of plain values: no conditions but those in each statement. -/
import Derived.Test.YtcmijcfmldaiaaaGreatDoorQT1
import Derived.Test.YtcmijcfmldaiaaaGreatDoorQV
import Derived.Test.YtcmijcfmldaiaaaGreatDoorProg
set_option autoImplicit false
set_option linter.unusedVariables false
set_option linter.unusedSimpArgs false
set_option maxRecDepth 100000
set_option maxHeartbeats 4000000
namespace Go.Proofs
open Go Go.RowKit Go.AL Go.Q Go.IntWalk
theorem en66 : entersOf Tryz.prog 66 = true := by kernel_rfl
theorem sz67 : szOf Tryz.prog 67 = some 1 := by kernel_rfl
theorem en73 : entersOf Tryz.prog 73 = true := by kernel_rfl
theorem ze65 : zeroOf Tryz.prog 65 = some (.agg #[.string ⟨#[]⟩, .string ⟨#[]⟩, .int .i64 0, .nilFunc, .string ⟨#[]⟩, .string ⟨#[]⟩, .int .i64 0, .nilFunc, .string ⟨#[]⟩, .string ⟨#[]⟩, .int .i64 0, .nilFunc, .string ⟨#[]⟩, .string ⟨#[]⟩, .int .i64 0, .nilFunc, .string ⟨#[]⟩, .string ⟨#[]⟩, .int .i64 0, .nilFunc, .string ⟨#[]⟩, .string ⟨#[]⟩, .int .i64 0, .nilFunc, .string ⟨#[]⟩, .string ⟨#[]⟩, .int .i64 0, .nilFunc, .string ⟨#[]⟩, .string ⟨#[]⟩, .int .i64 0, .nilFunc, .string ⟨#[]⟩, .string ⟨#[]⟩, .int .i64 0, .nilFunc, .string ⟨#[]⟩, .string ⟨#[]⟩, .int .i64 0, .nilFunc, .string ⟨#[]⟩, .string ⟨#[]⟩, .int .i64 0, .nilFunc, .string ⟨#[]⟩, .string ⟨#[]⟩, .int .i64 0, .nilFunc, .string ⟨#[]⟩, .string ⟨#[]⟩, .int .i64 0, .nilFunc, .string ⟨#[]⟩, .string ⟨#[]⟩, .int .i64 0, .nilFunc, .string ⟨#[]⟩, .string ⟨#[]⟩, .int .i64 0, .nilFunc, .string ⟨#[]⟩, .string ⟨#[]⟩, .int .i64 0, .nilFunc, .string ⟨#[]⟩, .string ⟨#[]⟩, .int .i64 0, .nilFunc]) := by kernel_rfl
theorem sz65 : szOf Tryz.prog 65 = some 68 := by kernel_rfl
theorem ze43 : zeroOf Tryz.prog 43 = some (.agg #[.string ⟨#[]⟩, .string ⟨#[]⟩, .int .i64 0]) := by kernel_rfl
theorem ze64 : zeroOf Tryz.prog 64 = some (.agg #[.string ⟨#[]⟩, .string ⟨#[]⟩, .int .i64 0, .nilFunc]) := by kernel_rfl
theorem en78 : entersOf Tryz.prog 78 = true := by kernel_rfl
theorem en85 : entersOf Tryz.prog 85 = true := by kernel_rfl
theorem un65 : Tryz.prog.underlying 65 = some (.array 17 64) := by kernel_rfl
theorem sz64 : szOf Tryz.prog 64 = some 4 := by kernel_rfl
theorem ag65 : aggOf Tryz.prog 65 = some true := by kernel_rfl
theorem fl64_0 : fldOf Tryz.prog 64 0 = some (43, 0) := by kernel_rfl
theorem sz43 : szOf Tryz.prog 43 = some 3 := by kernel_rfl
theorem ag43 : aggOf Tryz.prog 43 = some true := by kernel_rfl
theorem fl43_0 : fldOf Tryz.prog 43 0 = some (9, 0) := by kernel_rfl
theorem en67 : entersOf Tryz.prog 67 = true := by kernel_rfl
theorem un81 : Tryz.prog.underlying 81 = some (.slice 64) := by kernel_rfl
theorem ag64 : aggOf Tryz.prog 64 = some true := by kernel_rfl
theorem en35 : entersOf Tryz.prog 35 = true := by kernel_rfl
theorem en65 : entersOf Tryz.prog 65 = true := by kernel_rfl

/-- quillwork/query.low -/
theorem query_low_ok (x : ByteArray) (hs : x.size ≤ 1000000) :
  PI TQ Tryz.prog 67 [strAV x] (.v (.string (Tags.lowStr x))) := by
 intro H K hT hK
 refine AC_of Tryz.func67 rfl (rs := [.tmp 2]) rfl Tryz.ntmps67 rfl ?_
 refine AW_norm TP ?_
 refine AW_seq ?_
 refine AW_region ?_
 refine AL_assign rfl ?_
 refine AL_norm TN ?_
 refine AL_nil (seqQ_n (AW_seq (AW_region ?_)))
 refine AL_move rfl ?_
 refine AL_callpi en132 (.cons (.ev rfl) (.cons (.ev rfl) (.nil))) HS (map_query x (by omega)) ?_
 refine AL_assign rfl ?_
 refine AL_norm TN ?_
 refine AL_nil ?_
 refine seqQ_n ?_
 refine AW_ret ?_
 refine retQ_1 (H' := H) (.inr rfl) rfl SU ?_
 refine K_eq ?_ hK
 rfl

/-- quillwork/query.alone -/
theorem query_alone_ok  :
  ∀ v : AV, v.mem = true → v.cells.length = 1 → PF Tryz.prog 73 [v] (.fn (.func 145) [] [.rp 67 v]) := by
 intro v hv hl H K hK
 refine AC_of Tryz.func73 rfl (rs := [.tmp 2]) rfl Tryz.ntmps73 rfl ?_
 refine AW_norm TP ?_
 refine AW_seq ?_
 refine AW_region ?_
 refine AL_box rfl hv sz67 hl ?_
 intro b1 hb1
 refine AL_norm TN ?_
 refine AL_frzpt 1 rfl (AH.upd_same _ _ _) ?_
 refine AL_heap (AH.upd_none_eq hb1) ?_
 refine AL_norm TN ?_
 clear hb1
 refine AL_assign rfl ?_
 refine AL_norm TN ?_
 refine AL_nil (seqQ_n (AW_seq (AW_region ?_)))
 refine AL_makeFunc (.nil) (.cons (.ev rfl) (.nil)) ?_
 refine AL_assign rfl ?_
 refine AL_norm TN ?_
 refine AL_nil ?_
 refine seqQ_n ?_
 refine AW_ret ?_
 refine retQ_1 (H' := H) (.inr rfl) rfl SU ?_
 refine K_eq ?_ hK
 rfl

/-- quillwork/query.toggle -/
theorem query_toggle_ok (b : Int) :
  PF Tryz.prog 78 [.v (.int .i64 b)] (.fn (.func 145) [] [.rp 67 (.fn (.func 154) [] [.rp 3 (.v (.int .i64 b))])]) := by
 intro H K hK
 refine AC_of Tryz.func78 rfl (rs := [.tmp 2]) rfl Tryz.ntmps78 rfl ?_
 refine AW_norm TP ?_
 refine AW_seq ?_
 refine AW_region ?_
 refine AL_box rfl rfl sz3 rfl ?_
 intro b1 hb1
 refine AL_norm TN ?_
 refine AL_frzpt 1 rfl (AH.upd_same _ _ _) ?_
 refine AL_heap (AH.upd_none_eq hb1) ?_
 refine AL_norm TN ?_
 clear hb1
 refine AL_assign rfl ?_
 refine AL_norm TN ?_
 refine AL_nil (seqQ_n (AW_seq (AW_region ?_)))
 refine AL_makeFunc (.nil) (.cons (.ev rfl) (.nil)) ?_
 refine AL_callp en73 (.cons (.ev rfl) (.nil)) (query_alone_ok _ rfl rfl) ?_
 refine AL_norm TN ?_
 refine AL_assign rfl ?_
 refine AL_norm TN ?_
 refine AL_nil ?_
 refine seqQ_n ?_
 refine AW_ret ?_
 refine retQ_1 (H' := H) (.inr rfl) rfl SU ?_
 refine K_eq ?_ hK
 rfl

/-- quillwork/query.list -/
theorem query_list_ok (b : Int) :
  PF Tryz.prog 85 [.v (.int .i64 b)] (.fn (.func 145) [] [.rp 67 (.fn (.func 168) [] [.rp 3 (.v (.int .i64 b))])]) := by
 intro H K hK
 refine AC_of Tryz.func85 rfl (rs := [.tmp 2]) rfl Tryz.ntmps85 rfl ?_
 refine AW_norm TP ?_
 refine AW_seq ?_
 refine AW_region ?_
 refine AL_box rfl rfl sz3 rfl ?_
 intro b1 hb1
 refine AL_norm TN ?_
 refine AL_frzpt 1 rfl (AH.upd_same _ _ _) ?_
 refine AL_heap (AH.upd_none_eq hb1) ?_
 refine AL_norm TN ?_
 clear hb1
 refine AL_assign rfl ?_
 refine AL_norm TN ?_
 refine AL_nil (seqQ_n (AW_seq (AW_region ?_)))
 refine AL_makeFunc (.nil) (.cons (.ev rfl) (.nil)) ?_
 refine AL_callp en73 (.cons (.ev rfl) (.nil)) (query_alone_ok _ rfl rfl) ?_
 refine AL_norm TN ?_
 refine AL_assign rfl ?_
 refine AL_norm TN ?_
 refine AL_nil ?_
 refine seqQ_n ?_
 refine AW_ret ?_
 refine retQ_1 (H' := H) (.inr rfl) rfl SU ?_
 refine K_eq ?_ hK
 rfl

/-- quillwork/query.table -/
theorem query_table_ok  :
  PF Tryz.prog 35 [] (tableAV) := by
 intro H K hK
 refine AC_of Tryz.func35 rfl (rs := [.cell 0 65]) rfl Tryz.ntmps35 rfl ?_
 refine AW_norm TP ?_
 refine AW_seq ?_
 refine AW_region ?_
 refine AL_alloc ze65 (.agg (.v (.v (.v (.v (.v (.v (.v (.v (.v (.v (.v (.v (.v (.v (.v (.v (.v (.v (.v (.v (.v (.v (.v (.v (.v (.v (.v (.v (.v (.v (.v (.v (.v (.v (.v (.v (.v (.v (.v (.v (.v (.v (.v (.v (.v (.v (.v (.v (.v (.v (.v (.v (.v (.v (.v (.v (.v (.v (.v (.v (.v (.v (.v (.v (.v (.v (.v (.v .nil))))))))))))))))))))))))))))))))))))))))))))))))))))))))))))))))))))) rfl sz65 rfl ?_
 intro b1 hb1
 have hn1 : H b1 = none := SubH.none SU hb1
 refine AL_norm TN ?_
 refine AL_nil (seqQ_n (AW_seq (AW_region ?_)))
 refine AL_build_sf (zs := [_, _, _]) (pl := [(0, 1), (1, 1), (2, 1)]) Tryz.underlying43 ze43 (by kernel_rfl) (.cons (.ev rfl) rfl (.cons (.ev rfl) rfl (.cons (.ev rfl) rfl (.nil)))) rfl rfl rfl ?_
 refine AL_build_sf (zs := [_, _, _, _]) (pl := [(0, 3), (3, 1)]) Tryz.underlying64 ze64 (by kernel_rfl) (.cons (.ev rfl) rfl (.cons (.ev rfl) rfl (.nil))) rfl rfl rfl ?_
 refine AL_build_struct (zs := [_, _, _]) (pl := [(0, 1), (1, 1), (2, 1)]) Tryz.underlying43 ze43 (.v (.v (.v .nil))) (by kernel_rfl) (.cons (.ev rfl) rfl (.cons (.ev rfl) rfl (.nil))) rfl ?_
 refine AL_norm TN ?_
 refine AL_callp en73 (.cons (.ev rfl) (.nil)) (query_alone_ok _ rfl rfl) ?_
 refine AL_build_sf (zs := [_, _, _, _]) (pl := [(0, 3), (3, 1)]) Tryz.underlying64 ze64 (by kernel_rfl) (.cons (.ev rfl) rfl (.cons (.ev rfl) rfl (.nil))) rfl rfl rfl ?_
 refine AL_build_struct (zs := [_, _, _]) (pl := [(0, 1), (1, 1), (2, 1)]) Tryz.underlying43 ze43 (.v (.v (.v .nil))) (by kernel_rfl) (.cons (.ev rfl) rfl (.cons (.ev rfl) rfl (.nil))) rfl ?_
 refine AL_callp en73 (.cons (.ev rfl) (.nil)) (query_alone_ok _ rfl rfl) ?_
 refine AL_norm TN ?_
 refine AL_build_sf (zs := [_, _, _, _]) (pl := [(0, 3), (3, 1)]) Tryz.underlying64 ze64 (by kernel_rfl) (.cons (.ev rfl) rfl (.cons (.ev rfl) rfl (.nil))) rfl rfl rfl ?_
 refine AL_build_struct (zs := [_, _, _]) (pl := [(0, 1), (1, 1), (2, 1)]) Tryz.underlying43 ze43 (.v (.v (.v .nil))) (by kernel_rfl) (.cons (.ev rfl) rfl (.cons (.ev rfl) rfl (.nil))) rfl ?_
 refine AL_callp en73 (.cons (.ev rfl) (.nil)) (query_alone_ok _ rfl rfl) ?_
 refine AL_build_sf (zs := [_, _, _, _]) (pl := [(0, 3), (3, 1)]) Tryz.underlying64 ze64 (by kernel_rfl) (.cons (.ev rfl) rfl (.cons (.ev rfl) rfl (.nil))) rfl rfl rfl ?_
 refine AL_norm TN ?_
 refine AL_build_struct (zs := [_, _, _]) (pl := [(0, 1), (1, 1), (2, 1)]) Tryz.underlying43 ze43 (.v (.v (.v .nil))) (by kernel_rfl) (.cons (.ev rfl) rfl (.cons (.ev rfl) rfl (.nil))) rfl ?_
 refine AL_callp en73 (.cons (.ev rfl) (.nil)) (query_alone_ok _ rfl rfl) ?_
 refine AL_build_sf (zs := [_, _, _, _]) (pl := [(0, 3), (3, 1)]) Tryz.underlying64 ze64 (by kernel_rfl) (.cons (.ev rfl) rfl (.cons (.ev rfl) rfl (.nil))) rfl rfl rfl ?_
 refine AL_build_struct (zs := [_, _, _]) (pl := [(0, 1), (1, 1), (2, 1)]) Tryz.underlying43 ze43 (.v (.v (.v .nil))) (by kernel_rfl) (.cons (.ev rfl) rfl (.cons (.ev rfl) rfl (.nil))) rfl ?_
 refine AL_norm TN ?_
 refine AL_callp en78 (.cons (.ev rfl) (.nil)) (query_toggle_ok _) ?_
 refine AL_build_sf (zs := [_, _, _, _]) (pl := [(0, 3), (3, 1)]) Tryz.underlying64 ze64 (by kernel_rfl) (.cons (.ev rfl) rfl (.cons (.ev rfl) rfl (.nil))) rfl rfl rfl ?_
 refine AL_build_struct (zs := [_, _, _]) (pl := [(0, 1), (1, 1), (2, 1)]) Tryz.underlying43 ze43 (.v (.v (.v .nil))) (by kernel_rfl) (.cons (.ev rfl) rfl (.cons (.ev rfl) rfl (.nil))) rfl ?_
 refine AL_callp en78 (.cons (.ev rfl) (.nil)) (query_toggle_ok _) ?_
 refine AL_norm TN ?_
 refine AL_build_sf (zs := [_, _, _, _]) (pl := [(0, 3), (3, 1)]) Tryz.underlying64 ze64 (by kernel_rfl) (.cons (.ev rfl) rfl (.cons (.ev rfl) rfl (.nil))) rfl rfl rfl ?_
 refine AL_build_struct (zs := [_, _, _]) (pl := [(0, 1), (1, 1), (2, 1)]) Tryz.underlying43 ze43 (.v (.v (.v .nil))) (by kernel_rfl) (.cons (.ev rfl) rfl (.cons (.ev rfl) rfl (.nil))) rfl ?_
 refine AL_callp en78 (.cons (.ev rfl) (.nil)) (query_toggle_ok _) ?_
 refine AL_build_sf (zs := [_, _, _, _]) (pl := [(0, 3), (3, 1)]) Tryz.underlying64 ze64 (by kernel_rfl) (.cons (.ev rfl) rfl (.cons (.ev rfl) rfl (.nil))) rfl rfl rfl ?_
 refine AL_norm TN ?_
 refine AL_build_struct (zs := [_, _, _]) (pl := [(0, 1), (1, 1), (2, 1)]) Tryz.underlying43 ze43 (.v (.v (.v .nil))) (by kernel_rfl) (.cons (.ev rfl) rfl (.cons (.ev rfl) rfl (.nil))) rfl ?_
 refine AL_callp en78 (.cons (.ev rfl) (.nil)) (query_toggle_ok _) ?_
 refine AL_build_sf (zs := [_, _, _, _]) (pl := [(0, 3), (3, 1)]) Tryz.underlying64 ze64 (by kernel_rfl) (.cons (.ev rfl) rfl (.cons (.ev rfl) rfl (.nil))) rfl rfl rfl ?_
 refine AL_build_sf (zs := [_, _, _]) (pl := [(0, 1), (1, 1), (2, 1)]) Tryz.underlying43 ze43 (by kernel_rfl) (.cons (.ev rfl) rfl (.cons (.ev rfl) rfl (.cons (.ev rfl) rfl (.nil)))) rfl rfl rfl ?_
 refine AL_norm TN ?_
 refine AL_build_sf (zs := [_, _, _, _]) (pl := [(0, 3), (3, 1)]) Tryz.underlying64 ze64 (by kernel_rfl) (.cons (.ev rfl) rfl (.cons (.ev rfl) rfl (.nil))) rfl rfl rfl ?_
 refine AL_build_struct (zs := [_, _, _]) (pl := [(0, 1), (1, 1), (2, 1)]) Tryz.underlying43 ze43 (.v (.v (.v .nil))) (by kernel_rfl) (.cons (.ev rfl) rfl (.cons (.ev rfl) rfl (.nil))) rfl ?_
 refine AL_callp en73 (.cons (.ev rfl) (.nil)) (query_alone_ok _ rfl rfl) ?_
 refine AL_build_sf (zs := [_, _, _, _]) (pl := [(0, 3), (3, 1)]) Tryz.underlying64 ze64 (by kernel_rfl) (.cons (.ev rfl) rfl (.cons (.ev rfl) rfl (.nil))) rfl rfl rfl ?_
 refine AL_norm TN ?_
 refine AL_build_struct (zs := [_, _, _]) (pl := [(0, 1), (1, 1), (2, 1)]) Tryz.underlying43 ze43 (.v (.v (.v .nil))) (by kernel_rfl) (.cons (.ev rfl) rfl (.cons (.ev rfl) rfl (.nil))) rfl ?_
 refine AL_callp en73 (.cons (.ev rfl) (.nil)) (query_alone_ok _ rfl rfl) ?_
 refine AL_build_sf (zs := [_, _, _, _]) (pl := [(0, 3), (3, 1)]) Tryz.underlying64 ze64 (by kernel_rfl) (.cons (.ev rfl) rfl (.cons (.ev rfl) rfl (.nil))) rfl rfl rfl ?_
 refine AL_build_sf (zs := [_, _, _]) (pl := [(0, 1), (1, 1), (2, 1)]) Tryz.underlying43 ze43 (by kernel_rfl) (.cons (.ev rfl) rfl (.cons (.ev rfl) rfl (.cons (.ev rfl) rfl (.nil)))) rfl rfl rfl ?_
 refine AL_norm TN ?_
 refine AL_build_sf (zs := [_, _, _, _]) (pl := [(0, 3), (3, 1)]) Tryz.underlying64 ze64 (by kernel_rfl) (.cons (.ev rfl) rfl (.cons (.ev rfl) rfl (.nil))) rfl rfl rfl ?_
 refine AL_build_struct (zs := [_, _, _]) (pl := [(0, 1), (1, 1), (2, 1)]) Tryz.underlying43 ze43 (.v (.v (.v .nil))) (by kernel_rfl) (.cons (.ev rfl) rfl (.cons (.ev rfl) rfl (.nil))) rfl ?_
 refine AL_callp en73 (.cons (.ev rfl) (.nil)) (query_alone_ok _ rfl rfl) ?_
 refine AL_build_sf (zs := [_, _, _, _]) (pl := [(0, 3), (3, 1)]) Tryz.underlying64 ze64 (by kernel_rfl) (.cons (.ev rfl) rfl (.cons (.ev rfl) rfl (.nil))) rfl rfl rfl ?_
 refine AL_norm TN ?_
 refine AL_build_struct (zs := [_, _, _]) (pl := [(0, 1), (1, 1), (2, 1)]) Tryz.underlying43 ze43 (.v (.v (.v .nil))) (by kernel_rfl) (.cons (.ev rfl) rfl (.cons (.ev rfl) rfl (.nil))) rfl ?_
 refine AL_callp en73 (.cons (.ev rfl) (.nil)) (query_alone_ok _ rfl rfl) ?_
 refine AL_build_sf (zs := [_, _, _, _]) (pl := [(0, 3), (3, 1)]) Tryz.underlying64 ze64 (by kernel_rfl) (.cons (.ev rfl) rfl (.cons (.ev rfl) rfl (.nil))) rfl rfl rfl ?_
 refine AL_build_struct (zs := [_, _, _]) (pl := [(0, 1), (1, 1), (2, 1)]) Tryz.underlying43 ze43 (.v (.v (.v .nil))) (by kernel_rfl) (.cons (.ev rfl) rfl (.cons (.ev rfl) rfl (.nil))) rfl ?_
 refine AL_norm TN ?_
 refine AL_callp en85 (.cons (.ev rfl) (.nil)) (query_list_ok _) ?_
 refine AL_build_sf (zs := [_, _, _, _]) (pl := [(0, 3), (3, 1)]) Tryz.underlying64 ze64 (by kernel_rfl) (.cons (.ev rfl) rfl (.cons (.ev rfl) rfl (.nil))) rfl rfl rfl ?_
 refine AL_build_struct (zs := [_, _, _]) (pl := [(0, 1), (1, 1), (2, 1)]) Tryz.underlying43 ze43 (.v (.v (.v .nil))) (by kernel_rfl) (.cons (.ev rfl) rfl (.cons (.ev rfl) rfl (.nil))) rfl ?_
 refine AL_callp en85 (.cons (.ev rfl) (.nil)) (query_list_ok _) ?_
 refine AL_norm TN ?_
 refine AL_build_sf (zs := [_, _, _, _]) (pl := [(0, 3), (3, 1)]) Tryz.underlying64 ze64 (by kernel_rfl) (.cons (.ev rfl) rfl (.cons (.ev rfl) rfl (.nil))) rfl rfl rfl ?_
 refine AL_build_af (zs := [_, _, _, _, _, _, _, _, _, _, _, _, _, _, _, _, _, _, _, _, _, _, _, _, _, _, _, _, _, _, _, _, _, _, _, _, _, _, _, _, _, _, _, _, _, _, _, _, _, _, _, _, _, _, _, _, _, _, _, _, _, _, _, _, _, _, _, _]) un65 ze65 sz64 (.cons (.ev rfl) rfl (.cons (.ev rfl) rfl (.cons (.ev rfl) rfl (.cons (.ev rfl) rfl (.cons (.ev rfl) rfl (.cons (.ev rfl) rfl (.cons (.ev rfl) rfl (.cons (.ev rfl) rfl (.cons (.ev rfl) rfl (.cons (.ev rfl) rfl (.cons (.ev rfl) rfl (.cons (.ev rfl) rfl (.cons (.ev rfl) rfl (.cons (.ev rfl) rfl (.cons (.ev rfl) rfl (.cons (.ev rfl) rfl (.cons (.ev rfl) rfl (.nil)))))))))))))))))) rfl rfl rfl ?_
 first | refine AL_store_w sz65 rfl (.ev rfl) rfl LK rfl (by exact rfl) ?_ | refine AL_store rfl (.ev rfl) rfl LK (by first | assumption | exact sz3 | exact sz57 | exact sz60 | exact sz21 | exact sz9 | exact sz52 | exact sz58 | exact sz24 | exact sz26 | exact sz22 | exact sz127 | exact sz223 | exact sz213 | exact sz207 | exact sz99 | exact sz30 | exact sz4 | exact sz166 | exact sz120 | exact sz38 | exact sz67 | exact sz65 | exact sz64 | exact sz43) (by exact rfl) sz65 rfl (by decide) (fun h => by first | (cases h; done) | exact ⟨rfl, rfl, rfl⟩) ?_
 refine AL_heap (by first | (simp only [AH.upd_upd]; rfl) | rfl) ?_
 refine AL_norm TN ?_
 refine AL_nil ?_
 refine seqQ_n ?_
 refine AW_ret ?_
 first | refine retQ_cw (H' := H) (.inr rfl) sz65 rfl LK (by exact ag65) (by exact rfl) SU ?_ | refine retQ_c (H' := H) (.inr rfl) ag65 sz65 (by first | assumption | exact sz3 | exact sz57 | exact sz60 | exact sz21 | exact sz9 | exact sz52 | exact sz58 | exact sz24 | exact sz26 | exact sz22 | exact sz127 | exact sz223 | exact sz213 | exact sz207 | exact sz99 | exact sz30 | exact sz4 | exact sz166 | exact sz120 | exact sz38 | exact sz67 | exact sz65 | exact sz64 | exact sz43) (by decide) rfl LK (by exact rfl) (by exact rfl) (by exact rfl) SU ?_
 refine K_eq ?_ hK
 rfl

/-- quillwork/query.Find$1 -/
theorem query_Find_1_ok (i : Nat) (x : ByteArray) (hx : x.size ≤ 1000000) :
  PI TQ Tryz.prog 66 [rowAV i, .rp 9 (.v (.string x))] (.v (.bool (nameEq i x))) := by
 intro H K hT hK
 refine AC_of Tryz.func66 rfl (rs := [.tmp 3]) rfl Tryz.ntmps66 rfl ?_
 refine AW_norm TP ?_
 refine AW_seq ?_
 refine AW_region ?_
 refine AL_box rfl (rowAV_mem i) sz64 rfl ?_
 intro b1 hb1
 refine AL_norm TN ?_
 refine AL_frzpt 2 rfl (AH.upd_same _ _ _) ?_
 refine AL_heap (AH.upd_none_eq hb1) ?_
 refine AL_norm TN ?_
 clear hb1
 refine AL_assign rfl ?_
 refine AL_norm TN ?_
 refine AL_nil ?_
 refine seqQ_n ?_
 refine AW_seq ?_
 refine' AW_drawl (xs := [_, _, _, _, _, _, _, _]) (by kernel_rfl) ?hops1 ?_
 case hops1 =>
  refine Hops_cons (fun T hl hr => ?_) ?_
  · skip
   first | refine AL_fieldAddr_pt fl64_0 sz43 (by decide) ((hr 2 (by kernel_rfl)).trans rfl) ?_ | refine AL_fieldAddr_rp fl64_0 ag43 sz43 (by decide) (by decide) ((hr 2 (by kernel_rfl)).trans rfl) rfl (fun h => by first | rfl | cases h) ?_
   refine AL_nil ?_
   refine qpost_mk ?_
   exact Weak.refl _
  refine Hops_norm TO ?_
  refine Hops_cons (fun T hl hr => ?_) ?_
  · skip
   first | refine AL_fieldAddr_pt fl43_0 sz9 (by decide) ((hr 4 (by kernel_rfl)).trans rfl) ?_ | refine AL_fieldAddr_rp fl43_0 ag9 sz9 (by decide) (by decide) ((hr 4 (by kernel_rfl)).trans rfl) rfl (fun h => by first | rfl | cases h) ?_
   refine AL_nil ?_
   refine qpost_mk ?_
   exact Weak.refl _
  refine Hops_norm TO ?_
  refine Hops_cons (fun T hl hr => ?_) ?_
  · skip
   first | refine AL_load_rp sz9 ((hr 5 (by kernel_rfl)).trans rfl) ag9 ?_ | refine AL_loadw sz9 ((hr 5 (by kernel_rfl)).trans rfl) LK (by exact ag9) (by exact rfl) ?_ | refine AL_load_pt ag9 sz9 (by decide) ((hr 5 (by kernel_rfl)).trans rfl) LK (by first | assumption | exact sz3 | exact sz57 | exact sz60 | exact sz21 | exact sz9 | exact sz52 | exact sz58 | exact sz24 | exact sz26 | exact sz22 | exact sz127 | exact sz223 | exact sz213 | exact sz207 | exact sz99 | exact sz30 | exact sz4 | exact sz166 | exact sz120 | exact sz38 | exact sz67 | exact sz65 | exact sz64 | exact sz43) (by exact rfl) (by exact rfl) (by exact rfl) ?_
   refine AL_nil ?_
   refine qpost_mk ?_
   exact Weak.refl _
  refine Hops_norm TO ?_
  refine Hops_cons (fun T hl hr => ?_) ?_
  · skip
   refine AL_callpi en67 (.cons (.ev ((hr 6 (by kernel_rfl)).trans rfl)) (.nil)) HS (query_low_ok (nameQ i) (nameQ_size i)) ?_
   refine AL_nil ?_
   refine qpost_mk ?_
   exact Weak.refl _
  refine Hops_norm TO ?_
  refine Hops_cons (fun T hl hr => ?_) ?_
  · skip
   first | refine AL_load_rp sz9 ((hr 1 (by kernel_rfl)).trans rfl) ag9 ?_ | refine AL_loadw sz9 ((hr 1 (by kernel_rfl)).trans rfl) LK (by exact ag9) (by exact rfl) ?_ | refine AL_load_pt ag9 sz9 (by decide) ((hr 1 (by kernel_rfl)).trans rfl) LK (by first | assumption | exact sz3 | exact sz57 | exact sz60 | exact sz21 | exact sz9 | exact sz52 | exact sz58 | exact sz24 | exact sz26 | exact sz22 | exact sz127 | exact sz223 | exact sz213 | exact sz207 | exact sz99 | exact sz30 | exact sz4 | exact sz166 | exact sz120 | exact sz38 | exact sz67 | exact sz65 | exact sz64 | exact sz43) (by exact rfl) (by exact rfl) (by exact rfl) ?_
   refine AL_nil ?_
   refine qpost_mk ?_
   exact Weak.refl _
  refine Hops_norm TO ?_
  refine Hops_cons (fun T hl hr => ?_) ?_
  · skip
   refine AL_callpi en67 (.cons (.ev ((hr 8 (by kernel_rfl)).trans rfl)) (.nil)) HS (query_low_ok x hx) ?_
   refine AL_nil ?_
   refine qpost_mk ?_
   exact Weak.refl _
  refine Hops_norm TO ?_
  refine Hops_cons (fun T hl hr => ?_) ?_
  · skip
   refine AL_seql ((hr 7 (by kernel_rfl)).trans rfl) ((hr 9 (by kernel_rfl)).trans rfl) ?_
   refine AL_nil ?_
   refine qpost_mk ?_
   exact Weak.refl _
  refine Hops_norm TO ?_
  refine Hops_cons (fun T hl hr => ?_) ?_
  · skip
   refine AL_assign ((hr 10 (by kernel_rfl)).trans rfl) ?_
   refine AL_nil ?_
   refine qpost_mk ?_
   exact Weak.refl _
  refine Hops_norm TO ?_
  exact Hops_nil
 refine Q_norm (by first | (simp only [Tfin, tput, anyAt, setAll, List.foldl_cons, List.foldl_nil, List.set_cons_zero, List.set_cons_succ]; rfl) | rfl) ?_
 refine seqQ_n ?_
 refine AW_ret ?_
 refine retQ_1 (H' := H) (.inr rfl) rfl SU ?_
 refine K_eq ?_ hK
 exact congrArg (fun b => AV.v (.bool b)) (low_name i x)

/-- slices.IndexFunc[[]quillwork/query.row,quillwork/query.row] -/
theorem slices_IndexFunc_query_row_query_row_ok  :
  ∀ (I : AH → Prop) (p : Nat → Bool) (zs : List Nat) (f : FuncId) (cps : List AV), zs.length ≤ 1000000 → entersOf Tryz.prog f = true → (∀ c ∈ zs, PI I Tryz.prog f (rowAV c :: cps) (.v (.bool (p c)))) → PI I Tryz.prog 65 [.sl 64 (zs.map rowAV), .fn (.func f) [] cps] (.v (.int .i64 (idxI p zs))) := by
 intro I p zs f cps hlen hen hf H K hT hK
 refine AC_of Tryz.func65 rfl (rs := [.tmp 4]) rfl Tryz.ntmps65 rfl ?_
 refine AW_norm TP ?_
 refine AW_seq ?_
 refine AW_region ?_
 refine AL_assign rfl ?_
 refine AL_norm TN ?_
 refine AL_nil ?_
 refine seqQ_n ?_
 refine AW_seq ?_
 refine AW_seq ?_
 refine AW_region ?_
 refine AL_move rfl ?_
 first | refine AL_len_sl un81 rfl ?_ | refine AL_len_own un81 rfl ?_
 refine AL_move rfl ?_
 refine AL_norm TN ?_
 refine AL_nil ?_
 refine seqQ_n ?_
 refine AW_block ?_
 refine AW_loops (α := Nat) [4, 5, 8, 9, 10, 11, 12, 13, 14, 15, 16, 17, 18] (fun i => [(8, .v (.int .i64 (i : Int)))]) (fun i => H) (fun i => i ≤ zs.length ∧ ∀ j, j < i → p (zs.getD j 0) = false) (fun i => zs.length - i) (0) ?_ ?_ ?_ ?_
 · exact ⟨Nat.zero_le _, fun j hj => absurd hj (Nat.not_lt_zero j)⟩
 · repeat (first | exact SubH.refl _ | assumption | refine SubH.new ?_ (by assumption))
 · skip
  try simp only [tput, anyAt, setAll, List.foldl_cons, List.foldl_nil, List.set_cons_zero, List.set_cons_succ]
  repeat (first | exact Weak.nil | refine Weak.cons ?_ | refine Weak.consAny ?_)
 · intro i hI
  refine AW_norm TN ?_
  refine AW_seq ?_
  refine AW_region ?_
  refine AL_lss rfl rfl ?_
  refine AL_norm TN ?_
  refine AL_nil ?_
  refine seqQ_n ?_
  refine AW_seq ?_
  refine AW_cond rfl (fun hc1 => ?_) (fun hc1 => ?_)
  · try simp only [Bool.or_eq_true, Bool.and_eq_true, Bool.or_eq_false_iff, Bool.and_eq_false_iff, decide_eq_true_eq, decide_eq_false_iff_not, Bool.not_eq_true', Bool.not_eq_false', beq_iff_eq, ne_eq, Decidable.not_not, List.length_map] at hc1
   refine AW_skip ?_
   refine seqQ_n ?_
   refine AW_seq ?_
   refine AW_block ?_
   refine AW_seq ?_
   refine AW_region ?_
   refine AL_move rfl ?_
   refine AL_norm TN ?_
   refine AL_assign rfl ?_
   refine AL_norm TN ?_
   refine AL_nil (seqQ_n (AW_seq (AW_region ?_)))
   refine AL_move rfl ?_
   refine AL_move rfl ?_
   refine AL_move rfl ?_
   refine AL_norm TN ?_
   first | refine AL_indexAddr_sl (y := rowAV (zs.getD i 0)) un81 sz64 (by decide) rfl rfl ?_ ?_ ?_ ?_ | refine AL_indexAddr_own un81 sz64 rfl rfl ?_ ?_ ?_
   · omega
   · simp only [List.length_map]; omega
   · exact map_getD 0 (i := i) (by omega)
   first | refine AL_load_rp sz64 rfl ag64 ?_ | refine AL_loadw sz64 rfl LK (by exact ag64) (by exact rfl) ?_ | refine AL_load_pt ag64 sz64 (by decide) rfl LK (by first | assumption | exact sz3 | exact sz57 | exact sz60 | exact sz21 | exact sz9 | exact sz52 | exact sz58 | exact sz24 | exact sz26 | exact sz22 | exact sz127 | exact sz223 | exact sz213 | exact sz207 | exact sz99 | exact sz30 | exact sz4 | exact sz166 | exact sz120 | exact sz38 | exact sz67 | exact sz65 | exact sz64 | exact sz43) (by exact rfl) (by exact rfl) (by exact rfl) ?_
   refine AL_callv rfl hen (.cons (.ev rfl) .nil) (hf _ (getD_mem 0 (i := i) (by omega)) H (fun x H1 => x = .v (.bool (p (zs.getD i 0))) ∧ H = H1) hT ⟨rfl, rfl⟩) ?_; rintro _ _ ⟨rfl, rfl⟩
   refine AL_norm TN ?_
   refine AL_nil ?_
   refine seqQ_n ?_
   refine AW_cond rfl (fun hc2 => ?_) (fun hc2 => ?_)
   · try simp only [Bool.or_eq_true, Bool.and_eq_true, Bool.or_eq_false_iff, Bool.and_eq_false_iff, decide_eq_true_eq, decide_eq_false_iff_not, Bool.not_eq_true', Bool.not_eq_false', beq_iff_eq, ne_eq, Decidable.not_not, List.length_map] at hc2
    refine AW_seq ?_
    refine AW_region ?_
    refine AL_move rfl ?_
    refine AL_norm TN ?_
    refine AL_assign rfl ?_
    refine AL_norm TN ?_
    refine AL_nil ?_
    refine seqQ_n ?_
    refine AW_ret ?_
    refine blockQ_r ?_
    refine seqQ_r ?_
    refine loopQ_r ?_
    refine blockQ_r ?_
    refine seqQ_r ?_
    refine retQ_1 (H' := H) (.inr rfl) rfl SU ?_
    refine K_eq ?_ hK
    exact congrArg (fun z => AV.v (.int .i64 z)) (idxI_some (d := 0) (by omega) hc2 hI.2).symm
   · try simp only [Bool.or_eq_true, Bool.and_eq_true, Bool.or_eq_false_iff, Bool.and_eq_false_iff, decide_eq_true_eq, decide_eq_false_iff_not, Bool.not_eq_true', Bool.not_eq_false', beq_iff_eq, ne_eq, Decidable.not_not, List.length_map] at hc2
    refine AW_skip ?_
    refine blockQ_n ?_
    refine seqQ_n ?_
    refine AW_region ?_
    refine AL_addz rfl rfl (((i + 1 : Nat) : Int)) (by exact inc64 (by omega)) ?_
    refine AL_move rfl ?_
    refine AL_norm TN ?_
    refine AL_nil ?_
    refine loopQ_n (i + 1) ?_ ?_ ?_ ?_
    · exact ⟨by omega, upto_no2 hI.2 hc2⟩
    · omega
    · repeat (first | exact SubH.refl _ | assumption | refine SubH.new ?_ (by assumption))
    · skip
     try simp only [tput, anyAt, setAll, List.foldl_cons, List.foldl_nil, List.set_cons_zero, List.set_cons_succ]
     repeat (first | exact Weak.nil | refine Weak.cons ?_ | refine Weak.consAny ?_)
  · try simp only [Bool.or_eq_true, Bool.and_eq_true, Bool.or_eq_false_iff, Bool.and_eq_false_iff, decide_eq_true_eq, decide_eq_false_iff_not, Bool.not_eq_true', Bool.not_eq_false', beq_iff_eq, ne_eq, Decidable.not_not, List.length_map] at hc1
   refine AW_exit ?_
   refine seqQ_x ?_
   refine loopQ_x ?_
   refine blockQ_hit ?_
   refine seqQ_n ?_
   refine AW_seq ?_
   refine AW_region ?_
   refine AL_assign rfl ?_
   refine AL_norm TN ?_
   refine AL_nil ?_
   refine seqQ_n ?_
   refine AW_ret ?_
   refine retQ_1 (H' := H) (.inr rfl) rfl SU ?_
   refine K_eq ?_ hK
   exact congrArg (fun z => AV.v (.int .i64 z)) (idxI_none (d := 0) (i := i) (by omega) hI.2).symm

/-- quillwork/query.Find -/
theorem query_Find_ok (x : ByteArray) (hx : x.size ≤ 1000000) :
  PI TQ Tryz.prog 26 [strAV x] (findAVq x) := by
 intro H K hT hK
 refine AC_of Tryz.func26 rfl (rs := [.tmp 2, .tmp 3]) rfl Tryz.ntmps26 rfl ?_
 refine AW_norm TP ?_
 refine AW_seq ?_
 refine AW_region ?_
 refine AL_box rfl rfl sz9 rfl ?_
 intro b1 hb1
 refine AL_norm TN ?_
 refine AL_frzpt 1 rfl (AH.upd_same _ _ _) ?_
 refine AL_heap (AH.upd_none_eq hb1) ?_
 refine AL_norm TN ?_
 clear hb1
 refine AL_assign rfl ?_
 refine AL_assign rfl ?_
 refine AL_norm TN ?_
 refine AL_nil (seqQ_n (AW_seq (AW_region ?_)))
 refine AL_callp en35 (.nil) (query_table_ok) ?_
 refine AL_norm TN ?_
 refine AL_alloc ze65 (.agg (.v (.v (.v (.v (.v (.v (.v (.v (.v (.v (.v (.v (.v (.v (.v (.v (.v (.v (.v (.v (.v (.v (.v (.v (.v (.v (.v (.v (.v (.v (.v (.v (.v (.v (.v (.v (.v (.v (.v (.v (.v (.v (.v (.v (.v (.v (.v (.v (.v (.v (.v (.v (.v (.v (.v (.v (.v (.v (.v (.v (.v (.v (.v (.v (.v (.v (.v (.v .nil))))))))))))))))))))))))))))))))))))))))))))))))))))))))))))))))))))) rfl sz65 rfl ?_
 intro b2 hb2
 have hn2 : H b2 = none := SubH.none SU hb2
 first | refine AL_store_w sz65 rfl (.ev rfl) rfl LK rfl (by exact rfl) ?_ | refine AL_store rfl (.ev rfl) rfl LK (by first | assumption | exact sz3 | exact sz57 | exact sz60 | exact sz21 | exact sz9 | exact sz52 | exact sz58 | exact sz24 | exact sz26 | exact sz22 | exact sz127 | exact sz223 | exact sz213 | exact sz207 | exact sz99 | exact sz30 | exact sz4 | exact sz166 | exact sz120 | exact sz38 | exact sz67 | exact sz65 | exact sz64 | exact sz43) (by exact rfl) sz65 rfl (by decide) (fun h => by first | (cases h; done) | exact ⟨rfl, rfl, rfl⟩) ?_
 refine AL_heap (by first | (simp only [AH.upd_upd]; rfl) | rfl) ?_
 refine AL_norm TN ?_
 refine AL_frzpt 4 rfl (AH.upd_same _ _ _) ?_; refine AL_heap (AH.upd_none_eq hb2) ?_; clear hb2
 refine AL_norm TN ?_
 refine AL_norm TN ?_
 refine AL_nil (seqQ_n (AW_seq (AW_region ?_)))
 refine AL_slice_arr (xs := rowsAV) un65 sz64 rfl rfl rfl rfl ?_
 refine AL_makeFunc (.nil) (.cons (.ev rfl) (.nil)) ?_
 refine AL_norm TN ?_
 refine AL_callpi en65 (.cons (.ev rfl) (.cons (.ev rfl) (.nil))) HS (slices_IndexFunc_query_row_query_row_ok TQ (fun i => nameEq i x) (List.range 17) 66 _ (by decide) en66 (fun i _ => query_Find_1_ok i x hx)) ?_
 refine AL_assign rfl ?_
 refine AL_norm TN ?_
 refine AL_nil (seqQ_n (AW_seq (AW_region ?_)))
 refine AL_move rfl ?_
 refine AL_max rfl rfl ?_
 refine AL_norm TN ?_
 refine AL_move rfl ?_
 refine AL_geq rfl rfl ?_
 refine AL_assign rfl ?_
 refine AL_assign rfl ?_
 refine AL_norm TN ?_
 refine AL_nil ?_
 refine seqQ_n ?_
 refine AW_ret ?_
 refine retQ_2 (H' := H) (.inr rfl) rfl rfl SU ?_
 refine K_eq ?_ hK
 rfl

theorem query_Find_is (x : ByteArray) (hx : x.size ≤ 1000000) {k : Nat} (hk : idxQ x = (k : Int)) : PI TQ Tryz.prog 26 [strAV x] (.tup [.v (.int .i64 (k : Int)), .v (.bool true)]) := by
 rw [← findAVq_is hk]; exact query_Find_ok x hx
theorem query_Find_no (x : ByteArray) (hx : x.size ≤ 1000000) (hk : idxQ x = -1) : PI TQ Tryz.prog 26 [strAV x] (.tup [.v (.int .i64 0), .v (.bool false)]) := by
 rw [← findAVq_no hk]; exact query_Find_ok x hx

end Go.Proofs
