/- The walks of the functions, each said of plain values: no conditions but those in each statement. -/
import Derived.Test.YtcmijcfmldaiaaaGreatDoorQT1
import Derived.Test.YtcmijcfmldaiaaaGreatDoorQV
import Derived.Test.YtcmijcfmldaiaaaGreatDoorProg
set_option autoImplicit false
set_option linter.unusedVariables false
set_option linter.unusedSimpArgs false
set_option maxRecDepth 100000
set_option maxHeartbeats 4000000
namespace Go.Proofs
open Go Go.RowKit Go.AL Go.Q Go.IntWalk
attribute [local irreducible] AW AL seqQ blockQ retQ loopQ roundQ asgQ grpQ mQ qpost qpostL retQN retQM
instance sz67 : FSz Tryz.prog 67 1 := ⟨by kernel_rfl⟩
instance en73 : FEn Tryz.prog 73 := ⟨by kernel_rfl⟩
instance ze65 : FZe Tryz.prog 65 (.agg #[.string ⟨#[]⟩, .string ⟨#[]⟩, .int .i64 0, .nilFunc, .string ⟨#[]⟩, .string ⟨#[]⟩, .int .i64 0, .nilFunc, .string ⟨#[]⟩, .string ⟨#[]⟩, .int .i64 0, .nilFunc, .string ⟨#[]⟩, .string ⟨#[]⟩, .int .i64 0, .nilFunc, .string ⟨#[]⟩, .string ⟨#[]⟩, .int .i64 0, .nilFunc, .string ⟨#[]⟩, .string ⟨#[]⟩, .int .i64 0, .nilFunc, .string ⟨#[]⟩, .string ⟨#[]⟩, .int .i64 0, .nilFunc, .string ⟨#[]⟩, .string ⟨#[]⟩, .int .i64 0, .nilFunc, .string ⟨#[]⟩, .string ⟨#[]⟩, .int .i64 0, .nilFunc, .string ⟨#[]⟩, .string ⟨#[]⟩, .int .i64 0, .nilFunc, .string ⟨#[]⟩, .string ⟨#[]⟩, .int .i64 0, .nilFunc, .string ⟨#[]⟩, .string ⟨#[]⟩, .int .i64 0, .nilFunc, .string ⟨#[]⟩, .string ⟨#[]⟩, .int .i64 0, .nilFunc, .string ⟨#[]⟩, .string ⟨#[]⟩, .int .i64 0, .nilFunc, .string ⟨#[]⟩, .string ⟨#[]⟩, .int .i64 0, .nilFunc, .string ⟨#[]⟩, .string ⟨#[]⟩, .int .i64 0, .nilFunc, .string ⟨#[]⟩, .string ⟨#[]⟩, .int .i64 0, .nilFunc]) := ⟨by kernel_rfl⟩
instance sz65 : FSz Tryz.prog 65 68 := ⟨by kernel_rfl⟩
instance ze43 : FZe Tryz.prog 43 (.agg #[.string ⟨#[]⟩, .string ⟨#[]⟩, .int .i64 0]) := ⟨by kernel_rfl⟩
instance ze64 : FZe Tryz.prog 64 (.agg #[.string ⟨#[]⟩, .string ⟨#[]⟩, .int .i64 0, .nilFunc]) := ⟨by kernel_rfl⟩
instance en78 : FEn Tryz.prog 78 := ⟨by kernel_rfl⟩
instance en85 : FEn Tryz.prog 85 := ⟨by kernel_rfl⟩
instance un65 : FUn Tryz.prog 65 (.array 17 64) := ⟨by kernel_rfl⟩
instance sz64 : FSz Tryz.prog 64 4 := ⟨by kernel_rfl⟩
instance ag65 : FAg Tryz.prog 65 true := ⟨by kernel_rfl⟩
instance fl64_0 : FFl Tryz.prog 64 0 43 0 := ⟨by kernel_rfl⟩
instance sz43 : FSz Tryz.prog 43 3 := ⟨by kernel_rfl⟩
instance ag43 : FAg Tryz.prog 43 true := ⟨by kernel_rfl⟩
instance fl43_0 : FFl Tryz.prog 43 0 9 0 := ⟨by kernel_rfl⟩
instance en67 : FEn Tryz.prog 67 := ⟨by kernel_rfl⟩
instance un81 : FUn Tryz.prog 81 (.slice 64) := ⟨by kernel_rfl⟩
instance ag64 : FAg Tryz.prog 64 true := ⟨by kernel_rfl⟩
instance en35 : FEn Tryz.prog 35 := ⟨by kernel_rfl⟩
instance en65 : FEn Tryz.prog 65 := ⟨by kernel_rfl⟩

/-- quillwork/query.low -/
theorem query_low_ok (x : ByteArray) (hs : x.size ≤ 1000000) :
    PI TQ Tryz.prog 67 [strAV x] (.v (.string (Tags.lowStr x))) := by
  intro H K hT hK
  refine AC_of Tryz.func67 rfl (rs := [.tmp 2]) rfl Tryz.ntmps67 rfl ?_
  refine AW_norm TP ?_
  refine GC2 ?_
  refine GO1 ?_
  refine GC4 ?_
  refine GO1 ?_
  refine AL_callpi FEn.h XA HS (map_query x (by omega)) ?_
  refine GO1 ?_
  refine GC3 ?_
  refine retQ_1 (H' := H) (.inr rfl) rfl SU ?_
  refine K_eq ?_ hK
  rfl

/-- quillwork/query.alone -/
theorem query_alone_ok  :
    ∀ v : AV, v.mem = true → v.cells.length = 1 → PF Tryz.prog 73 [v] (.fn (.func 145) [] [.rp 67 v]) := by
  intro v hv hl H K hK
  refine AC_of Tryz.func73 rfl (rs := [.tmp 2]) rfl Tryz.ntmps73 rfl ?_
  refine AW_norm TP ?_
  refine GC2 ?_
  refine AL_box rfl hv FSz.h hl ?_
  intro b1 hb1
  refine AL_norm TN ?_
  refine AL_frzpt 1 rfl (AH.upd_same _ _ _) ?_
  refine AL_heap (AH.upd_none_eq hb1) ?_
  refine AL_norm TN ?_
  clear hb1
  refine GO1 ?_
  refine GC4 ?_
  refine AL_makeFunc (.nil) (.cons (.ev rfl) (.nil)) ?_
  refine GO1 ?_
  refine GC3 ?_
  refine retQ_1 (H' := H) (.inr rfl) rfl SU ?_
  refine K_eq ?_ hK
  rfl

/-- quillwork/query.toggle -/
theorem query_toggle_ok (b : Int) :
    PF Tryz.prog 78 [.v (.int .i64 b)] (.fn (.func 145) [] [.rp 67 (.fn (.func 154) [] [.rp 3 (.v (.int .i64 b))])]) := by
  intro H K hK
  refine AC_of Tryz.func78 rfl (rs := [.tmp 2]) rfl Tryz.ntmps78 rfl ?_
  refine AW_norm TP ?_
  refine GC2 ?_
  refine GF ?_
  refine GO1 ?_
  refine GC4 ?_
  refine AL_makeFunc (.nil) (.cons (.ev rfl) (.nil)) ?_
  refine AL_callp FEn.h XA (query_alone_ok _ rfl rfl) ?_
  refine AL_norm TN ?_
  refine GO1 ?_
  refine GC3 ?_
  refine retQ_1 (H' := H) (.inr rfl) rfl SU ?_
  refine K_eq ?_ hK
  rfl

/-- quillwork/query.list -/
theorem query_list_ok (b : Int) :
    PF Tryz.prog 85 [.v (.int .i64 b)] (.fn (.func 145) [] [.rp 67 (.fn (.func 168) [] [.rp 3 (.v (.int .i64 b))])]) := by
  intro H K hK
  refine AC_of Tryz.func85 rfl (rs := [.tmp 2]) rfl Tryz.ntmps85 rfl ?_
  refine AW_norm TP ?_
  refine GC2 ?_
  refine GF ?_
  refine GO1 ?_
  refine GC4 ?_
  refine AL_makeFunc (.nil) (.cons (.ev rfl) (.nil)) ?_
  refine AL_callp FEn.h XA (query_alone_ok _ rfl rfl) ?_
  refine AL_norm TN ?_
  refine GO1 ?_
  refine GC3 ?_
  refine retQ_1 (H' := H) (.inr rfl) rfl SU ?_
  refine K_eq ?_ hK
  rfl

/-- quillwork/query.table -/
theorem query_table_ok  :
    PF Tryz.prog 35 [] (tableAV) := by
  intro H K hK
  refine AC_of Tryz.func35 rfl (rs := [.cell 0 65]) rfl Tryz.ntmps35 rfl ?_
  refine AW_norm TP ?_
  refine GC2 ?_
  refine AL_alloc FZe.h (.agg (.v (.v (.v (.v (.v (.v (.v (.v (.v (.v (.v (.v (.v (.v (.v (.v (.v (.v (.v (.v (.v (.v (.v (.v (.v (.v (.v (.v (.v (.v (.v (.v (.v (.v (.v (.v (.v (.v (.v (.v (.v (.v (.v (.v (.v (.v (.v (.v (.v (.v (.v (.v (.v (.v (.v (.v (.v (.v (.v (.v (.v (.v (.v (.v (.v (.v (.v (.v .nil))))))))))))))))))))))))))))))))))))))))))))))))))))))))))))))))))))) rfl FSz.h rfl ?_
  intro b1 hb1
  have hn1 : H b1 = none := SubH.none SU hb1
  refine AL_norm TN ?_
  refine GC4 ?_
  refine AL_build_sf (zs := [_, _, _]) (pl := [(0, 1), (1, 1), (2, 1)]) Tryz.underlying43 FZe.h (by kernel_rfl) (.cons (.ev rfl) rfl (.cons (.ev rfl) rfl (.cons (.ev rfl) rfl (.nil)))) rfl rfl rfl ?_
  refine AL_build_sf (zs := [_, _, _, _]) (pl := [(0, 3), (3, 1)]) Tryz.underlying64 FZe.h (by kernel_rfl) (.cons (.ev rfl) rfl (.cons (.ev rfl) rfl (.nil))) rfl rfl rfl ?_
  refine AL_build_struct (zs := [_, _, _]) (pl := [(0, 1), (1, 1), (2, 1)]) Tryz.underlying43 FZe.h (.v (.v (.v .nil))) (by kernel_rfl) (.cons (.ev rfl) rfl (.cons (.ev rfl) rfl (.nil))) rfl ?_
  refine AL_norm TN ?_
  refine AL_callp FEn.h XA (query_alone_ok _ rfl rfl) ?_
  refine AL_build_sf (zs := [_, _, _, _]) (pl := [(0, 3), (3, 1)]) Tryz.underlying64 FZe.h (by kernel_rfl) (.cons (.ev rfl) rfl (.cons (.ev rfl) rfl (.nil))) rfl rfl rfl ?_
  refine AL_build_struct (zs := [_, _, _]) (pl := [(0, 1), (1, 1), (2, 1)]) Tryz.underlying43 FZe.h (.v (.v (.v .nil))) (by kernel_rfl) (.cons (.ev rfl) rfl (.cons (.ev rfl) rfl (.nil))) rfl ?_
  refine AL_callp FEn.h XA (query_alone_ok _ rfl rfl) ?_
  refine AL_norm TN ?_
  refine AL_build_sf (zs := [_, _, _, _]) (pl := [(0, 3), (3, 1)]) Tryz.underlying64 FZe.h (by kernel_rfl) (.cons (.ev rfl) rfl (.cons (.ev rfl) rfl (.nil))) rfl rfl rfl ?_
  refine AL_build_struct (zs := [_, _, _]) (pl := [(0, 1), (1, 1), (2, 1)]) Tryz.underlying43 FZe.h (.v (.v (.v .nil))) (by kernel_rfl) (.cons (.ev rfl) rfl (.cons (.ev rfl) rfl (.nil))) rfl ?_
  refine AL_callp FEn.h XA (query_alone_ok _ rfl rfl) ?_
  refine AL_build_sf (zs := [_, _, _, _]) (pl := [(0, 3), (3, 1)]) Tryz.underlying64 FZe.h (by kernel_rfl) (.cons (.ev rfl) rfl (.cons (.ev rfl) rfl (.nil))) rfl rfl rfl ?_
  refine AL_norm TN ?_
  refine AL_build_struct (zs := [_, _, _]) (pl := [(0, 1), (1, 1), (2, 1)]) Tryz.underlying43 FZe.h (.v (.v (.v .nil))) (by kernel_rfl) (.cons (.ev rfl) rfl (.cons (.ev rfl) rfl (.nil))) rfl ?_
  refine AL_callp FEn.h XA (query_alone_ok _ rfl rfl) ?_
  refine AL_build_sf (zs := [_, _, _, _]) (pl := [(0, 3), (3, 1)]) Tryz.underlying64 FZe.h (by kernel_rfl) (.cons (.ev rfl) rfl (.cons (.ev rfl) rfl (.nil))) rfl rfl rfl ?_
  refine AL_build_struct (zs := [_, _, _]) (pl := [(0, 1), (1, 1), (2, 1)]) Tryz.underlying43 FZe.h (.v (.v (.v .nil))) (by kernel_rfl) (.cons (.ev rfl) rfl (.cons (.ev rfl) rfl (.nil))) rfl ?_
  refine AL_norm TN ?_
  refine AL_callp FEn.h XA (query_toggle_ok _) ?_
  refine AL_build_sf (zs := [_, _, _, _]) (pl := [(0, 3), (3, 1)]) Tryz.underlying64 FZe.h (by kernel_rfl) (.cons (.ev rfl) rfl (.cons (.ev rfl) rfl (.nil))) rfl rfl rfl ?_
  refine AL_build_struct (zs := [_, _, _]) (pl := [(0, 1), (1, 1), (2, 1)]) Tryz.underlying43 FZe.h (.v (.v (.v .nil))) (by kernel_rfl) (.cons (.ev rfl) rfl (.cons (.ev rfl) rfl (.nil))) rfl ?_
  refine AL_callp FEn.h XA (query_toggle_ok _) ?_
  refine AL_norm TN ?_
  refine AL_build_sf (zs := [_, _, _, _]) (pl := [(0, 3), (3, 1)]) Tryz.underlying64 FZe.h (by kernel_rfl) (.cons (.ev rfl) rfl (.cons (.ev rfl) rfl (.nil))) rfl rfl rfl ?_
  refine AL_build_struct (zs := [_, _, _]) (pl := [(0, 1), (1, 1), (2, 1)]) Tryz.underlying43 FZe.h (.v (.v (.v .nil))) (by kernel_rfl) (.cons (.ev rfl) rfl (.cons (.ev rfl) rfl (.nil))) rfl ?_
  refine AL_callp FEn.h XA (query_toggle_ok _) ?_
  refine AL_build_sf (zs := [_, _, _, _]) (pl := [(0, 3), (3, 1)]) Tryz.underlying64 FZe.h (by kernel_rfl) (.cons (.ev rfl) rfl (.cons (.ev rfl) rfl (.nil))) rfl rfl rfl ?_
  refine AL_norm TN ?_
  refine AL_build_struct (zs := [_, _, _]) (pl := [(0, 1), (1, 1), (2, 1)]) Tryz.underlying43 FZe.h (.v (.v (.v .nil))) (by kernel_rfl) (.cons (.ev rfl) rfl (.cons (.ev rfl) rfl (.nil))) rfl ?_
  refine AL_callp FEn.h XA (query_toggle_ok _) ?_
  refine AL_build_sf (zs := [_, _, _, _]) (pl := [(0, 3), (3, 1)]) Tryz.underlying64 FZe.h (by kernel_rfl) (.cons (.ev rfl) rfl (.cons (.ev rfl) rfl (.nil))) rfl rfl rfl ?_
  refine AL_build_sf (zs := [_, _, _]) (pl := [(0, 1), (1, 1), (2, 1)]) Tryz.underlying43 FZe.h (by kernel_rfl) (.cons (.ev rfl) rfl (.cons (.ev rfl) rfl (.cons (.ev rfl) rfl (.nil)))) rfl rfl rfl ?_
  refine AL_norm TN ?_
  refine AL_build_sf (zs := [_, _, _, _]) (pl := [(0, 3), (3, 1)]) Tryz.underlying64 FZe.h (by kernel_rfl) (.cons (.ev rfl) rfl (.cons (.ev rfl) rfl (.nil))) rfl rfl rfl ?_
  refine AL_build_struct (zs := [_, _, _]) (pl := [(0, 1), (1, 1), (2, 1)]) Tryz.underlying43 FZe.h (.v (.v (.v .nil))) (by kernel_rfl) (.cons (.ev rfl) rfl (.cons (.ev rfl) rfl (.nil))) rfl ?_
  refine AL_callp FEn.h XA (query_alone_ok _ rfl rfl) ?_
  refine AL_build_sf (zs := [_, _, _, _]) (pl := [(0, 3), (3, 1)]) Tryz.underlying64 FZe.h (by kernel_rfl) (.cons (.ev rfl) rfl (.cons (.ev rfl) rfl (.nil))) rfl rfl rfl ?_
  refine AL_norm TN ?_
  refine AL_build_struct (zs := [_, _, _]) (pl := [(0, 1), (1, 1), (2, 1)]) Tryz.underlying43 FZe.h (.v (.v (.v .nil))) (by kernel_rfl) (.cons (.ev rfl) rfl (.cons (.ev rfl) rfl (.nil))) rfl ?_
  refine AL_callp FEn.h XA (query_alone_ok _ rfl rfl) ?_
  refine AL_build_sf (zs := [_, _, _, _]) (pl := [(0, 3), (3, 1)]) Tryz.underlying64 FZe.h (by kernel_rfl) (.cons (.ev rfl) rfl (.cons (.ev rfl) rfl (.nil))) rfl rfl rfl ?_
  refine AL_build_sf (zs := [_, _, _]) (pl := [(0, 1), (1, 1), (2, 1)]) Tryz.underlying43 FZe.h (by kernel_rfl) (.cons (.ev rfl) rfl (.cons (.ev rfl) rfl (.cons (.ev rfl) rfl (.nil)))) rfl rfl rfl ?_
  refine AL_norm TN ?_
  refine AL_build_sf (zs := [_, _, _, _]) (pl := [(0, 3), (3, 1)]) Tryz.underlying64 FZe.h (by kernel_rfl) (.cons (.ev rfl) rfl (.cons (.ev rfl) rfl (.nil))) rfl rfl rfl ?_
  refine AL_build_struct (zs := [_, _, _]) (pl := [(0, 1), (1, 1), (2, 1)]) Tryz.underlying43 FZe.h (.v (.v (.v .nil))) (by kernel_rfl) (.cons (.ev rfl) rfl (.cons (.ev rfl) rfl (.nil))) rfl ?_
  refine AL_callp FEn.h XA (query_alone_ok _ rfl rfl) ?_
  refine AL_build_sf (zs := [_, _, _, _]) (pl := [(0, 3), (3, 1)]) Tryz.underlying64 FZe.h (by kernel_rfl) (.cons (.ev rfl) rfl (.cons (.ev rfl) rfl (.nil))) rfl rfl rfl ?_
  refine AL_norm TN ?_
  refine AL_build_struct (zs := [_, _, _]) (pl := [(0, 1), (1, 1), (2, 1)]) Tryz.underlying43 FZe.h (.v (.v (.v .nil))) (by kernel_rfl) (.cons (.ev rfl) rfl (.cons (.ev rfl) rfl (.nil))) rfl ?_
  refine AL_callp FEn.h XA (query_alone_ok _ rfl rfl) ?_
  refine AL_build_sf (zs := [_, _, _, _]) (pl := [(0, 3), (3, 1)]) Tryz.underlying64 FZe.h (by kernel_rfl) (.cons (.ev rfl) rfl (.cons (.ev rfl) rfl (.nil))) rfl rfl rfl ?_
  refine AL_build_struct (zs := [_, _, _]) (pl := [(0, 1), (1, 1), (2, 1)]) Tryz.underlying43 FZe.h (.v (.v (.v .nil))) (by kernel_rfl) (.cons (.ev rfl) rfl (.cons (.ev rfl) rfl (.nil))) rfl ?_
  refine AL_norm TN ?_
  refine AL_callp FEn.h XA (query_list_ok _) ?_
  refine AL_build_sf (zs := [_, _, _, _]) (pl := [(0, 3), (3, 1)]) Tryz.underlying64 FZe.h (by kernel_rfl) (.cons (.ev rfl) rfl (.cons (.ev rfl) rfl (.nil))) rfl rfl rfl ?_
  refine AL_build_struct (zs := [_, _, _]) (pl := [(0, 1), (1, 1), (2, 1)]) Tryz.underlying43 FZe.h (.v (.v (.v .nil))) (by kernel_rfl) (.cons (.ev rfl) rfl (.cons (.ev rfl) rfl (.nil))) rfl ?_
  refine AL_callp FEn.h XA (query_list_ok _) ?_
  refine AL_norm TN ?_
  refine AL_build_sf (zs := [_, _, _, _]) (pl := [(0, 3), (3, 1)]) Tryz.underlying64 FZe.h (by kernel_rfl) (.cons (.ev rfl) rfl (.cons (.ev rfl) rfl (.nil))) rfl rfl rfl ?_
  refine AL_build_af (zs := [_, _, _, _, _, _, _, _, _, _, _, _, _, _, _, _, _, _, _, _, _, _, _, _, _, _, _, _, _, _, _, _, _, _, _, _, _, _, _, _, _, _, _, _, _, _, _, _, _, _, _, _, _, _, _, _, _, _, _, _, _, _, _, _, _, _, _, _]) FUn.h FZe.h FSz.h (.cons (.ev rfl) rfl (.cons (.ev rfl) rfl (.cons (.ev rfl) rfl (.cons (.ev rfl) rfl (.cons (.ev rfl) rfl (.cons (.ev rfl) rfl (.cons (.ev rfl) rfl (.cons (.ev rfl) rfl (.cons (.ev rfl) rfl (.cons (.ev rfl) rfl (.cons (.ev rfl) rfl (.cons (.ev rfl) rfl (.cons (.ev rfl) rfl (.cons (.ev rfl) rfl (.cons (.ev rfl) rfl (.cons (.ev rfl) rfl (.cons (.ev rfl) rfl (.nil)))))))))))))))))) rfl rfl rfl ?_
  refine GW ?_
  refine AL_norm TN ?_
  refine GC3 ?_
  first | refine retQ_cw (H' := H) (.inr rfl) FSz.h rfl LK (by exact FAg.h) (by exact rfl) SU ?_ | refine retQ_c (H' := H) (.inr rfl) FAg.h FSz.h FSz.h (by decide) rfl LK (by exact rfl) (by exact rfl) (by exact rfl) SU ?_
  refine K_eq ?_ hK
  rfl

/-- quillwork/query.Find$1 -/
theorem query_Find_1_ok (i : Nat) (x : ByteArray) (hx : x.size ≤ 1000000) :
    PI TQ Tryz.prog 66 [rowAV i, .rp 9 (.v (.string x))] (.v (.bool (nameEq i x))) := by
  intro H K hT hK
  refine AC_of Tryz.func66 rfl (rs := [.tmp 3]) rfl Tryz.ntmps66 rfl ?_
  refine AW_norm TP ?_
  refine GC2 ?_
  refine AL_box rfl (rowAV_mem i) FSz.h rfl ?_
  intro b1 hb1
  refine AL_norm TN ?_
  refine AL_frzpt 2 rfl (AH.upd_same _ _ _) ?_
  refine AL_heap (AH.upd_none_eq hb1) ?_
  refine AL_norm TN ?_
  clear hb1
  refine GO1 ?_
  refine GC3 ?_
  refine' AW_drawl (xs := [_, _, _, _, _, _, _, _]) (by kernel_rfl) ?hops1 ?_
  case hops1 =>
    refine GH3 ?_
    refine Hops_cons (fun T hl hr => ?_) ?_
    · skip
      refine AL_callpi FEn.h (.cons (.ev ((hr 6 (by kernel_rfl)).trans rfl)) (.nil)) HS (query_low_ok (nameQ i) (nameQ_size i)) ?_
      refine AL_nil ?_
      refine qpost_mk ?_
      exact Weak.refl _
    refine Hops_norm TO ?_
    refine GH1 ?_
    refine Hops_cons (fun T hl hr => ?_) ?_
    · skip
      refine AL_callpi FEn.h (.cons (.ev ((hr 8 (by kernel_rfl)).trans rfl)) (.nil)) HS (query_low_ok x hx) ?_
      refine AL_nil ?_
      refine qpost_mk ?_
      exact Weak.refl _
    refine Hops_norm TO ?_
    refine Hops_cons (fun T hl hr => ?_) ?_
    · skip
      refine AL_seql ((hr 7 (by kernel_rfl)).trans rfl) ((hr 9 (by kernel_rfl)).trans rfl) ?_
      refine AL_nil ?_
      refine qpost_mk ?_
      exact Weak.refl _
    refine Hops_norm TO ?_
    refine GH1 ?_
    exact Hops_nil
  refine Q_norm (by first | (simp only [Tfin, tput, anyAt, setAll, List.foldl_cons, List.foldl_nil, List.set_cons_zero, List.set_cons_succ]; rfl) | rfl) ?_
  refine GC2 ?_
  refine retQ_1 (H' := H) (.inr rfl) rfl SU ?_
  refine K_eq ?_ hK
  exact congrArg (fun b => AV.v (.bool b)) (low_name i x)

/-- slices.IndexFunc[[]quillwork/query.row,quillwork/query.row] -/
theorem slices_IndexFunc_query_row_query_row_ok  :
    ∀ (I : AH → Prop) (p : Nat → Bool) (zs : List Nat) (f : FuncId) (cps : List AV), zs.length ≤ 1000000 → entersOf Tryz.prog f = true → (∀ c ∈ zs, PI I Tryz.prog f (rowAV c :: cps) (.v (.bool (p c)))) → PI I Tryz.prog 65 [.sl 64 (zs.map rowAV), .fn (.func f) [] cps] (.v (.int .i64 (idxI p zs))) := by
  intro I p zs f cps hlen hen hf H K hT hK
  refine AC_of Tryz.func65 rfl (rs := [.tmp 4]) rfl Tryz.ntmps65 rfl ?_
  refine AW_norm TP ?_
  refine GC2 ?_
  refine GO1 ?_
  refine GC5 ?_
  refine GO3 ?_
  refine GC2 ?_
  refine AW_block ?_
  refine AW_loops (α := Nat) [4, 5, 8, 9, 10, 11, 12, 13, 14, 15, 16, 17, 18] (fun i => [(8, .v (.int .i64 (i : Int)))]) (fun i => H) (fun i => i ≤ zs.length ∧ ∀ j, j < i → p (zs.getD j 0) = false) (fun i => zs.length - i) (0) ?_ ?_ ?_ ?_
  · exact ⟨Nat.zero_le _, fun j hj => absurd hj (Nat.not_lt_zero j)⟩
  · repeat (first | exact SubH.refl _ | assumption | refine SubH.new ?_ (by assumption))
  · skip
    exact WK
  · intro i hI
    refine AW_norm TN ?_
    refine GC2 ?_
    refine GO1 ?_
    refine GC3 ?_
    refine GI rfl (fun hc1 => ?_) (fun hc1 => ?_)
    ·
      refine GC3 ?_
      refine AW_block ?_
      refine GC2 ?_
      refine GO2 ?_
      refine GC4 ?_
      refine GO3 ?_
      first | refine AL_indexAddr_sl (y := rowAV (zs.getD i 0)) FUn.h FSz.h (by decide) rfl rfl ?_ ?_ ?_ ?_ | refine AL_indexAddr_own FUn.h FSz.h rfl rfl ?_ ?_ ?_
      · omega
      · simp only [List.length_map]; omega
      · exact map_getD 0 (i := i) (by omega)
      refine GO1 ?_
      refine AL_callv rfl hen (.cons (.ev rfl) .nil) (hf _ (getD_mem 0 (i := i) (by omega)) H (fun x H1 => x = .v (.bool (p (zs.getD i 0))) ∧ H = H1) hT ⟨rfl, rfl⟩) ?_; rintro _ _ ⟨rfl, rfl⟩
      refine AL_norm TN ?_
      refine GC2 ?_
      refine GI rfl (fun hc2 => ?_) (fun hc2 => ?_)
      ·
        refine GC2 ?_
        refine GO2 ?_
        refine GC5 ?_
        refine loopQ_r ?_
        refine GC2 ?_
        refine retQ_1 (H' := H) (.inr rfl) rfl SU ?_
        refine K_eq ?_ hK
        exact congrArg (fun z => AV.v (.int .i64 z)) (idxI_some (d := 0) (by omega) hc2 hI.2).symm
      ·
        refine GC4 ?_
        refine AL_addz rfl rfl (((i + 1 : Nat) : Int)) (by exact inc64 (by omega)) ?_
        refine GO1 ?_
        refine GC1 ?_
        refine loopQ_n (i + 1) ?_ ?_ ?_ ?_
        · exact ⟨by omega, upto_no2 hI.2 hc2⟩
        · omega
        · repeat (first | exact SubH.refl _ | assumption | refine SubH.new ?_ (by assumption))
        · skip
          exact WK
    ·
      refine GC2 ?_
      refine loopQ_x ?_
      refine GC4 ?_
      refine GO1 ?_
      refine GC3 ?_
      refine retQ_1 (H' := H) (.inr rfl) rfl SU ?_
      refine K_eq ?_ hK
      exact congrArg (fun z => AV.v (.int .i64 z)) (idxI_none (d := 0) (i := i) (by omega) hI.2).symm

/-- quillwork/query.Find -/
theorem query_Find_ok (x : ByteArray) (hx : x.size ≤ 1000000) :
    PI TQ Tryz.prog 26 [strAV x] (findAVq x) := by
  intro H K hT hK
  refine AC_of Tryz.func26 rfl (rs := [.tmp 2, .tmp 3]) rfl Tryz.ntmps26 rfl ?_
  refine AW_norm TP ?_
  refine GC2 ?_
  refine GF ?_
  refine GO2 ?_
  refine GC4 ?_
  refine AL_callp FEn.h XA (query_table_ok) ?_
  refine AL_norm TN ?_
  refine AL_alloc FZe.h (.agg (.v (.v (.v (.v (.v (.v (.v (.v (.v (.v (.v (.v (.v (.v (.v (.v (.v (.v (.v (.v (.v (.v (.v (.v (.v (.v (.v (.v (.v (.v (.v (.v (.v (.v (.v (.v (.v (.v (.v (.v (.v (.v (.v (.v (.v (.v (.v (.v (.v (.v (.v (.v (.v (.v (.v (.v (.v (.v (.v (.v (.v (.v (.v (.v (.v (.v (.v (.v .nil))))))))))))))))))))))))))))))))))))))))))))))))))))))))))))))))))))) rfl FSz.h rfl ?_
  intro b2 hb2
  have hn2 : H b2 = none := SubH.none SU hb2
  refine GW ?_
  refine AL_norm TN ?_
  refine AL_frzpt 4 rfl (AH.upd_same _ _ _) ?_; refine AL_heap (AH.upd_none_eq hb2) ?_; clear hb2
  refine AL_norm TN ?_
  refine AL_norm TN ?_
  refine GC4 ?_
  refine AL_slice_arr (xs := rowsAV) FUn.h FSz.h rfl rfl rfl rfl ?_
  refine AL_makeFunc (.nil) (.cons (.ev rfl) (.nil)) ?_
  refine AL_norm TN ?_
  refine AL_callpi FEn.h XA HS (slices_IndexFunc_query_row_query_row_ok TQ (fun i => nameEq i x) (List.range 17) 66 _ (by decide) FEn.h (fun i _ => query_Find_1_ok i x hx)) ?_
  refine GO1 ?_
  refine GC4 ?_
  refine GO1 ?_
  refine AL_max rfl rfl ?_
  refine AL_norm TN ?_
  refine GO4 ?_
  refine GC3 ?_
  refine retQ_2 (H' := H) (.inr rfl) rfl rfl SU ?_
  refine K_eq ?_ hK
  rfl

theorem query_Find_is (x : ByteArray) (hx : x.size ≤ 1000000) {k : Nat} (hk : idxQ x = (k : Int)) : PI TQ Tryz.prog 26 [strAV x] (.tup [.v (.int .i64 (k : Int)), .v (.bool true)]) := by
  rw [← findAVq_is hk]; exact query_Find_ok x hx
theorem query_Find_no (x : ByteArray) (hx : x.size ≤ 1000000) (hk : idxQ x = -1) : PI TQ Tryz.prog 26 [strAV x] (.tup [.v (.int .i64 0), .v (.bool false)]) := by
  rw [← findAVq_no hk]; exact query_Find_ok x hx

end Go.Proofs
