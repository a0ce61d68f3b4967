/- The given statement of the law: for every input the law answers true. No conditions of our own. -/
import Derived.Test.YtcmijcfmldaiaaaGreatDoorQG
import Derived.Test.YtcmijcfmldaiaaaGreatDoorQKa
import Derived.Test.YtcmijcfmldaiaaaGreatDoorProg
set_option autoImplicit false
set_option linter.unusedVariables false
set_option linter.unusedSimpArgs false
set_option maxRecDepth 100000
set_option maxHeartbeats 4000000
namespace Go.Proofs
open Go Go.RowKit Go.AL Go.Q Go.IntWalk
theorem eqPos (a b : Q.Pos) (w : World) : (Op.equalIn 10000 24 (.agg [Value.int .i64 a.line, .int .i64 a.col].toArray) (.agg [Value.int .i64 b.line, .int .i64 b.col].toArray)).run Tryz.prog w = .ok (decide (a = b)) w := by
 have hS : Tryz.prog.underlying 24 = some (.struct (Tryz.prog.fieldsOf 24)) := by kernel_rfl
 have hp : Tryz.prog.stoodInHeld 24 = false := by kernel_rfl
 have a3 : ∀ w, (isAgg 3).run Tryz.prog w = .ok false w := fun w => run_isAgg' (by kernel_rfl) w
 have u3 := Tryz.underlying3
 rw [show (10000 : Nat) = 9999 + 1 from rfl, run_equalIn_agg w 9999 24 _ _ hS hp]
 simp only [Program.fieldsOf, Tryz.underlying24]
 go_simp
 by_cases h1 : a.line = b.line <;> by_cases h2 : a.col = b.col <;> simp [h1, h2, pos_ext]
theorem en292 : entersOf Tryz.prog 292 = true := by kernel_rfl
theorem en283 : entersOf Tryz.prog 283 = true := by kernel_rfl
theorem ze207 : zeroOf Tryz.prog 207 = some (.agg #[.int .i64 0, .int .i64 0, .int .i64 0, .int .i64 0]) := by kernel_rfl
theorem sz207 : szOf Tryz.prog 207 = some 4 := by kernel_rfl
theorem un207 : Tryz.prog.underlying 207 = some (.array 4 3) := by kernel_rfl
theorem ag207 : aggOf Tryz.prog 207 = some true := by kernel_rfl
theorem eg24 : Tryz.prog.eqGuardType Tryz.prog.depth 24 = false := by kernel_rfl
theorem fl26_3 : fldOf Tryz.prog 26 3 = some (3, 5) := by kernel_rfl
theorem fl26_4 : fldOf Tryz.prog 26 4 = some (3, 6) := by kernel_rfl
theorem en229 : entersOf Tryz.prog 229 = true := by kernel_rfl
theorem en23 : entersOf Tryz.prog 23 = true := by kernel_rfl
theorem en114 : entersOf Tryz.prog 114 = true := by kernel_rfl
theorem en117 : entersOf Tryz.prog 117 = true := by kernel_rfl
theorem en162 : entersOf Tryz.prog 162 = true := by kernel_rfl
theorem en115 : entersOf Tryz.prog 115 = true := by kernel_rfl
theorem en116 : entersOf Tryz.prog 116 = true := by kernel_rfl

/-- slices.Index[[]int,int] -/
theorem slices_Index_int_int_ok (zs : List Int) (v : Int) (hz : zs.length ≤ 1000) :
  PF Tryz.prog 283 [.sl 3 (zs.map intAV), .v (.int .i64 v)] (.v (.int .i64 (idxI (fun x => decide (v = x)) zs))) := by
 intro H K hK
 refine AC_of Tryz.func283 rfl (rs := [.tmp 4]) rfl Tryz.ntmps283 rfl ?_
 refine AW_norm TP ?_
 refine AW_seq ?_
 refine AW_region ?_
 refine AL_assign rfl ?_
 refine AL_norm TN ?_
 refine AL_nil ?_
 refine seqQ_n ?_
 refine AW_seq ?_
 refine AW_seq ?_
 refine AW_region ?_
 refine AL_move rfl ?_
 first | refine AL_len_sl un52 rfl ?_ | refine AL_len_own un52 rfl ?_
 refine AL_move rfl ?_
 refine AL_norm TN ?_
 refine AL_nil ?_
 refine seqQ_n ?_
 refine AW_block ?_
 refine AW_loops (α := Nat) [4, 5, 8, 9, 10, 11, 12, 13, 14, 15, 16, 17, 18] (fun i => [(8, .v (.int .i64 (i : Int)))]) (fun i => H) (fun i => i ≤ zs.length ∧ ∀ j, j < i → decide (v = zs.getD j 0) = false) (fun i => zs.length - i) (0) ?_ ?_ ?_ ?_
 · exact ⟨Nat.zero_le _, fun j hj => absurd hj (Nat.not_lt_zero j)⟩
 · repeat (first | exact SubH.refl _ | assumption | refine SubH.new ?_ (by assumption))
 · skip
  try simp only [tput, anyAt, setAll, List.foldl_cons, List.foldl_nil, List.set_cons_zero, List.set_cons_succ]
  repeat (first | exact Weak.nil | refine Weak.cons ?_ | refine Weak.consAny ?_)
 · intro i hI
  refine AW_norm TN ?_
  refine AW_seq ?_
  refine AW_region ?_
  refine AL_lss rfl rfl ?_
  refine AL_norm TN ?_
  refine AL_nil ?_
  refine seqQ_n ?_
  refine AW_seq ?_
  refine AW_cond rfl (fun hc1 => ?_) (fun hc1 => ?_)
  · try simp only [Bool.or_eq_true, Bool.and_eq_true, Bool.or_eq_false_iff, Bool.and_eq_false_iff, decide_eq_true_eq, decide_eq_false_iff_not, Bool.not_eq_true', Bool.not_eq_false', beq_iff_eq, ne_eq, Decidable.not_not, List.length_map] at hc1
   refine AW_skip ?_
   refine seqQ_n ?_
   refine AW_seq ?_
   refine AW_block ?_
   refine AW_seq ?_
   refine AW_region ?_
   refine AL_move rfl ?_
   refine AL_norm TN ?_
   refine AL_assign rfl ?_
   refine AL_norm TN ?_
   refine AL_nil (seqQ_n (AW_seq (AW_region ?_)))
   refine AL_move rfl ?_
   refine AL_move rfl ?_
   refine AL_move rfl ?_
   refine AL_norm TN ?_
   first | refine AL_indexAddr_sl (y := intAV (zs.getD i 0)) un52 sz3 (by decide) rfl rfl ?_ ?_ ?_ ?_ | refine AL_indexAddr_own un52 sz3 rfl rfl ?_ ?_ ?_
   · omega
   · simp only [List.length_map]; omega
   · exact map_getD 0 (i := i) (by omega)
   first | refine AL_load_rp sz3 rfl ag3 ?_ | refine AL_loadw sz3 rfl LK (by exact ag3) (by exact rfl) ?_ | refine AL_load_pt ag3 sz3 (by decide) rfl LK (by first | assumption | exact sz3 | exact sz57 | exact sz60 | exact sz21 | exact sz9 | exact sz52 | exact sz58 | exact sz24 | exact sz26 | exact sz22 | exact sz127 | exact sz223 | exact sz213 | exact sz207) (by exact rfl) (by exact rfl) (by exact rfl) ?_
   refine AL_eql rfl rfl ?_
   refine AL_norm TN ?_
   refine AL_nil ?_
   refine seqQ_n ?_
   refine AW_cond rfl (fun hc2 => ?_) (fun hc2 => ?_)
   · try simp only [Bool.or_eq_true, Bool.and_eq_true, Bool.or_eq_false_iff, Bool.and_eq_false_iff, decide_eq_true_eq, decide_eq_false_iff_not, Bool.not_eq_true', Bool.not_eq_false', beq_iff_eq, ne_eq, Decidable.not_not, List.length_map] at hc2
    refine AW_seq ?_
    refine AW_region ?_
    refine AL_move rfl ?_
    refine AL_norm TN ?_
    refine AL_assign rfl ?_
    refine AL_norm TN ?_
    refine AL_nil ?_
    refine seqQ_n ?_
    refine AW_ret ?_
    refine blockQ_r ?_
    refine seqQ_r ?_
    refine loopQ_r ?_
    refine blockQ_r ?_
    refine seqQ_r ?_
    refine retQ_1 (H' := H) (.inr rfl) rfl SU ?_
    refine K_eq ?_ hK
    exact congrArg (fun z => AV.v (.int .i64 z)) (idxI_some (p := fun x => decide (v = x)) (l := zs) (d := 0) (by omega) (decide_eq_true hc2) hI.2).symm
   · try simp only [Bool.or_eq_true, Bool.and_eq_true, Bool.or_eq_false_iff, Bool.and_eq_false_iff, decide_eq_true_eq, decide_eq_false_iff_not, Bool.not_eq_true', Bool.not_eq_false', beq_iff_eq, ne_eq, Decidable.not_not, List.length_map] at hc2
    refine AW_skip ?_
    refine blockQ_n ?_
    refine seqQ_n ?_
    refine AW_region ?_
    refine AL_addz rfl rfl (((i + 1 : Nat) : Int)) (by exact inc64 (by omega)) ?_
    refine AL_move rfl ?_
    refine AL_norm TN ?_
    refine AL_nil ?_
    refine loopQ_n (i + 1) ?_ ?_ ?_ ?_
    · exact ⟨by omega, upto_no2 (p := fun x => decide (v = x)) hI.2 (decide_eq_false hc2)⟩
    · omega
    · repeat (first | exact SubH.refl _ | assumption | refine SubH.new ?_ (by assumption))
    · skip
     try simp only [tput, anyAt, setAll, List.foldl_cons, List.foldl_nil, List.set_cons_zero, List.set_cons_succ]
     repeat (first | exact Weak.nil | refine Weak.cons ?_ | refine Weak.consAny ?_)
  · try simp only [Bool.or_eq_true, Bool.and_eq_true, Bool.or_eq_false_iff, Bool.and_eq_false_iff, decide_eq_true_eq, decide_eq_false_iff_not, Bool.not_eq_true', Bool.not_eq_false', beq_iff_eq, ne_eq, Decidable.not_not, List.length_map] at hc1
   refine AW_exit ?_
   refine seqQ_x ?_
   refine loopQ_x ?_
   refine blockQ_hit ?_
   refine seqQ_n ?_
   refine AW_seq ?_
   refine AW_region ?_
   refine AL_assign rfl ?_
   refine AL_norm TN ?_
   refine AL_nil ?_
   refine seqQ_n ?_
   refine AW_ret ?_
   refine retQ_1 (H' := H) (.inr rfl) rfl SU ?_
   refine K_eq ?_ hK
   exact congrArg (fun z => AV.v (.int .i64 z)) (idxI_none (p := fun x => decide (v = x)) (l := zs) (d := 0) (i := i) (by omega) hI.2).symm

/-- slices.Contains[[]int,int] -/
theorem slices_Contains_int_int_ok (zs : List Int) (v : Int) (hz : zs.length ≤ 1000) :
  PF Tryz.prog 241 [.sl 3 (zs.map intAV), .v (.int .i64 v)] (.v (.bool (zs.any fun x => decide (v = x)))) := by
 intro H K hK
 refine AC_of Tryz.func241 rfl (rs := [.tmp 4]) rfl Tryz.ntmps241 rfl ?_
 refine AW_norm TP ?_
 refine AW_seq ?_
 refine AW_region ?_
 refine AL_assign rfl ?_
 refine AL_norm TN ?_
 refine AL_nil (seqQ_n (AW_seq (AW_region ?_)))
 refine AL_move rfl ?_
 refine AL_move rfl ?_
 refine AL_callp en283 (.cons (.ev rfl) (.cons (.ev rfl) (.nil))) (slices_Index_int_int_ok zs v hz) ?_
 refine AL_norm TN ?_
 refine AL_geq rfl rfl ?_
 refine AL_assign rfl ?_
 refine AL_norm TN ?_
 refine AL_nil ?_
 refine seqQ_n ?_
 refine AW_ret ?_
 refine retQ_1 (H' := H) (.inr rfl) rfl SU ?_
 refine K_eq ?_ hK
 exact congrArg (fun b => AV.v (.bool b)) (idxI_any _ zs)

/-- quillwork/styling.toggled -/
theorem styling_toggled_ok  :
  PF Tryz.prog 240 [] (.ag [.v (.int .i64 1), .v (.int .i64 2), .v (.int .i64 4), .v (.int .i64 8)]) := by
 intro H K hK
 refine AC_of Tryz.func240 rfl (rs := [.cell 0 207]) rfl Tryz.ntmps240 rfl ?_
 refine AW_norm TP ?_
 refine AW_seq ?_
 refine AW_region ?_
 refine AL_alloc ze207 (.agg (.v (.v (.v (.v .nil))))) rfl sz207 rfl ?_
 intro b1 hb1
 have hn1 : H b1 = none := SubH.none SU hb1
 refine AL_norm TN ?_
 refine AL_nil (seqQ_n (AW_seq (AW_region ?_)))
 refine AL_build_af (zs := [_, _, _, _]) un207 ze207 sz3 (.cons (.ev rfl) rfl (.cons (.ev rfl) rfl (.cons (.ev rfl) rfl (.cons (.ev rfl) rfl (.nil))))) rfl rfl rfl ?_
 first | refine AL_store_w sz207 rfl (.ev rfl) rfl LK rfl (by exact rfl) ?_ | refine AL_store rfl (.ev rfl) rfl LK (by first | assumption | exact sz3 | exact sz57 | exact sz60 | exact sz21 | exact sz9 | exact sz52 | exact sz58 | exact sz24 | exact sz26 | exact sz22 | exact sz127 | exact sz223 | exact sz213 | exact sz207) (by exact rfl) sz207 rfl (by decide) (fun h => by first | (cases h; done) | exact ⟨rfl, rfl, rfl⟩) ?_
 refine AL_heap (by first | (simp only [AH.upd_upd]; rfl) | rfl) ?_
 refine AL_norm TN ?_
 refine AL_nil ?_
 refine seqQ_n ?_
 refine AW_ret ?_
 first | refine retQ_cw (H' := H) (.inr rfl) sz207 rfl LK (by exact ag207) (by exact rfl) SU ?_ | refine retQ_c (H' := H) (.inr rfl) ag207 sz207 (by first | assumption | exact sz3 | exact sz57 | exact sz60 | exact sz21 | exact sz9 | exact sz52 | exact sz58 | exact sz24 | exact sz26 | exact sz22 | exact sz127 | exact sz223 | exact sz213 | exact sz207) (by decide) rfl LK (by exact rfl) (by exact rfl) (by exact rfl) SU ?_
 refine K_eq ?_ hK
 rfl

/-- quillwork/styling.open -/
theorem styling_open_ok (s : Q.St) :
  PF Tryz.prog 115 [stAV s] (.v (.bool (decide (s.a ≠ s.f)))) := by
 intro H K hK
 refine AC_of Tryz.func115 rfl (rs := [.tmp 2]) rfl Tryz.ntmps115 rfl ?_
 refine AW_norm TP ?_
 refine AW_seq ?_
 refine AW_region ?_
 refine AL_box rfl rfl sz26 rfl ?_
 intro b1 hb1
 refine AL_norm TN ?_
 refine AL_frzpt 1 rfl (AH.upd_same _ _ _) ?_
 refine AL_heap (AH.upd_none_eq hb1) ?_
 refine AL_norm TN ?_
 clear hb1
 refine AL_assign rfl ?_
 refine AL_norm TN ?_
 refine AL_nil (seqQ_n (AW_seq (AW_region ?_)))
 first | refine AL_fieldAddr_pt fl26_1 sz24 (by decide) rfl ?_ | refine AL_fieldAddr_rp fl26_1 ag24 sz24 (by decide) (by decide) rfl rfl (fun h => by first | rfl | cases h) ?_
 first | refine AL_load_rp sz24 rfl ag24 ?_ | refine AL_loadw sz24 rfl LK (by exact ag24) (by exact rfl) ?_ | refine AL_load_pt ag24 sz24 (by decide) rfl LK (by first | assumption | exact sz3 | exact sz57 | exact sz60 | exact sz21 | exact sz9 | exact sz52 | exact sz58 | exact sz24 | exact sz26 | exact sz22 | exact sz127 | exact sz223 | exact sz213 | exact sz207) (by exact rfl) (by exact rfl) (by exact rfl) ?_
 refine AL_norm TN ?_
 first | refine AL_fieldAddr_pt fl26_2 sz24 (by decide) rfl ?_ | refine AL_fieldAddr_rp fl26_2 ag24 sz24 (by decide) (by decide) rfl rfl (fun h => by first | rfl | cases h) ?_
 first | refine AL_load_rp sz24 rfl ag24 ?_ | refine AL_loadw sz24 rfl LK (by exact ag24) (by exact rfl) ?_ | refine AL_load_pt ag24 sz24 (by decide) rfl LK (by first | assumption | exact sz3 | exact sz57 | exact sz60 | exact sz21 | exact sz9 | exact sz52 | exact sz58 | exact sz24 | exact sz26 | exact sz22 | exact sz127 | exact sz223 | exact sz213 | exact sz207) (by exact rfl) (by exact rfl) (by exact rfl) ?_
 refine AL_nest (vs := [Value.int .i64 s.a.line, .int .i64 s.a.col]) (us := [Value.int .i64 s.f.line, .int .i64 s.f.col]) (b := decide (s.a = s.f)) rfl rfl eg24 (eqPos s.a s.f) ?_
 refine AL_assign rfl ?_
 refine AL_norm TN ?_
 refine AL_nil ?_
 refine seqQ_n ?_
 refine AW_ret ?_
 refine retQ_1 (H' := H) (.inr rfl) rfl SU ?_
 refine K_eq ?_ hK
 exact congrArg (fun b => AV.v (.bool b)) (open_mk s)

/-- quillwork/typing.May -/
theorem typing_May_ok (s : Q.St) (hs : SS s) :
  PI TQ Tryz.prog 23 [stAV s] (.v (.bool (stOK s))) := by
 intro H K hT hK
 refine AC_of Tryz.func23 rfl (rs := [.tmp 2]) rfl Tryz.ntmps23 rfl ?_
 refine AW_norm TP ?_
 refine AW_seq ?_
 refine AW_region ?_
 refine AL_box rfl rfl sz26 rfl ?_
 intro b1 hb1
 refine AL_norm TN ?_
 refine AL_frzpt 1 rfl (AH.upd_same _ _ _) ?_
 refine AL_heap (AH.upd_none_eq hb1) ?_
 refine AL_norm TN ?_
 clear hb1
 refine AL_assign rfl ?_
 refine AL_norm TN ?_
 refine AL_nil (seqQ_n (AW_seq (AW_region ?_)))
 first | refine AL_fieldAddr_pt fl26_0 sz22 (by decide) rfl ?_ | refine AL_fieldAddr_rp fl26_0 ag22 sz22 (by decide) (by decide) rfl rfl (fun h => by first | rfl | cases h) ?_
 first | refine AL_load_rp sz22 rfl ag22 ?_ | refine AL_loadw sz22 rfl LK (by exact ag22) (by exact rfl) ?_ | refine AL_load_pt ag22 sz22 (by decide) rfl LK (by first | assumption | exact sz3 | exact sz57 | exact sz60 | exact sz21 | exact sz9 | exact sz52 | exact sz58 | exact sz24 | exact sz26 | exact sz22 | exact sz127 | exact sz223 | exact sz213 | exact sz207) (by exact rfl) (by exact rfl) (by exact rfl) ?_
 refine AL_norm TN ?_
 refine AL_callpi en63 (.cons (.ev rfl) (.nil)) HS (doc_May_ok s.lines hs.1) ?_
 refine AL_move rfl ?_
 refine AL_and (j := 3) (n := 5) (c := 6) (t := 11) (r := 12) (v := ?v1) [7, 8, 9, 10, 11] rfl rfl rfl rfl rfl rfl rfl (fun hg1 => ?_) ?_; rotate_left
 · simp only [List.take_succ_cons, List.take_zero, List.map_cons, List.map_nil, strip, Nat.reduceBEq, beq_self_eq_true, Bool.and_self, Bool.true_and, Bool.false_and, cond_true, cond_false]
  try simp only [Bool.or_eq_true, Bool.and_eq_true, Bool.or_eq_false_iff, Bool.and_eq_false_iff, decide_eq_true_eq, decide_eq_false_iff_not, Bool.not_eq_true', Bool.not_eq_false', beq_iff_eq, ne_eq, Decidable.not_not, List.length_map] at hg1
  first | refine AL_fieldAddr_pt fl26_0 sz22 (by decide) rfl ?_ | refine AL_fieldAddr_rp fl26_0 ag22 sz22 (by decide) (by decide) rfl rfl (fun h => by first | rfl | cases h) ?_
  first | refine AL_load_rp sz22 rfl ag22 ?_ | refine AL_loadw sz22 rfl LK (by exact ag22) (by exact rfl) ?_ | refine AL_load_pt ag22 sz22 (by decide) rfl LK (by first | assumption | exact sz3 | exact sz57 | exact sz60 | exact sz21 | exact sz9 | exact sz52 | exact sz58 | exact sz24 | exact sz26 | exact sz22 | exact sz127 | exact sz223 | exact sz213 | exact sz207) (by exact rfl) (by exact rfl) (by exact rfl) ?_
  refine AL_norm TN ?_
  first | refine AL_fieldAddr_pt fl26_1 sz24 (by decide) rfl ?_ | refine AL_fieldAddr_rp fl26_1 ag24 sz24 (by decide) (by decide) rfl rfl (fun h => by first | rfl | cases h) ?_
  first | refine AL_load_rp sz24 rfl ag24 ?_ | refine AL_loadw sz24 rfl LK (by exact ag24) (by exact rfl) ?_ | refine AL_load_pt ag24 sz24 (by decide) rfl LK (by first | assumption | exact sz3 | exact sz57 | exact sz60 | exact sz21 | exact sz9 | exact sz52 | exact sz58 | exact sz24 | exact sz26 | exact sz22 | exact sz127 | exact sz223 | exact sz213 | exact sz207) (by exact rfl) (by exact rfl) (by exact rfl) ?_
  refine AL_callp en64 (.cons (.ev rfl) (.cons (.ev rfl) (.nil))) (doc_Is_ok _ _) ?_
  refine AL_nil (grpQ_mk ?_)
  try simp only [tput, anyAt, setAll, List.foldl_cons, List.foldl_nil, List.set_cons_zero, List.set_cons_succ]
  repeat (first | exact Weak.nil | refine Weak.cons ?_ | refine Weak.consAny ?_)
 refine AL_norm TN ?_
 refine AL_move rfl ?_
 refine AL_norm TN ?_
 refine AL_and (j := 10) (n := 5) (c := 13) (t := 18) (r := 19) (v := ?v2) [14, 15, 16, 17, 18] rfl rfl rfl rfl rfl rfl rfl (fun hg2 => ?_) ?_; rotate_left
 · simp only [List.take_succ_cons, List.take_zero, List.map_cons, List.map_nil, strip, Nat.reduceBEq, beq_self_eq_true, Bool.and_self, Bool.true_and, Bool.false_and, cond_true, cond_false]
  try simp only [Bool.or_eq_true, Bool.and_eq_true, Bool.or_eq_false_iff, Bool.and_eq_false_iff, decide_eq_true_eq, decide_eq_false_iff_not, Bool.not_eq_true', Bool.not_eq_false', beq_iff_eq, ne_eq, Decidable.not_not, List.length_map] at hg2
  first | refine AL_fieldAddr_pt fl26_0 sz22 (by decide) rfl ?_ | refine AL_fieldAddr_rp fl26_0 ag22 sz22 (by decide) (by decide) rfl rfl (fun h => by first | rfl | cases h) ?_
  first | refine AL_load_rp sz22 rfl ag22 ?_ | refine AL_loadw sz22 rfl LK (by exact ag22) (by exact rfl) ?_ | refine AL_load_pt ag22 sz22 (by decide) rfl LK (by first | assumption | exact sz3 | exact sz57 | exact sz60 | exact sz21 | exact sz9 | exact sz52 | exact sz58 | exact sz24 | exact sz26 | exact sz22 | exact sz127 | exact sz223 | exact sz213 | exact sz207) (by exact rfl) (by exact rfl) (by exact rfl) ?_
  first | refine AL_fieldAddr_pt fl26_2 sz24 (by decide) rfl ?_ | refine AL_fieldAddr_rp fl26_2 ag24 sz24 (by decide) (by decide) rfl rfl (fun h => by first | rfl | cases h) ?_
  first | refine AL_load_rp sz24 rfl ag24 ?_ | refine AL_loadw sz24 rfl LK (by exact ag24) (by exact rfl) ?_ | refine AL_load_pt ag24 sz24 (by decide) rfl LK (by first | assumption | exact sz3 | exact sz57 | exact sz60 | exact sz21 | exact sz9 | exact sz52 | exact sz58 | exact sz24 | exact sz26 | exact sz22 | exact sz127 | exact sz223 | exact sz213 | exact sz207) (by exact rfl) (by exact rfl) (by exact rfl) ?_
  refine AL_norm TN ?_
  refine AL_callp en64 (.cons (.ev rfl) (.cons (.ev rfl) (.nil))) (doc_Is_ok _ _) ?_
  refine AL_nil (grpQ_mk ?_)
  try simp only [tput, anyAt, setAll, List.foldl_cons, List.foldl_nil, List.set_cons_zero, List.set_cons_succ]
  repeat (first | exact Weak.nil | refine Weak.cons ?_ | refine Weak.consAny ?_)
 refine AL_norm TN ?_
 refine AL_move rfl ?_
 refine AL_and (j := 17) (n := 4) (c := 20) (t := 24) (r := 25) (v := ?v3) [21, 22, 23, 24] rfl rfl rfl rfl rfl rfl rfl (fun hg3 => ?_) ?_; rotate_left
 · simp only [List.take_succ_cons, List.take_zero, List.map_cons, List.map_nil, strip, Nat.reduceBEq, beq_self_eq_true, Bool.and_self, Bool.true_and, Bool.false_and, cond_true, cond_false]
  try simp only [Bool.or_eq_true, Bool.and_eq_true, Bool.or_eq_false_iff, Bool.and_eq_false_iff, decide_eq_true_eq, decide_eq_false_iff_not, Bool.not_eq_true', Bool.not_eq_false', beq_iff_eq, ne_eq, Decidable.not_not, List.length_map] at hg3
  first | refine AL_fieldAddr_pt fl26_3 sz3 (by decide) rfl ?_ | refine AL_fieldAddr_rp fl26_3 ag3 sz3 (by decide) (by decide) rfl rfl (fun h => by first | rfl | cases h) ?_
  first | refine AL_load_rp sz3 rfl ag3 ?_ | refine AL_loadw sz3 rfl LK (by exact ag3) (by exact rfl) ?_ | refine AL_load_pt ag3 sz3 (by decide) rfl LK (by first | assumption | exact sz3 | exact sz57 | exact sz60 | exact sz21 | exact sz9 | exact sz52 | exact sz58 | exact sz24 | exact sz26 | exact sz22 | exact sz127 | exact sz223 | exact sz213 | exact sz207) (by exact rfl) (by exact rfl) (by exact rfl) ?_
  refine AL_norm TN ?_
  refine AL_bits rfl rfl (by decide) ?_
  refine AL_eql rfl rfl ?_
  refine AL_nil (grpQ_mk ?_)
  try simp only [tput, anyAt, setAll, List.foldl_cons, List.foldl_nil, List.set_cons_zero, List.set_cons_succ]
  repeat (first | exact Weak.nil | refine Weak.cons ?_ | refine Weak.consAny ?_)
 refine AL_norm TN ?_
 refine AL_move rfl ?_
 refine AL_and (j := 23) (n := 4) (c := 26) (t := 30) (r := 31) (v := ?v4) [27, 28, 29, 30] rfl rfl rfl rfl rfl rfl rfl (fun hg4 => ?_) ?_; rotate_left
 · simp only [List.take_succ_cons, List.take_zero, List.map_cons, List.map_nil, strip, Nat.reduceBEq, beq_self_eq_true, Bool.and_self, Bool.true_and, Bool.false_and, cond_true, cond_false]
  try simp only [Bool.or_eq_true, Bool.and_eq_true, Bool.or_eq_false_iff, Bool.and_eq_false_iff, decide_eq_true_eq, decide_eq_false_iff_not, Bool.not_eq_true', Bool.not_eq_false', beq_iff_eq, ne_eq, Decidable.not_not, List.length_map] at hg4
  first | refine AL_fieldAddr_pt fl26_4 sz3 (by decide) rfl ?_ | refine AL_fieldAddr_rp fl26_4 ag3 sz3 (by decide) (by decide) rfl rfl (fun h => by first | rfl | cases h) ?_
  refine AL_norm TN ?_
  first | refine AL_load_rp sz3 rfl ag3 ?_ | refine AL_loadw sz3 rfl LK (by exact ag3) (by exact rfl) ?_ | refine AL_load_pt ag3 sz3 (by decide) rfl LK (by first | assumption | exact sz3 | exact sz57 | exact sz60 | exact sz21 | exact sz9 | exact sz52 | exact sz58 | exact sz24 | exact sz26 | exact sz22 | exact sz127 | exact sz223 | exact sz213 | exact sz207) (by exact rfl) (by exact rfl) (by exact rfl) ?_
  refine AL_bits rfl rfl (by decide) ?_
  refine AL_eql rfl rfl ?_
  refine AL_nil (grpQ_mk ?_)
  try simp only [tput, anyAt, setAll, List.foldl_cons, List.foldl_nil, List.set_cons_zero, List.set_cons_succ]
  repeat (first | exact Weak.nil | refine Weak.cons ?_ | refine Weak.consAny ?_)
 refine AL_norm TN ?_
 refine AL_move rfl ?_
 refine AL_norm TN ?_
 refine AL_and (j := 29) (n := 6) (c := 32) (t := 38) (r := 39) (v := ?v5) [33, 34, 35, 36, 37, 38] rfl rfl rfl rfl rfl rfl rfl (fun hg5 => ?_) ?_; rotate_left
 · simp only [List.take_succ_cons, List.take_zero, List.map_cons, List.map_nil, strip, Nat.reduceBEq, beq_self_eq_true, Bool.and_self, Bool.true_and, Bool.false_and, cond_true, cond_false]
  try simp only [Bool.or_eq_true, Bool.and_eq_true, Bool.or_eq_false_iff, Bool.and_eq_false_iff, decide_eq_true_eq, decide_eq_false_iff_not, Bool.not_eq_true', Bool.not_eq_false', beq_iff_eq, ne_eq, Decidable.not_not, List.length_map] at hg5
  first | refine AL_fieldAddr_pt fl26_3 sz3 (by decide) rfl ?_ | refine AL_fieldAddr_rp fl26_3 ag3 sz3 (by decide) (by decide) rfl rfl (fun h => by first | rfl | cases h) ?_
  first | refine AL_load_rp sz3 rfl ag3 ?_ | refine AL_loadw sz3 rfl LK (by exact ag3) (by exact rfl) ?_ | refine AL_load_pt ag3 sz3 (by decide) rfl LK (by first | assumption | exact sz3 | exact sz57 | exact sz60 | exact sz21 | exact sz9 | exact sz52 | exact sz58 | exact sz24 | exact sz26 | exact sz22 | exact sz127 | exact sz223 | exact sz213 | exact sz207) (by exact rfl) (by exact rfl) (by exact rfl) ?_
  first | refine AL_fieldAddr_pt fl26_4 sz3 (by decide) rfl ?_ | refine AL_fieldAddr_rp fl26_4 ag3 sz3 (by decide) (by decide) rfl rfl (fun h => by first | rfl | cases h) ?_
  first | refine AL_load_rp sz3 rfl ag3 ?_ | refine AL_loadw sz3 rfl LK (by exact ag3) (by exact rfl) ?_ | refine AL_load_pt ag3 sz3 (by decide) rfl LK (by first | assumption | exact sz3 | exact sz57 | exact sz60 | exact sz21 | exact sz9 | exact sz52 | exact sz58 | exact sz24 | exact sz26 | exact sz22 | exact sz127 | exact sz223 | exact sz213 | exact sz207) (by exact rfl) (by exact rfl) (by exact rfl) ?_
  refine AL_norm TN ?_
  refine AL_bits rfl rfl (by decide) ?_
  refine AL_eql rfl rfl ?_
  refine AL_nil (grpQ_mk ?_)
  try simp only [tput, anyAt, setAll, List.foldl_cons, List.foldl_nil, List.set_cons_zero, List.set_cons_succ]
  repeat (first | exact Weak.nil | refine Weak.cons ?_ | refine Weak.consAny ?_)
 refine AL_norm TN ?_
 refine AL_assign rfl ?_
 refine AL_norm TN ?_
 refine AL_nil ?_
 refine seqQ_n ?_
 refine AW_ret ?_
 refine retQ_1 (H' := H) (.inr rfl) rfl SU ?_
 refine K_eq ?_ hK
 exact congrArg (fun b => AV.v (.bool b)) (stOK_mk s hs)

/-- quillwork/lines.Format$1 -/
theorem lines_Format_1_ok  :
  ∀ (k : Int) (l : Line), TurnC Tryz.prog 292 [.rp 3 (.v (.int .i64 k))] l (formatR k l) := by
 intro k l H K b hH hK
 refine AC_of Tryz.func292 rfl (rs := [.tmp 3]) rfl Tryz.ntmps292 rfl ?_
 refine AW_norm TP ?_
 refine AW_seq ?_
 refine AW_region ?_
 refine AL_assign rfl ?_
 refine AL_norm TN ?_
 refine AL_nil (seqQ_n (AW_seq (AW_region ?_)))
 refine AL_move rfl ?_
 refine AL_nilCheck rfl trivial ?_
 first | refine AL_fieldAddr_pt fl60_2 sz3 (by decide) rfl ?_ | refine AL_fieldAddr_rp fl60_2 ag3 sz3 (by decide) (by decide) rfl rfl (fun h => by first | rfl | cases h) ?_
 refine AL_norm TN ?_
 first | refine AL_load_rp sz3 rfl ag3 ?_ | refine AL_loadw sz3 rfl LK (by exact ag3) (by exact rfl) ?_ | refine AL_load_pt ag3 sz3 (by decide) rfl LK (by first | assumption | exact sz3 | exact sz57 | exact sz60 | exact sz21 | exact sz9 | exact sz52 | exact sz58 | exact sz24 | exact sz26 | exact sz22 | exact sz127 | exact sz223 | exact sz213 | exact sz207) (by exact rfl) (by exact rfl) (by exact rfl) ?_
 refine AL_assign rfl ?_
 refine AL_norm TN ?_
 refine AL_nil (seqQ_n (AW_seq (AW_region ?_)))
 refine AL_move rfl ?_
 first | refine AL_load_rp sz3 rfl ag3 ?_ | refine AL_loadw sz3 rfl LK (by exact ag3) (by exact rfl) ?_ | refine AL_load_pt ag3 sz3 (by decide) rfl LK (by first | assumption | exact sz3 | exact sz57 | exact sz60 | exact sz21 | exact sz9 | exact sz52 | exact sz58 | exact sz24 | exact sz26 | exact sz22 | exact sz127 | exact sz223 | exact sz213 | exact sz207) (by exact rfl) (by exact rfl) (by exact rfl) ?_
 refine AL_norm TN ?_
 refine AL_nilCheck rfl trivial ?_
 first | refine AL_fieldAddr_pt fl60_2 sz3 (by decide) rfl ?_ | refine AL_fieldAddr_rp fl60_2 ag3 sz3 (by decide) (by decide) rfl rfl (fun h => by first | rfl | cases h) ?_
 first | refine AL_store_w sz3 rfl (.ev rfl) rfl LK rfl (by exact rfl) ?_ | refine AL_store rfl (.ev rfl) rfl LK (by first | assumption | exact sz3 | exact sz57 | exact sz60 | exact sz21 | exact sz9 | exact sz52 | exact sz58 | exact sz24 | exact sz26 | exact sz22 | exact sz127 | exact sz223 | exact sz213 | exact sz207) (by exact rfl) sz3 rfl (by decide) (fun h => by first | (cases h; done) | exact ⟨rfl, rfl, rfl⟩) ?_
 refine AL_heap (by first | (simp only [AH.upd_upd]; rfl) | rfl) ?_
 refine AL_norm TN ?_
 refine AL_nil (seqQ_n (AW_seq (AW_region ?_)))
 refine AL_move rfl ?_
 refine AL_norm TN ?_
 refine AL_nilCheck rfl trivial ?_
 first | refine AL_fieldAddr_pt fl60_1 sz52 (by decide) rfl ?_ | refine AL_fieldAddr_rp fl60_1 ag52 sz52 (by decide) (by decide) rfl rfl (fun h => by first | rfl | cases h) ?_
 first | refine AL_load_rp sz52 rfl ag52 ?_ | refine AL_loadw sz52 rfl LK (by exact ag52) (by exact rfl) ?_ | refine AL_load_pt ag52 sz52 (by decide) rfl LK (by first | assumption | exact sz3 | exact sz57 | exact sz60 | exact sz21 | exact sz9 | exact sz52 | exact sz58 | exact sz24 | exact sz26 | exact sz22 | exact sz127 | exact sz223 | exact sz213 | exact sz207) (by exact rfl) (by exact rfl) (by exact rfl) ?_
 first | refine AL_len_sl un52 rfl ?_ | refine AL_len_own un52 rfl ?_
 refine AL_norm TN ?_
 refine AL_eql rfl rfl ?_
 refine AL_move rfl ?_
 refine AL_and (j := 6) (n := 3) (c := 19) (t := 22) (r := 23) (v := ?v1) [20, 21, 22] rfl rfl rfl rfl rfl rfl rfl (fun hg1 => ?_) ?_; rotate_left
 · simp only [List.take_succ_cons, List.take_zero, List.map_cons, List.map_nil, strip, Nat.reduceBEq, beq_self_eq_true, Bool.and_self, Bool.true_and, Bool.false_and, cond_true, cond_false]
  try simp only [Bool.or_eq_true, Bool.and_eq_true, Bool.or_eq_false_iff, Bool.and_eq_false_iff, decide_eq_true_eq, decide_eq_false_iff_not, Bool.not_eq_true', Bool.not_eq_false', beq_iff_eq, ne_eq, Decidable.not_not, List.length_map] at hg1
  refine AL_move rfl ?_
  first | refine AL_load_rp sz3 rfl ag3 ?_ | refine AL_loadw sz3 rfl LK (by exact ag3) (by exact rfl) ?_ | refine AL_load_pt ag3 sz3 (by decide) rfl LK (by first | assumption | exact sz3 | exact sz57 | exact sz60 | exact sz21 | exact sz9 | exact sz52 | exact sz58 | exact sz24 | exact sz26 | exact sz22 | exact sz127 | exact sz223 | exact sz213 | exact sz207) (by exact rfl) (by exact rfl) (by exact rfl) ?_
  refine AL_norm TN ?_
  refine AL_neq rfl rfl ?_
  refine AL_nil (grpQ_mk ?_)
  try simp only [tput, anyAt, setAll, List.foldl_cons, List.foldl_nil, List.set_cons_zero, List.set_cons_succ]
  repeat (first | exact Weak.nil | refine Weak.cons ?_ | refine Weak.consAny ?_)
 refine AL_norm TN ?_
 refine AL_assign rfl ?_
 refine AL_norm TN ?_
 refine AL_nil ?_
 refine seqQ_n ?_
 refine AW_ret ?_
 refine retQ_1 (H' := H.upd b (some (.row 60 1 [lineAV { l with kind := k }]))) (.inr rfl) rfl (SubH.refl _) ?_
 rw [List.length_map]; exact turnK_mk hK (formatR_some k l) (fun x' h => formatR_eq h)

/-- quillwork/lines.turned -/
theorem lines_turned_ok  :
  ∀ (f : FuncId) (cps : List AV) (l : Line) (r : Option Line), LS l → entersOf Tryz.prog f = true → TurnC Tryz.prog f cps l r → PI TQ Tryz.prog 229 [lineAV l, .fn (.func f) [] cps] (lrAV (turned l r)) := by
 intro f cps l r hl hen hch H K hT hK
 refine AC_of Tryz.func229 rfl (rs := [.cell 4 60, .tmp 5]) rfl Tryz.ntmps229 rfl ?_
 refine AW_norm TP ?_
 refine AW_seq ?_
 refine AW_region ?_
 refine AL_box rfl rfl sz60 rfl ?_
 intro b1 hb1
 have hn1 : H b1 = none := SubH.none SU hb1
 refine AL_alloc ze60 (.agg (.v (.own (.v (.own .nil))))) rfl sz60 rfl ?_
 intro b2 hb2
 have hn2 : H b2 = none := SubH.none SU hb2
 have hd2_1 : b2 ≠ b1 := AH.fresh_ne hb2 LK
 have hd1_2 : b1 ≠ b2 := Ne.symm hd2_1
 refine AL_assign rfl ?_
 refine AL_norm TN ?_
 refine AL_nil ?_
 refine seqQ_n ?_
 refine AW_seq ?_
 refine AW_seq ?_
 refine AW_region ?_
 first | refine AL_load_rp sz60 rfl ag60 ?_ | refine AL_loadw sz60 rfl LK (by exact ag60) (by exact rfl) ?_ | refine AL_load_pt ag60 sz60 (by decide) rfl LK (by first | assumption | exact sz3 | exact sz57 | exact sz60 | exact sz21 | exact sz9 | exact sz52 | exact sz58 | exact sz24 | exact sz26 | exact sz22 | exact sz127 | exact sz223 | exact sz213 | exact sz207) (by exact rfl) (by exact rfl) (by exact rfl) ?_
 refine AL_norm TN ?_
 refine AL_callpi en131 (.cons (.ev rfl) (.nil)) HS (lines_May_ok l hl) ?_
 refine AL_not rfl ?_
 refine AL_norm TN ?_
 refine AL_nil ?_
 refine seqQ_n ?_
 refine AW_cond rfl (fun hc1 => ?_) (fun hc1 => ?_)
 · try simp only [Bool.or_eq_true, Bool.and_eq_true, Bool.or_eq_false_iff, Bool.and_eq_false_iff, decide_eq_true_eq, decide_eq_false_iff_not, Bool.not_eq_true', Bool.not_eq_false', beq_iff_eq, ne_eq, Decidable.not_not, List.length_map] at hc1
  refine AW_seq ?_
  refine AW_region ?_
  refine AL_build_struct (zs := [_, _, _, _]) (pl := [(0, 1), (1, 1), (2, 1), (3, 1)]) Tryz.underlying60 ze60 (.v (.sl (e := 3) (.v (.sl (e := 57) .nil)))) (by kernel_rfl) (.nil) rfl ?_
  first | refine AL_store_w sz60 rfl (.ev rfl) rfl LK rfl (by exact rfl) ?_ | refine AL_store rfl (.ev rfl) rfl LK (by first | assumption | exact sz3 | exact sz57 | exact sz60 | exact sz21 | exact sz9 | exact sz52 | exact sz58 | exact sz24 | exact sz26 | exact sz22 | exact sz127 | exact sz223 | exact sz213 | exact sz207) (by exact rfl) sz60 rfl (by decide) (fun h => by first | (cases h; done) | exact ⟨rfl, rfl, rfl⟩) ?_
  refine AL_heap (by first | (simp only [AH.upd_upd]; rfl) | rfl) ?_
  refine AL_norm TN ?_
  refine AL_assign rfl ?_
  refine AL_norm TN ?_
  refine AL_nil ?_
  refine seqQ_n ?_
  refine AW_ret ?_
  refine seqQ_r ?_
  refine' retQ_g (H' := H) (.inr rfl) ?rv1 SU ?_
  case rv1 => exact .cons (.cell rfl LK (by first | assumption | exact sz3 | exact sz57 | exact sz60 | exact sz21 | exact sz9 | exact sz52 | exact sz58 | exact sz24 | exact sz26 | exact sz22 | exact sz127 | exact sz223 | exact sz213 | exact sz207) rfl ag60 sz60 rfl rfl (by decide)) (.cons (.tmp rfl) (.nil))
  refine K_eq ?_ hK
  rw [turned_no hc1]; rfl
 · try simp only [Bool.or_eq_true, Bool.and_eq_true, Bool.or_eq_false_iff, Bool.and_eq_false_iff, decide_eq_true_eq, decide_eq_false_iff_not, Bool.not_eq_true', Bool.not_eq_false', beq_iff_eq, ne_eq, Decidable.not_not, List.length_map] at hc1
  refine AW_skip ?_
  refine seqQ_n ?_
  refine AW_seq ?_
  refine AW_region ?_
  first | refine AL_load_rp sz60 rfl ag60 ?_ | refine AL_loadw sz60 rfl LK (by exact ag60) (by exact rfl) ?_ | refine AL_load_pt ag60 sz60 (by decide) rfl LK (by first | assumption | exact sz3 | exact sz57 | exact sz60 | exact sz21 | exact sz9 | exact sz52 | exact sz58 | exact sz24 | exact sz26 | exact sz22 | exact sz127 | exact sz223 | exact sz213 | exact sz207) (by exact rfl) (by exact rfl) (by exact rfl) ?_
  refine AL_callp en134 (.cons (.ev rfl) (.nil)) (lines_Own_ok l hl) ?_
  first | refine AL_store_w sz60 rfl (.ev rfl) rfl LK rfl (by exact rfl) ?_ | refine AL_store rfl (.ev rfl) rfl LK (by first | assumption | exact sz3 | exact sz57 | exact sz60 | exact sz21 | exact sz9 | exact sz52 | exact sz58 | exact sz24 | exact sz26 | exact sz22 | exact sz127 | exact sz223 | exact sz213 | exact sz207) (by exact rfl) sz60 rfl (by decide) (fun h => by first | (cases h; done) | exact ⟨rfl, rfl, rfl⟩) ?_
  refine AL_heap (by first | (simp only [AH.upd_upd]; rfl) | rfl) ?_
  refine AL_norm TN ?_
  refine AL_nil ?_
  refine seqQ_n ?_
  refine AW_seq ?_
  refine AW_seq ?_
  refine AW_region ?_
  refine AL_move rfl ?_
  refine AL_norm TN ?_
  refine AL_callv rfl hen (.cons (.ev rfl) (.nil)) ((hch.ac LK)) ?_
  rintro _ _ ⟨y, rfl, hy, rfl⟩
  refine AL_not rfl ?_
  refine AL_norm TN ?_
  refine AL_nil ?_
  refine seqQ_n ?_
  refine AW_cond rfl (fun hc2 => ?_) (fun hc2 => ?_)
  · try simp only [Bool.or_eq_true, Bool.and_eq_true, Bool.or_eq_false_iff, Bool.and_eq_false_iff, decide_eq_true_eq, decide_eq_false_iff_not, Bool.not_eq_true', Bool.not_eq_false', beq_iff_eq, ne_eq, Decidable.not_not, List.length_map] at hc2
   refine AW_seq ?_
   refine AW_region ?_
   refine AL_build_struct (zs := [_, _, _, _]) (pl := [(0, 1), (1, 1), (2, 1), (3, 1)]) Tryz.underlying60 ze60 (.v (.sl (e := 3) (.v (.sl (e := 57) .nil)))) (by kernel_rfl) (.nil) rfl ?_
   first | refine AL_store_w sz60 rfl (.ev rfl) rfl LK rfl (by exact rfl) ?_ | refine AL_store rfl (.ev rfl) rfl LK (by first | assumption | exact sz3 | exact sz57 | exact sz60 | exact sz21 | exact sz9 | exact sz52 | exact sz58 | exact sz24 | exact sz26 | exact sz22 | exact sz127 | exact sz223 | exact sz213 | exact sz207) (by exact rfl) sz60 rfl (by decide) (fun h => by first | (cases h; done) | exact ⟨rfl, rfl, rfl⟩) ?_
   refine AL_heap (by first | (simp only [AH.upd_upd]; rfl) | rfl) ?_
   refine AL_norm TN ?_
   refine AL_assign rfl ?_
   refine AL_norm TN ?_
   refine AL_nil ?_
   refine seqQ_n ?_
   refine AW_ret ?_
   refine seqQ_r ?_
   refine' retQ_g (H' := H) (.inr rfl) ?rv2 SU ?_
   case rv2 => exact .cons (.cell rfl LK (by first | assumption | exact sz3 | exact sz57 | exact sz60 | exact sz21 | exact sz9 | exact sz52 | exact sz58 | exact sz24 | exact sz26 | exact sz22 | exact sz127 | exact sz223 | exact sz213 | exact sz207) rfl ag60 sz60 rfl rfl (by decide)) (.cons (.tmp rfl) (.nil))
   refine K_eq ?_ hK
   rw [turned_off hc1 hc2]; rfl
  · try simp only [Bool.or_eq_true, Bool.and_eq_true, Bool.or_eq_false_iff, Bool.and_eq_false_iff, decide_eq_true_eq, decide_eq_false_iff_not, Bool.not_eq_true', Bool.not_eq_false', beq_iff_eq, ne_eq, Decidable.not_not, List.length_map] at hc2; obtain ⟨x1, hr⟩ := some_of hc2; obtain rfl := hy x1 hr
   refine AW_skip ?_
   refine seqQ_n ?_
   refine AW_seq ?_
   refine AW_region ?_
   first | refine AL_load_rp sz60 rfl ag60 ?_ | refine AL_loadw sz60 rfl LK (by exact ag60) (by exact rfl) ?_ | refine AL_load_pt ag60 sz60 (by decide) rfl LK (by first | assumption | exact sz3 | exact sz57 | exact sz60 | exact sz21 | exact sz9 | exact sz52 | exact sz58 | exact sz24 | exact sz26 | exact sz22 | exact sz127 | exact sz223 | exact sz213 | exact sz207) (by exact rfl) (by exact rfl) (by exact rfl) ?_
   first | refine AL_store_w sz60 rfl (.ev rfl) rfl LK rfl (by exact rfl) ?_ | refine AL_store rfl (.ev rfl) rfl LK (by first | assumption | exact sz3 | exact sz57 | exact sz60 | exact sz21 | exact sz9 | exact sz52 | exact sz58 | exact sz24 | exact sz26 | exact sz22 | exact sz127 | exact sz223 | exact sz213 | exact sz207) (by exact rfl) sz60 rfl (by decide) (fun h => by first | (cases h; done) | exact ⟨rfl, rfl, rfl⟩) ?_
   refine AL_heap (by first | (simp only [AH.upd_upd]; rfl) | rfl) ?_
   refine AL_assign rfl ?_
   refine AL_norm TN ?_
   refine AL_nil ?_
   refine seqQ_n ?_
   refine AW_ret ?_
   refine' retQ_g (H' := H) (.inr rfl) ?rv3 SU ?_
   case rv3 => exact .cons (.cell rfl LK (by first | assumption | exact sz3 | exact sz57 | exact sz60 | exact sz21 | exact sz9 | exact sz52 | exact sz58 | exact sz24 | exact sz26 | exact sz22 | exact sz127 | exact sz223 | exact sz213 | exact sz207) rfl ag60 sz60 rfl rfl (by decide)) (.cons (.tmp rfl) (.nil))
   refine K_eq ?_ hK
   rw [turned_yes hc1 hr]; rfl

/-- quillwork/lines.Format -/
theorem lines_Format_ok (l : Line) (k : Int) (hl : LS l) :
  PI TQ Tryz.prog 254 [lineAV l, .v (.int .i64 k)] (lrAV (formatL k l)) := by
 intro H K hT hK
 refine AC_of Tryz.func254 rfl (rs := [.cell 4 60, .tmp 5]) rfl Tryz.ntmps254 rfl ?_
 refine AW_norm TP ?_
 refine AW_seq ?_
 refine AW_region ?_
 refine AL_box rfl rfl sz60 rfl ?_
 intro b1 hb1
 refine AL_norm TN ?_
 refine AL_frzpt 2 rfl (AH.upd_same _ _ _) ?_
 refine AL_heap (AH.upd_none_eq hb1) ?_
 refine AL_norm TN ?_
 clear hb1
 refine AL_box rfl rfl sz3 rfl ?_
 intro b2 hb2
 refine AL_norm TN ?_
 refine AL_frzpt 3 rfl (AH.upd_same _ _ _) ?_
 refine AL_heap (AH.upd_none_eq hb2) ?_
 refine AL_norm TN ?_
 clear hb2
 refine AL_alloc ze60 (.agg (.v (.own (.v (.own .nil))))) rfl sz60 rfl ?_
 intro b3 hb3
 have hn3 : H b3 = none := SubH.none SU hb3
 refine AL_assign rfl ?_
 refine AL_norm TN ?_
 refine AL_nil ?_
 refine seqQ_n ?_
 refine AW_seq ?_
 refine AW_seq ?_
 refine AW_region ?_
 first | refine AL_load_rp sz3 rfl ag3 ?_ | refine AL_loadw sz3 rfl LK (by exact ag3) (by exact rfl) ?_ | refine AL_load_pt ag3 sz3 (by decide) rfl LK (by first | assumption | exact sz3 | exact sz57 | exact sz60 | exact sz21 | exact sz9 | exact sz52 | exact sz58 | exact sz24 | exact sz26 | exact sz22 | exact sz127 | exact sz223 | exact sz213 | exact sz207) (by exact rfl) (by exact rfl) (by exact rfl) ?_
 refine AL_norm TN ?_
 refine AL_lss rfl rfl ?_
 refine AL_move rfl ?_
 refine AL_or (j := 2) (n := 2) (c := 8) (t := 10) (r := 11) (v := ?v1) [9, 10] rfl rfl rfl rfl rfl rfl rfl (fun hg1 => ?_) ?_; rotate_left
 · simp only [List.take_succ_cons, List.take_zero, List.map_cons, List.map_nil, strip, Nat.reduceBEq, beq_self_eq_true, Bool.and_self, Bool.true_and, Bool.false_and, cond_true, cond_false]
  try simp only [Bool.or_eq_true, Bool.and_eq_true, Bool.or_eq_false_iff, Bool.and_eq_false_iff, decide_eq_true_eq, decide_eq_false_iff_not, Bool.not_eq_true', Bool.not_eq_false', beq_iff_eq, ne_eq, Decidable.not_not, List.length_map] at hg1
  first | refine AL_load_rp sz3 rfl ag3 ?_ | refine AL_loadw sz3 rfl LK (by exact ag3) (by exact rfl) ?_ | refine AL_load_pt ag3 sz3 (by decide) rfl LK (by first | assumption | exact sz3 | exact sz57 | exact sz60 | exact sz21 | exact sz9 | exact sz52 | exact sz58 | exact sz24 | exact sz26 | exact sz22 | exact sz127 | exact sz223 | exact sz213 | exact sz207) (by exact rfl) (by exact rfl) (by exact rfl) ?_
  refine AL_gtr rfl rfl ?_
  refine AL_nil (grpQ_mk ?_)
  try simp only [tput, anyAt, setAll, List.foldl_cons, List.foldl_nil, List.set_cons_zero, List.set_cons_succ]
  repeat (first | exact Weak.nil | refine Weak.cons ?_ | refine Weak.consAny ?_)
 refine AL_norm TN ?_
 refine AL_norm TN ?_
 refine AL_nil ?_
 refine seqQ_n ?_
 refine AW_cond rfl (fun hc2 => ?_) (fun hc2 => ?_)
 · try simp only [Bool.or_eq_true, Bool.and_eq_true, Bool.or_eq_false_iff, Bool.and_eq_false_iff, decide_eq_true_eq, decide_eq_false_iff_not, Bool.not_eq_true', Bool.not_eq_false', beq_iff_eq, ne_eq, Decidable.not_not, List.length_map] at hc2
  refine AW_seq ?_
  refine AW_region ?_
  refine AL_build_struct (zs := [_, _, _, _]) (pl := [(0, 1), (1, 1), (2, 1), (3, 1)]) Tryz.underlying60 ze60 (.v (.sl (e := 3) (.v (.sl (e := 57) .nil)))) (by kernel_rfl) (.nil) rfl ?_
  refine AL_norm TN ?_
  first | refine AL_store_w sz60 rfl (.ev rfl) rfl LK rfl (by exact rfl) ?_ | refine AL_store rfl (.ev rfl) rfl LK (by first | assumption | exact sz3 | exact sz57 | exact sz60 | exact sz21 | exact sz9 | exact sz52 | exact sz58 | exact sz24 | exact sz26 | exact sz22 | exact sz127 | exact sz223 | exact sz213 | exact sz207) (by exact rfl) sz60 rfl (by decide) (fun h => by first | (cases h; done) | exact ⟨rfl, rfl, rfl⟩) ?_
  refine AL_heap (by first | (simp only [AH.upd_upd]; rfl) | rfl) ?_
  refine AL_assign rfl ?_
  refine AL_norm TN ?_
  refine AL_nil ?_
  refine seqQ_n ?_
  refine AW_ret ?_
  refine seqQ_r ?_
  refine' retQ_g (H' := H) (.inr rfl) ?rv1 SU ?_
  case rv1 => exact .cons (.cell rfl LK (by first | assumption | exact sz3 | exact sz57 | exact sz60 | exact sz21 | exact sz9 | exact sz52 | exact sz58 | exact sz24 | exact sz26 | exact sz22 | exact sz127 | exact sz223 | exact sz213 | exact sz207) rfl ag60 sz60 rfl rfl (by decide)) (.cons (.tmp rfl) (.nil))
  refine K_eq ?_ hK
  rw [formatL_no hc2]; rfl
 · try simp only [Bool.or_eq_true, Bool.and_eq_true, Bool.or_eq_false_iff, Bool.and_eq_false_iff, decide_eq_true_eq, decide_eq_false_iff_not, Bool.not_eq_true', Bool.not_eq_false', beq_iff_eq, ne_eq, Decidable.not_not, List.length_map] at hc2
  refine AW_skip ?_
  refine seqQ_n ?_
  refine AW_seq ?_
  refine AW_region ?_
  first | refine AL_load_rp sz60 rfl ag60 ?_ | refine AL_loadw sz60 rfl LK (by exact ag60) (by exact rfl) ?_ | refine AL_load_pt ag60 sz60 (by decide) rfl LK (by first | assumption | exact sz3 | exact sz57 | exact sz60 | exact sz21 | exact sz9 | exact sz52 | exact sz58 | exact sz24 | exact sz26 | exact sz22 | exact sz127 | exact sz223 | exact sz213 | exact sz207) (by exact rfl) (by exact rfl) (by exact rfl) ?_
  refine AL_makeFunc (.nil) (.cons (.ev rfl) (.nil)) ?_
  refine AL_norm TN ?_
  refine AL_callpi en229 (.cons (.ev rfl) (.cons (.ev rfl) (.nil))) HS (lines_turned_ok 292 [.rp 3 (.v (.int .i64 k))] l (formatR k l) hl en292 (lines_Format_1_ok k l)) ?_
  refine AL_extract rfl rfl ?_
  refine AL_extract rfl rfl ?_
  first | refine AL_store_w sz60 rfl (.ev rfl) rfl LK rfl (by exact rfl) ?_ | refine AL_store rfl (.ev rfl) rfl LK (by first | assumption | exact sz3 | exact sz57 | exact sz60 | exact sz21 | exact sz9 | exact sz52 | exact sz58 | exact sz24 | exact sz26 | exact sz22 | exact sz127 | exact sz223 | exact sz213 | exact sz207) (by exact rfl) sz60 rfl (by decide) (fun h => by first | (cases h; done) | exact ⟨rfl, rfl, rfl⟩) ?_
  refine AL_heap (by first | (simp only [AH.upd_upd]; rfl) | rfl) ?_
  refine AL_norm TN ?_
  refine AL_assign rfl ?_
  refine AL_norm TN ?_
  refine AL_nil ?_
  refine seqQ_n ?_
  refine AW_ret ?_
  refine' retQ_g (H' := H) (.inr rfl) ?rv2 SU ?_
  case rv2 => exact .cons (.cell rfl LK (by first | assumption | exact sz3 | exact sz57 | exact sz60 | exact sz21 | exact sz9 | exact sz52 | exact sz58 | exact sz24 | exact sz26 | exact sz22 | exact sz127 | exact sz223 | exact sz213 | exact sz207) rfl ag60 sz60 rfl rfl (by decide)) (.cons (.tmp rfl) (.nil))
  refine K_eq ?_ hK
  rw [formatL_yes (by omega)]; rfl

/-- quillwork/styling.changed -/
theorem styling_changed_ok  :
  ∀ (f : FuncId) (cps : List AV) (s : Q.St) (ch : List Line → Q.Pos → Q.Pos → RD), SS s → entersOf Tryz.prog f = true → (∀ a b, PI TQ Tryz.prog f (linesAV s.lines :: posAV a :: posAV b :: cps) (rdAV (ch s.lines a b))) → PI TQ Tryz.prog 156 [stAV s, .fn (.func f) [] cps] (rsAV (changedS s ch)) := by
 intro f cps s ch hs hen hch H K hT hK
 refine AC_of Tryz.func156 rfl (rs := [.cell 4 26, .tmp 5]) rfl Tryz.ntmps156 rfl ?_
 refine AW_norm TP ?_
 refine AW_seq ?_
 refine AW_region ?_
 refine AL_box rfl rfl sz26 rfl ?_
 intro b1 hb1
 refine AL_norm TN ?_
 refine AL_frzpt 2 rfl (AH.upd_same _ _ _) ?_
 refine AL_heap (AH.upd_none_eq hb1) ?_
 refine AL_norm TN ?_
 clear hb1
 refine AL_alloc ze26 (.agg (.own (.v (.v (.v (.v (.v (.v .nil)))))))) rfl sz26 rfl ?_
 intro b2 hb2
 have hn2 : H b2 = none := SubH.none SU hb2
 refine AL_assign rfl ?_
 refine AL_norm TN ?_
 refine AL_nil ?_
 refine seqQ_n ?_
 refine AW_seq ?_
 refine AW_seq ?_
 refine AW_region ?_
 first | refine AL_load_rp sz26 rfl ag26 ?_ | refine AL_loadw sz26 rfl LK (by exact ag26) (by exact rfl) ?_ | refine AL_load_pt ag26 sz26 (by decide) rfl LK (by first | assumption | exact sz3 | exact sz57 | exact sz60 | exact sz21 | exact sz9 | exact sz52 | exact sz58 | exact sz24 | exact sz26 | exact sz22 | exact sz127 | exact sz223 | exact sz213 | exact sz207) (by exact rfl) (by exact rfl) (by exact rfl) ?_
 refine AL_norm TN ?_
 refine AL_callpi en23 (.cons (.ev rfl) (.nil)) HS (typing_May_ok s hs) ?_
 refine AL_not rfl ?_
 refine AL_norm TN ?_
 refine AL_nil ?_
 refine seqQ_n ?_
 refine AW_cond rfl (fun hc1 => ?_) (fun hc1 => ?_)
 · try simp only [Bool.or_eq_true, Bool.and_eq_true, Bool.or_eq_false_iff, Bool.and_eq_false_iff, decide_eq_true_eq, decide_eq_false_iff_not, Bool.not_eq_true', Bool.not_eq_false', beq_iff_eq, ne_eq, Decidable.not_not, List.length_map] at hc1
  refine AW_seq ?_
  refine AW_region ?_
  refine AL_build_struct (zs := [_, _, _, _, _, _, _]) (pl := [(0, 1), (1, 2), (3, 2), (5, 1), (6, 1)]) Tryz.underlying26 ze26 (.sl (e := 60) (.v (.v (.v (.v (.v (.v .nil))))))) (by kernel_rfl) (.nil) rfl ?_
  first | refine AL_store_w sz26 rfl (.ev rfl) rfl LK rfl (by exact rfl) ?_ | refine AL_store rfl (.ev rfl) rfl LK (by first | assumption | exact sz3 | exact sz57 | exact sz60 | exact sz21 | exact sz9 | exact sz52 | exact sz58 | exact sz24 | exact sz26 | exact sz22 | exact sz127 | exact sz223 | exact sz213 | exact sz207) (by exact rfl) sz26 rfl (by decide) (fun h => by first | (cases h; done) | exact ⟨rfl, rfl, rfl⟩) ?_
  refine AL_heap (by first | (simp only [AH.upd_upd]; rfl) | rfl) ?_
  refine AL_norm TN ?_
  refine AL_assign rfl ?_
  refine AL_norm TN ?_
  refine AL_nil ?_
  refine seqQ_n ?_
  refine AW_ret ?_
  refine seqQ_r ?_
  refine' retQ_g (H' := H) (.inr rfl) ?rv1 SU ?_
  case rv1 => exact .cons (.cell rfl LK (by first | assumption | exact sz3 | exact sz57 | exact sz60 | exact sz21 | exact sz9 | exact sz52 | exact sz58 | exact sz24 | exact sz26 | exact sz22 | exact sz127 | exact sz223 | exact sz213 | exact sz207) rfl ag26 sz26 rfl rfl (by decide)) (.cons (.tmp rfl) (.nil))
  refine K_eq ?_ hK
  rw [changed_no hc1]; rfl
 · try simp only [Bool.or_eq_true, Bool.and_eq_true, Bool.or_eq_false_iff, Bool.and_eq_false_iff, decide_eq_true_eq, decide_eq_false_iff_not, Bool.not_eq_true', Bool.not_eq_false', beq_iff_eq, ne_eq, Decidable.not_not, List.length_map] at hc1
  refine AW_skip ?_
  refine seqQ_n ?_
  refine AW_seq ?_
  refine AW_region ?_
  first | refine AL_load_rp sz26 rfl ag26 ?_ | refine AL_loadw sz26 rfl LK (by exact ag26) (by exact rfl) ?_ | refine AL_load_pt ag26 sz26 (by decide) rfl LK (by first | assumption | exact sz3 | exact sz57 | exact sz60 | exact sz21 | exact sz9 | exact sz52 | exact sz58 | exact sz24 | exact sz26 | exact sz22 | exact sz127 | exact sz223 | exact sz213 | exact sz207) (by exact rfl) (by exact rfl) (by exact rfl) ?_
  refine AL_callp en114 (.cons (.ev rfl) (.nil)) (typing_Span_ok _) ?_
  refine AL_move rfl ?_
  refine AL_norm TN ?_
  refine AL_extract rfl rfl ?_
  refine AL_extract rfl rfl ?_
  refine AL_alloc ze24 (.agg (.v (.v .nil))) rfl sz24 rfl ?_
  intro b3 hb3
  have hn3 : H b3 = none := SubH.none SU hb3
  have hd3_2 : b3 ≠ b2 := AH.fresh_ne hb3 LK
  have hd2_3 : b2 ≠ b3 := Ne.symm hd3_2
  refine AL_alloc ze24 (.agg (.v (.v .nil))) rfl sz24 rfl ?_
  intro b4 hb4
  have hn4 : H b4 = none := SubH.none SU hb4
  have hd4_2 : b4 ≠ b2 := AH.fresh_ne hb4 LK
  have hd2_4 : b2 ≠ b4 := Ne.symm hd4_2
  have hd4_3 : b4 ≠ b3 := AH.fresh_ne hb4 LK
  have hd3_4 : b3 ≠ b4 := Ne.symm hd4_3
  refine AL_norm TN ?_
  first | refine AL_store_w sz24 rfl (.ev rfl) rfl LK rfl (by exact rfl) ?_ | refine AL_store rfl (.ev rfl) rfl LK (by first | assumption | exact sz3 | exact sz57 | exact sz60 | exact sz21 | exact sz9 | exact sz52 | exact sz58 | exact sz24 | exact sz26 | exact sz22 | exact sz127 | exact sz223 | exact sz213 | exact sz207) (by exact rfl) sz24 rfl (by decide) (fun h => by first | (cases h; done) | exact ⟨rfl, rfl, rfl⟩) ?_
  refine AL_heap (by first | (simp only [AH.upd_upd]; rfl) | rfl) ?_
  first | refine AL_store_w sz24 rfl (.ev rfl) rfl LK rfl (by exact rfl) ?_ | refine AL_store rfl (.ev rfl) rfl LK (by first | assumption | exact sz3 | exact sz57 | exact sz60 | exact sz21 | exact sz9 | exact sz52 | exact sz58 | exact sz24 | exact sz26 | exact sz22 | exact sz127 | exact sz223 | exact sz213 | exact sz207) (by exact rfl) sz24 rfl (by decide) (fun h => by first | (cases h; done) | exact ⟨rfl, rfl, rfl⟩) ?_
  refine AL_heap (by first | (simp only [AH.upd_upd]; rfl) | rfl) ?_
  refine AL_norm TN ?_
  refine AL_nil (seqQ_n (AW_seq (AW_region ?_)))
  refine AL_move rfl ?_
  first | refine AL_fieldAddr_pt fl26_0 sz22 (by decide) rfl ?_ | refine AL_fieldAddr_rp fl26_0 ag22 sz22 (by decide) (by decide) rfl rfl (fun h => by first | rfl | cases h) ?_
  refine AL_norm TN ?_
  first | refine AL_load_rp sz22 rfl ag22 ?_ | refine AL_loadw sz22 rfl LK (by exact ag22) (by exact rfl) ?_ | refine AL_load_pt ag22 sz22 (by decide) rfl LK (by first | assumption | exact sz3 | exact sz57 | exact sz60 | exact sz21 | exact sz9 | exact sz52 | exact sz58 | exact sz24 | exact sz26 | exact sz22 | exact sz127 | exact sz223 | exact sz213 | exact sz207) (by exact rfl) (by exact rfl) (by exact rfl) ?_
  first | refine AL_load_rp sz24 rfl ag24 ?_ | refine AL_loadw sz24 rfl LK (by exact ag24) (by exact rfl) ?_ | refine AL_load_pt ag24 sz24 (by decide) rfl LK (by first | assumption | exact sz3 | exact sz57 | exact sz60 | exact sz21 | exact sz9 | exact sz52 | exact sz58 | exact sz24 | exact sz26 | exact sz22 | exact sz127 | exact sz223 | exact sz213 | exact sz207) (by exact rfl) (by exact rfl) (by exact rfl) ?_
  first | refine AL_load_rp sz24 rfl ag24 ?_ | refine AL_loadw sz24 rfl LK (by exact ag24) (by exact rfl) ?_ | refine AL_load_pt ag24 sz24 (by decide) rfl LK (by first | assumption | exact sz3 | exact sz57 | exact sz60 | exact sz21 | exact sz9 | exact sz52 | exact sz58 | exact sz24 | exact sz26 | exact sz22 | exact sz127 | exact sz223 | exact sz213 | exact sz207) (by exact rfl) (by exact rfl) (by exact rfl) ?_
  refine AL_callv rfl hen (.cons (.ev rfl) (.cons (.ev rfl) (.cons (.ev rfl) (.nil)))) (PI.toAC (hch _ _) (Holds.sub hT (by repeat (first | exact SubH.refl _ | assumption | refine SubH.upd ?_ (by assumption))))) ?_
  rintro _ _ ⟨rfl, rfl⟩
  refine AL_norm TN ?_
  refine AL_move rfl ?_
  refine AL_extract rfl rfl ?_
  refine AL_extract rfl rfl ?_
  refine AL_assign rfl ?_
  refine AL_norm TN ?_
  refine AL_assign rfl ?_
  refine AL_norm TN ?_
  refine AL_nil ?_
  refine seqQ_n ?_
  refine AW_seq ?_
  refine AW_seq ?_
  refine AW_region ?_
  refine AL_move rfl ?_
  refine AL_neq rfl rfl ?_
  refine AL_norm TN ?_
  refine AL_nil ?_
  refine seqQ_n ?_
  refine AW_cond rfl (fun hc2 => ?_) (fun hc2 => ?_)
  · try simp only [Bool.or_eq_true, Bool.and_eq_true, Bool.or_eq_false_iff, Bool.and_eq_false_iff, decide_eq_true_eq, decide_eq_false_iff_not, Bool.not_eq_true', Bool.not_eq_false', beq_iff_eq, ne_eq, Decidable.not_not, List.length_map] at hc2
   refine AW_seq ?_
   refine AW_region ?_
   refine AL_build_struct (zs := [_, _, _, _, _, _, _]) (pl := [(0, 1), (1, 2), (3, 2), (5, 1), (6, 1)]) Tryz.underlying26 ze26 (.sl (e := 60) (.v (.v (.v (.v (.v (.v .nil))))))) (by kernel_rfl) (.nil) rfl ?_
   refine AL_norm TN ?_
   refine AL_move rfl ?_
   first | refine AL_store_w sz26 rfl (.ev rfl) rfl LK rfl (by exact rfl) ?_ | refine AL_store rfl (.ev rfl) rfl LK (by first | assumption | exact sz3 | exact sz57 | exact sz60 | exact sz21 | exact sz9 | exact sz52 | exact sz58 | exact sz24 | exact sz26 | exact sz22 | exact sz127 | exact sz223 | exact sz213 | exact sz207) (by exact rfl) sz26 rfl (by decide) (fun h => by first | (cases h; done) | exact ⟨rfl, rfl, rfl⟩) ?_
   refine AL_heap (by first | (simp only [AH.upd_upd]; rfl) | rfl) ?_
   refine AL_assign rfl ?_
   refine AL_norm TN ?_
   refine AL_nil ?_
   refine seqQ_n ?_
   refine AW_ret ?_
   refine seqQ_r ?_
   refine' retQ_g (H' := H) (.inr rfl) ?rv2 SU ?_
   case rv2 => exact .cons (.cell rfl LK (by first | assumption | exact sz3 | exact sz57 | exact sz60 | exact sz21 | exact sz9 | exact sz52 | exact sz58 | exact sz24 | exact sz26 | exact sz22 | exact sz127 | exact sz223 | exact sz213 | exact sz207) rfl ag26 sz26 rfl rfl (by decide)) (.cons (.tmp rfl) (.nil))
   refine K_eq ?_ hK
   rw [changed_err hc1 hc2]; rfl
  · try simp only [Bool.or_eq_true, Bool.and_eq_true, Bool.or_eq_false_iff, Bool.and_eq_false_iff, decide_eq_true_eq, decide_eq_false_iff_not, Bool.not_eq_true', Bool.not_eq_false', beq_iff_eq, ne_eq, Decidable.not_not, List.length_map] at hc2
   refine AW_skip ?_
   refine seqQ_n ?_
   refine AW_seq ?_
   refine AW_region ?_
   refine AL_move rfl ?_
   refine AL_norm TN ?_
   first | refine AL_fieldAddr_pt fl26_1 sz24 (by decide) rfl ?_ | refine AL_fieldAddr_rp fl26_1 ag24 sz24 (by decide) (by decide) rfl rfl (fun h => by first | rfl | cases h) ?_
   first | refine AL_load_rp sz24 rfl ag24 ?_ | refine AL_loadw sz24 rfl LK (by exact ag24) (by exact rfl) ?_ | refine AL_load_pt ag24 sz24 (by decide) rfl LK (by first | assumption | exact sz3 | exact sz57 | exact sz60 | exact sz21 | exact sz9 | exact sz52 | exact sz58 | exact sz24 | exact sz26 | exact sz22 | exact sz127 | exact sz223 | exact sz213 | exact sz207) (by exact rfl) (by exact rfl) (by exact rfl) ?_
   first | refine AL_fieldAddr_pt fl26_2 sz24 (by decide) rfl ?_ | refine AL_fieldAddr_rp fl26_2 ag24 sz24 (by decide) (by decide) rfl rfl (fun h => by first | rfl | cases h) ?_
   first | refine AL_load_rp sz24 rfl ag24 ?_ | refine AL_loadw sz24 rfl LK (by exact ag24) (by exact rfl) ?_ | refine AL_load_pt ag24 sz24 (by decide) rfl LK (by first | assumption | exact sz3 | exact sz57 | exact sz60 | exact sz21 | exact sz9 | exact sz52 | exact sz58 | exact sz24 | exact sz26 | exact sz22 | exact sz127 | exact sz223 | exact sz213 | exact sz207) (by exact rfl) (by exact rfl) (by exact rfl) ?_
   refine AL_norm TN ?_
   refine AL_build_struct (zs := [_, _, _, _, _, _, _]) (pl := [(0, 1), (1, 2), (3, 2), (5, 1), (6, 1)]) Tryz.underlying26 ze26 (.sl (e := 60) (.v (.v (.v (.v (.v (.v .nil))))))) (by kernel_rfl) (.cons (.ev rfl) rfl (.cons (.ev rfl) rfl (.cons (.ev rfl) rfl (.nil)))) rfl ?_
   first | refine AL_store_w sz26 rfl (.ev rfl) rfl LK rfl (by exact rfl) ?_ | refine AL_store rfl (.ev rfl) rfl LK (by first | assumption | exact sz3 | exact sz57 | exact sz60 | exact sz21 | exact sz9 | exact sz52 | exact sz58 | exact sz24 | exact sz26 | exact sz22 | exact sz127 | exact sz223 | exact sz213 | exact sz207) (by exact rfl) sz26 rfl (by decide) (fun h => by first | (cases h; done) | exact ⟨rfl, rfl, rfl⟩) ?_
   refine AL_heap (by first | (simp only [AH.upd_upd]; rfl) | rfl) ?_
   refine AL_assign rfl ?_
   refine AL_norm TN ?_
   refine AL_nil ?_
   refine seqQ_n ?_
   refine AW_ret ?_
   refine' retQ_g (H' := H) (.inr rfl) ?rv3 SU ?_
   case rv3 => exact .cons (.cell rfl LK (by first | assumption | exact sz3 | exact sz57 | exact sz60 | exact sz21 | exact sz9 | exact sz52 | exact sz58 | exact sz24 | exact sz26 | exact sz22 | exact sz127 | exact sz223 | exact sz213 | exact sz207) rfl ag26 sz26 rfl rfl (by decide)) (.cons (.tmp rfl) (.nil))
   refine K_eq ?_ hK
   rw [changed_yes hc1 hc2]; rfl

/-- quillwork/styling.Toggle$1 -/
theorem styling_Toggle_1_ok (d : List Line) (a b : Q.Pos) (bit : Int) (hd : DS d) :
  PI TQ Tryz.prog 242 [linesAV d, posAV a, posAV b, .rp 3 (.v (.int .i64 bit))] (rdAV (if allD d a b bit = true then setR d a b 0 bit else setR d a b bit 0)) := by
 intro H K hT hK
 refine AC_of Tryz.func242 rfl (rs := [.tmp 7, .tmp 8]) rfl Tryz.ntmps242 rfl ?_
 refine AW_norm TP ?_
 refine AW_seq ?_
 refine AW_region ?_
 refine AL_box rfl rfl sz24 rfl ?_
 intro b1 hb1
 refine AL_norm TN ?_
 refine AL_frzpt 5 rfl (AH.upd_same _ _ _) ?_
 refine AL_heap (AH.upd_none_eq hb1) ?_
 refine AL_norm TN ?_
 clear hb1
 refine AL_box rfl rfl sz24 rfl ?_
 intro b2 hb2
 refine AL_norm TN ?_
 refine AL_frzpt 6 rfl (AH.upd_same _ _ _) ?_
 refine AL_heap (AH.upd_none_eq hb2) ?_
 refine AL_norm TN ?_
 clear hb2
 refine AL_assign rfl ?_
 refine AL_assign rfl ?_
 refine AL_norm TN ?_
 refine AL_nil ?_
 refine seqQ_n ?_
 refine AW_seq ?_
 refine AW_seq ?_
 refine AW_region ?_
 refine AL_move rfl ?_
 refine AL_norm TN ?_
 first | refine AL_load_rp sz24 rfl ag24 ?_ | refine AL_loadw sz24 rfl LK (by exact ag24) (by exact rfl) ?_ | refine AL_load_pt ag24 sz24 (by decide) rfl LK (by first | assumption | exact sz3 | exact sz57 | exact sz60 | exact sz21 | exact sz9 | exact sz52 | exact sz58 | exact sz24 | exact sz26 | exact sz22 | exact sz127 | exact sz223 | exact sz213 | exact sz207) (by exact rfl) (by exact rfl) (by exact rfl) ?_
 first | refine AL_load_rp sz24 rfl ag24 ?_ | refine AL_loadw sz24 rfl LK (by exact ag24) (by exact rfl) ?_ | refine AL_load_pt ag24 sz24 (by decide) rfl LK (by first | assumption | exact sz3 | exact sz57 | exact sz60 | exact sz21 | exact sz9 | exact sz52 | exact sz58 | exact sz24 | exact sz26 | exact sz22 | exact sz127 | exact sz223 | exact sz213 | exact sz207) (by exact rfl) (by exact rfl) (by exact rfl) ?_
 first | refine AL_load_rp sz3 rfl ag3 ?_ | refine AL_loadw sz3 rfl LK (by exact ag3) (by exact rfl) ?_ | refine AL_load_pt ag3 sz3 (by decide) rfl LK (by first | assumption | exact sz3 | exact sz57 | exact sz60 | exact sz21 | exact sz9 | exact sz52 | exact sz58 | exact sz24 | exact sz26 | exact sz22 | exact sz127 | exact sz223 | exact sz213 | exact sz207) (by exact rfl) (by exact rfl) (by exact rfl) ?_
 refine AL_callpi en117 (.cons (.ev rfl) (.cons (.ev rfl) (.cons (.ev rfl) (.cons (.ev rfl) (.nil))))) HS (doc_All_ok d a b bit hd) ?_
 refine AL_norm TN ?_
 refine AL_nil ?_
 refine seqQ_n ?_
 refine AW_cond rfl (fun hc1 => ?_) (fun hc1 => ?_)
 · try simp only [Bool.or_eq_true, Bool.and_eq_true, Bool.or_eq_false_iff, Bool.and_eq_false_iff, decide_eq_true_eq, decide_eq_false_iff_not, Bool.not_eq_true', Bool.not_eq_false', beq_iff_eq, ne_eq, Decidable.not_not, List.length_map] at hc1
  refine AW_seq ?_
  refine AW_region ?_
  refine AL_move rfl ?_
  refine AL_norm TN ?_
  first | refine AL_load_rp sz24 rfl ag24 ?_ | refine AL_loadw sz24 rfl LK (by exact ag24) (by exact rfl) ?_ | refine AL_load_pt ag24 sz24 (by decide) rfl LK (by first | assumption | exact sz3 | exact sz57 | exact sz60 | exact sz21 | exact sz9 | exact sz52 | exact sz58 | exact sz24 | exact sz26 | exact sz22 | exact sz127 | exact sz223 | exact sz213 | exact sz207) (by exact rfl) (by exact rfl) (by exact rfl) ?_
  first | refine AL_load_rp sz24 rfl ag24 ?_ | refine AL_loadw sz24 rfl LK (by exact ag24) (by exact rfl) ?_ | refine AL_load_pt ag24 sz24 (by decide) rfl LK (by first | assumption | exact sz3 | exact sz57 | exact sz60 | exact sz21 | exact sz9 | exact sz52 | exact sz58 | exact sz24 | exact sz26 | exact sz22 | exact sz127 | exact sz223 | exact sz213 | exact sz207) (by exact rfl) (by exact rfl) (by exact rfl) ?_
  first | refine AL_load_rp sz3 rfl ag3 ?_ | refine AL_loadw sz3 rfl LK (by exact ag3) (by exact rfl) ?_ | refine AL_load_pt ag3 sz3 (by decide) rfl LK (by first | assumption | exact sz3 | exact sz57 | exact sz60 | exact sz21 | exact sz9 | exact sz52 | exact sz58 | exact sz24 | exact sz26 | exact sz22 | exact sz127 | exact sz223 | exact sz213 | exact sz207) (by exact rfl) (by exact rfl) (by exact rfl) ?_
  refine AL_callpi en162 (.cons (.ev rfl) (.cons (.ev rfl) (.cons (.ev rfl) (.cons (.ev rfl) (.cons (.ev rfl) (.nil)))))) HS (doc_Set_ok d a b 0 bit hd) ?_
  refine AL_norm TN ?_
  refine AL_extract rfl rfl ?_
  refine AL_extract rfl rfl ?_
  refine AL_assign rfl ?_
  refine AL_assign rfl ?_
  refine AL_norm TN ?_
  refine AL_nil ?_
  refine seqQ_n ?_
  refine AW_ret ?_
  refine seqQ_r ?_
  refine retQ_2 (H' := H) (.inr rfl) rfl rfl SU ?_
  refine K_eq ?_ hK
  rw [if_pos hc1]; rfl
 · try simp only [Bool.or_eq_true, Bool.and_eq_true, Bool.or_eq_false_iff, Bool.and_eq_false_iff, decide_eq_true_eq, decide_eq_false_iff_not, Bool.not_eq_true', Bool.not_eq_false', beq_iff_eq, ne_eq, Decidable.not_not, List.length_map] at hc1
  refine AW_skip ?_
  refine seqQ_n ?_
  refine AW_seq ?_
  refine AW_region ?_
  refine AL_move rfl ?_
  refine AL_norm TN ?_
  first | refine AL_load_rp sz24 rfl ag24 ?_ | refine AL_loadw sz24 rfl LK (by exact ag24) (by exact rfl) ?_ | refine AL_load_pt ag24 sz24 (by decide) rfl LK (by first | assumption | exact sz3 | exact sz57 | exact sz60 | exact sz21 | exact sz9 | exact sz52 | exact sz58 | exact sz24 | exact sz26 | exact sz22 | exact sz127 | exact sz223 | exact sz213 | exact sz207) (by exact rfl) (by exact rfl) (by exact rfl) ?_
  first | refine AL_load_rp sz24 rfl ag24 ?_ | refine AL_loadw sz24 rfl LK (by exact ag24) (by exact rfl) ?_ | refine AL_load_pt ag24 sz24 (by decide) rfl LK (by first | assumption | exact sz3 | exact sz57 | exact sz60 | exact sz21 | exact sz9 | exact sz52 | exact sz58 | exact sz24 | exact sz26 | exact sz22 | exact sz127 | exact sz223 | exact sz213 | exact sz207) (by exact rfl) (by exact rfl) (by exact rfl) ?_
  first | refine AL_load_rp sz3 rfl ag3 ?_ | refine AL_loadw sz3 rfl LK (by exact ag3) (by exact rfl) ?_ | refine AL_load_pt ag3 sz3 (by decide) rfl LK (by first | assumption | exact sz3 | exact sz57 | exact sz60 | exact sz21 | exact sz9 | exact sz52 | exact sz58 | exact sz24 | exact sz26 | exact sz22 | exact sz127 | exact sz223 | exact sz213 | exact sz207) (by exact rfl) (by exact rfl) (by exact rfl) ?_
  refine AL_callpi en162 (.cons (.ev rfl) (.cons (.ev rfl) (.cons (.ev rfl) (.cons (.ev rfl) (.cons (.ev rfl) (.nil)))))) HS (doc_Set_ok d a b bit 0 hd) ?_
  refine AL_norm TN ?_
  refine AL_extract rfl rfl ?_
  refine AL_extract rfl rfl ?_
  refine AL_assign rfl ?_
  refine AL_assign rfl ?_
  refine AL_norm TN ?_
  refine AL_nil ?_
  refine seqQ_n ?_
  refine AW_ret ?_
  refine retQ_2 (H' := H) (.inr rfl) rfl rfl SU ?_
  refine K_eq ?_ hK
  rw [if_neg (by rw [hc1]; exact Bool.false_ne_true)]; rfl

/-- quillwork/styling.Mixed -/
theorem styling_Mixed_ok (s : Q.St) (bit : Int) (hs : SS s) :
  PI TQ Tryz.prog 54 [stAV s, .v (.int .i64 bit)] (.v (.bool (mixedS s bit))) := by
 intro H K hT hK
 refine AC_of Tryz.func54 rfl (rs := [.tmp 4]) rfl Tryz.ntmps54 rfl ?_
 refine AW_norm TP ?_
 refine AW_seq ?_
 refine AW_region ?_
 refine AL_box rfl rfl sz26 rfl ?_
 intro b1 hb1
 refine AL_norm TN ?_
 refine AL_frzpt 2 rfl (AH.upd_same _ _ _) ?_
 refine AL_heap (AH.upd_none_eq hb1) ?_
 refine AL_norm TN ?_
 clear hb1
 refine AL_assign rfl ?_
 refine AL_norm TN ?_
 refine AL_nil (seqQ_n (AW_seq (AW_region ?_)))
 first | refine AL_load_rp sz26 rfl ag26 ?_ | refine AL_loadw sz26 rfl LK (by exact ag26) (by exact rfl) ?_ | refine AL_load_pt ag26 sz26 (by decide) rfl LK (by first | assumption | exact sz3 | exact sz57 | exact sz60 | exact sz21 | exact sz9 | exact sz52 | exact sz58 | exact sz24 | exact sz26 | exact sz22 | exact sz127 | exact sz223 | exact sz213 | exact sz207) (by exact rfl) (by exact rfl) (by exact rfl) ?_
 refine AL_callp en114 (.cons (.ev rfl) (.nil)) (typing_Span_ok _) ?_
 refine AL_norm TN ?_
 refine AL_move rfl ?_
 refine AL_extract rfl rfl ?_
 refine AL_extract rfl rfl ?_
 refine AL_alloc ze24 (.agg (.v (.v .nil))) rfl sz24 rfl ?_
 intro b2 hb2
 have hn2 : H b2 = none := SubH.none SU hb2
 refine AL_norm TN ?_
 refine AL_alloc ze24 (.agg (.v (.v .nil))) rfl sz24 rfl ?_
 intro b3 hb3
 have hn3 : H b3 = none := SubH.none SU hb3
 have hd3_2 : b3 ≠ b2 := AH.fresh_ne hb3 LK
 have hd2_3 : b2 ≠ b3 := Ne.symm hd3_2
 first | refine AL_store_w sz24 rfl (.ev rfl) rfl LK rfl (by exact rfl) ?_ | refine AL_store rfl (.ev rfl) rfl LK (by first | assumption | exact sz3 | exact sz57 | exact sz60 | exact sz21 | exact sz9 | exact sz52 | exact sz58 | exact sz24 | exact sz26 | exact sz22 | exact sz127 | exact sz223 | exact sz213 | exact sz207) (by exact rfl) sz24 rfl (by decide) (fun h => by first | (cases h; done) | exact ⟨rfl, rfl, rfl⟩) ?_
 refine AL_heap (by first | (simp only [AH.upd_upd]; rfl) | rfl) ?_
 first | refine AL_store_w sz24 rfl (.ev rfl) rfl LK rfl (by exact rfl) ?_ | refine AL_store rfl (.ev rfl) rfl LK (by first | assumption | exact sz3 | exact sz57 | exact sz60 | exact sz21 | exact sz9 | exact sz52 | exact sz58 | exact sz24 | exact sz26 | exact sz22 | exact sz127 | exact sz223 | exact sz213 | exact sz207) (by exact rfl) sz24 rfl (by decide) (fun h => by first | (cases h; done) | exact ⟨rfl, rfl, rfl⟩) ?_
 refine AL_heap (by first | (simp only [AH.upd_upd]; rfl) | rfl) ?_
 refine AL_norm TN ?_
 refine AL_nil (seqQ_n (AW_seq (AW_region ?_)))
 first | refine AL_load_rp sz26 rfl ag26 ?_ | refine AL_loadw sz26 rfl LK (by exact ag26) (by exact rfl) ?_ | refine AL_load_pt ag26 sz26 (by decide) rfl LK (by first | assumption | exact sz3 | exact sz57 | exact sz60 | exact sz21 | exact sz9 | exact sz52 | exact sz58 | exact sz24 | exact sz26 | exact sz22 | exact sz127 | exact sz223 | exact sz213 | exact sz207) (by exact rfl) (by exact rfl) (by exact rfl) ?_
 refine AL_norm TN ?_
 refine AL_callpi en23 (.cons (.ev rfl) (.nil)) HS (typing_May_ok s hs) ?_
 refine AL_move rfl ?_
 refine AL_and (j := 2) (n := 2) (c := 14) (t := 16) (r := 17) (v := ?v1) [15, 16] rfl rfl rfl rfl rfl rfl rfl (fun hg1 => ?_) ?_; rotate_left
 · simp only [List.take_succ_cons, List.take_zero, List.map_cons, List.map_nil, strip, Nat.reduceBEq, beq_self_eq_true, Bool.and_self, Bool.true_and, Bool.false_and, cond_true, cond_false]
  try simp only [Bool.or_eq_true, Bool.and_eq_true, Bool.or_eq_false_iff, Bool.and_eq_false_iff, decide_eq_true_eq, decide_eq_false_iff_not, Bool.not_eq_true', Bool.not_eq_false', beq_iff_eq, ne_eq, Decidable.not_not, List.length_map] at hg1
  first | refine AL_load_rp sz26 rfl ag26 ?_ | refine AL_loadw sz26 rfl LK (by exact ag26) (by exact rfl) ?_ | refine AL_load_pt ag26 sz26 (by decide) rfl LK (by first | assumption | exact sz3 | exact sz57 | exact sz60 | exact sz21 | exact sz9 | exact sz52 | exact sz58 | exact sz24 | exact sz26 | exact sz22 | exact sz127 | exact sz223 | exact sz213 | exact sz207) (by exact rfl) (by exact rfl) (by exact rfl) ?_
  refine AL_callp en115 (.cons (.ev rfl) (.nil)) (styling_open_ok _) ?_
  refine AL_nil (grpQ_mk ?_)
  try simp only [tput, anyAt, setAll, List.foldl_cons, List.foldl_nil, List.set_cons_zero, List.set_cons_succ]
  repeat (first | exact Weak.nil | refine Weak.cons ?_ | refine Weak.consAny ?_)
 refine AL_norm TN ?_
 refine AL_move rfl ?_
 refine AL_norm TN ?_
 refine AL_and (j := 6) (n := 6) (c := 18) (t := 24) (r := 25) (v := ?v2) [19, 20, 21, 22, 23, 24] rfl rfl rfl rfl rfl rfl rfl (fun hg2 => ?_) ?_; rotate_left
 · simp only [List.take_succ_cons, List.take_zero, List.map_cons, List.map_nil, strip, Nat.reduceBEq, beq_self_eq_true, Bool.and_self, Bool.true_and, Bool.false_and, cond_true, cond_false]
  try simp only [Bool.or_eq_true, Bool.and_eq_true, Bool.or_eq_false_iff, Bool.and_eq_false_iff, decide_eq_true_eq, decide_eq_false_iff_not, Bool.not_eq_true', Bool.not_eq_false', beq_iff_eq, ne_eq, Decidable.not_not, List.length_map] at hg2
  first | refine AL_fieldAddr_pt fl26_0 sz22 (by decide) rfl ?_ | refine AL_fieldAddr_rp fl26_0 ag22 sz22 (by decide) (by decide) rfl rfl (fun h => by first | rfl | cases h) ?_
  first | refine AL_load_rp sz22 rfl ag22 ?_ | refine AL_loadw sz22 rfl LK (by exact ag22) (by exact rfl) ?_ | refine AL_load_pt ag22 sz22 (by decide) rfl LK (by first | assumption | exact sz3 | exact sz57 | exact sz60 | exact sz21 | exact sz9 | exact sz52 | exact sz58 | exact sz24 | exact sz26 | exact sz22 | exact sz127 | exact sz223 | exact sz213 | exact sz207) (by exact rfl) (by exact rfl) (by exact rfl) ?_
  first | refine AL_load_rp sz24 rfl ag24 ?_ | refine AL_loadw sz24 rfl LK (by exact ag24) (by exact rfl) ?_ | refine AL_load_pt ag24 sz24 (by decide) rfl LK (by first | assumption | exact sz3 | exact sz57 | exact sz60 | exact sz21 | exact sz9 | exact sz52 | exact sz58 | exact sz24 | exact sz26 | exact sz22 | exact sz127 | exact sz223 | exact sz213 | exact sz207) (by exact rfl) (by exact rfl) (by exact rfl) ?_
  first | refine AL_load_rp sz24 rfl ag24 ?_ | refine AL_loadw sz24 rfl LK (by exact ag24) (by exact rfl) ?_ | refine AL_load_pt ag24 sz24 (by decide) rfl LK (by first | assumption | exact sz3 | exact sz57 | exact sz60 | exact sz21 | exact sz9 | exact sz52 | exact sz58 | exact sz24 | exact sz26 | exact sz22 | exact sz127 | exact sz223 | exact sz213 | exact sz207) (by exact rfl) (by exact rfl) (by exact rfl) ?_
  refine AL_norm TN ?_
  refine AL_move rfl ?_
  refine AL_callpi en116 (.cons (.ev rfl) (.cons (.ev rfl) (.cons (.ev rfl) (.cons (.ev rfl) (.nil))))) HS (doc_Some_ok s.lines _ _ bit hs.1) ?_
  refine AL_nil (grpQ_mk ?_)
  try simp only [tput, anyAt, setAll, List.foldl_cons, List.foldl_nil, List.set_cons_zero, List.set_cons_succ]
  repeat (first | exact Weak.nil | refine Weak.cons ?_ | refine Weak.consAny ?_)
 refine AL_norm TN ?_
 refine AL_move rfl ?_
 refine AL_and (j := 14) (n := 7) (c := 26) (t := 33) (r := 34) (v := ?v3) [27, 28, 29, 30, 31, 32, 33] rfl rfl rfl rfl rfl rfl rfl (fun hg3 => ?_) ?_; rotate_left
 · simp only [List.take_succ_cons, List.take_zero, List.map_cons, List.map_nil, strip, Nat.reduceBEq, beq_self_eq_true, Bool.and_self, Bool.true_and, Bool.false_and, cond_true, cond_false]
  try simp only [Bool.or_eq_true, Bool.and_eq_true, Bool.or_eq_false_iff, Bool.and_eq_false_iff, decide_eq_true_eq, decide_eq_false_iff_not, Bool.not_eq_true', Bool.not_eq_false', beq_iff_eq, ne_eq, Decidable.not_not, List.length_map] at hg3
  first | refine AL_fieldAddr_pt fl26_0 sz22 (by decide) rfl ?_ | refine AL_fieldAddr_rp fl26_0 ag22 sz22 (by decide) (by decide) rfl rfl (fun h => by first | rfl | cases h) ?_
  refine AL_norm TN ?_
  first | refine AL_load_rp sz22 rfl ag22 ?_ | refine AL_loadw sz22 rfl LK (by exact ag22) (by exact rfl) ?_ | refine AL_load_pt ag22 sz22 (by decide) rfl LK (by first | assumption | exact sz3 | exact sz57 | exact sz60 | exact sz21 | exact sz9 | exact sz52 | exact sz58 | exact sz24 | exact sz26 | exact sz22 | exact sz127 | exact sz223 | exact sz213 | exact sz207) (by exact rfl) (by exact rfl) (by exact rfl) ?_
  first | refine AL_load_rp sz24 rfl ag24 ?_ | refine AL_loadw sz24 rfl LK (by exact ag24) (by exact rfl) ?_ | refine AL_load_pt ag24 sz24 (by decide) rfl LK (by first | assumption | exact sz3 | exact sz57 | exact sz60 | exact sz21 | exact sz9 | exact sz52 | exact sz58 | exact sz24 | exact sz26 | exact sz22 | exact sz127 | exact sz223 | exact sz213 | exact sz207) (by exact rfl) (by exact rfl) (by exact rfl) ?_
  first | refine AL_load_rp sz24 rfl ag24 ?_ | refine AL_loadw sz24 rfl LK (by exact ag24) (by exact rfl) ?_ | refine AL_load_pt ag24 sz24 (by decide) rfl LK (by first | assumption | exact sz3 | exact sz57 | exact sz60 | exact sz21 | exact sz9 | exact sz52 | exact sz58 | exact sz24 | exact sz26 | exact sz22 | exact sz127 | exact sz223 | exact sz213 | exact sz207) (by exact rfl) (by exact rfl) (by exact rfl) ?_
  refine AL_move rfl ?_
  refine AL_norm TN ?_
  refine AL_callpi en117 (.cons (.ev rfl) (.cons (.ev rfl) (.cons (.ev rfl) (.cons (.ev rfl) (.nil))))) HS (doc_All_ok s.lines _ _ bit hs.1) ?_
  refine AL_not rfl ?_
  refine AL_nil (grpQ_mk ?_)
  try simp only [tput, anyAt, setAll, List.foldl_cons, List.foldl_nil, List.set_cons_zero, List.set_cons_succ]
  repeat (first | exact Weak.nil | refine Weak.cons ?_ | refine Weak.consAny ?_)
 refine AL_norm TN ?_
 refine AL_assign rfl ?_
 refine AL_norm TN ?_
 refine AL_nil ?_
 refine seqQ_n ?_
 refine AW_ret ?_
 refine retQ_1 (H' := H) (.inr rfl) rfl SU ?_
 refine K_eq ?_ hK
 rfl


end Go.Proofs
