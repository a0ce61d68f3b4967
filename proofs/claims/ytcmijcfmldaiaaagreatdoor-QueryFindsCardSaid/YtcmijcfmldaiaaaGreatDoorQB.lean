/- The given statement of the law: for every input the law answers true. No conditions of our own. -/
import Derived.Test.YtcmijcfmldaiaaaGreatDoorQMa
import Derived.Test.YtcmijcfmldaiaaaGreatDoorTD
import Derived.Test.YtcmijcfmldaiaaaGreatDoorProg
set_option autoImplicit false
set_option linter.unusedVariables false
set_option linter.unusedSimpArgs false
set_option maxRecDepth 100000
set_option maxHeartbeats 4000000
namespace Go.Proofs
open Go Go.RowKit Go.AL Go.Q Go.IntWalk
theorem en300 : entersOf Tryz.prog 300 = true := by kernel_rfl
theorem en276 : entersOf Tryz.prog 276 = true := by kernel_rfl
theorem un52 : Tryz.prog.underlying 52 = some (.slice 3) := by kernel_rfl
theorem sz3 : szOf Tryz.prog 3 = some 1 := by kernel_rfl
theorem ze3 : zeroOf Tryz.prog 3 = some (.int .i64 0) := by kernel_rfl
theorem inf3 : infoOf Tryz.prog 3 = some (some (.int .i64 0), 1, 8) := by kernel_rfl
theorem un58 : Tryz.prog.underlying 58 = some (.slice 57) := by kernel_rfl
theorem sz57 : szOf Tryz.prog 57 = some 3 := by kernel_rfl
theorem ze57 : zeroOf Tryz.prog 57 = some (.agg #[.int .i32 0, .int .i64 0, .string ⟨#[]⟩]) := by kernel_rfl
theorem inf57 : infoOf Tryz.prog 57 = some (some (.agg #[.int .i32 0, .int .i64 0, .string ⟨#[]⟩]), 3, 32) := by kernel_rfl
theorem ag3 : aggOf Tryz.prog 3 = some false := by kernel_rfl
theorem ag57 : aggOf Tryz.prog 57 = some true := by kernel_rfl
theorem un22 : Tryz.prog.underlying 22 = some (.slice 60) := by kernel_rfl
theorem sz60 : szOf Tryz.prog 60 = some 4 := by kernel_rfl
theorem ag60 : aggOf Tryz.prog 60 = some true := by kernel_rfl
theorem en267 : entersOf Tryz.prog 267 = true := by kernel_rfl
theorem en206 : entersOf Tryz.prog 206 = true := by kernel_rfl
theorem en207 : entersOf Tryz.prog 207 = true := by kernel_rfl

/-- unicode/utf8.ValidRune -/
theorem unicode_utf8_ValidRune_ok (r : Int) :
  PF Tryz.prog 300 [.v (.int .i32 r)] (.v (.bool (validR r))) := by
 intro H K hK
 refine AC_of Tryz.func300 rfl (rs := [.tmp 2]) rfl Tryz.ntmps300 rfl ?_
 refine AW_norm TP ?_
 refine AW_seq ?_
 refine AW_region ?_
 refine AL_assign rfl ?_
 refine AL_norm TN ?_
 refine AL_nil ?_
 refine seqQ_n ?_
 refine AW_seq ?_
 refine AW_block ?_
 refine AW_seq ?_
 refine AW_region ?_
 refine AL_move rfl ?_
 refine AL_leq rfl rfl ?_
 refine AL_move rfl ?_
 refine AL_norm TN ?_
 refine AL_and (j := 2) (n := 2) (c := 6) (t := 8) (r := 9) (v := ?v1) [7, 8] rfl rfl rfl rfl rfl rfl rfl (fun hg1 => ?_) ?_; rotate_left
 · simp only [List.take_succ_cons, List.take_zero, List.map_cons, List.map_nil, strip, Nat.reduceBEq, beq_self_eq_true, Bool.and_self, Bool.true_and, Bool.false_and, cond_true, cond_false]
  try simp only [Bool.or_eq_true, Bool.and_eq_true, Bool.or_eq_false_iff, Bool.and_eq_false_iff, decide_eq_true_eq, decide_eq_false_iff_not, Bool.not_eq_true', Bool.not_eq_false', beq_iff_eq, ne_eq, Decidable.not_not, List.length_map] at hg1
  refine AL_move rfl ?_
  refine AL_lss rfl rfl ?_
  refine AL_nil (grpQ_mk ?_)
  try simp only [tput, anyAt, setAll, List.foldl_cons, List.foldl_nil, List.set_cons_zero, List.set_cons_succ]
  repeat (first | exact Weak.nil | refine Weak.cons ?_ | refine Weak.consAny ?_)
 refine AL_norm TN ?_
 refine AL_assign rfl ?_
 refine AL_norm TN ?_
 refine AL_nil ?_
 refine seqQ_n ?_
 refine AW_cond rfl (fun hc2 => ?_) (fun hc2 => ?_)
 · try simp only [Bool.or_eq_true, Bool.and_eq_true, Bool.or_eq_false_iff, Bool.and_eq_false_iff, decide_eq_true_eq, decide_eq_false_iff_not, Bool.not_eq_true', Bool.not_eq_false', beq_iff_eq, ne_eq, Decidable.not_not, List.length_map] at hc2
  refine AW_seq ?_
  refine AW_region ?_
  refine AL_assign rfl ?_
  refine AL_norm TN ?_
  refine AL_nil ?_
  refine seqQ_n ?_
  refine AW_ret ?_
  refine blockQ_r ?_
  refine seqQ_r ?_
  refine retQ_1 (H' := H) (.inr rfl) rfl SU ?_
  refine K_eq ?_ hK
  exact congrArg (fun b => AV.v (.bool b)) (by unfold validR; first | (exact (decide_eq_true (by omega)).symm) | (exact (decide_eq_false (by omega)).symm) | (exact decide_eq_decide.2 (by omega)))
 · try simp only [Bool.or_eq_true, Bool.and_eq_true, Bool.or_eq_false_iff, Bool.and_eq_false_iff, decide_eq_true_eq, decide_eq_false_iff_not, Bool.not_eq_true', Bool.not_eq_false', beq_iff_eq, ne_eq, Decidable.not_not, List.length_map] at hc2
  refine AW_seq ?_
  refine AW_region ?_
  refine AL_move rfl ?_
  refine AL_norm TN ?_
  refine AL_lss rfl rfl ?_
  refine AL_move rfl ?_
  refine AL_and (j := 2) (n := 2) (c := 13) (t := 15) (r := 16) (v := ?v3) [14, 15] rfl rfl rfl rfl rfl rfl rfl (fun hg3 => ?_) ?_; rotate_left
  · simp only [List.take_succ_cons, List.take_zero, List.map_cons, List.map_nil, strip, Nat.reduceBEq, beq_self_eq_true, Bool.and_self, Bool.true_and, Bool.false_and, cond_true, cond_false]
   try simp only [Bool.or_eq_true, Bool.and_eq_true, Bool.or_eq_false_iff, Bool.and_eq_false_iff, decide_eq_true_eq, decide_eq_false_iff_not, Bool.not_eq_true', Bool.not_eq_false', beq_iff_eq, ne_eq, Decidable.not_not, List.length_map] at hg3
   refine AL_move rfl ?_
   refine AL_leq rfl rfl ?_
   refine AL_nil (grpQ_mk ?_)
   try simp only [tput, anyAt, setAll, List.foldl_cons, List.foldl_nil, List.set_cons_zero, List.set_cons_succ]
   repeat (first | exact Weak.nil | refine Weak.cons ?_ | refine Weak.consAny ?_)
  refine AL_norm TN ?_
  refine AL_assign rfl ?_
  refine AL_norm TN ?_
  refine AL_nil ?_
  refine seqQ_n ?_
  refine AW_cond rfl (fun hc4 => ?_) (fun hc4 => ?_)
  · try simp only [Bool.or_eq_true, Bool.and_eq_true, Bool.or_eq_false_iff, Bool.and_eq_false_iff, decide_eq_true_eq, decide_eq_false_iff_not, Bool.not_eq_true', Bool.not_eq_false', beq_iff_eq, ne_eq, Decidable.not_not, List.length_map] at hc4
   refine AW_seq ?_
   refine AW_region ?_
   refine AL_assign rfl ?_
   refine AL_norm TN ?_
   refine AL_nil ?_
   refine seqQ_n ?_
   refine AW_ret ?_
   refine blockQ_r ?_
   refine seqQ_r ?_
   refine retQ_1 (H' := H) (.inr rfl) rfl SU ?_
   refine K_eq ?_ hK
   exact congrArg (fun b => AV.v (.bool b)) (by unfold validR; first | (exact (decide_eq_true (by omega)).symm) | (exact (decide_eq_false (by omega)).symm) | (exact decide_eq_decide.2 (by omega)))
  · try simp only [Bool.or_eq_true, Bool.and_eq_true, Bool.or_eq_false_iff, Bool.and_eq_false_iff, decide_eq_true_eq, decide_eq_false_iff_not, Bool.not_eq_true', Bool.not_eq_false', beq_iff_eq, ne_eq, Decidable.not_not, List.length_map] at hc4
   refine AW_skip ?_
   refine blockQ_n ?_
   refine seqQ_n ?_
   refine AW_seq ?_
   refine AW_region ?_
   refine AL_assign rfl ?_
   refine AL_norm TN ?_
   refine AL_nil ?_
   refine seqQ_n ?_
   refine AW_ret ?_
   refine retQ_1 (H' := H) (.inr rfl) rfl SU ?_
   refine K_eq ?_ hK
   exact congrArg (fun b => AV.v (.bool b)) (by unfold validR; first | (exact (decide_eq_true (by omega)).symm) | (exact (decide_eq_false (by omega)).symm) | (exact decide_eq_decide.2 (by omega)))

/-- quillwork/chars.Class -/
theorem chars_Class_ok (r : Int) :
  PF Tryz.prog 276 [.v (.int .i32 r)] (.v (.int .i64 (classI r))) := by
 intro H K hK
 refine AC_of Tryz.func276 rfl (rs := [.tmp 2]) rfl Tryz.ntmps276 rfl ?_
 refine AW_norm TP ?_
 refine AW_seq ?_
 refine AW_region ?_
 refine AL_assign rfl ?_
 refine AL_norm TN ?_
 refine AL_nil ?_
 refine seqQ_n ?_
 refine AW_seq ?_
 refine AW_block ?_
 refine AW_seq ?_
 refine AW_block ?_
 refine AW_seq ?_
 refine AW_block ?_
 refine AW_block ?_
 refine AW_block ?_
 refine AW_seq ?_
 refine AW_block ?_
 refine AW_seq ?_
 refine AW_block ?_
 refine AW_seq ?_
 refine AW_block ?_
 refine AW_block ?_
 refine AW_seq ?_
 refine AW_block ?_
 refine AW_seq ?_
 refine AW_seq ?_
 refine AW_seq ?_
 refine AW_region ?_
 refine AL_move rfl ?_
 refine AL_callp en300 (.cons (.ev rfl) (.nil)) (unicode_utf8_ValidRune_ok _) ?_
 refine AL_not rfl ?_
 refine AL_norm TN ?_
 refine AL_assign rfl ?_
 refine AL_norm TN ?_
 refine AL_nil ?_
 refine seqQ_n ?_
 refine AW_cond rfl (fun hc1 => ?_) (fun hc1 => ?_)
 · try simp only [Bool.or_eq_true, Bool.and_eq_true, Bool.or_eq_false_iff, Bool.and_eq_false_iff, decide_eq_true_eq, decide_eq_false_iff_not, Bool.not_eq_true', Bool.not_eq_false', beq_iff_eq, ne_eq, Decidable.not_not, List.length_map] at hc1; try simp only [validR, decide_eq_true_eq, decide_eq_false_iff_not] at hc1
  refine AW_exit ?_
  refine seqQ_x ?_
  refine seqQ_x ?_
  refine blockQ_hit ?_
  refine seqQ_n ?_
  refine AW_seq ?_
  refine AW_seq ?_
  refine AW_region ?_
  refine AL_assign rfl ?_
  refine AL_norm TN ?_
  refine AL_nil ?_
  refine seqQ_n ?_
  refine AW_ret ?_
  refine seqQ_r ?_
  refine blockQ_r ?_
  refine blockQ_r ?_
  refine seqQ_r ?_
  refine blockQ_r ?_
  refine seqQ_r ?_
  refine blockQ_r ?_
  refine seqQ_r ?_
  refine blockQ_r ?_
  refine blockQ_r ?_
  refine blockQ_r ?_
  refine seqQ_r ?_
  refine blockQ_r ?_
  refine seqQ_r ?_
  refine blockQ_r ?_
  refine seqQ_r ?_
  refine retQ_1 (H' := H) (.inr rfl) rfl SU ?_
  refine K_eq ?_ hK
  exact congrArg (fun z => AV.v (.int .i64 z)) (by unfold classI; (repeat' split) <;> first | rfl | (exfalso; omega))
 · try simp only [Bool.or_eq_true, Bool.and_eq_true, Bool.or_eq_false_iff, Bool.and_eq_false_iff, decide_eq_true_eq, decide_eq_false_iff_not, Bool.not_eq_true', Bool.not_eq_false', beq_iff_eq, ne_eq, Decidable.not_not, List.length_map] at hc1; try simp only [validR, decide_eq_true_eq, decide_eq_false_iff_not] at hc1
  refine AW_skip ?_
  refine seqQ_n ?_
  refine AW_seq ?_
  refine AW_seq ?_
  refine AW_region ?_
  refine AL_move rfl ?_
  refine AL_lss rfl rfl ?_
  refine AL_norm TN ?_
  refine AL_assign rfl ?_
  refine AL_norm TN ?_
  refine AL_nil ?_
  refine seqQ_n ?_
  refine AW_cond rfl (fun hc2 => ?_) (fun hc2 => ?_)
  · try simp only [Bool.or_eq_true, Bool.and_eq_true, Bool.or_eq_false_iff, Bool.and_eq_false_iff, decide_eq_true_eq, decide_eq_false_iff_not, Bool.not_eq_true', Bool.not_eq_false', beq_iff_eq, ne_eq, Decidable.not_not, List.length_map] at hc2; try simp only [validR, decide_eq_true_eq, decide_eq_false_iff_not] at hc2
   refine AW_exit ?_
   refine seqQ_x ?_
   refine seqQ_x ?_
   refine blockQ_miss (by decide) ?_
   refine seqQ_x ?_
   refine blockQ_hit ?_
   refine blockQ_n ?_
   refine seqQ_n ?_
   refine AW_seq ?_
   refine AW_seq ?_
   refine AW_region ?_
   refine AL_assign rfl ?_
   refine AL_norm TN ?_
   refine AL_nil ?_
   refine seqQ_n ?_
   refine AW_ret ?_
   refine seqQ_r ?_
   refine blockQ_r ?_
   refine seqQ_r ?_
   refine blockQ_r ?_
   refine seqQ_r ?_
   refine blockQ_r ?_
   refine blockQ_r ?_
   refine blockQ_r ?_
   refine seqQ_r ?_
   refine blockQ_r ?_
   refine seqQ_r ?_
   refine blockQ_r ?_
   refine seqQ_r ?_
   refine retQ_1 (H' := H) (.inr rfl) rfl SU ?_
   refine K_eq ?_ hK
   exact congrArg (fun z => AV.v (.int .i64 z)) (by unfold classI; (repeat' split) <;> first | rfl | (exfalso; omega))
  · try simp only [Bool.or_eq_true, Bool.and_eq_true, Bool.or_eq_false_iff, Bool.and_eq_false_iff, decide_eq_true_eq, decide_eq_false_iff_not, Bool.not_eq_true', Bool.not_eq_false', beq_iff_eq, ne_eq, Decidable.not_not, List.length_map] at hc2; try simp only [validR, decide_eq_true_eq, decide_eq_false_iff_not] at hc2
   refine AW_skip ?_
   refine seqQ_n ?_
   refine AW_seq ?_
   refine AW_seq ?_
   refine AW_region ?_
   refine AL_move rfl ?_
   refine AL_eql rfl rfl ?_
   refine AL_norm TN ?_
   refine AL_assign rfl ?_
   refine AL_norm TN ?_
   refine AL_nil ?_
   refine seqQ_n ?_
   refine AW_cond rfl (fun hc3 => ?_) (fun hc3 => ?_)
   · try simp only [Bool.or_eq_true, Bool.and_eq_true, Bool.or_eq_false_iff, Bool.and_eq_false_iff, decide_eq_true_eq, decide_eq_false_iff_not, Bool.not_eq_true', Bool.not_eq_false', beq_iff_eq, ne_eq, Decidable.not_not, List.length_map] at hc3; try simp only [validR, decide_eq_true_eq, decide_eq_false_iff_not] at hc3
    refine AW_exit ?_
    refine seqQ_x ?_
    refine seqQ_x ?_
    refine blockQ_miss (by decide) ?_
    refine seqQ_x ?_
    refine blockQ_miss (by decide) ?_
    refine blockQ_hit ?_
    refine seqQ_n ?_
    refine AW_seq ?_
    refine AW_seq ?_
    refine AW_region ?_
    refine AL_assign rfl ?_
    refine AL_norm TN ?_
    refine AL_nil ?_
    refine seqQ_n ?_
    refine AW_ret ?_
    refine seqQ_r ?_
    refine blockQ_r ?_
    refine seqQ_r ?_
    refine blockQ_r ?_
    refine seqQ_r ?_
    refine blockQ_r ?_
    refine blockQ_r ?_
    refine blockQ_r ?_
    refine seqQ_r ?_
    refine blockQ_r ?_
    refine seqQ_r ?_
    refine blockQ_r ?_
    refine seqQ_r ?_
    refine retQ_1 (H' := H) (.inr rfl) rfl SU ?_
    refine K_eq ?_ hK
    exact congrArg (fun z => AV.v (.int .i64 z)) (by unfold classI; (repeat' split) <;> first | rfl | (exfalso; omega))
   · try simp only [Bool.or_eq_true, Bool.and_eq_true, Bool.or_eq_false_iff, Bool.and_eq_false_iff, decide_eq_true_eq, decide_eq_false_iff_not, Bool.not_eq_true', Bool.not_eq_false', beq_iff_eq, ne_eq, Decidable.not_not, List.length_map] at hc3; try simp only [validR, decide_eq_true_eq, decide_eq_false_iff_not] at hc3
    refine AW_skip ?_
    refine seqQ_n ?_
    refine AW_seq ?_
    refine AW_seq ?_
    refine AW_seq ?_
    refine AW_region ?_
    refine AL_move rfl ?_
    refine AL_eql rfl rfl ?_
    refine AL_norm TN ?_
    refine AL_assign rfl ?_
    refine AL_norm TN ?_
    refine AL_nil ?_
    refine seqQ_n ?_
    refine AW_cond rfl (fun hc4 => ?_) (fun hc4 => ?_)
    · try simp only [Bool.or_eq_true, Bool.and_eq_true, Bool.or_eq_false_iff, Bool.and_eq_false_iff, decide_eq_true_eq, decide_eq_false_iff_not, Bool.not_eq_true', Bool.not_eq_false', beq_iff_eq, ne_eq, Decidable.not_not, List.length_map] at hc4; try simp only [validR, decide_eq_true_eq, decide_eq_false_iff_not] at hc4
     refine AW_skip ?_
     refine seqQ_n ?_
     refine AW_cond rfl (fun hc5 => ?_) (fun hc5 => ?_)
     · try simp only [Bool.or_eq_true, Bool.and_eq_true, Bool.or_eq_false_iff, Bool.and_eq_false_iff, decide_eq_true_eq, decide_eq_false_iff_not, Bool.not_eq_true', Bool.not_eq_false', beq_iff_eq, ne_eq, Decidable.not_not, List.length_map] at hc5; try simp only [validR, decide_eq_true_eq, decide_eq_false_iff_not] at hc5
      refine AW_exit ?_
      refine seqQ_x ?_
      refine seqQ_x ?_
      refine blockQ_miss (by decide) ?_
      refine seqQ_x ?_
      refine blockQ_miss (by decide) ?_
      refine blockQ_miss (by decide) ?_
      refine seqQ_x ?_
      refine blockQ_hit ?_
      refine seqQ_n ?_
      refine AW_seq ?_
      refine AW_seq ?_
      refine AW_region ?_
      refine AL_assign rfl ?_
      refine AL_norm TN ?_
      refine AL_nil ?_
      refine seqQ_n ?_
      refine AW_ret ?_
      refine seqQ_r ?_
      refine blockQ_r ?_
      refine seqQ_r ?_
      refine blockQ_r ?_
      refine blockQ_r ?_
      refine blockQ_r ?_
      refine seqQ_r ?_
      refine blockQ_r ?_
      refine seqQ_r ?_
      refine blockQ_r ?_
      refine seqQ_r ?_
      refine retQ_1 (H' := H) (.inr rfl) rfl SU ?_
      refine K_eq ?_ hK
      exact congrArg (fun z => AV.v (.int .i64 z)) (by unfold classI; (repeat' split) <;> first | rfl | (exfalso; omega))
     · try simp only [Bool.or_eq_true, Bool.and_eq_true, Bool.or_eq_false_iff, Bool.and_eq_false_iff, decide_eq_true_eq, decide_eq_false_iff_not, Bool.not_eq_true', Bool.not_eq_false', beq_iff_eq, ne_eq, Decidable.not_not, List.length_map] at hc5; try simp only [validR, decide_eq_true_eq, decide_eq_false_iff_not] at hc5
      refine AW_skip ?_
      refine seqQ_n ?_
      refine AW_seq ?_
      refine AW_seq ?_
      refine AW_region ?_
      refine AL_move rfl ?_
      refine AL_eql rfl rfl ?_
      refine AL_norm TN ?_
      refine AL_assign rfl ?_
      refine AL_norm TN ?_
      refine AL_nil ?_
      refine seqQ_n ?_
      refine AW_cond rfl (fun hc6 => ?_) (fun hc6 => ?_)
      · try simp only [Bool.or_eq_true, Bool.and_eq_true, Bool.or_eq_false_iff, Bool.and_eq_false_iff, decide_eq_true_eq, decide_eq_false_iff_not, Bool.not_eq_true', Bool.not_eq_false', beq_iff_eq, ne_eq, Decidable.not_not, List.length_map] at hc6; try simp only [validR, decide_eq_true_eq, decide_eq_false_iff_not] at hc6
       refine AW_exit ?_
       refine seqQ_x ?_
       refine seqQ_x ?_
       refine blockQ_miss (by decide) ?_
       refine seqQ_x ?_
       refine blockQ_miss (by decide) ?_
       refine blockQ_miss (by decide) ?_
       refine seqQ_x ?_
       refine blockQ_miss (by decide) ?_
       refine seqQ_x ?_
       refine blockQ_hit ?_
       refine seqQ_n ?_
       refine AW_seq ?_
       refine AW_seq ?_
       refine AW_region ?_
       refine AL_assign rfl ?_
       refine AL_norm TN ?_
       refine AL_nil ?_
       refine seqQ_n ?_
       refine AW_ret ?_
       refine seqQ_r ?_
       refine blockQ_r ?_
       refine blockQ_r ?_
       refine blockQ_r ?_
       refine seqQ_r ?_
       refine blockQ_r ?_
       refine seqQ_r ?_
       refine blockQ_r ?_
       refine seqQ_r ?_
       refine retQ_1 (H' := H) (.inr rfl) rfl SU ?_
       refine K_eq ?_ hK
       exact congrArg (fun z => AV.v (.int .i64 z)) (by unfold classI; (repeat' split) <;> first | rfl | (exfalso; omega))
      · try simp only [Bool.or_eq_true, Bool.and_eq_true, Bool.or_eq_false_iff, Bool.and_eq_false_iff, decide_eq_true_eq, decide_eq_false_iff_not, Bool.not_eq_true', Bool.not_eq_false', beq_iff_eq, ne_eq, Decidable.not_not, List.length_map] at hc6; try simp only [validR, decide_eq_true_eq, decide_eq_false_iff_not] at hc6
       refine AW_skip ?_
       refine seqQ_n ?_
       refine AW_seq ?_
       refine AW_seq ?_
       refine AW_region ?_
       refine AL_move rfl ?_
       refine AL_geq rfl rfl ?_
       refine AL_norm TN ?_
       refine AL_move rfl ?_
       refine AL_and (j := 2) (n := 2) (c := 24) (t := 26) (r := 27) (v := ?v7) [25, 26] rfl rfl rfl rfl rfl rfl rfl (fun hg7 => ?_) ?_; rotate_left
       · simp only [List.take_succ_cons, List.take_zero, List.map_cons, List.map_nil, strip, Nat.reduceBEq, beq_self_eq_true, Bool.and_self, Bool.true_and, Bool.false_and, cond_true, cond_false]
        try simp only [Bool.or_eq_true, Bool.and_eq_true, Bool.or_eq_false_iff, Bool.and_eq_false_iff, decide_eq_true_eq, decide_eq_false_iff_not, Bool.not_eq_true', Bool.not_eq_false', beq_iff_eq, ne_eq, Decidable.not_not, List.length_map] at hg7
        refine AL_move rfl ?_
        refine AL_leq rfl rfl ?_
        refine AL_nil (grpQ_mk ?_)
        try simp only [tput, anyAt, setAll, List.foldl_cons, List.foldl_nil, List.set_cons_zero, List.set_cons_succ]
        repeat (first | exact Weak.nil | refine Weak.cons ?_ | refine Weak.consAny ?_)
       refine AL_norm TN ?_
       refine AL_assign rfl ?_
       refine AL_norm TN ?_
       refine AL_nil ?_
       refine seqQ_n ?_
       refine AW_cond rfl (fun hc8 => ?_) (fun hc8 => ?_)
       · try simp only [Bool.or_eq_true, Bool.and_eq_true, Bool.or_eq_false_iff, Bool.and_eq_false_iff, decide_eq_true_eq, decide_eq_false_iff_not, Bool.not_eq_true', Bool.not_eq_false', beq_iff_eq, ne_eq, Decidable.not_not, List.length_map] at hc8; try simp only [validR, decide_eq_true_eq, decide_eq_false_iff_not] at hc8
        refine AW_exit ?_
        refine seqQ_x ?_
        refine seqQ_x ?_
        refine blockQ_miss (by decide) ?_
        refine seqQ_x ?_
        refine blockQ_miss (by decide) ?_
        refine blockQ_miss (by decide) ?_
        refine seqQ_x ?_
        refine blockQ_miss (by decide) ?_
        refine seqQ_x ?_
        refine blockQ_miss (by decide) ?_
        refine seqQ_x ?_
        refine blockQ_hit ?_
        refine blockQ_n ?_
        refine blockQ_n ?_
        refine seqQ_n ?_
        refine AW_seq ?_
        refine AW_seq ?_
        refine AW_region ?_
        refine AL_assign rfl ?_
        refine AL_norm TN ?_
        refine AL_nil ?_
        refine seqQ_n ?_
        refine AW_ret ?_
        refine seqQ_r ?_
        refine blockQ_r ?_
        refine seqQ_r ?_
        refine blockQ_r ?_
        refine seqQ_r ?_
        refine retQ_1 (H' := H) (.inr rfl) rfl SU ?_
        refine K_eq ?_ hK
        exact congrArg (fun z => AV.v (.int .i64 z)) (by unfold classI; (repeat' split) <;> first | rfl | (exfalso; omega))
       · try simp only [Bool.or_eq_true, Bool.and_eq_true, Bool.or_eq_false_iff, Bool.and_eq_false_iff, decide_eq_true_eq, decide_eq_false_iff_not, Bool.not_eq_true', Bool.not_eq_false', beq_iff_eq, ne_eq, Decidable.not_not, List.length_map] at hc8; try simp only [validR, decide_eq_true_eq, decide_eq_false_iff_not] at hc8
        refine AW_skip ?_
        refine seqQ_n ?_
        refine AW_seq ?_
        refine AW_seq ?_
        refine AW_region ?_
        refine AL_move rfl ?_
        refine AL_norm TN ?_
        refine AL_geq rfl rfl ?_
        refine AL_move rfl ?_
        refine AL_and (j := 2) (n := 2) (c := 31) (t := 33) (r := 34) (v := ?v9) [32, 33] rfl rfl rfl rfl rfl rfl rfl (fun hg9 => ?_) ?_; rotate_left
        · simp only [List.take_succ_cons, List.take_zero, List.map_cons, List.map_nil, strip, Nat.reduceBEq, beq_self_eq_true, Bool.and_self, Bool.true_and, Bool.false_and, cond_true, cond_false]
         try simp only [Bool.or_eq_true, Bool.and_eq_true, Bool.or_eq_false_iff, Bool.and_eq_false_iff, decide_eq_true_eq, decide_eq_false_iff_not, Bool.not_eq_true', Bool.not_eq_false', beq_iff_eq, ne_eq, Decidable.not_not, List.length_map] at hg9
         refine AL_move rfl ?_
         refine AL_leq rfl rfl ?_
         refine AL_nil (grpQ_mk ?_)
         try simp only [tput, anyAt, setAll, List.foldl_cons, List.foldl_nil, List.set_cons_zero, List.set_cons_succ]
         repeat (first | exact Weak.nil | refine Weak.cons ?_ | refine Weak.consAny ?_)
        refine AL_norm TN ?_
        refine AL_assign rfl ?_
        refine AL_norm TN ?_
        refine AL_nil ?_
        refine seqQ_n ?_
        refine AW_cond rfl (fun hc10 => ?_) (fun hc10 => ?_)
        · try simp only [Bool.or_eq_true, Bool.and_eq_true, Bool.or_eq_false_iff, Bool.and_eq_false_iff, decide_eq_true_eq, decide_eq_false_iff_not, Bool.not_eq_true', Bool.not_eq_false', beq_iff_eq, ne_eq, Decidable.not_not, List.length_map] at hc10; try simp only [validR, decide_eq_true_eq, decide_eq_false_iff_not] at hc10
         refine AW_exit ?_
         refine seqQ_x ?_
         refine seqQ_x ?_
         refine blockQ_miss (by decide) ?_
         refine seqQ_x ?_
         refine blockQ_miss (by decide) ?_
         refine blockQ_miss (by decide) ?_
         refine seqQ_x ?_
         refine blockQ_miss (by decide) ?_
         refine seqQ_x ?_
         refine blockQ_miss (by decide) ?_
         refine seqQ_x ?_
         refine blockQ_miss (by decide) ?_
         refine blockQ_hit ?_
         refine blockQ_n ?_
         refine seqQ_n ?_
         refine AW_seq ?_
         refine AW_seq ?_
         refine AW_region ?_
         refine AL_assign rfl ?_
         refine AL_norm TN ?_
         refine AL_nil ?_
         refine seqQ_n ?_
         refine AW_ret ?_
         refine seqQ_r ?_
         refine blockQ_r ?_
         refine seqQ_r ?_
         refine blockQ_r ?_
         refine seqQ_r ?_
         refine retQ_1 (H' := H) (.inr rfl) rfl SU ?_
         refine K_eq ?_ hK
         exact congrArg (fun z => AV.v (.int .i64 z)) (by unfold classI; (repeat' split) <;> first | rfl | (exfalso; omega))
        · try simp only [Bool.or_eq_true, Bool.and_eq_true, Bool.or_eq_false_iff, Bool.and_eq_false_iff, decide_eq_true_eq, decide_eq_false_iff_not, Bool.not_eq_true', Bool.not_eq_false', beq_iff_eq, ne_eq, Decidable.not_not, List.length_map] at hc10; try simp only [validR, decide_eq_true_eq, decide_eq_false_iff_not] at hc10
         refine AW_skip ?_
         refine seqQ_n ?_
         refine AW_seq ?_
         refine AW_seq ?_
         refine AW_region ?_
         refine AL_move rfl ?_
         refine AL_norm TN ?_
         refine AL_geq rfl rfl ?_
         refine AL_assign rfl ?_
         refine AL_norm TN ?_
         refine AL_nil ?_
         refine seqQ_n ?_
         refine AW_cond rfl (fun hc11 => ?_) (fun hc11 => ?_)
         · try simp only [Bool.or_eq_true, Bool.and_eq_true, Bool.or_eq_false_iff, Bool.and_eq_false_iff, decide_eq_true_eq, decide_eq_false_iff_not, Bool.not_eq_true', Bool.not_eq_false', beq_iff_eq, ne_eq, Decidable.not_not, List.length_map] at hc11; try simp only [validR, decide_eq_true_eq, decide_eq_false_iff_not] at hc11
          refine AW_exit ?_
          refine seqQ_x ?_
          refine seqQ_x ?_
          refine blockQ_miss (by decide) ?_
          refine seqQ_x ?_
          refine blockQ_miss (by decide) ?_
          refine blockQ_miss (by decide) ?_
          refine seqQ_x ?_
          refine blockQ_miss (by decide) ?_
          refine seqQ_x ?_
          refine blockQ_miss (by decide) ?_
          refine seqQ_x ?_
          refine blockQ_miss (by decide) ?_
          refine blockQ_miss (by decide) ?_
          refine blockQ_hit ?_
          refine seqQ_n ?_
          refine AW_seq ?_
          refine AW_seq ?_
          refine AW_region ?_
          refine AL_assign rfl ?_
          refine AL_norm TN ?_
          refine AL_nil ?_
          refine seqQ_n ?_
          refine AW_ret ?_
          refine seqQ_r ?_
          refine blockQ_r ?_
          refine seqQ_r ?_
          refine blockQ_r ?_
          refine seqQ_r ?_
          refine retQ_1 (H' := H) (.inr rfl) rfl SU ?_
          refine K_eq ?_ hK
          exact congrArg (fun z => AV.v (.int .i64 z)) (by unfold classI; (repeat' split) <;> first | rfl | (exfalso; omega))
         · try simp only [Bool.or_eq_true, Bool.and_eq_true, Bool.or_eq_false_iff, Bool.and_eq_false_iff, decide_eq_true_eq, decide_eq_false_iff_not, Bool.not_eq_true', Bool.not_eq_false', beq_iff_eq, ne_eq, Decidable.not_not, List.length_map] at hc11; try simp only [validR, decide_eq_true_eq, decide_eq_false_iff_not] at hc11
          refine AW_skip ?_
          refine seqQ_n ?_
          refine AW_seq ?_
          refine AW_region ?_
          refine AL_move rfl ?_
          refine AL_norm TN ?_
          refine AL_geq rfl rfl ?_
          refine AL_move rfl ?_
          refine AL_and (j := 2) (n := 2) (c := 41) (t := 43) (r := 44) (v := ?v12) [42, 43] rfl rfl rfl rfl rfl rfl rfl (fun hg12 => ?_) ?_; rotate_left
          · simp only [List.take_succ_cons, List.take_zero, List.map_cons, List.map_nil, strip, Nat.reduceBEq, beq_self_eq_true, Bool.and_self, Bool.true_and, Bool.false_and, cond_true, cond_false]
           try simp only [Bool.or_eq_true, Bool.and_eq_true, Bool.or_eq_false_iff, Bool.and_eq_false_iff, decide_eq_true_eq, decide_eq_false_iff_not, Bool.not_eq_true', Bool.not_eq_false', beq_iff_eq, ne_eq, Decidable.not_not, List.length_map] at hg12
           refine AL_move rfl ?_
           refine AL_leq rfl rfl ?_
           refine AL_nil (grpQ_mk ?_)
           try simp only [tput, anyAt, setAll, List.foldl_cons, List.foldl_nil, List.set_cons_zero, List.set_cons_succ]
           repeat (first | exact Weak.nil | refine Weak.cons ?_ | refine Weak.consAny ?_)
          refine AL_norm TN ?_
          refine AL_assign rfl ?_
          refine AL_norm TN ?_
          refine AL_nil ?_
          refine seqQ_n ?_
          refine AW_cond rfl (fun hc13 => ?_) (fun hc13 => ?_)
          · try simp only [Bool.or_eq_true, Bool.and_eq_true, Bool.or_eq_false_iff, Bool.and_eq_false_iff, decide_eq_true_eq, decide_eq_false_iff_not, Bool.not_eq_true', Bool.not_eq_false', beq_iff_eq, ne_eq, Decidable.not_not, List.length_map] at hc13; try simp only [validR, decide_eq_true_eq, decide_eq_false_iff_not] at hc13
           refine AW_exit ?_
           refine seqQ_x ?_
           refine blockQ_miss (by decide) ?_
           refine seqQ_x ?_
           refine blockQ_miss (by decide) ?_
           refine blockQ_miss (by decide) ?_
           refine seqQ_x ?_
           refine blockQ_miss (by decide) ?_
           refine seqQ_x ?_
           refine blockQ_miss (by decide) ?_
           refine seqQ_x ?_
           refine blockQ_miss (by decide) ?_
           refine blockQ_miss (by decide) ?_
           refine blockQ_miss (by decide) ?_
           refine seqQ_x ?_
           refine blockQ_hit ?_
           refine seqQ_n ?_
           refine AW_seq ?_
           refine AW_seq ?_
           refine AW_region ?_
           refine AL_assign rfl ?_
           refine AL_norm TN ?_
           refine AL_nil ?_
           refine seqQ_n ?_
           refine AW_ret ?_
           refine seqQ_r ?_
           refine blockQ_r ?_
           refine seqQ_r ?_
           refine retQ_1 (H' := H) (.inr rfl) rfl SU ?_
           refine K_eq ?_ hK
           exact congrArg (fun z => AV.v (.int .i64 z)) (by unfold classI; (repeat' split) <;> first | rfl | (exfalso; omega))
          · try simp only [Bool.or_eq_true, Bool.and_eq_true, Bool.or_eq_false_iff, Bool.and_eq_false_iff, decide_eq_true_eq, decide_eq_false_iff_not, Bool.not_eq_true', Bool.not_eq_false', beq_iff_eq, ne_eq, Decidable.not_not, List.length_map] at hc13; try simp only [validR, decide_eq_true_eq, decide_eq_false_iff_not] at hc13
           refine AW_skip ?_
           refine seqQ_n ?_
           refine AW_exit ?_
           refine blockQ_miss (by decide) ?_
           refine seqQ_x ?_
           refine blockQ_miss (by decide) ?_
           refine blockQ_miss (by decide) ?_
           refine seqQ_x ?_
           refine blockQ_miss (by decide) ?_
           refine seqQ_x ?_
           refine blockQ_miss (by decide) ?_
           refine seqQ_x ?_
           refine blockQ_miss (by decide) ?_
           refine blockQ_miss (by decide) ?_
           refine blockQ_miss (by decide) ?_
           refine seqQ_x ?_
           refine blockQ_miss (by decide) ?_
           refine seqQ_x ?_
           refine blockQ_hit ?_
           refine seqQ_n ?_
           refine AW_seq ?_
           refine AW_region ?_
           refine AL_assign rfl ?_
           refine AL_norm TN ?_
           refine AL_nil ?_
           refine seqQ_n ?_
           refine AW_ret ?_
           refine retQ_1 (H' := H) (.inr rfl) rfl SU ?_
           refine K_eq ?_ hK
           exact congrArg (fun z => AV.v (.int .i64 z)) (by unfold classI; (repeat' split) <;> first | rfl | (exfalso; omega))
    · try simp only [Bool.or_eq_true, Bool.and_eq_true, Bool.or_eq_false_iff, Bool.and_eq_false_iff, decide_eq_true_eq, decide_eq_false_iff_not, Bool.not_eq_true', Bool.not_eq_false', beq_iff_eq, ne_eq, Decidable.not_not, List.length_map] at hc4; try simp only [validR, decide_eq_true_eq, decide_eq_false_iff_not] at hc4
     refine AW_region ?_
     refine AL_move rfl ?_
     refine AL_norm TN ?_
     refine AL_eql rfl rfl ?_
     refine AL_assign rfl ?_
     refine AL_norm TN ?_
     refine AL_nil ?_
     refine seqQ_n ?_
     refine AW_cond rfl (fun hc14 => ?_) (fun hc14 => ?_)
     · try simp only [Bool.or_eq_true, Bool.and_eq_true, Bool.or_eq_false_iff, Bool.and_eq_false_iff, decide_eq_true_eq, decide_eq_false_iff_not, Bool.not_eq_true', Bool.not_eq_false', beq_iff_eq, ne_eq, Decidable.not_not, List.length_map] at hc14; try simp only [validR, decide_eq_true_eq, decide_eq_false_iff_not] at hc14
      refine AW_exit ?_
      refine seqQ_x ?_
      refine seqQ_x ?_
      refine blockQ_miss (by decide) ?_
      refine seqQ_x ?_
      refine blockQ_miss (by decide) ?_
      refine blockQ_miss (by decide) ?_
      refine seqQ_x ?_
      refine blockQ_hit ?_
      refine seqQ_n ?_
      refine AW_seq ?_
      refine AW_seq ?_
      refine AW_region ?_
      refine AL_assign rfl ?_
      refine AL_norm TN ?_
      refine AL_nil ?_
      refine seqQ_n ?_
      refine AW_ret ?_
      refine seqQ_r ?_
      refine blockQ_r ?_
      refine seqQ_r ?_
      refine blockQ_r ?_
      refine blockQ_r ?_
      refine blockQ_r ?_
      refine seqQ_r ?_
      refine blockQ_r ?_
      refine seqQ_r ?_
      refine blockQ_r ?_
      refine seqQ_r ?_
      refine retQ_1 (H' := H) (.inr rfl) rfl SU ?_
      refine K_eq ?_ hK
      exact congrArg (fun z => AV.v (.int .i64 z)) (by unfold classI; (repeat' split) <;> first | rfl | (exfalso; omega))
     · try simp only [Bool.or_eq_true, Bool.and_eq_true, Bool.or_eq_false_iff, Bool.and_eq_false_iff, decide_eq_true_eq, decide_eq_false_iff_not, Bool.not_eq_true', Bool.not_eq_false', beq_iff_eq, ne_eq, Decidable.not_not, List.length_map] at hc14; try simp only [validR, decide_eq_true_eq, decide_eq_false_iff_not] at hc14
      refine AW_skip ?_
      refine seqQ_n ?_
      refine AW_seq ?_
      refine AW_seq ?_
      refine AW_region ?_
      refine AL_move rfl ?_
      refine AL_norm TN ?_
      refine AL_eql rfl rfl ?_
      refine AL_assign rfl ?_
      refine AL_norm TN ?_
      refine AL_nil ?_
      refine seqQ_n ?_
      refine AW_cond rfl (fun hc15 => ?_) (fun hc15 => ?_)
      · try simp only [Bool.or_eq_true, Bool.and_eq_true, Bool.or_eq_false_iff, Bool.and_eq_false_iff, decide_eq_true_eq, decide_eq_false_iff_not, Bool.not_eq_true', Bool.not_eq_false', beq_iff_eq, ne_eq, Decidable.not_not, List.length_map] at hc15; try simp only [validR, decide_eq_true_eq, decide_eq_false_iff_not] at hc15
       refine AW_exit ?_
       refine seqQ_x ?_
       refine seqQ_x ?_
       refine blockQ_miss (by decide) ?_
       refine seqQ_x ?_
       refine blockQ_miss (by decide) ?_
       refine blockQ_miss (by decide) ?_
       refine seqQ_x ?_
       refine blockQ_miss (by decide) ?_
       refine seqQ_x ?_
       refine blockQ_hit ?_
       refine seqQ_n ?_
       refine AW_seq ?_
       refine AW_seq ?_
       refine AW_region ?_
       refine AL_assign rfl ?_
       refine AL_norm TN ?_
       refine AL_nil ?_
       refine seqQ_n ?_
       refine AW_ret ?_
       refine seqQ_r ?_
       refine blockQ_r ?_
       refine blockQ_r ?_
       refine blockQ_r ?_
       refine seqQ_r ?_
       refine blockQ_r ?_
       refine seqQ_r ?_
       refine blockQ_r ?_
       refine seqQ_r ?_
       refine retQ_1 (H' := H) (.inr rfl) rfl SU ?_
       refine K_eq ?_ hK
       exact congrArg (fun z => AV.v (.int .i64 z)) (by unfold classI; (repeat' split) <;> first | rfl | (exfalso; omega))
      · try simp only [Bool.or_eq_true, Bool.and_eq_true, Bool.or_eq_false_iff, Bool.and_eq_false_iff, decide_eq_true_eq, decide_eq_false_iff_not, Bool.not_eq_true', Bool.not_eq_false', beq_iff_eq, ne_eq, Decidable.not_not, List.length_map] at hc15; try simp only [validR, decide_eq_true_eq, decide_eq_false_iff_not] at hc15
       refine AW_skip ?_
       refine seqQ_n ?_
       refine AW_seq ?_
       refine AW_seq ?_
       refine AW_region ?_
       refine AL_move rfl ?_
       refine AL_norm TN ?_
       refine AL_geq rfl rfl ?_
       refine AL_move rfl ?_
       refine AL_and (j := 2) (n := 2) (c := 24) (t := 26) (r := 27) (v := ?v16) [25, 26] rfl rfl rfl rfl rfl rfl rfl (fun hg16 => ?_) ?_; rotate_left
       · simp only [List.take_succ_cons, List.take_zero, List.map_cons, List.map_nil, strip, Nat.reduceBEq, beq_self_eq_true, Bool.and_self, Bool.true_and, Bool.false_and, cond_true, cond_false]
        try simp only [Bool.or_eq_true, Bool.and_eq_true, Bool.or_eq_false_iff, Bool.and_eq_false_iff, decide_eq_true_eq, decide_eq_false_iff_not, Bool.not_eq_true', Bool.not_eq_false', beq_iff_eq, ne_eq, Decidable.not_not, List.length_map] at hg16
        refine AL_move rfl ?_
        refine AL_leq rfl rfl ?_
        refine AL_nil (grpQ_mk ?_)
        try simp only [tput, anyAt, setAll, List.foldl_cons, List.foldl_nil, List.set_cons_zero, List.set_cons_succ]
        repeat (first | exact Weak.nil | refine Weak.cons ?_ | refine Weak.consAny ?_)
       refine AL_norm TN ?_
       refine AL_assign rfl ?_
       refine AL_norm TN ?_
       refine AL_nil ?_
       refine seqQ_n ?_
       refine AW_cond rfl (fun hc17 => ?_) (fun hc17 => ?_)
       · try simp only [Bool.or_eq_true, Bool.and_eq_true, Bool.or_eq_false_iff, Bool.and_eq_false_iff, decide_eq_true_eq, decide_eq_false_iff_not, Bool.not_eq_true', Bool.not_eq_false', beq_iff_eq, ne_eq, Decidable.not_not, List.length_map] at hc17; try simp only [validR, decide_eq_true_eq, decide_eq_false_iff_not] at hc17
        refine AW_exit ?_
        refine seqQ_x ?_
        refine seqQ_x ?_
        refine blockQ_miss (by decide) ?_
        refine seqQ_x ?_
        refine blockQ_miss (by decide) ?_
        refine blockQ_miss (by decide) ?_
        refine seqQ_x ?_
        refine blockQ_miss (by decide) ?_
        refine seqQ_x ?_
        refine blockQ_miss (by decide) ?_
        refine seqQ_x ?_
        refine blockQ_hit ?_
        refine blockQ_n ?_
        refine blockQ_n ?_
        refine seqQ_n ?_
        refine AW_seq ?_
        refine AW_seq ?_
        refine AW_region ?_
        refine AL_assign rfl ?_
        refine AL_norm TN ?_
        refine AL_nil ?_
        refine seqQ_n ?_
        refine AW_ret ?_
        refine seqQ_r ?_
        refine blockQ_r ?_
        refine seqQ_r ?_
        refine blockQ_r ?_
        refine seqQ_r ?_
        refine retQ_1 (H' := H) (.inr rfl) rfl SU ?_
        refine K_eq ?_ hK
        exact congrArg (fun z => AV.v (.int .i64 z)) (by unfold classI; (repeat' split) <;> first | rfl | (exfalso; omega))
       · try simp only [Bool.or_eq_true, Bool.and_eq_true, Bool.or_eq_false_iff, Bool.and_eq_false_iff, decide_eq_true_eq, decide_eq_false_iff_not, Bool.not_eq_true', Bool.not_eq_false', beq_iff_eq, ne_eq, Decidable.not_not, List.length_map] at hc17; try simp only [validR, decide_eq_true_eq, decide_eq_false_iff_not] at hc17
        refine AW_skip ?_
        refine seqQ_n ?_
        refine AW_seq ?_
        refine AW_seq ?_
        refine AW_region ?_
        refine AL_move rfl ?_
        refine AL_norm TN ?_
        refine AL_geq rfl rfl ?_
        refine AL_move rfl ?_
        refine AL_and (j := 2) (n := 2) (c := 31) (t := 33) (r := 34) (v := ?v18) [32, 33] rfl rfl rfl rfl rfl rfl rfl (fun hg18 => ?_) ?_; rotate_left
        · simp only [List.take_succ_cons, List.take_zero, List.map_cons, List.map_nil, strip, Nat.reduceBEq, beq_self_eq_true, Bool.and_self, Bool.true_and, Bool.false_and, cond_true, cond_false]
         try simp only [Bool.or_eq_true, Bool.and_eq_true, Bool.or_eq_false_iff, Bool.and_eq_false_iff, decide_eq_true_eq, decide_eq_false_iff_not, Bool.not_eq_true', Bool.not_eq_false', beq_iff_eq, ne_eq, Decidable.not_not, List.length_map] at hg18
         refine AL_move rfl ?_
         refine AL_leq rfl rfl ?_
         refine AL_nil (grpQ_mk ?_)
         try simp only [tput, anyAt, setAll, List.foldl_cons, List.foldl_nil, List.set_cons_zero, List.set_cons_succ]
         repeat (first | exact Weak.nil | refine Weak.cons ?_ | refine Weak.consAny ?_)
        refine AL_norm TN ?_
        refine AL_assign rfl ?_
        refine AL_norm TN ?_
        refine AL_nil ?_
        refine seqQ_n ?_
        refine AW_cond rfl (fun hc19 => ?_) (fun hc19 => ?_)
        · try simp only [Bool.or_eq_true, Bool.and_eq_true, Bool.or_eq_false_iff, Bool.and_eq_false_iff, decide_eq_true_eq, decide_eq_false_iff_not, Bool.not_eq_true', Bool.not_eq_false', beq_iff_eq, ne_eq, Decidable.not_not, List.length_map] at hc19; try simp only [validR, decide_eq_true_eq, decide_eq_false_iff_not] at hc19
         refine AW_exit ?_
         refine seqQ_x ?_
         refine seqQ_x ?_
         refine blockQ_miss (by decide) ?_
         refine seqQ_x ?_
         refine blockQ_miss (by decide) ?_
         refine blockQ_miss (by decide) ?_
         refine seqQ_x ?_
         refine blockQ_miss (by decide) ?_
         refine seqQ_x ?_
         refine blockQ_miss (by decide) ?_
         refine seqQ_x ?_
         refine blockQ_miss (by decide) ?_
         refine blockQ_hit ?_
         refine blockQ_n ?_
         refine seqQ_n ?_
         refine AW_seq ?_
         refine AW_seq ?_
         refine AW_region ?_
         refine AL_assign rfl ?_
         refine AL_norm TN ?_
         refine AL_nil ?_
         refine seqQ_n ?_
         refine AW_ret ?_
         refine seqQ_r ?_
         refine blockQ_r ?_
         refine seqQ_r ?_
         refine blockQ_r ?_
         refine seqQ_r ?_
         refine retQ_1 (H' := H) (.inr rfl) rfl SU ?_
         refine K_eq ?_ hK
         exact congrArg (fun z => AV.v (.int .i64 z)) (by unfold classI; (repeat' split) <;> first | rfl | (exfalso; omega))
        · try simp only [Bool.or_eq_true, Bool.and_eq_true, Bool.or_eq_false_iff, Bool.and_eq_false_iff, decide_eq_true_eq, decide_eq_false_iff_not, Bool.not_eq_true', Bool.not_eq_false', beq_iff_eq, ne_eq, Decidable.not_not, List.length_map] at hc19; try simp only [validR, decide_eq_true_eq, decide_eq_false_iff_not] at hc19
         refine AW_skip ?_
         refine seqQ_n ?_
         refine AW_seq ?_
         refine AW_seq ?_
         refine AW_region ?_
         refine AL_move rfl ?_
         refine AL_norm TN ?_
         refine AL_geq rfl rfl ?_
         refine AL_assign rfl ?_
         refine AL_norm TN ?_
         refine AL_nil ?_
         refine seqQ_n ?_
         refine AW_cond rfl (fun hc20 => ?_) (fun hc20 => ?_)
         · try simp only [Bool.or_eq_true, Bool.and_eq_true, Bool.or_eq_false_iff, Bool.and_eq_false_iff, decide_eq_true_eq, decide_eq_false_iff_not, Bool.not_eq_true', Bool.not_eq_false', beq_iff_eq, ne_eq, Decidable.not_not, List.length_map] at hc20; try simp only [validR, decide_eq_true_eq, decide_eq_false_iff_not] at hc20
          refine AW_exit ?_
          refine seqQ_x ?_
          refine seqQ_x ?_
          refine blockQ_miss (by decide) ?_
          refine seqQ_x ?_
          refine blockQ_miss (by decide) ?_
          refine blockQ_miss (by decide) ?_
          refine seqQ_x ?_
          refine blockQ_miss (by decide) ?_
          refine seqQ_x ?_
          refine blockQ_miss (by decide) ?_
          refine seqQ_x ?_
          refine blockQ_miss (by decide) ?_
          refine blockQ_miss (by decide) ?_
          refine blockQ_hit ?_
          refine seqQ_n ?_
          refine AW_seq ?_
          refine AW_seq ?_
          refine AW_region ?_
          refine AL_assign rfl ?_
          refine AL_norm TN ?_
          refine AL_nil ?_
          refine seqQ_n ?_
          refine AW_ret ?_
          refine seqQ_r ?_
          refine blockQ_r ?_
          refine seqQ_r ?_
          refine blockQ_r ?_
          refine seqQ_r ?_
          refine retQ_1 (H' := H) (.inr rfl) rfl SU ?_
          refine K_eq ?_ hK
          exact congrArg (fun z => AV.v (.int .i64 z)) (by unfold classI; (repeat' split) <;> first | rfl | (exfalso; omega))
         · try simp only [Bool.or_eq_true, Bool.and_eq_true, Bool.or_eq_false_iff, Bool.and_eq_false_iff, decide_eq_true_eq, decide_eq_false_iff_not, Bool.not_eq_true', Bool.not_eq_false', beq_iff_eq, ne_eq, Decidable.not_not, List.length_map] at hc20; try simp only [validR, decide_eq_true_eq, decide_eq_false_iff_not] at hc20
          refine AW_skip ?_
          refine seqQ_n ?_
          refine AW_seq ?_
          refine AW_region ?_
          refine AL_move rfl ?_
          refine AL_norm TN ?_
          refine AL_geq rfl rfl ?_
          refine AL_move rfl ?_
          refine AL_and (j := 2) (n := 2) (c := 41) (t := 43) (r := 44) (v := ?v21) [42, 43] rfl rfl rfl rfl rfl rfl rfl (fun hg21 => ?_) ?_; rotate_left
          · simp only [List.take_succ_cons, List.take_zero, List.map_cons, List.map_nil, strip, Nat.reduceBEq, beq_self_eq_true, Bool.and_self, Bool.true_and, Bool.false_and, cond_true, cond_false]
           try simp only [Bool.or_eq_true, Bool.and_eq_true, Bool.or_eq_false_iff, Bool.and_eq_false_iff, decide_eq_true_eq, decide_eq_false_iff_not, Bool.not_eq_true', Bool.not_eq_false', beq_iff_eq, ne_eq, Decidable.not_not, List.length_map] at hg21
           refine AL_move rfl ?_
           refine AL_leq rfl rfl ?_
           refine AL_nil (grpQ_mk ?_)
           try simp only [tput, anyAt, setAll, List.foldl_cons, List.foldl_nil, List.set_cons_zero, List.set_cons_succ]
           repeat (first | exact Weak.nil | refine Weak.cons ?_ | refine Weak.consAny ?_)
          refine AL_norm TN ?_
          refine AL_assign rfl ?_
          refine AL_norm TN ?_
          refine AL_nil ?_
          refine seqQ_n ?_
          refine AW_cond rfl (fun hc22 => ?_) (fun hc22 => ?_)
          · try simp only [Bool.or_eq_true, Bool.and_eq_true, Bool.or_eq_false_iff, Bool.and_eq_false_iff, decide_eq_true_eq, decide_eq_false_iff_not, Bool.not_eq_true', Bool.not_eq_false', beq_iff_eq, ne_eq, Decidable.not_not, List.length_map] at hc22; try simp only [validR, decide_eq_true_eq, decide_eq_false_iff_not] at hc22
           refine AW_exit ?_
           refine seqQ_x ?_
           refine blockQ_miss (by decide) ?_
           refine seqQ_x ?_
           refine blockQ_miss (by decide) ?_
           refine blockQ_miss (by decide) ?_
           refine seqQ_x ?_
           refine blockQ_miss (by decide) ?_
           refine seqQ_x ?_
           refine blockQ_miss (by decide) ?_
           refine seqQ_x ?_
           refine blockQ_miss (by decide) ?_
           refine blockQ_miss (by decide) ?_
           refine blockQ_miss (by decide) ?_
           refine seqQ_x ?_
           refine blockQ_hit ?_
           refine seqQ_n ?_
           refine AW_seq ?_
           refine AW_seq ?_
           refine AW_region ?_
           refine AL_assign rfl ?_
           refine AL_norm TN ?_
           refine AL_nil ?_
           refine seqQ_n ?_
           refine AW_ret ?_
           refine seqQ_r ?_
           refine blockQ_r ?_
           refine seqQ_r ?_
           refine retQ_1 (H' := H) (.inr rfl) rfl SU ?_
           refine K_eq ?_ hK
           exact congrArg (fun z => AV.v (.int .i64 z)) (by unfold classI; (repeat' split) <;> first | rfl | (exfalso; omega))
          · try simp only [Bool.or_eq_true, Bool.and_eq_true, Bool.or_eq_false_iff, Bool.and_eq_false_iff, decide_eq_true_eq, decide_eq_false_iff_not, Bool.not_eq_true', Bool.not_eq_false', beq_iff_eq, ne_eq, Decidable.not_not, List.length_map] at hc22; try simp only [validR, decide_eq_true_eq, decide_eq_false_iff_not] at hc22
           refine AW_skip ?_
           refine seqQ_n ?_
           refine AW_exit ?_
           refine blockQ_miss (by decide) ?_
           refine seqQ_x ?_
           refine blockQ_miss (by decide) ?_
           refine blockQ_miss (by decide) ?_
           refine seqQ_x ?_
           refine blockQ_miss (by decide) ?_
           refine seqQ_x ?_
           refine blockQ_miss (by decide) ?_
           refine seqQ_x ?_
           refine blockQ_miss (by decide) ?_
           refine blockQ_miss (by decide) ?_
           refine blockQ_miss (by decide) ?_
           refine seqQ_x ?_
           refine blockQ_miss (by decide) ?_
           refine seqQ_x ?_
           refine blockQ_hit ?_
           refine seqQ_n ?_
           refine AW_seq ?_
           refine AW_region ?_
           refine AL_assign rfl ?_
           refine AL_norm TN ?_
           refine AL_nil ?_
           refine seqQ_n ?_
           refine AW_ret ?_
           refine retQ_1 (H' := H) (.inr rfl) rfl SU ?_
           refine K_eq ?_ hK
           exact congrArg (fun z => AV.v (.int .i64 z)) (by unfold classI; (repeat' split) <;> first | rfl | (exfalso; omega))

/-- quillwork/chars.May -/
theorem chars_May_ok (r : Int) :
  PF Tryz.prog 269 [.v (.int .i32 r)] (.v (.bool (charOK r))) := by
 intro H K hK
 refine AC_of Tryz.func269 rfl (rs := [.tmp 2]) rfl Tryz.ntmps269 rfl ?_
 refine AW_norm TP ?_
 refine AW_seq ?_
 refine AW_region ?_
 refine AL_assign rfl ?_
 refine AL_norm TN ?_
 refine AL_nil (seqQ_n (AW_seq (AW_region ?_)))
 refine AL_move rfl ?_
 refine AL_callp en276 (.cons (.ev rfl) (.nil)) (chars_Class_ok _) ?_
 refine AL_gtr rfl rfl ?_
 refine AL_norm TN ?_
 refine AL_assign rfl ?_
 refine AL_norm TN ?_
 refine AL_nil ?_
 refine seqQ_n ?_
 refine AW_ret ?_
 refine retQ_1 (H' := H) (.inr rfl) rfl SU ?_
 refine K_eq ?_ hK
 exact congrArg (fun b => AV.v (.bool b)) ((class_ok r).symm)

/-- quillwork/attrs.Target$1 -/
theorem attrs_Target_1_ok (r : Int) :
  PF Tryz.prog 244 [.v (.int .i32 r)] (.v (.int .i32 (Tags.lowR r))) := by
 intro H K hK
 refine AC_of Tryz.func244 rfl (rs := [.tmp 2]) rfl Tryz.ntmps244 rfl ?_
 refine AW_norm TP ?_
 refine AW_seq ?_
 refine AW_region ?_
 refine AL_assign rfl ?_
 refine AL_norm TN ?_
 refine AL_nil ?_
 refine seqQ_n ?_
 refine AW_seq ?_
 refine AW_seq ?_
 refine AW_region ?_
 refine AL_move rfl ?_
 refine AL_geq rfl rfl ?_
 refine AL_move rfl ?_
 refine AL_norm TN ?_
 refine AL_and (j := 2) (n := 2) (c := 5) (t := 7) (r := 8) (v := ?v1) [6, 7] rfl rfl rfl rfl rfl rfl rfl (fun hg1 => ?_) ?_; rotate_left
 · simp only [List.take_succ_cons, List.take_zero, List.map_cons, List.map_nil, strip, Nat.reduceBEq, beq_self_eq_true, Bool.and_self, Bool.true_and, Bool.false_and, cond_true, cond_false]
  try simp only [Bool.or_eq_true, Bool.and_eq_true, Bool.or_eq_false_iff, Bool.and_eq_false_iff, decide_eq_true_eq, decide_eq_false_iff_not, Bool.not_eq_true', Bool.not_eq_false', beq_iff_eq, ne_eq, Decidable.not_not, List.length_map] at hg1
  refine AL_move rfl ?_
  refine AL_leq rfl rfl ?_
  refine AL_nil (grpQ_mk ?_)
  try simp only [tput, anyAt, setAll, List.foldl_cons, List.foldl_nil, List.set_cons_zero, List.set_cons_succ]
  repeat (first | exact Weak.nil | refine Weak.cons ?_ | refine Weak.consAny ?_)
 refine AL_norm TN ?_
 refine AL_norm TN ?_
 refine AL_nil ?_
 refine seqQ_n ?_
 refine AW_cond rfl (fun hc2 => ?_) (fun hc2 => ?_)
 · try simp only [Bool.or_eq_true, Bool.and_eq_true, Bool.or_eq_false_iff, Bool.and_eq_false_iff, decide_eq_true_eq, decide_eq_false_iff_not, Bool.not_eq_true', Bool.not_eq_false', beq_iff_eq, ne_eq, Decidable.not_not, List.length_map] at hc2
  refine AW_seq ?_
  refine AW_region ?_
  refine AL_move rfl ?_
  refine AL_addz rfl rfl (r + 32) (by exact i32_in _ (by omega)) ?_
  refine AL_norm TN ?_
  refine AL_assign rfl ?_
  refine AL_norm TN ?_
  refine AL_nil ?_
  refine seqQ_n ?_
  refine AW_ret ?_
  refine seqQ_r ?_
  refine retQ_1 (H' := H) (.inr rfl) rfl SU ?_
  refine K_eq ?_ hK
  rw [Tags.lowR, if_pos (by omega)]
 · try simp only [Bool.or_eq_true, Bool.and_eq_true, Bool.or_eq_false_iff, Bool.and_eq_false_iff, decide_eq_true_eq, decide_eq_false_iff_not, Bool.not_eq_true', Bool.not_eq_false', beq_iff_eq, ne_eq, Decidable.not_not, List.length_map] at hc2
  refine AW_skip ?_
  refine seqQ_n ?_
  refine AW_seq ?_
  refine AW_region ?_
  refine AL_move rfl ?_
  refine AL_assign rfl ?_
  refine AL_norm TN ?_
  refine AL_nil ?_
  refine seqQ_n ?_
  refine AW_ret ?_
  refine retQ_1 (H' := H) (.inr rfl) rfl SU ?_
  refine K_eq ?_ hK
  rw [Tags.lowR, if_neg (by omega)]

/-- quillwork/query.low$1 -/
theorem query_low_1_ok (r : Int) :
  PF Tryz.prog 133 [.v (.int .i32 r)] (.v (.int .i32 (Tags.lowR r))) := by
 intro H K hK
 refine AC_of Tryz.func133 rfl (rs := [.tmp 2]) rfl Tryz.ntmps133 rfl ?_
 refine AW_norm TP ?_
 refine AW_seq ?_
 refine AW_region ?_
 refine AL_assign rfl ?_
 refine AL_norm TN ?_
 refine AL_nil ?_
 refine seqQ_n ?_
 refine AW_seq ?_
 refine AW_seq ?_
 refine AW_region ?_
 refine AL_move rfl ?_
 refine AL_geq rfl rfl ?_
 refine AL_move rfl ?_
 refine AL_norm TN ?_
 refine AL_and (j := 2) (n := 2) (c := 5) (t := 7) (r := 8) (v := ?v1) [6, 7] rfl rfl rfl rfl rfl rfl rfl (fun hg1 => ?_) ?_; rotate_left
 · simp only [List.take_succ_cons, List.take_zero, List.map_cons, List.map_nil, strip, Nat.reduceBEq, beq_self_eq_true, Bool.and_self, Bool.true_and, Bool.false_and, cond_true, cond_false]
  try simp only [Bool.or_eq_true, Bool.and_eq_true, Bool.or_eq_false_iff, Bool.and_eq_false_iff, decide_eq_true_eq, decide_eq_false_iff_not, Bool.not_eq_true', Bool.not_eq_false', beq_iff_eq, ne_eq, Decidable.not_not, List.length_map] at hg1
  refine AL_move rfl ?_
  refine AL_leq rfl rfl ?_
  refine AL_nil (grpQ_mk ?_)
  try simp only [tput, anyAt, setAll, List.foldl_cons, List.foldl_nil, List.set_cons_zero, List.set_cons_succ]
  repeat (first | exact Weak.nil | refine Weak.cons ?_ | refine Weak.consAny ?_)
 refine AL_norm TN ?_
 refine AL_norm TN ?_
 refine AL_nil ?_
 refine seqQ_n ?_
 refine AW_cond rfl (fun hc2 => ?_) (fun hc2 => ?_)
 · try simp only [Bool.or_eq_true, Bool.and_eq_true, Bool.or_eq_false_iff, Bool.and_eq_false_iff, decide_eq_true_eq, decide_eq_false_iff_not, Bool.not_eq_true', Bool.not_eq_false', beq_iff_eq, ne_eq, Decidable.not_not, List.length_map] at hc2
  refine AW_seq ?_
  refine AW_region ?_
  refine AL_move rfl ?_
  refine AL_addz rfl rfl (r + 32) (by exact i32_in _ (by omega)) ?_
  refine AL_norm TN ?_
  refine AL_assign rfl ?_
  refine AL_norm TN ?_
  refine AL_nil ?_
  refine seqQ_n ?_
  refine AW_ret ?_
  refine seqQ_r ?_
  refine retQ_1 (H' := H) (.inr rfl) rfl SU ?_
  refine K_eq ?_ hK
  rw [Tags.lowR, if_pos (by omega)]
 · try simp only [Bool.or_eq_true, Bool.and_eq_true, Bool.or_eq_false_iff, Bool.and_eq_false_iff, decide_eq_true_eq, decide_eq_false_iff_not, Bool.not_eq_true', Bool.not_eq_false', beq_iff_eq, ne_eq, Decidable.not_not, List.length_map] at hc2
  refine AW_skip ?_
  refine seqQ_n ?_
  refine AW_seq ?_
  refine AW_region ?_
  refine AL_move rfl ?_
  refine AL_assign rfl ?_
  refine AL_norm TN ?_
  refine AL_nil ?_
  refine seqQ_n ?_
  refine AW_ret ?_
  refine retQ_1 (H' := H) (.inr rfl) rfl SU ?_
  refine K_eq ?_ hK
  rw [Tags.lowR, if_neg (by omega)]

/-- quillwork/tags.low$1 -/
theorem tags_low_1_ok (r : Int) :
  PF Tryz.prog 291 [.v (.int .i32 r)] (.v (.int .i32 (Tags.lowR r))) := by
 intro H K hK
 refine AC_of Tryz.func291 rfl (rs := [.tmp 2]) rfl Tryz.ntmps291 rfl ?_
 refine AW_norm TP ?_
 refine AW_seq ?_
 refine AW_region ?_
 refine AL_assign rfl ?_
 refine AL_norm TN ?_
 refine AL_nil ?_
 refine seqQ_n ?_
 refine AW_seq ?_
 refine AW_seq ?_
 refine AW_region ?_
 refine AL_move rfl ?_
 refine AL_geq rfl rfl ?_
 refine AL_move rfl ?_
 refine AL_norm TN ?_
 refine AL_and (j := 2) (n := 2) (c := 5) (t := 7) (r := 8) (v := ?v1) [6, 7] rfl rfl rfl rfl rfl rfl rfl (fun hg1 => ?_) ?_; rotate_left
 · simp only [List.take_succ_cons, List.take_zero, List.map_cons, List.map_nil, strip, Nat.reduceBEq, beq_self_eq_true, Bool.and_self, Bool.true_and, Bool.false_and, cond_true, cond_false]
  try simp only [Bool.or_eq_true, Bool.and_eq_true, Bool.or_eq_false_iff, Bool.and_eq_false_iff, decide_eq_true_eq, decide_eq_false_iff_not, Bool.not_eq_true', Bool.not_eq_false', beq_iff_eq, ne_eq, Decidable.not_not, List.length_map] at hg1
  refine AL_move rfl ?_
  refine AL_leq rfl rfl ?_
  refine AL_nil (grpQ_mk ?_)
  try simp only [tput, anyAt, setAll, List.foldl_cons, List.foldl_nil, List.set_cons_zero, List.set_cons_succ]
  repeat (first | exact Weak.nil | refine Weak.cons ?_ | refine Weak.consAny ?_)
 refine AL_norm TN ?_
 refine AL_norm TN ?_
 refine AL_nil ?_
 refine seqQ_n ?_
 refine AW_cond rfl (fun hc2 => ?_) (fun hc2 => ?_)
 · try simp only [Bool.or_eq_true, Bool.and_eq_true, Bool.or_eq_false_iff, Bool.and_eq_false_iff, decide_eq_true_eq, decide_eq_false_iff_not, Bool.not_eq_true', Bool.not_eq_false', beq_iff_eq, ne_eq, Decidable.not_not, List.length_map] at hc2
  refine AW_seq ?_
  refine AW_region ?_
  refine AL_move rfl ?_
  refine AL_addz rfl rfl (r + 97) (by exact i32_in _ (by omega)) ?_
  refine AL_norm TN ?_
  refine AL_subz rfl rfl (r + 32) (by rw [show r + 97 - 65 = r + 32 by omega]; exact i32_in _ (by omega)) ?_
  refine AL_assign rfl ?_
  refine AL_norm TN ?_
  refine AL_nil ?_
  refine seqQ_n ?_
  refine AW_ret ?_
  refine seqQ_r ?_
  refine retQ_1 (H' := H) (.inr rfl) rfl SU ?_
  refine K_eq ?_ hK
  rw [Tags.lowR, if_pos (by omega)]
 · try simp only [Bool.or_eq_true, Bool.and_eq_true, Bool.or_eq_false_iff, Bool.and_eq_false_iff, decide_eq_true_eq, decide_eq_false_iff_not, Bool.not_eq_true', Bool.not_eq_false', beq_iff_eq, ne_eq, Decidable.not_not, List.length_map] at hc2
  refine AW_skip ?_
  refine seqQ_n ?_
  refine AW_seq ?_
  refine AW_region ?_
  refine AL_move rfl ?_
  refine AL_assign rfl ?_
  refine AL_norm TN ?_
  refine AL_nil ?_
  refine seqQ_n ?_
  refine AW_ret ?_
  refine retQ_1 (H' := H) (.inr rfl) rfl SU ?_
  refine K_eq ?_ hK
  rw [Tags.lowR, if_neg (by omega)]

/-- slices.Clone[[]int,int] -/
theorem slices_Clone_int_int_ok  :
  ∀ (zs : List Int), zs.length ≤ 1000000 → ∀ (H : AH) (K : AV → AH → Prop), (∀ A c, Fresh H A c (zs.map intAV) → K (.own A c zs.length) (H.put A 3 c (zs.map intAV))) → AC Tryz.prog 219 [.sl 3 (zs.map intAV)] H K := by
 intro zs hz H K hK
 refine AC_of Tryz.func219 rfl (rs := [.tmp 2]) rfl Tryz.ntmps219 rfl ?_
 refine AW_norm TP ?_
 refine AW_seq ?_
 refine AW_region ?_
 refine AL_assign rfl ?_
 refine AL_norm TN ?_
 refine AL_nil ?_
 refine seqQ_n ?_
 refine AW_seq ?_
 refine AW_seq ?_
 refine AW_region ?_
 refine AL_move rfl ?_
 refine AL_eqnil un52 sz3 (by decide) rfl rfl rfl ?_
 intro bq1 hbq1
 refine AL_norm TN ?_
 refine AL_nil ?_
 refine seqQ_n ?_
 refine AW_cond rfl (fun hc1 => ?_) (fun hc1 => ?_)
 · try simp only [Bool.or_eq_true, Bool.and_eq_true, Bool.or_eq_false_iff, Bool.and_eq_false_iff, decide_eq_true_eq, decide_eq_false_iff_not, Bool.not_eq_true', Bool.not_eq_false', beq_iff_eq, ne_eq, Decidable.not_not, List.length_map] at hc1
  refine AW_seq ?_
  refine AW_region ?_
  refine AL_assign rfl ?_
  refine AL_norm TN ?_
  refine AL_nil ?_
  refine seqQ_n ?_
  refine AW_ret ?_
  refine seqQ_r ?_
  refine retQ_1 (H' := H) (.inr rfl) rfl (SubH.refl _) ?_
  obtain rfl : zs = [] := List.map_eq_nil_iff.1 (hbq1 hc1); exact hK none 0 ⟨rfl, rfl⟩
 · try simp only [Bool.or_eq_true, Bool.and_eq_true, Bool.or_eq_false_iff, Bool.and_eq_false_iff, decide_eq_true_eq, decide_eq_false_iff_not, Bool.not_eq_true', Bool.not_eq_false', beq_iff_eq, ne_eq, Decidable.not_not, List.length_map] at hc1
  refine AW_skip ?_
  refine seqQ_n ?_
  refine AW_seq ?_
  refine AW_region ?_
  refine AL_buildSlice un52 sz3 ze3 rfl (by decide) (by decide) (.nil) rfl rfl ?_
  intro b1 hb1
  have hn1 : H b1 = none := SubH.none SU hb1
  refine AL_norm TN ?_
  refine AL_move rfl ?_
  refine AL_append (xs := []) (ys := zs.map intAV) un52 inf3 rfl (by decide) (by decide) rfl rfl (.sl _) (AH.upd_same _ _ _) (by simp) (mem_map_all zs (fun _ => rfl)) (by simp only [List.length_map]; omega) ?_
  intro ba ca hba hra
  rw [AH.rem_upd hn1] at hba ⊢
  simp only [List.take_nil, List.nil_append] at hba ⊢
  refine AL_assign rfl ?_
  refine AL_norm TN ?_
  refine AL_nil ?_
  refine seqQ_n ?_
  refine AW_ret ?_
  refine retQ_1 (H' := H.put ba 3 ca (zs.map intAV)) (.inr rfl) rfl (SubH.refl _) ?_
  have e : 0 + (zs.map intAV).length = zs.length := (by simp); rw [e]; exact hK _ _ hba

/-- slices.Clone[[]quillwork/api.Cell,quillwork/api.Cell] -/
theorem slices_Clone_api_Cell_api_Cell_ok  :
  ∀ (zs : List Cell), zs.length ≤ 1000000 → ∀ (H : AH) (K : AV → AH → Prop), (∀ A c, Fresh H A c (zs.map cellAV) → K (.own A c zs.length) (H.put A 57 c (zs.map cellAV))) → AC Tryz.prog 220 [.sl 57 (zs.map cellAV)] H K := by
 intro zs hz H K hK
 refine AC_of Tryz.func220 rfl (rs := [.tmp 2]) rfl Tryz.ntmps220 rfl ?_
 refine AW_norm TP ?_
 refine AW_seq ?_
 refine AW_region ?_
 refine AL_assign rfl ?_
 refine AL_norm TN ?_
 refine AL_nil ?_
 refine seqQ_n ?_
 refine AW_seq ?_
 refine AW_seq ?_
 refine AW_region ?_
 refine AL_move rfl ?_
 refine AL_eqnil un58 sz57 (by decide) rfl rfl rfl ?_
 intro bq1 hbq1
 refine AL_norm TN ?_
 refine AL_nil ?_
 refine seqQ_n ?_
 refine AW_cond rfl (fun hc1 => ?_) (fun hc1 => ?_)
 · try simp only [Bool.or_eq_true, Bool.and_eq_true, Bool.or_eq_false_iff, Bool.and_eq_false_iff, decide_eq_true_eq, decide_eq_false_iff_not, Bool.not_eq_true', Bool.not_eq_false', beq_iff_eq, ne_eq, Decidable.not_not, List.length_map] at hc1
  refine AW_seq ?_
  refine AW_region ?_
  refine AL_assign rfl ?_
  refine AL_norm TN ?_
  refine AL_nil ?_
  refine seqQ_n ?_
  refine AW_ret ?_
  refine seqQ_r ?_
  refine retQ_1 (H' := H) (.inr rfl) rfl (SubH.refl _) ?_
  obtain rfl : zs = [] := List.map_eq_nil_iff.1 (hbq1 hc1); exact hK none 0 ⟨rfl, rfl⟩
 · try simp only [Bool.or_eq_true, Bool.and_eq_true, Bool.or_eq_false_iff, Bool.and_eq_false_iff, decide_eq_true_eq, decide_eq_false_iff_not, Bool.not_eq_true', Bool.not_eq_false', beq_iff_eq, ne_eq, Decidable.not_not, List.length_map] at hc1
  refine AW_skip ?_
  refine seqQ_n ?_
  refine AW_seq ?_
  refine AW_region ?_
  refine AL_buildSlice un58 sz57 ze57 rfl (by decide) (by decide) (.nil) rfl rfl ?_
  intro b1 hb1
  have hn1 : H b1 = none := SubH.none SU hb1
  refine AL_norm TN ?_
  refine AL_move rfl ?_
  refine AL_append (xs := []) (ys := zs.map cellAV) un58 inf57 rfl (by decide) (by decide) rfl rfl (.sl _) (AH.upd_same _ _ _) (by simp) (mem_map_all zs (fun _ => rfl)) (by simp only [List.length_map]; omega) ?_
  intro ba ca hba hra
  rw [AH.rem_upd hn1] at hba ⊢
  simp only [List.take_nil, List.nil_append] at hba ⊢
  refine AL_assign rfl ?_
  refine AL_norm TN ?_
  refine AL_nil ?_
  refine seqQ_n ?_
  refine AW_ret ?_
  refine retQ_1 (H' := H.put ba 57 ca (zs.map cellAV)) (.inr rfl) rfl (SubH.refl _) ?_
  have e : 0 + (zs.map cellAV).length = zs.length := (by simp); rw [e]; exact hK _ _ hba

/-- slices.IndexFunc[[]int,int] -/
theorem slices_IndexFunc_int_int_ok  :
  ∀ (I : AH → Prop) (p : Int → Bool) (zs : List Int) (f : FuncId) (cps : List AV), zs.length ≤ 1000000 → entersOf Tryz.prog f = true → (∀ c ∈ zs, PI I Tryz.prog f (intAV c :: cps) (.v (.bool (p c)))) → PI I Tryz.prog 267 [.sl 3 (zs.map intAV), .fn (.func f) [] cps] (.v (.int .i64 (idxI p zs))) := by
 intro I p zs f cps hlen hen hf H K hT hK
 refine AC_of Tryz.func267 rfl (rs := [.tmp 4]) rfl Tryz.ntmps267 rfl ?_
 refine AW_norm TP ?_
 refine AW_seq ?_
 refine AW_region ?_
 refine AL_assign rfl ?_
 refine AL_norm TN ?_
 refine AL_nil ?_
 refine seqQ_n ?_
 refine AW_seq ?_
 refine AW_seq ?_
 refine AW_region ?_
 refine AL_move rfl ?_
 first | refine AL_len_sl un52 rfl ?_ | refine AL_len_own un52 rfl ?_
 refine AL_move rfl ?_
 refine AL_norm TN ?_
 refine AL_nil ?_
 refine seqQ_n ?_
 refine AW_block ?_
 refine AW_loops (α := Nat) [4, 5, 8, 9, 10, 11, 12, 13, 14, 15, 16, 17, 18] (fun i => [(8, .v (.int .i64 (i : Int)))]) (fun i => H) (fun i => i ≤ zs.length ∧ ∀ j, j < i → p (zs.getD j 0) = false) (fun i => zs.length - i) (0) ?_ ?_ ?_ ?_
 · exact ⟨Nat.zero_le _, fun j hj => absurd hj (Nat.not_lt_zero j)⟩
 · repeat (first | exact SubH.refl _ | assumption | refine SubH.new ?_ (by assumption))
 · skip
  try simp only [tput, anyAt, setAll, List.foldl_cons, List.foldl_nil, List.set_cons_zero, List.set_cons_succ]
  repeat (first | exact Weak.nil | refine Weak.cons ?_ | refine Weak.consAny ?_)
 · intro i hI
  refine AW_norm TN ?_
  refine AW_seq ?_
  refine AW_region ?_
  refine AL_lss rfl rfl ?_
  refine AL_norm TN ?_
  refine AL_nil ?_
  refine seqQ_n ?_
  refine AW_seq ?_
  refine AW_cond rfl (fun hc1 => ?_) (fun hc1 => ?_)
  · try simp only [Bool.or_eq_true, Bool.and_eq_true, Bool.or_eq_false_iff, Bool.and_eq_false_iff, decide_eq_true_eq, decide_eq_false_iff_not, Bool.not_eq_true', Bool.not_eq_false', beq_iff_eq, ne_eq, Decidable.not_not, List.length_map] at hc1
   refine AW_skip ?_
   refine seqQ_n ?_
   refine AW_seq ?_
   refine AW_block ?_
   refine AW_seq ?_
   refine AW_region ?_
   refine AL_move rfl ?_
   refine AL_norm TN ?_
   refine AL_assign rfl ?_
   refine AL_norm TN ?_
   refine AL_nil (seqQ_n (AW_seq (AW_region ?_)))
   refine AL_move rfl ?_
   refine AL_move rfl ?_
   refine AL_move rfl ?_
   refine AL_norm TN ?_
   first | refine AL_indexAddr_sl (y := intAV (zs.getD i 0)) un52 sz3 (by decide) rfl rfl ?_ ?_ ?_ ?_ | refine AL_indexAddr_own un52 sz3 rfl rfl ?_ ?_ ?_
   · omega
   · simp only [List.length_map]; omega
   · exact map_getD 0 (i := i) (by omega)
   first | refine AL_load_rp sz3 rfl ag3 ?_ | refine AL_loadw sz3 rfl LK (by exact ag3) (by exact rfl) ?_ | refine AL_load_pt ag3 sz3 (by decide) rfl LK (by first | assumption | exact sz3 | exact sz57 | exact sz60) (by exact rfl) (by exact rfl) (by exact rfl) ?_
   refine AL_callv rfl hen (.cons (.ev rfl) .nil) (hf _ (getD_mem 0 (i := i) (by omega)) H (fun x H1 => x = .v (.bool (p (zs.getD i 0))) ∧ H = H1) hT ⟨rfl, rfl⟩) ?_; rintro _ _ ⟨rfl, rfl⟩
   refine AL_norm TN ?_
   refine AL_nil ?_
   refine seqQ_n ?_
   refine AW_cond rfl (fun hc2 => ?_) (fun hc2 => ?_)
   · try simp only [Bool.or_eq_true, Bool.and_eq_true, Bool.or_eq_false_iff, Bool.and_eq_false_iff, decide_eq_true_eq, decide_eq_false_iff_not, Bool.not_eq_true', Bool.not_eq_false', beq_iff_eq, ne_eq, Decidable.not_not, List.length_map] at hc2
    refine AW_seq ?_
    refine AW_region ?_
    refine AL_move rfl ?_
    refine AL_norm TN ?_
    refine AL_assign rfl ?_
    refine AL_norm TN ?_
    refine AL_nil ?_
    refine seqQ_n ?_
    refine AW_ret ?_
    refine blockQ_r ?_
    refine seqQ_r ?_
    refine loopQ_r ?_
    refine blockQ_r ?_
    refine seqQ_r ?_
    refine retQ_1 (H' := H) (.inr rfl) rfl SU ?_
    refine K_eq ?_ hK
    exact congrArg (fun z => AV.v (.int .i64 z)) (idxI_some (d := 0) (by omega) hc2 hI.2).symm
   · try simp only [Bool.or_eq_true, Bool.and_eq_true, Bool.or_eq_false_iff, Bool.and_eq_false_iff, decide_eq_true_eq, decide_eq_false_iff_not, Bool.not_eq_true', Bool.not_eq_false', beq_iff_eq, ne_eq, Decidable.not_not, List.length_map] at hc2
    refine AW_skip ?_
    refine blockQ_n ?_
    refine seqQ_n ?_
    refine AW_region ?_
    refine AL_addz rfl rfl (((i + 1 : Nat) : Int)) (by exact inc64 (by omega)) ?_
    refine AL_move rfl ?_
    refine AL_norm TN ?_
    refine AL_nil ?_
    refine loopQ_n (i + 1) ?_ ?_ ?_ ?_
    · exact ⟨by omega, upto_no2 hI.2 hc2⟩
    · omega
    · repeat (first | exact SubH.refl _ | assumption | refine SubH.new ?_ (by assumption))
    · skip
     try simp only [tput, anyAt, setAll, List.foldl_cons, List.foldl_nil, List.set_cons_zero, List.set_cons_succ]
     repeat (first | exact Weak.nil | refine Weak.cons ?_ | refine Weak.consAny ?_)
  · try simp only [Bool.or_eq_true, Bool.and_eq_true, Bool.or_eq_false_iff, Bool.and_eq_false_iff, decide_eq_true_eq, decide_eq_false_iff_not, Bool.not_eq_true', Bool.not_eq_false', beq_iff_eq, ne_eq, Decidable.not_not, List.length_map] at hc1
   refine AW_exit ?_
   refine seqQ_x ?_
   refine loopQ_x ?_
   refine blockQ_hit ?_
   refine seqQ_n ?_
   refine AW_seq ?_
   refine AW_region ?_
   refine AL_assign rfl ?_
   refine AL_norm TN ?_
   refine AL_nil ?_
   refine seqQ_n ?_
   refine AW_ret ?_
   refine retQ_1 (H' := H) (.inr rfl) rfl SU ?_
   refine K_eq ?_ hK
   exact congrArg (fun z => AV.v (.int .i64 z)) (idxI_none (d := 0) (i := i) (by omega) hI.2).symm

/-- slices.IndexFunc[[]quillwork/api.Cell,quillwork/api.Cell] -/
theorem slices_IndexFunc_api_Cell_api_Cell_ok  :
  ∀ (I : AH → Prop) (p : Cell → Bool) (zs : List Cell) (f : FuncId) (cps : List AV), zs.length ≤ 1000000 → entersOf Tryz.prog f = true → (∀ c ∈ zs, PI I Tryz.prog f (cellAV c :: cps) (.v (.bool (p c)))) → PI I Tryz.prog 206 [.sl 57 (zs.map cellAV), .fn (.func f) [] cps] (.v (.int .i64 (idxI p zs))) := by
 intro I p zs f cps hlen hen hf H K hT hK
 refine AC_of Tryz.func206 rfl (rs := [.tmp 4]) rfl Tryz.ntmps206 rfl ?_
 refine AW_norm TP ?_
 refine AW_seq ?_
 refine AW_region ?_
 refine AL_assign rfl ?_
 refine AL_norm TN ?_
 refine AL_nil ?_
 refine seqQ_n ?_
 refine AW_seq ?_
 refine AW_seq ?_
 refine AW_region ?_
 refine AL_move rfl ?_
 first | refine AL_len_sl un58 rfl ?_ | refine AL_len_own un58 rfl ?_
 refine AL_move rfl ?_
 refine AL_norm TN ?_
 refine AL_nil ?_
 refine seqQ_n ?_
 refine AW_block ?_
 refine AW_loops (α := Nat) [4, 5, 8, 9, 10, 11, 12, 13, 14, 15, 16, 17, 18] (fun i => [(8, .v (.int .i64 (i : Int)))]) (fun i => H) (fun i => i ≤ zs.length ∧ ∀ j, j < i → p (zs.getD j c0) = false) (fun i => zs.length - i) (0) ?_ ?_ ?_ ?_
 · exact ⟨Nat.zero_le _, fun j hj => absurd hj (Nat.not_lt_zero j)⟩
 · repeat (first | exact SubH.refl _ | assumption | refine SubH.new ?_ (by assumption))
 · skip
  try simp only [tput, anyAt, setAll, List.foldl_cons, List.foldl_nil, List.set_cons_zero, List.set_cons_succ]
  repeat (first | exact Weak.nil | refine Weak.cons ?_ | refine Weak.consAny ?_)
 · intro i hI
  refine AW_norm TN ?_
  refine AW_seq ?_
  refine AW_region ?_
  refine AL_lss rfl rfl ?_
  refine AL_norm TN ?_
  refine AL_nil ?_
  refine seqQ_n ?_
  refine AW_seq ?_
  refine AW_cond rfl (fun hc1 => ?_) (fun hc1 => ?_)
  · try simp only [Bool.or_eq_true, Bool.and_eq_true, Bool.or_eq_false_iff, Bool.and_eq_false_iff, decide_eq_true_eq, decide_eq_false_iff_not, Bool.not_eq_true', Bool.not_eq_false', beq_iff_eq, ne_eq, Decidable.not_not, List.length_map] at hc1
   refine AW_skip ?_
   refine seqQ_n ?_
   refine AW_seq ?_
   refine AW_block ?_
   refine AW_seq ?_
   refine AW_region ?_
   refine AL_move rfl ?_
   refine AL_norm TN ?_
   refine AL_assign rfl ?_
   refine AL_norm TN ?_
   refine AL_nil (seqQ_n (AW_seq (AW_region ?_)))
   refine AL_move rfl ?_
   refine AL_move rfl ?_
   refine AL_move rfl ?_
   refine AL_norm TN ?_
   first | refine AL_indexAddr_sl (y := cellAV (zs.getD i c0)) un58 sz57 (by decide) rfl rfl ?_ ?_ ?_ ?_ | refine AL_indexAddr_own un58 sz57 rfl rfl ?_ ?_ ?_
   · omega
   · simp only [List.length_map]; omega
   · exact map_getD c0 (i := i) (by omega)
   first | refine AL_load_rp sz57 rfl ag57 ?_ | refine AL_loadw sz57 rfl LK (by exact ag57) (by exact rfl) ?_ | refine AL_load_pt ag57 sz57 (by decide) rfl LK (by first | assumption | exact sz3 | exact sz57 | exact sz60) (by exact rfl) (by exact rfl) (by exact rfl) ?_
   refine AL_callv rfl hen (.cons (.ev rfl) .nil) (hf _ (getD_mem c0 (i := i) (by omega)) H (fun x H1 => x = .v (.bool (p (zs.getD i c0))) ∧ H = H1) hT ⟨rfl, rfl⟩) ?_; rintro _ _ ⟨rfl, rfl⟩
   refine AL_norm TN ?_
   refine AL_nil ?_
   refine seqQ_n ?_
   refine AW_cond rfl (fun hc2 => ?_) (fun hc2 => ?_)
   · try simp only [Bool.or_eq_true, Bool.and_eq_true, Bool.or_eq_false_iff, Bool.and_eq_false_iff, decide_eq_true_eq, decide_eq_false_iff_not, Bool.not_eq_true', Bool.not_eq_false', beq_iff_eq, ne_eq, Decidable.not_not, List.length_map] at hc2
    refine AW_seq ?_
    refine AW_region ?_
    refine AL_move rfl ?_
    refine AL_norm TN ?_
    refine AL_assign rfl ?_
    refine AL_norm TN ?_
    refine AL_nil ?_
    refine seqQ_n ?_
    refine AW_ret ?_
    refine blockQ_r ?_
    refine seqQ_r ?_
    refine loopQ_r ?_
    refine blockQ_r ?_
    refine seqQ_r ?_
    refine retQ_1 (H' := H) (.inr rfl) rfl SU ?_
    refine K_eq ?_ hK
    exact congrArg (fun z => AV.v (.int .i64 z)) (idxI_some (d := c0) (by omega) hc2 hI.2).symm
   · try simp only [Bool.or_eq_true, Bool.and_eq_true, Bool.or_eq_false_iff, Bool.and_eq_false_iff, decide_eq_true_eq, decide_eq_false_iff_not, Bool.not_eq_true', Bool.not_eq_false', beq_iff_eq, ne_eq, Decidable.not_not, List.length_map] at hc2
    refine AW_skip ?_
    refine blockQ_n ?_
    refine seqQ_n ?_
    refine AW_region ?_
    refine AL_addz rfl rfl (((i + 1 : Nat) : Int)) (by exact inc64 (by omega)) ?_
    refine AL_move rfl ?_
    refine AL_norm TN ?_
    refine AL_nil ?_
    refine loopQ_n (i + 1) ?_ ?_ ?_ ?_
    · exact ⟨by omega, upto_no2 hI.2 hc2⟩
    · omega
    · repeat (first | exact SubH.refl _ | assumption | refine SubH.new ?_ (by assumption))
    · skip
     try simp only [tput, anyAt, setAll, List.foldl_cons, List.foldl_nil, List.set_cons_zero, List.set_cons_succ]
     repeat (first | exact Weak.nil | refine Weak.cons ?_ | refine Weak.consAny ?_)
  · try simp only [Bool.or_eq_true, Bool.and_eq_true, Bool.or_eq_false_iff, Bool.and_eq_false_iff, decide_eq_true_eq, decide_eq_false_iff_not, Bool.not_eq_true', Bool.not_eq_false', beq_iff_eq, ne_eq, Decidable.not_not, List.length_map] at hc1
   refine AW_exit ?_
   refine seqQ_x ?_
   refine loopQ_x ?_
   refine blockQ_hit ?_
   refine seqQ_n ?_
   refine AW_seq ?_
   refine AW_region ?_
   refine AL_assign rfl ?_
   refine AL_norm TN ?_
   refine AL_nil ?_
   refine seqQ_n ?_
   refine AW_ret ?_
   refine retQ_1 (H' := H) (.inr rfl) rfl SU ?_
   refine K_eq ?_ hK
   exact congrArg (fun z => AV.v (.int .i64 z)) (idxI_none (d := c0) (i := i) (by omega) hI.2).symm

/-- slices.IndexFunc[[]quillwork/api.Line,quillwork/api.Line] -/
theorem slices_IndexFunc_api_Line_api_Line_ok  :
  ∀ (I : AH → Prop) (p : Line → Bool) (zs : List Line) (f : FuncId) (cps : List AV), zs.length ≤ 1000000 → entersOf Tryz.prog f = true → (∀ c ∈ zs, PI I Tryz.prog f (lineAV c :: cps) (.v (.bool (p c)))) → PI I Tryz.prog 207 [.sl 60 (zs.map lineAV), .fn (.func f) [] cps] (.v (.int .i64 (idxI p zs))) := by
 intro I p zs f cps hlen hen hf H K hT hK
 refine AC_of Tryz.func207 rfl (rs := [.tmp 4]) rfl Tryz.ntmps207 rfl ?_
 refine AW_norm TP ?_
 refine AW_seq ?_
 refine AW_region ?_
 refine AL_assign rfl ?_
 refine AL_norm TN ?_
 refine AL_nil ?_
 refine seqQ_n ?_
 refine AW_seq ?_
 refine AW_seq ?_
 refine AW_region ?_
 refine AL_move rfl ?_
 first | refine AL_len_sl un22 rfl ?_ | refine AL_len_own un22 rfl ?_
 refine AL_move rfl ?_
 refine AL_norm TN ?_
 refine AL_nil ?_
 refine seqQ_n ?_
 refine AW_block ?_
 refine AW_loops (α := Nat) [4, 5, 8, 9, 10, 11, 12, 13, 14, 15, 16, 17, 18] (fun i => [(8, .v (.int .i64 (i : Int)))]) (fun i => H) (fun i => i ≤ zs.length ∧ ∀ j, j < i → p (zs.getD j l0) = false) (fun i => zs.length - i) (0) ?_ ?_ ?_ ?_
 · exact ⟨Nat.zero_le _, fun j hj => absurd hj (Nat.not_lt_zero j)⟩
 · repeat (first | exact SubH.refl _ | assumption | refine SubH.new ?_ (by assumption))
 · skip
  try simp only [tput, anyAt, setAll, List.foldl_cons, List.foldl_nil, List.set_cons_zero, List.set_cons_succ]
  repeat (first | exact Weak.nil | refine Weak.cons ?_ | refine Weak.consAny ?_)
 · intro i hI
  refine AW_norm TN ?_
  refine AW_seq ?_
  refine AW_region ?_
  refine AL_lss rfl rfl ?_
  refine AL_norm TN ?_
  refine AL_nil ?_
  refine seqQ_n ?_
  refine AW_seq ?_
  refine AW_cond rfl (fun hc1 => ?_) (fun hc1 => ?_)
  · try simp only [Bool.or_eq_true, Bool.and_eq_true, Bool.or_eq_false_iff, Bool.and_eq_false_iff, decide_eq_true_eq, decide_eq_false_iff_not, Bool.not_eq_true', Bool.not_eq_false', beq_iff_eq, ne_eq, Decidable.not_not, List.length_map] at hc1
   refine AW_skip ?_
   refine seqQ_n ?_
   refine AW_seq ?_
   refine AW_block ?_
   refine AW_seq ?_
   refine AW_region ?_
   refine AL_move rfl ?_
   refine AL_norm TN ?_
   refine AL_assign rfl ?_
   refine AL_norm TN ?_
   refine AL_nil (seqQ_n (AW_seq (AW_region ?_)))
   refine AL_move rfl ?_
   refine AL_move rfl ?_
   refine AL_move rfl ?_
   refine AL_norm TN ?_
   first | refine AL_indexAddr_sl (y := lineAV (zs.getD i l0)) un22 sz60 (by decide) rfl rfl ?_ ?_ ?_ ?_ | refine AL_indexAddr_own un22 sz60 rfl rfl ?_ ?_ ?_
   · omega
   · simp only [List.length_map]; omega
   · exact map_getD l0 (i := i) (by omega)
   first | refine AL_load_rp sz60 rfl ag60 ?_ | refine AL_loadw sz60 rfl LK (by exact ag60) (by exact rfl) ?_ | refine AL_load_pt ag60 sz60 (by decide) rfl LK (by first | assumption | exact sz3 | exact sz57 | exact sz60) (by exact rfl) (by exact rfl) (by exact rfl) ?_
   refine AL_callv rfl hen (.cons (.ev rfl) .nil) (hf _ (getD_mem l0 (i := i) (by omega)) H (fun x H1 => x = .v (.bool (p (zs.getD i l0))) ∧ H = H1) hT ⟨rfl, rfl⟩) ?_; rintro _ _ ⟨rfl, rfl⟩
   refine AL_norm TN ?_
   refine AL_nil ?_
   refine seqQ_n ?_
   refine AW_cond rfl (fun hc2 => ?_) (fun hc2 => ?_)
   · try simp only [Bool.or_eq_true, Bool.and_eq_true, Bool.or_eq_false_iff, Bool.and_eq_false_iff, decide_eq_true_eq, decide_eq_false_iff_not, Bool.not_eq_true', Bool.not_eq_false', beq_iff_eq, ne_eq, Decidable.not_not, List.length_map] at hc2
    refine AW_seq ?_
    refine AW_region ?_
    refine AL_move rfl ?_
    refine AL_norm TN ?_
    refine AL_assign rfl ?_
    refine AL_norm TN ?_
    refine AL_nil ?_
    refine seqQ_n ?_
    refine AW_ret ?_
    refine blockQ_r ?_
    refine seqQ_r ?_
    refine loopQ_r ?_
    refine blockQ_r ?_
    refine seqQ_r ?_
    refine retQ_1 (H' := H) (.inr rfl) rfl SU ?_
    refine K_eq ?_ hK
    exact congrArg (fun z => AV.v (.int .i64 z)) (idxI_some (d := l0) (by omega) hc2 hI.2).symm
   · try simp only [Bool.or_eq_true, Bool.and_eq_true, Bool.or_eq_false_iff, Bool.and_eq_false_iff, decide_eq_true_eq, decide_eq_false_iff_not, Bool.not_eq_true', Bool.not_eq_false', beq_iff_eq, ne_eq, Decidable.not_not, List.length_map] at hc2
    refine AW_skip ?_
    refine blockQ_n ?_
    refine seqQ_n ?_
    refine AW_region ?_
    refine AL_addz rfl rfl (((i + 1 : Nat) : Int)) (by exact inc64 (by omega)) ?_
    refine AL_move rfl ?_
    refine AL_norm TN ?_
    refine AL_nil ?_
    refine loopQ_n (i + 1) ?_ ?_ ?_ ?_
    · exact ⟨by omega, upto_no2 hI.2 hc2⟩
    · omega
    · repeat (first | exact SubH.refl _ | assumption | refine SubH.new ?_ (by assumption))
    · skip
     try simp only [tput, anyAt, setAll, List.foldl_cons, List.foldl_nil, List.set_cons_zero, List.set_cons_succ]
     repeat (first | exact Weak.nil | refine Weak.cons ?_ | refine Weak.consAny ?_)
  · try simp only [Bool.or_eq_true, Bool.and_eq_true, Bool.or_eq_false_iff, Bool.and_eq_false_iff, decide_eq_true_eq, decide_eq_false_iff_not, Bool.not_eq_true', Bool.not_eq_false', beq_iff_eq, ne_eq, Decidable.not_not, List.length_map] at hc1
   refine AW_exit ?_
   refine seqQ_x ?_
   refine loopQ_x ?_
   refine blockQ_hit ?_
   refine seqQ_n ?_
   refine AW_seq ?_
   refine AW_region ?_
   refine AL_assign rfl ?_
   refine AL_norm TN ?_
   refine AL_nil ?_
   refine seqQ_n ?_
   refine AW_ret ?_
   refine retQ_1 (H' := H) (.inr rfl) rfl SU ?_
   refine K_eq ?_ hK
   exact congrArg (fun z => AV.v (.int .i64 z)) (idxI_none (d := l0) (i := i) (by omega) hI.2).symm

/-- slices.ContainsFunc[[]int,int] -/
theorem slices_ContainsFunc_int_int_ok  :
  ∀ (I : AH → Prop) (p : Int → Bool) (zs : List Int) (f : FuncId) (cps : List AV), zs.length ≤ 1000000 → entersOf Tryz.prog f = true → (∀ c ∈ zs, PI I Tryz.prog f (intAV c :: cps) (.v (.bool (p c)))) → PI I Tryz.prog 208 [.sl 3 (zs.map intAV), .fn (.func f) [] cps] (.v (.bool (zs.any p))) := by
 intro I p zs f cps hlen hen hf H K hT hK
 refine AC_of Tryz.func208 rfl (rs := [.tmp 4]) rfl Tryz.ntmps208 rfl ?_
 refine AW_norm TP ?_
 refine AW_seq ?_
 refine AW_region ?_
 refine AL_assign rfl ?_
 refine AL_norm TN ?_
 refine AL_nil (seqQ_n (AW_seq (AW_region ?_)))
 refine AL_move rfl ?_
 refine AL_move rfl ?_
 refine AL_callpi en267 (.cons (.ev rfl) (.cons (.ev rfl) (.nil))) HS (slices_IndexFunc_int_int_ok I p zs f cps hlen hen hf) ?_
 refine AL_norm TN ?_
 refine AL_geq rfl rfl ?_
 refine AL_assign rfl ?_
 refine AL_norm TN ?_
 refine AL_nil ?_
 refine seqQ_n ?_
 refine AW_ret ?_
 refine retQ_1 (H' := H) (.inr rfl) rfl SU ?_
 refine K_eq ?_ hK
 exact congrArg (fun b => AV.v (.bool b)) (idxI_any p zs)

/-- slices.ContainsFunc[[]quillwork/api.Cell,quillwork/api.Cell] -/
theorem slices_ContainsFunc_api_Cell_api_Cell_ok  :
  ∀ (I : AH → Prop) (p : Cell → Bool) (zs : List Cell) (f : FuncId) (cps : List AV), zs.length ≤ 1000000 → entersOf Tryz.prog f = true → (∀ c ∈ zs, PI I Tryz.prog f (cellAV c :: cps) (.v (.bool (p c)))) → PI I Tryz.prog 125 [.sl 57 (zs.map cellAV), .fn (.func f) [] cps] (.v (.bool (zs.any p))) := by
 intro I p zs f cps hlen hen hf H K hT hK
 refine AC_of Tryz.func125 rfl (rs := [.tmp 4]) rfl Tryz.ntmps125 rfl ?_
 refine AW_norm TP ?_
 refine AW_seq ?_
 refine AW_region ?_
 refine AL_assign rfl ?_
 refine AL_norm TN ?_
 refine AL_nil (seqQ_n (AW_seq (AW_region ?_)))
 refine AL_move rfl ?_
 refine AL_move rfl ?_
 refine AL_callpi en206 (.cons (.ev rfl) (.cons (.ev rfl) (.nil))) HS (slices_IndexFunc_api_Cell_api_Cell_ok I p zs f cps hlen hen hf) ?_
 refine AL_norm TN ?_
 refine AL_geq rfl rfl ?_
 refine AL_assign rfl ?_
 refine AL_norm TN ?_
 refine AL_nil ?_
 refine seqQ_n ?_
 refine AW_ret ?_
 refine retQ_1 (H' := H) (.inr rfl) rfl SU ?_
 refine K_eq ?_ hK
 exact congrArg (fun b => AV.v (.bool b)) (idxI_any p zs)

/-- slices.ContainsFunc[[]quillwork/api.Line,quillwork/api.Line] -/
theorem slices_ContainsFunc_api_Line_api_Line_ok  :
  ∀ (I : AH → Prop) (p : Line → Bool) (zs : List Line) (f : FuncId) (cps : List AV), zs.length ≤ 1000000 → entersOf Tryz.prog f = true → (∀ c ∈ zs, PI I Tryz.prog f (lineAV c :: cps) (.v (.bool (p c)))) → PI I Tryz.prog 129 [.sl 60 (zs.map lineAV), .fn (.func f) [] cps] (.v (.bool (zs.any p))) := by
 intro I p zs f cps hlen hen hf H K hT hK
 refine AC_of Tryz.func129 rfl (rs := [.tmp 4]) rfl Tryz.ntmps129 rfl ?_
 refine AW_norm TP ?_
 refine AW_seq ?_
 refine AW_region ?_
 refine AL_assign rfl ?_
 refine AL_norm TN ?_
 refine AL_nil (seqQ_n (AW_seq (AW_region ?_)))
 refine AL_move rfl ?_
 refine AL_move rfl ?_
 refine AL_callpi en207 (.cons (.ev rfl) (.cons (.ev rfl) (.nil))) HS (slices_IndexFunc_api_Line_api_Line_ok I p zs f cps hlen hen hf) ?_
 refine AL_norm TN ?_
 refine AL_geq rfl rfl ?_
 refine AL_assign rfl ?_
 refine AL_norm TN ?_
 refine AL_nil ?_
 refine seqQ_n ?_
 refine AW_ret ?_
 refine retQ_1 (H' := H) (.inr rfl) rfl SU ?_
 refine K_eq ?_ hK
 exact congrArg (fun b => AV.v (.bool b)) (idxI_any p zs)


end Go.Proofs
