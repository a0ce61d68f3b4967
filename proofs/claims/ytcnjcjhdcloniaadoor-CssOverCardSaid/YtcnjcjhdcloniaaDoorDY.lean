/- The given statement of the law: for every input the law answers true. No conditions of our own. -/
import Derived.Test.YtcnjcjhdcloniaaDoorDX
import Derived.Test.YtcnjcjhdcloniaaDoorCH
import Derived.Test.YtcnjcjhdcloniaaDoorProg
set_option autoImplicit false
set_option linter.unusedVariables false
set_option linter.unusedSimpArgs false
set_option maxRecDepth 100000
set_option maxHeartbeats 1000000
namespace Go.Css.Walk
open Go Go.RowKit Go.AL Go.Css Go.IntWalk Go.Proofs
theorem en32 : entersOf Tryd.prog 32 = true := by kernel_rfl
theorem en34 : entersOf Tryd.prog 34 = true := by kernel_rfl
theorem en36 : entersOf Tryd.prog 36 = true := by kernel_rfl
theorem en31 : entersOf Tryd.prog 31 = true := by kernel_rfl
theorem en33 : entersOf Tryd.prog 33 = true := by kernel_rfl
theorem en35 : entersOf Tryd.prog 35 = true := by kernel_rfl

/-- quillwork/quillworklaw04.awake -/
theorem quillworklaw04_awake_ok  :
    PI TC Tryd.prog 31 [] (.v (.bool true)) := by
  intro H K hI hK
  refine AC_of Tryd.func31 rfl (rs := [.tmp 0]) rfl Tryd.ntmps31 rfl ?_
  refine AW_norm (by simp only [List.length_cons, List.length_nil, Nat.reduceAdd, Nat.reduceSub, List.replicate, List.cons_append, List.nil_append]; rfl) ?_
  refine AW_seq ?_
  refine AW_region ?_
  refine AL_assign rfl ?_
  refine AL_norm (by first | (simp only [tput, anyAt, setAll, List.foldl_cons, List.foldl_nil, List.set_cons_zero, List.set_cons_succ]; rfl) | rfl) ?_
  refine AL_nil ?_
  refine seqQ_n ?_
  refine AW_seq ?_
  refine AW_region ?_
  refine AL_callpi en32 (.cons (.ev rfl) (.nil)) (by repeat (first | assumption | refine Holds.upd ?_ (by first | assumption | repeat (first | assumption | refine AH.look_other (by assumption) ?_)))) (css_Parse_ok _ (by decide)) ?_
  refine AL_move rfl ?_
  refine AL_extract rfl rfl ?_
  refine AL_norm (by first | (simp only [tput, anyAt, setAll, List.foldl_cons, List.foldl_nil, List.set_cons_zero, List.set_cons_succ]; rfl) | rfl) ?_
  refine AL_extract rfl rfl ?_
  refine AL_assign rfl ?_
  refine AL_assign rfl ?_
  refine AL_norm (by first | (simp only [tput, anyAt, setAll, List.foldl_cons, List.foldl_nil, List.set_cons_zero, List.set_cons_succ]; rfl) | rfl) ?_
  refine AL_nil ?_
  refine seqQ_n ?_
  refine AW_seq ?_
  refine AW_region ?_
  refine AL_callpi en32 (.cons (.ev rfl) (.nil)) (by repeat (first | assumption | refine Holds.upd ?_ (by first | assumption | repeat (first | assumption | refine AH.look_other (by assumption) ?_)))) (css_Parse_ok _ (by decide)) ?_
  refine AL_norm (by first | (simp only [tput, anyAt, setAll, List.foldl_cons, List.foldl_nil, List.set_cons_zero, List.set_cons_succ]; rfl) | rfl) ?_
  refine AL_move rfl ?_
  refine AL_extract rfl rfl ?_
  refine AL_extract rfl rfl ?_
  refine AL_assign rfl ?_
  refine AL_norm (by first | (simp only [tput, anyAt, setAll, List.foldl_cons, List.foldl_nil, List.set_cons_zero, List.set_cons_succ]; rfl) | rfl) ?_
  refine AL_assign rfl ?_
  refine AL_norm (by first | (simp only [tput, anyAt, setAll, List.foldl_cons, List.foldl_nil, List.set_cons_zero, List.set_cons_succ]; rfl) | rfl) ?_
  refine AL_nil ?_
  refine seqQ_n ?_
  refine AW_seq ?_
  refine AW_region ?_
  refine AL_move rfl ?_
  refine AL_eql rfl rfl ?_
  refine AL_move rfl ?_
  refine AL_norm (by first | (simp only [tput, anyAt, setAll, List.foldl_cons, List.foldl_nil, List.set_cons_zero, List.set_cons_succ]; rfl) | rfl) ?_
  refine AL_and (j := 2) (n := 2) (c := 15) (t := 17) (r := 18) (v := ?v1) [16, 17] rfl rfl rfl rfl rfl rfl rfl (fun hg1 => ?_) ?_; rotate_left
  · simp only [List.take_succ_cons, List.take_zero, List.map_cons, List.map_nil, strip, Nat.reduceBEq, beq_self_eq_true, Bool.and_self, Bool.true_and, Bool.false_and, cond_true, cond_false]
    try simp only [Bool.or_eq_true, Bool.and_eq_true, Bool.or_eq_false_iff, Bool.and_eq_false_iff, decide_eq_true_eq, decide_eq_false_iff_not, Bool.not_eq_true', Bool.not_eq_false', beq_iff_eq, ne_eq, Decidable.not_not, List.length_map] at hg1
    refine AL_move rfl ?_
    refine AL_eql rfl rfl ?_
    refine AL_nil (grpQ_mk ?_)
    try simp only [tput, anyAt, setAll, List.foldl_cons, List.foldl_nil, List.set_cons_zero, List.set_cons_succ]
    repeat (first | exact Weak.nil | refine Weak.cons ?_ | refine Weak.consAny ?_)
  refine AL_norm (by first | (simp only [tput, anyAt, setAll, List.foldl_cons, List.foldl_nil, List.set_cons_zero, List.set_cons_succ]; rfl) | rfl) ?_
  refine AL_move rfl ?_
  refine AL_and (j := 6) (n := 2) (c := 19) (t := 21) (r := 22) (v := ?v2) [20, 21] rfl rfl rfl rfl rfl rfl rfl (fun hg2 => ?_) ?_; rotate_left
  · simp only [List.take_succ_cons, List.take_zero, List.map_cons, List.map_nil, strip, Nat.reduceBEq, beq_self_eq_true, Bool.and_self, Bool.true_and, Bool.false_and, cond_true, cond_false]
    try simp only [Bool.or_eq_true, Bool.and_eq_true, Bool.or_eq_false_iff, Bool.and_eq_false_iff, decide_eq_true_eq, decide_eq_false_iff_not, Bool.not_eq_true', Bool.not_eq_false', beq_iff_eq, ne_eq, Decidable.not_not, List.length_map] at hg2
    refine AL_move rfl ?_
    refine AL_norm (by first | (simp only [tput, anyAt, setAll, List.foldl_cons, List.foldl_nil, List.set_cons_zero, List.set_cons_succ]; rfl) | rfl) ?_
    refine AL_eql rfl rfl ?_
    refine AL_nil (grpQ_mk ?_)
    try simp only [tput, anyAt, setAll, List.foldl_cons, List.foldl_nil, List.set_cons_zero, List.set_cons_succ]
    repeat (first | exact Weak.nil | refine Weak.cons ?_ | refine Weak.consAny ?_)
  refine AL_norm (by first | (simp only [tput, anyAt, setAll, List.foldl_cons, List.foldl_nil, List.set_cons_zero, List.set_cons_succ]; rfl) | rfl) ?_
  refine AL_move rfl ?_
  refine AL_and (j := 10) (n := 2) (c := 23) (t := 25) (r := 26) (v := ?v3) [24, 25] rfl rfl rfl rfl rfl rfl rfl (fun hg3 => ?_) ?_; rotate_left
  · simp only [List.take_succ_cons, List.take_zero, List.map_cons, List.map_nil, strip, Nat.reduceBEq, beq_self_eq_true, Bool.and_self, Bool.true_and, Bool.false_and, cond_true, cond_false]
    try simp only [Bool.or_eq_true, Bool.and_eq_true, Bool.or_eq_false_iff, Bool.and_eq_false_iff, decide_eq_true_eq, decide_eq_false_iff_not, Bool.not_eq_true', Bool.not_eq_false', beq_iff_eq, ne_eq, Decidable.not_not, List.length_map] at hg3
    refine AL_move rfl ?_
    refine AL_eql rfl rfl ?_
    refine AL_nil (grpQ_mk ?_)
    try simp only [tput, anyAt, setAll, List.foldl_cons, List.foldl_nil, List.set_cons_zero, List.set_cons_succ]
    repeat (first | exact Weak.nil | refine Weak.cons ?_ | refine Weak.consAny ?_)
  refine AL_norm (by first | (simp only [tput, anyAt, setAll, List.foldl_cons, List.foldl_nil, List.set_cons_zero, List.set_cons_succ]; rfl) | rfl) ?_
  refine AL_move rfl ?_
  refine AL_norm (by first | (simp only [tput, anyAt, setAll, List.foldl_cons, List.foldl_nil, List.set_cons_zero, List.set_cons_succ]; rfl) | rfl) ?_
  refine AL_and (j := 14) (n := 2) (c := 27) (t := 29) (r := 30) (v := ?v4) [28, 29] rfl rfl rfl rfl rfl rfl rfl (fun hg4 => ?_) ?_; rotate_left
  · simp only [List.take_succ_cons, List.take_zero, List.map_cons, List.map_nil, strip, Nat.reduceBEq, beq_self_eq_true, Bool.and_self, Bool.true_and, Bool.false_and, cond_true, cond_false]
    try simp only [Bool.or_eq_true, Bool.and_eq_true, Bool.or_eq_false_iff, Bool.and_eq_false_iff, decide_eq_true_eq, decide_eq_false_iff_not, Bool.not_eq_true', Bool.not_eq_false', beq_iff_eq, ne_eq, Decidable.not_not, List.length_map] at hg4
    refine AL_callp en34 (.cons (.ev rfl) (.cons (.ev rfl) (.nil))) (css_Print_ok _ _) ?_
    refine AL_seql rfl rfl ?_
    refine AL_nil (grpQ_mk ?_)
    try simp only [tput, anyAt, setAll, List.foldl_cons, List.foldl_nil, List.set_cons_zero, List.set_cons_succ]
    repeat (first | exact Weak.nil | refine Weak.cons ?_ | refine Weak.consAny ?_)
  refine AL_norm (by first | (simp only [tput, anyAt, setAll, List.foldl_cons, List.foldl_nil, List.set_cons_zero, List.set_cons_succ]; rfl) | rfl) ?_
  refine AL_move rfl ?_
  refine AL_and (j := 18) (n := 2) (c := 31) (t := 33) (r := 34) (v := ?v5) [32, 33] rfl rfl rfl rfl rfl rfl rfl (fun hg5 => ?_) ?_; rotate_left
  · simp only [List.take_succ_cons, List.take_zero, List.map_cons, List.map_nil, strip, Nat.reduceBEq, beq_self_eq_true, Bool.and_self, Bool.true_and, Bool.false_and, cond_true, cond_false]
    try simp only [Bool.or_eq_true, Bool.and_eq_true, Bool.or_eq_false_iff, Bool.and_eq_false_iff, decide_eq_true_eq, decide_eq_false_iff_not, Bool.not_eq_true', Bool.not_eq_false', beq_iff_eq, ne_eq, Decidable.not_not, List.length_map] at hg5
    refine AL_callp en36 (.cons (.ev rfl) (.cons (.ev rfl) (.cons (.ev rfl) (.nil)))) (css_Over_ok _ _ _) ?_
    refine AL_norm (by first | (simp only [tput, anyAt, setAll, List.foldl_cons, List.foldl_nil, List.set_cons_zero, List.set_cons_succ]; rfl) | rfl) ?_
    refine AL_eql rfl rfl ?_
    refine AL_nil (grpQ_mk ?_)
    try simp only [tput, anyAt, setAll, List.foldl_cons, List.foldl_nil, List.set_cons_zero, List.set_cons_succ]
    repeat (first | exact Weak.nil | refine Weak.cons ?_ | refine Weak.consAny ?_)
  refine AL_norm (by first | (simp only [tput, anyAt, setAll, List.foldl_cons, List.foldl_nil, List.set_cons_zero, List.set_cons_succ]; rfl) | rfl) ?_
  refine AL_assign rfl ?_
  refine AL_norm (by first | (simp only [tput, anyAt, setAll, List.foldl_cons, List.foldl_nil, List.set_cons_zero, List.set_cons_succ]; rfl) | rfl) ?_
  refine AL_nil ?_
  refine seqQ_n ?_
  refine AW_ret ?_
  refine retQ_1 (H' := H) (.inr rfl) rfl (by repeat (first | exact SubH.refl _ | refine SubH.upd ?_ (by assumption))) ?_
  refine K_eq ?_ hK
  exact congrArg (fun b => AV.v (.bool b)) (by decide +kernel)

/-- quillwork/quillworklaw04.CssParses -/
theorem quillworklaw04_CssParses_ok (s : ByteArray) :
    PI TC Tryd.prog 9 [strAV s] (.v (.bool true)) := by
  intro H K hI hK
  refine AC_of Tryd.func9 rfl (rs := [.tmp 2]) rfl Tryd.ntmps9 rfl ?_
  refine AW_norm (by simp only [List.length_cons, List.length_nil, Nat.reduceAdd, Nat.reduceSub, List.replicate, List.cons_append, List.nil_append]; rfl) ?_
  refine AW_seq ?_
  refine AW_region ?_
  refine AL_assign rfl ?_
  refine AL_norm (by first | (simp only [tput, anyAt, setAll, List.foldl_cons, List.foldl_nil, List.set_cons_zero, List.set_cons_succ]; rfl) | rfl) ?_
  refine AL_nil ?_
  refine seqQ_n ?_
  refine AW_seq ?_
  refine AW_seq ?_
  refine AW_region ?_
  refine AL_move rfl ?_
  refine AL_len_str un9 rfl ?_
  refine AL_gtr rfl rfl ?_
  refine AL_norm (by first | (simp only [tput, anyAt, setAll, List.foldl_cons, List.foldl_nil, List.set_cons_zero, List.set_cons_succ]; rfl) | rfl) ?_
  refine AL_nil ?_
  refine seqQ_n ?_
  refine AW_cond rfl (fun hc1 => ?_) (fun hc1 => ?_)
  · try simp only [Bool.or_eq_true, Bool.and_eq_true, Bool.or_eq_false_iff, Bool.and_eq_false_iff, decide_eq_true_eq, decide_eq_false_iff_not, Bool.not_eq_true', Bool.not_eq_false', beq_iff_eq, ne_eq, Decidable.not_not, List.length_map] at hc1
    refine AW_seq ?_
    refine AW_region ?_
    refine AL_callpi en31 (.nil) (by repeat (first | assumption | refine Holds.upd ?_ (by first | assumption | repeat (first | assumption | refine AH.look_other (by assumption) ?_)))) (quillworklaw04_awake_ok) ?_
    refine AL_norm (by first | (simp only [tput, anyAt, setAll, List.foldl_cons, List.foldl_nil, List.set_cons_zero, List.set_cons_succ]; rfl) | rfl) ?_
    refine AL_assign rfl ?_
    refine AL_norm (by first | (simp only [tput, anyAt, setAll, List.foldl_cons, List.foldl_nil, List.set_cons_zero, List.set_cons_succ]; rfl) | rfl) ?_
    refine AL_nil ?_
    refine seqQ_n ?_
    refine AW_ret ?_
    refine seqQ_r ?_
    refine retQ_1 (H' := H) (.inr rfl) rfl (by repeat (first | exact SubH.refl _ | refine SubH.upd ?_ (by assumption))) ?_
    refine K_eq ?_ hK
    rfl
  · try simp only [Bool.or_eq_true, Bool.and_eq_true, Bool.or_eq_false_iff, Bool.and_eq_false_iff, decide_eq_true_eq, decide_eq_false_iff_not, Bool.not_eq_true', Bool.not_eq_false', beq_iff_eq, ne_eq, Decidable.not_not, List.length_map] at hc1
    refine AW_skip ?_
    refine seqQ_n ?_
    refine AW_seq ?_
    refine AW_region ?_
    refine AL_move rfl ?_
    refine AL_callpi en32 (.cons (.ev rfl) (.nil)) (by repeat (first | assumption | refine Holds.upd ?_ (by first | assumption | repeat (first | assumption | refine AH.look_other (by assumption) ?_)))) (css_Parse_ok s (by omega)) ?_
    refine AL_move rfl ?_
    refine AL_norm (by first | (simp only [tput, anyAt, setAll, List.foldl_cons, List.foldl_nil, List.set_cons_zero, List.set_cons_succ]; rfl) | rfl) ?_
    refine AL_extract rfl rfl ?_
    refine AL_extract rfl rfl ?_
    refine AL_assign rfl ?_
    refine AL_assign rfl ?_
    refine AL_norm (by first | (simp only [tput, anyAt, setAll, List.foldl_cons, List.foldl_nil, List.set_cons_zero, List.set_cons_succ]; rfl) | rfl) ?_
    refine AL_nil ?_
    refine seqQ_n ?_
    refine AW_seq ?_
    refine AW_region ?_
    refine AL_move rfl ?_
    refine AL_norm (by first | (simp only [tput, anyAt, setAll, List.foldl_cons, List.foldl_nil, List.set_cons_zero, List.set_cons_succ]; rfl) | rfl) ?_
    refine AL_callp en33 (.cons (.ev rfl) (.nil)) (quillworkref04_Parse_ok s (by omega)) ?_
    refine AL_move rfl ?_
    refine AL_extract rfl rfl ?_
    refine AL_extract rfl rfl ?_
    refine AL_norm (by first | (simp only [tput, anyAt, setAll, List.foldl_cons, List.foldl_nil, List.set_cons_zero, List.set_cons_succ]; rfl) | rfl) ?_
    refine AL_assign rfl ?_
    refine AL_assign rfl ?_
    refine AL_norm (by first | (simp only [tput, anyAt, setAll, List.foldl_cons, List.foldl_nil, List.set_cons_zero, List.set_cons_succ]; rfl) | rfl) ?_
    refine AL_nil ?_
    refine seqQ_n ?_
    refine AW_seq ?_
    refine AW_region ?_
    refine AL_move rfl ?_
    refine AL_move rfl ?_
    refine AL_norm (by first | (simp only [tput, anyAt, setAll, List.foldl_cons, List.foldl_nil, List.set_cons_zero, List.set_cons_succ]; rfl) | rfl) ?_
    refine AL_eql rfl rfl ?_
    refine AL_move rfl ?_
    refine AL_and (j := 3) (n := 3) (c := 24) (t := 27) (r := 28) (v := ?v2) [25, 26, 27] rfl rfl rfl rfl rfl rfl rfl (fun hg2 => ?_) ?_; rotate_left
    · simp only [List.take_succ_cons, List.take_zero, List.map_cons, List.map_nil, strip, Nat.reduceBEq, beq_self_eq_true, Bool.and_self, Bool.true_and, Bool.false_and, cond_true, cond_false]
      try simp only [Bool.or_eq_true, Bool.and_eq_true, Bool.or_eq_false_iff, Bool.and_eq_false_iff, decide_eq_true_eq, decide_eq_false_iff_not, Bool.not_eq_true', Bool.not_eq_false', beq_iff_eq, ne_eq, Decidable.not_not, List.length_map] at hg2
      refine AL_move rfl ?_
      refine AL_move rfl ?_
      refine AL_norm (by first | (simp only [tput, anyAt, setAll, List.foldl_cons, List.foldl_nil, List.set_cons_zero, List.set_cons_succ]; rfl) | rfl) ?_
      refine AL_eql rfl rfl ?_
      refine AL_nil (grpQ_mk ?_)
      try simp only [tput, anyAt, setAll, List.foldl_cons, List.foldl_nil, List.set_cons_zero, List.set_cons_succ]
      repeat (first | exact Weak.nil | refine Weak.cons ?_ | refine Weak.consAny ?_)
    refine AL_norm (by first | (simp only [tput, anyAt, setAll, List.foldl_cons, List.foldl_nil, List.set_cons_zero, List.set_cons_succ]; rfl) | rfl) ?_
    refine AL_move rfl ?_
    refine AL_and (j := 8) (n := 1) (c := 29) (t := 30) (r := 31) (v := ?v3) [30] rfl rfl rfl rfl rfl rfl rfl (fun hg3 => ?_) ?_; rotate_left
    · simp only [List.take_succ_cons, List.take_zero, List.map_cons, List.map_nil, strip, Nat.reduceBEq, beq_self_eq_true, Bool.and_self, Bool.true_and, Bool.false_and, cond_true, cond_false]
      try simp only [Bool.or_eq_true, Bool.and_eq_true, Bool.or_eq_false_iff, Bool.and_eq_false_iff, decide_eq_true_eq, decide_eq_false_iff_not, Bool.not_eq_true', Bool.not_eq_false', beq_iff_eq, ne_eq, Decidable.not_not, List.length_map] at hg3
      refine AL_callpi en31 (.nil) (by repeat (first | assumption | refine Holds.upd ?_ (by first | assumption | repeat (first | assumption | refine AH.look_other (by assumption) ?_)))) (quillworklaw04_awake_ok) ?_
      refine AL_nil (grpQ_mk ?_)
      try simp only [tput, anyAt, setAll, List.foldl_cons, List.foldl_nil, List.set_cons_zero, List.set_cons_succ]
      repeat (first | exact Weak.nil | refine Weak.cons ?_ | refine Weak.consAny ?_)
    refine AL_norm (by first | (simp only [tput, anyAt, setAll, List.foldl_cons, List.foldl_nil, List.set_cons_zero, List.set_cons_succ]; rfl) | rfl) ?_
    refine AL_assign rfl ?_
    refine AL_norm (by first | (simp only [tput, anyAt, setAll, List.foldl_cons, List.foldl_nil, List.set_cons_zero, List.set_cons_succ]; rfl) | rfl) ?_
    refine AL_nil ?_
    refine seqQ_n ?_
    refine AW_ret ?_
    refine retQ_1 (H' := H) (.inr rfl) rfl (by repeat (first | exact SubH.refl _ | refine SubH.upd ?_ (by assumption))) ?_
    refine K_eq ?_ hK
    simp

/-- quillwork/quillworklaw04.CssPrints -/
theorem quillworklaw04_CssPrints_ok (s c b : Int) :
    PI TC Tryd.prog 10 [.v (.int .i64 s), .v (.int .i64 c), .v (.int .i64 b)] (.v (.bool true)) := by
  intro H K hI hK
  refine AC_of Tryd.func10 rfl (rs := [.tmp 6]) rfl Tryd.ntmps10 rfl ?_
  refine AW_norm (by simp only [List.length_cons, List.length_nil, Nat.reduceAdd, Nat.reduceSub, List.replicate, List.cons_append, List.nil_append]; rfl) ?_
  refine AW_seq ?_
  refine AW_region ?_
  refine AL_assign rfl ?_
  refine AL_norm (by first | (simp only [tput, anyAt, setAll, List.foldl_cons, List.foldl_nil, List.set_cons_zero, List.set_cons_succ]; rfl) | rfl) ?_
  refine AL_nil ?_
  refine seqQ_n ?_
  refine AW_seq ?_
  refine AW_region ?_
  refine AL_move rfl ?_
  refine AL_move rfl ?_
  refine AL_callp en34 (.cons (.ev rfl) (.cons (.ev rfl) (.nil))) (css_Print_ok _ _) ?_
  refine AL_norm (by first | (simp only [tput, anyAt, setAll, List.foldl_cons, List.foldl_nil, List.set_cons_zero, List.set_cons_succ]; rfl) | rfl) ?_
  refine AL_move rfl ?_
  refine AL_move rfl ?_
  refine AL_callp en35 (.cons (.ev rfl) (.cons (.ev rfl) (.nil))) (quillworkref04_Print_ok _ _) ?_
  refine AL_seql rfl rfl ?_
  refine AL_norm (by first | (simp only [tput, anyAt, setAll, List.foldl_cons, List.foldl_nil, List.set_cons_zero, List.set_cons_succ]; rfl) | rfl) ?_
  refine AL_move rfl ?_
  refine AL_and (j := 7) (n := 10) (c := 14) (t := 24) (r := 25) (v := ?v1) [15, 16, 17, 18, 19, 20, 21, 22, 23, 24] rfl rfl rfl rfl rfl rfl rfl (fun hg1 => ?_) ?_; rotate_left
  · simp only [List.take_succ_cons, List.take_zero, List.map_cons, List.map_nil, strip, Nat.reduceBEq, beq_self_eq_true, Bool.and_self, Bool.true_and, Bool.false_and, cond_true, cond_false]
    try simp only [Bool.or_eq_true, Bool.and_eq_true, Bool.or_eq_false_iff, Bool.and_eq_false_iff, decide_eq_true_eq, decide_eq_false_iff_not, Bool.not_eq_true', Bool.not_eq_false', beq_iff_eq, ne_eq, Decidable.not_not, List.length_map] at hg1
    refine AL_move rfl ?_
    refine AL_move rfl ?_
    refine AL_move rfl ?_
    refine AL_norm (by first | (simp only [tput, anyAt, setAll, List.foldl_cons, List.foldl_nil, List.set_cons_zero, List.set_cons_succ]; rfl) | rfl) ?_
    refine AL_callp en36 (.cons (.ev rfl) (.cons (.ev rfl) (.cons (.ev rfl) (.nil)))) (css_Over_ok _ _ _) ?_
    refine AL_move rfl ?_
    refine AL_move rfl ?_
    refine AL_bits rfl rfl (by decide) ?_
    refine AL_norm (by first | (simp only [tput, anyAt, setAll, List.foldl_cons, List.foldl_nil, List.set_cons_zero, List.set_cons_succ]; rfl) | rfl) ?_
    refine AL_move rfl ?_
    refine AL_bits rfl rfl (by decide) ?_
    refine AL_eql rfl rfl ?_
    refine AL_nil (grpQ_mk ?_)
    try simp only [tput, anyAt, setAll, List.foldl_cons, List.foldl_nil, List.set_cons_zero, List.set_cons_succ]
    repeat (first | exact Weak.nil | refine Weak.cons ?_ | refine Weak.consAny ?_)
  refine AL_norm (by first | (simp only [tput, anyAt, setAll, List.foldl_cons, List.foldl_nil, List.set_cons_zero, List.set_cons_succ]; rfl) | rfl) ?_
  refine AL_move rfl ?_
  refine AL_norm (by first | (simp only [tput, anyAt, setAll, List.foldl_cons, List.foldl_nil, List.set_cons_zero, List.set_cons_succ]; rfl) | rfl) ?_
  refine AL_and (j := 19) (n := 1) (c := 26) (t := 27) (r := 28) (v := ?v2) [27] rfl rfl rfl rfl rfl rfl rfl (fun hg2 => ?_) ?_; rotate_left
  · simp only [List.take_succ_cons, List.take_zero, List.map_cons, List.map_nil, strip, Nat.reduceBEq, beq_self_eq_true, Bool.and_self, Bool.true_and, Bool.false_and, cond_true, cond_false]
    try simp only [Bool.or_eq_true, Bool.and_eq_true, Bool.or_eq_false_iff, Bool.and_eq_false_iff, decide_eq_true_eq, decide_eq_false_iff_not, Bool.not_eq_true', Bool.not_eq_false', beq_iff_eq, ne_eq, Decidable.not_not, List.length_map] at hg2
    refine AL_callpi en31 (.nil) (by repeat (first | assumption | refine Holds.upd ?_ (by first | assumption | repeat (first | assumption | refine AH.look_other (by assumption) ?_)))) (quillworklaw04_awake_ok) ?_
    refine AL_nil (grpQ_mk ?_)
    try simp only [tput, anyAt, setAll, List.foldl_cons, List.foldl_nil, List.set_cons_zero, List.set_cons_succ]
    repeat (first | exact Weak.nil | refine Weak.cons ?_ | refine Weak.consAny ?_)
  refine AL_norm (by first | (simp only [tput, anyAt, setAll, List.foldl_cons, List.foldl_nil, List.set_cons_zero, List.set_cons_succ]; rfl) | rfl) ?_
  refine AL_assign rfl ?_
  refine AL_norm (by first | (simp only [tput, anyAt, setAll, List.foldl_cons, List.foldl_nil, List.set_cons_zero, List.set_cons_succ]; rfl) | rfl) ?_
  refine AL_nil ?_
  refine seqQ_n ?_
  refine AW_ret ?_
  refine retQ_1 (H' := H) (.inr rfl) rfl (by repeat (first | exact SubH.refl _ | refine SubH.upd ?_ (by assumption))) ?_
  refine K_eq ?_ hK
  rw [print_law]; simp [overI]

/-- quillwork/quillworklaw04.CssBack -/
theorem quillworklaw04_CssBack_ok (s c : Int) :
    PI TC Tryd.prog 11 [.v (.int .i64 s), .v (.int .i64 c)] (.v (.bool true)) := by
  intro H K hI hK
  refine AC_of Tryd.func11 rfl (rs := [.tmp 4]) rfl Tryd.ntmps11 rfl ?_
  refine AW_norm (by simp only [List.length_cons, List.length_nil, Nat.reduceAdd, Nat.reduceSub, List.replicate, List.cons_append, List.nil_append]; rfl) ?_
  refine AW_seq ?_
  refine AW_region ?_
  refine AL_assign rfl ?_
  refine AL_norm (by first | (simp only [tput, anyAt, setAll, List.foldl_cons, List.foldl_nil, List.set_cons_zero, List.set_cons_succ]; rfl) | rfl) ?_
  refine AL_nil ?_
  refine seqQ_n ?_
  refine AW_seq ?_
  refine AW_region ?_
  refine AL_move rfl ?_
  refine AL_bitsz (((lo4 s).toNat : Int)) rfl rfl (by decide) (and15 s) ?_
  refine AL_assign rfl ?_
  refine AL_norm (by first | (simp only [tput, anyAt, setAll, List.foldl_cons, List.foldl_nil, List.set_cons_zero, List.set_cons_succ]; rfl) | rfl) ?_
  refine AL_nil ?_
  refine seqQ_n ?_
  refine AW_seq ?_
  refine AW_region ?_
  refine AL_move rfl ?_
  refine AL_norm (by first | (simp only [tput, anyAt, setAll, List.foldl_cons, List.foldl_nil, List.set_cons_zero, List.set_cons_succ]; rfl) | rfl) ?_
  refine AL_bitsz (((lo4 c).toNat : Int)) rfl rfl (by decide) (and15 c) ?_
  refine AL_move rfl ?_
  refine AL_bitsz (((lo4 c &&& ~~~lo4 s).toNat : Int)) rfl rfl (by decide) (b4_andNot _ _) ?_
  refine AL_assign rfl ?_
  refine AL_norm (by first | (simp only [tput, anyAt, setAll, List.foldl_cons, List.foldl_nil, List.set_cons_zero, List.set_cons_succ]; rfl) | rfl) ?_
  refine AL_nil ?_
  refine seqQ_n ?_
  refine AW_seq ?_
  refine AW_region ?_
  refine AL_move rfl ?_
  refine AL_norm (by first | (simp only [tput, anyAt, setAll, List.foldl_cons, List.foldl_nil, List.set_cons_zero, List.set_cons_succ]; rfl) | rfl) ?_
  refine AL_move rfl ?_
  refine AL_callp en34 (.cons (.ev rfl) (.cons (.ev rfl) (.nil))) (css_Print_ok ((lo4 s).toNat : Int) ((lo4 c &&& ~~~lo4 s).toNat : Int)) ?_
  refine AL_callpi en32 (.cons (.ev rfl) (.nil)) (by repeat (first | assumption | refine Holds.upd ?_ (by first | assumption | repeat (first | assumption | refine AH.look_other (by assumption) ?_)))) (css_Parse_ok _ (by have := printI_size ((lo4 s).toNat : Int) ((lo4 c &&& ~~~lo4 s).toNat : Int); omega)) ?_
  refine AL_move rfl ?_
  refine AL_norm (by first | (simp only [tput, anyAt, setAll, List.foldl_cons, List.foldl_nil, List.set_cons_zero, List.set_cons_succ]; rfl) | rfl) ?_
  refine AL_extract rfl rfl ?_
  refine AL_extract rfl rfl ?_
  refine AL_assign rfl ?_
  refine AL_assign rfl ?_
  refine AL_norm (by first | (simp only [tput, anyAt, setAll, List.foldl_cons, List.foldl_nil, List.set_cons_zero, List.set_cons_succ]; rfl) | rfl) ?_
  refine AL_nil ?_
  refine seqQ_n ?_
  refine AW_seq ?_
  refine AW_seq ?_
  refine AW_region ?_
  refine AL_move rfl ?_
  refine AL_norm (by first | (simp only [tput, anyAt, setAll, List.foldl_cons, List.foldl_nil, List.set_cons_zero, List.set_cons_succ]; rfl) | rfl) ?_
  refine AL_move rfl ?_
  refine AL_bitsz (((lo4 s ||| lo4 c &&& ~~~lo4 s).toNat : Int)) rfl rfl (by decide) (b4_or _ _) ?_
  refine AL_bitsz ((((lo4 s ||| lo4 c &&& ~~~lo4 s) &&& 12).toNat : Int)) rfl rfl (by decide) (b4_and _ 12) ?_
  refine AL_neq rfl rfl ?_
  refine AL_norm (by first | (simp only [tput, anyAt, setAll, List.foldl_cons, List.foldl_nil, List.set_cons_zero, List.set_cons_succ]; rfl) | rfl) ?_
  refine AL_nil ?_
  refine seqQ_n ?_
  refine AW_cond rfl (fun hc1 => ?_) (fun hc1 => ?_)
  · try simp only [Bool.or_eq_true, Bool.and_eq_true, Bool.or_eq_false_iff, Bool.and_eq_false_iff, decide_eq_true_eq, decide_eq_false_iff_not, Bool.not_eq_true', Bool.not_eq_false', beq_iff_eq, ne_eq, Decidable.not_not, List.length_map] at hc1
    refine AW_region ?_
    refine AL_move rfl ?_
    refine AL_norm (by first | (simp only [tput, anyAt, setAll, List.foldl_cons, List.foldl_nil, List.set_cons_zero, List.set_cons_succ]; rfl) | rfl) ?_
    refine AL_move rfl ?_
    refine AL_bitsz (((12 &&& ~~~lo4 s).toNat : Int)) rfl rfl (by decide) (b4_andNot 12 _) ?_
    refine AL_bitsz (((lo4 c &&& ~~~lo4 s ||| (12 &&& ~~~lo4 s)).toNat : Int)) rfl rfl (by decide) (b4_or _ _) ?_
    refine AL_assign rfl ?_
    refine AL_norm (by first | (simp only [tput, anyAt, setAll, List.foldl_cons, List.foldl_nil, List.set_cons_zero, List.set_cons_succ]; rfl) | rfl) ?_
    refine AL_nil ?_
    refine seqQ_n ?_
    refine AW_seq ?_
    refine AW_region ?_
    refine AL_move rfl ?_
    refine AL_norm (by first | (simp only [tput, anyAt, setAll, List.foldl_cons, List.foldl_nil, List.set_cons_zero, List.set_cons_succ]; rfl) | rfl) ?_
    refine AL_move rfl ?_
    refine AL_eql rfl rfl ?_
    refine AL_move rfl ?_
    refine AL_and (j := 3) (n := 3) (c := 32) (t := 35) (r := 36) (v := ?v2) [33, 34, 35] rfl rfl rfl rfl rfl rfl rfl (fun hg2 => ?_) ?_; rotate_left
    · simp only [List.take_succ_cons, List.take_zero, List.map_cons, List.map_nil, strip, Nat.reduceBEq, beq_self_eq_true, Bool.and_self, Bool.true_and, Bool.false_and, cond_true, cond_false]
      try simp only [Bool.or_eq_true, Bool.and_eq_true, Bool.or_eq_false_iff, Bool.and_eq_false_iff, decide_eq_true_eq, decide_eq_false_iff_not, Bool.not_eq_true', Bool.not_eq_false', beq_iff_eq, ne_eq, Decidable.not_not, List.length_map] at hg2
      refine AL_move rfl ?_
      refine AL_norm (by first | (simp only [tput, anyAt, setAll, List.foldl_cons, List.foldl_nil, List.set_cons_zero, List.set_cons_succ]; rfl) | rfl) ?_
      refine AL_move rfl ?_
      refine AL_eql rfl rfl ?_
      refine AL_nil (grpQ_mk ?_)
      try simp only [tput, anyAt, setAll, List.foldl_cons, List.foldl_nil, List.set_cons_zero, List.set_cons_succ]
      repeat (first | exact Weak.nil | refine Weak.cons ?_ | refine Weak.consAny ?_)
    refine AL_norm (by first | (simp only [tput, anyAt, setAll, List.foldl_cons, List.foldl_nil, List.set_cons_zero, List.set_cons_succ]; rfl) | rfl) ?_
    refine AL_move rfl ?_
    refine AL_and (j := 8) (n := 1) (c := 37) (t := 38) (r := 39) (v := ?v3) [38] rfl rfl rfl rfl rfl rfl rfl (fun hg3 => ?_) ?_; rotate_left
    · simp only [List.take_succ_cons, List.take_zero, List.map_cons, List.map_nil, strip, Nat.reduceBEq, beq_self_eq_true, Bool.and_self, Bool.true_and, Bool.false_and, cond_true, cond_false]
      try simp only [Bool.or_eq_true, Bool.and_eq_true, Bool.or_eq_false_iff, Bool.and_eq_false_iff, decide_eq_true_eq, decide_eq_false_iff_not, Bool.not_eq_true', Bool.not_eq_false', beq_iff_eq, ne_eq, Decidable.not_not, List.length_map] at hg3
      refine AL_callpi en31 (.nil) (by repeat (first | assumption | refine Holds.upd ?_ (by first | assumption | repeat (first | assumption | refine AH.look_other (by assumption) ?_)))) (quillworklaw04_awake_ok) ?_
      refine AL_nil (grpQ_mk ?_)
      try simp only [tput, anyAt, setAll, List.foldl_cons, List.foldl_nil, List.set_cons_zero, List.set_cons_succ]
      repeat (first | exact Weak.nil | refine Weak.cons ?_ | refine Weak.consAny ?_)
    refine AL_norm (by first | (simp only [tput, anyAt, setAll, List.foldl_cons, List.foldl_nil, List.set_cons_zero, List.set_cons_succ]; rfl) | rfl) ?_
    refine AL_assign rfl ?_
    refine AL_norm (by first | (simp only [tput, anyAt, setAll, List.foldl_cons, List.foldl_nil, List.set_cons_zero, List.set_cons_succ]; rfl) | rfl) ?_
    refine AL_nil ?_
    refine seqQ_n ?_
    refine AW_ret ?_
    refine retQ_1 (H' := H) (.inr rfl) rfl (by repeat (first | exact SubH.refl _ | refine SubH.upd ?_ (by assumption))) ?_
    refine K_eq ?_ hK
    rw [back_law]; exact congrArg (fun b => AV.v (.bool b)) (by rw [show backC (lo4 s) (lo4 c &&& ~~~lo4 s) = _ from if_neg (fun h => hc1 (by rw [h]; rfl))]; simp)
  · try simp only [Bool.or_eq_true, Bool.and_eq_true, Bool.or_eq_false_iff, Bool.and_eq_false_iff, decide_eq_true_eq, decide_eq_false_iff_not, Bool.not_eq_true', Bool.not_eq_false', beq_iff_eq, ne_eq, Decidable.not_not, List.length_map] at hc1
    refine AW_skip ?_
    refine seqQ_n ?_
    refine AW_seq ?_
    refine AW_region ?_
    refine AL_move rfl ?_
    refine AL_norm (by first | (simp only [tput, anyAt, setAll, List.foldl_cons, List.foldl_nil, List.set_cons_zero, List.set_cons_succ]; rfl) | rfl) ?_
    refine AL_move rfl ?_
    refine AL_eql rfl rfl ?_
    refine AL_move rfl ?_
    refine AL_and (j := 3) (n := 3) (c := 32) (t := 35) (r := 36) (v := ?v4) [33, 34, 35] rfl rfl rfl rfl rfl rfl rfl (fun hg4 => ?_) ?_; rotate_left
    · simp only [List.take_succ_cons, List.take_zero, List.map_cons, List.map_nil, strip, Nat.reduceBEq, beq_self_eq_true, Bool.and_self, Bool.true_and, Bool.false_and, cond_true, cond_false]
      try simp only [Bool.or_eq_true, Bool.and_eq_true, Bool.or_eq_false_iff, Bool.and_eq_false_iff, decide_eq_true_eq, decide_eq_false_iff_not, Bool.not_eq_true', Bool.not_eq_false', beq_iff_eq, ne_eq, Decidable.not_not, List.length_map] at hg4
      refine AL_move rfl ?_
      refine AL_norm (by first | (simp only [tput, anyAt, setAll, List.foldl_cons, List.foldl_nil, List.set_cons_zero, List.set_cons_succ]; rfl) | rfl) ?_
      refine AL_move rfl ?_
      refine AL_eql rfl rfl ?_
      refine AL_nil (grpQ_mk ?_)
      try simp only [tput, anyAt, setAll, List.foldl_cons, List.foldl_nil, List.set_cons_zero, List.set_cons_succ]
      repeat (first | exact Weak.nil | refine Weak.cons ?_ | refine Weak.consAny ?_)
    refine AL_norm (by first | (simp only [tput, anyAt, setAll, List.foldl_cons, List.foldl_nil, List.set_cons_zero, List.set_cons_succ]; rfl) | rfl) ?_
    refine AL_move rfl ?_
    refine AL_and (j := 8) (n := 1) (c := 37) (t := 38) (r := 39) (v := ?v5) [38] rfl rfl rfl rfl rfl rfl rfl (fun hg5 => ?_) ?_; rotate_left
    · simp only [List.take_succ_cons, List.take_zero, List.map_cons, List.map_nil, strip, Nat.reduceBEq, beq_self_eq_true, Bool.and_self, Bool.true_and, Bool.false_and, cond_true, cond_false]
      try simp only [Bool.or_eq_true, Bool.and_eq_true, Bool.or_eq_false_iff, Bool.and_eq_false_iff, decide_eq_true_eq, decide_eq_false_iff_not, Bool.not_eq_true', Bool.not_eq_false', beq_iff_eq, ne_eq, Decidable.not_not, List.length_map] at hg5
      refine AL_callpi en31 (.nil) (by repeat (first | assumption | refine Holds.upd ?_ (by first | assumption | repeat (first | assumption | refine AH.look_other (by assumption) ?_)))) (quillworklaw04_awake_ok) ?_
      refine AL_nil (grpQ_mk ?_)
      try simp only [tput, anyAt, setAll, List.foldl_cons, List.foldl_nil, List.set_cons_zero, List.set_cons_succ]
      repeat (first | exact Weak.nil | refine Weak.cons ?_ | refine Weak.consAny ?_)
    refine AL_norm (by first | (simp only [tput, anyAt, setAll, List.foldl_cons, List.foldl_nil, List.set_cons_zero, List.set_cons_succ]; rfl) | rfl) ?_
    refine AL_assign rfl ?_
    refine AL_norm (by first | (simp only [tput, anyAt, setAll, List.foldl_cons, List.foldl_nil, List.set_cons_zero, List.set_cons_succ]; rfl) | rfl) ?_
    refine AL_nil ?_
    refine seqQ_n ?_
    refine AW_ret ?_
    refine retQ_1 (H' := H) (.inr rfl) rfl (by repeat (first | exact SubH.refl _ | refine SubH.upd ?_ (by assumption))) ?_
    refine K_eq ?_ hK
    rw [back_law]; exact congrArg (fun b => AV.v (.bool b)) (by rw [show backC (lo4 s) (lo4 c &&& ~~~lo4 s) = _ from if_pos (b4_inj (y := 0) hc1)]; simp)

/-- quillwork/quillworklaw04.CssLater -/
theorem quillworklaw04_CssLater_ok (s t : ByteArray) :
    PI TC Tryd.prog 12 [strAV s, strAV t] (.v (.bool true)) := by
  intro H K hI hK
  refine AC_of Tryd.func12 rfl (rs := [.tmp 4]) rfl Tryd.ntmps12 rfl ?_
  refine AW_norm (by simp only [List.length_cons, List.length_nil, Nat.reduceAdd, Nat.reduceSub, List.replicate, List.cons_append, List.nil_append]; rfl) ?_
  refine AW_seq ?_
  refine AW_region ?_
  refine AL_assign rfl ?_
  refine AL_norm (by first | (simp only [tput, anyAt, setAll, List.foldl_cons, List.foldl_nil, List.set_cons_zero, List.set_cons_succ]; rfl) | rfl) ?_
  refine AL_nil ?_
  refine seqQ_n ?_
  refine AW_seq ?_
  refine AW_seq ?_
  refine AW_region ?_
  refine AL_move rfl ?_
  refine AL_len_str un9 rfl ?_
  refine AL_gtr rfl rfl ?_
  refine AL_norm (by first | (simp only [tput, anyAt, setAll, List.foldl_cons, List.foldl_nil, List.set_cons_zero, List.set_cons_succ]; rfl) | rfl) ?_
  refine AL_move rfl ?_
  refine AL_or (j := 3) (n := 3) (c := 16) (t := 19) (r := 20) (v := ?v1) [17, 18, 19] rfl rfl rfl rfl rfl rfl rfl (fun hg1 => ?_) ?_; rotate_left
  · simp only [List.take_succ_cons, List.take_zero, List.map_cons, List.map_nil, strip, Nat.reduceBEq, beq_self_eq_true, Bool.and_self, Bool.true_and, Bool.false_and, cond_true, cond_false]
    try simp only [Bool.or_eq_true, Bool.and_eq_true, Bool.or_eq_false_iff, Bool.and_eq_false_iff, decide_eq_true_eq, decide_eq_false_iff_not, Bool.not_eq_true', Bool.not_eq_false', beq_iff_eq, ne_eq, Decidable.not_not, List.length_map] at hg1
    refine AL_move rfl ?_
    refine AL_len_str un9 rfl ?_
    refine AL_gtr rfl rfl ?_
    refine AL_nil (grpQ_mk ?_)
    try simp only [tput, anyAt, setAll, List.foldl_cons, List.foldl_nil, List.set_cons_zero, List.set_cons_succ]
    repeat (first | exact Weak.nil | refine Weak.cons ?_ | refine Weak.consAny ?_)
  refine AL_norm (by first | (simp only [tput, anyAt, setAll, List.foldl_cons, List.foldl_nil, List.set_cons_zero, List.set_cons_succ]; rfl) | rfl) ?_
  refine AL_norm (by first | (simp only [tput, anyAt, setAll, List.foldl_cons, List.foldl_nil, List.set_cons_zero, List.set_cons_succ]; rfl) | rfl) ?_
  refine AL_nil ?_
  refine seqQ_n ?_
  refine AW_cond rfl (fun hc2 => ?_) (fun hc2 => ?_)
  · try simp only [Bool.or_eq_true, Bool.and_eq_true, Bool.or_eq_false_iff, Bool.and_eq_false_iff, decide_eq_true_eq, decide_eq_false_iff_not, Bool.not_eq_true', Bool.not_eq_false', beq_iff_eq, ne_eq, Decidable.not_not, List.length_map] at hc2
    refine AW_seq ?_
    refine AW_region ?_
    refine AL_callpi en31 (.nil) (by repeat (first | assumption | refine Holds.upd ?_ (by first | assumption | repeat (first | assumption | refine AH.look_other (by assumption) ?_)))) (quillworklaw04_awake_ok) ?_
    refine AL_norm (by first | (simp only [tput, anyAt, setAll, List.foldl_cons, List.foldl_nil, List.set_cons_zero, List.set_cons_succ]; rfl) | rfl) ?_
    refine AL_assign rfl ?_
    refine AL_norm (by first | (simp only [tput, anyAt, setAll, List.foldl_cons, List.foldl_nil, List.set_cons_zero, List.set_cons_succ]; rfl) | rfl) ?_
    refine AL_nil ?_
    refine seqQ_n ?_
    refine AW_ret ?_
    refine seqQ_r ?_
    refine retQ_1 (H' := H) (.inr rfl) rfl (by repeat (first | exact SubH.refl _ | refine SubH.upd ?_ (by assumption))) ?_
    refine K_eq ?_ hK
    rfl
  · try simp only [Bool.or_eq_true, Bool.and_eq_true, Bool.or_eq_false_iff, Bool.and_eq_false_iff, decide_eq_true_eq, decide_eq_false_iff_not, Bool.not_eq_true', Bool.not_eq_false', beq_iff_eq, ne_eq, Decidable.not_not, List.length_map] at hc2
    refine AW_skip ?_
    refine seqQ_n ?_
    refine AW_seq ?_
    refine AW_region ?_
    refine AL_move rfl ?_
    refine AL_callpi en32 (.cons (.ev rfl) (.nil)) (by repeat (first | assumption | refine Holds.upd ?_ (by first | assumption | repeat (first | assumption | refine AH.look_other (by assumption) ?_)))) (css_Parse_ok s (by omega)) ?_
    refine AL_move rfl ?_
    refine AL_norm (by first | (simp only [tput, anyAt, setAll, List.foldl_cons, List.foldl_nil, List.set_cons_zero, List.set_cons_succ]; rfl) | rfl) ?_
    refine AL_extract rfl rfl ?_
    refine AL_extract rfl rfl ?_
    refine AL_assign rfl ?_
    refine AL_assign rfl ?_
    refine AL_norm (by first | (simp only [tput, anyAt, setAll, List.foldl_cons, List.foldl_nil, List.set_cons_zero, List.set_cons_succ]; rfl) | rfl) ?_
    refine AL_nil ?_
    refine seqQ_n ?_
    refine AW_seq ?_
    refine AW_region ?_
    refine AL_move rfl ?_
    refine AL_norm (by first | (simp only [tput, anyAt, setAll, List.foldl_cons, List.foldl_nil, List.set_cons_zero, List.set_cons_succ]; rfl) | rfl) ?_
    refine AL_callpi en32 (.cons (.ev rfl) (.nil)) (by repeat (first | assumption | refine Holds.upd ?_ (by first | assumption | repeat (first | assumption | refine AH.look_other (by assumption) ?_)))) (css_Parse_ok t (by omega)) ?_
    refine AL_move rfl ?_
    refine AL_extract rfl rfl ?_
    refine AL_extract rfl rfl ?_
    refine AL_norm (by first | (simp only [tput, anyAt, setAll, List.foldl_cons, List.foldl_nil, List.set_cons_zero, List.set_cons_succ]; rfl) | rfl) ?_
    refine AL_assign rfl ?_
    refine AL_assign rfl ?_
    refine AL_norm (by first | (simp only [tput, anyAt, setAll, List.foldl_cons, List.foldl_nil, List.set_cons_zero, List.set_cons_succ]; rfl) | rfl) ?_
    refine AL_nil ?_
    refine seqQ_n ?_
    refine AW_seq ?_
    refine AW_region ?_
    refine AL_move rfl ?_
    refine AL_sadd rfl rfl ?_ ?_
    · first | ((show s.size + 1 ≤ _); omega) | (rw [ByteArray.size_append]; (show s.size + 1 + t.size ≤ _); omega) | ((show 8 + s.size ≤ _); omega) | (rw [ByteArray.size_append]; (show 8 + s.size + 14 ≤ _); omega)
    refine AL_norm (by first | (simp only [tput, anyAt, setAll, List.foldl_cons, List.foldl_nil, List.set_cons_zero, List.set_cons_succ]; rfl) | rfl) ?_
    refine AL_move rfl ?_
    refine AL_sadd rfl rfl ?_ ?_
    · first | ((show s.size + 1 ≤ _); omega) | (rw [ByteArray.size_append]; (show s.size + 1 + t.size ≤ _); omega) | ((show 8 + s.size ≤ _); omega) | (rw [ByteArray.size_append]; (show 8 + s.size + 14 ≤ _); omega)
    refine AL_callpi en32 (.cons (.ev rfl) (.nil)) (by repeat (first | assumption | refine Holds.upd ?_ (by first | assumption | repeat (first | assumption | refine AH.look_other (by assumption) ?_)))) (css_Parse_ok (s ++ sSemi ++ t) (by first | omega | (simp only [ByteArray.size_append]; (show s.size + 1 + t.size < _); omega) | (simp only [ByteArray.size_append]; (show 8 + s.size + 14 < _); omega))) ?_
    refine AL_move rfl ?_
    refine AL_norm (by first | (simp only [tput, anyAt, setAll, List.foldl_cons, List.foldl_nil, List.set_cons_zero, List.set_cons_succ]; rfl) | rfl) ?_
    refine AL_extract rfl rfl ?_
    refine AL_extract rfl rfl ?_
    refine AL_assign rfl ?_
    refine AL_assign rfl ?_
    refine AL_norm (by first | (simp only [tput, anyAt, setAll, List.foldl_cons, List.foldl_nil, List.set_cons_zero, List.set_cons_succ]; rfl) | rfl) ?_
    refine AL_nil ?_
    refine seqQ_n ?_
    refine AW_seq ?_
    refine AW_region ?_
    refine AL_move rfl ?_
    refine AL_norm (by first | (simp only [tput, anyAt, setAll, List.foldl_cons, List.foldl_nil, List.set_cons_zero, List.set_cons_succ]; rfl) | rfl) ?_
    refine AL_sadd rfl rfl ?_ ?_
    · first | ((show s.size + 1 ≤ _); omega) | (rw [ByteArray.size_append]; (show s.size + 1 + t.size ≤ _); omega) | ((show 8 + s.size ≤ _); omega) | (rw [ByteArray.size_append]; (show 8 + s.size + 14 ≤ _); omega)
    refine AL_sadd rfl rfl ?_ ?_
    · first | ((show s.size + 1 ≤ _); omega) | (rw [ByteArray.size_append]; (show s.size + 1 + t.size ≤ _); omega) | ((show 8 + s.size ≤ _); omega) | (rw [ByteArray.size_append]; (show 8 + s.size + 14 ≤ _); omega)
    refine AL_callpi en32 (.cons (.ev rfl) (.nil)) (by repeat (first | assumption | refine Holds.upd ?_ (by first | assumption | repeat (first | assumption | refine AH.look_other (by assumption) ?_)))) (css_Parse_ok (sL1 ++ s ++ sL2) (by first | omega | (simp only [ByteArray.size_append]; (show s.size + 1 + t.size < _); omega) | (simp only [ByteArray.size_append]; (show 8 + s.size + 14 < _); omega))) ?_
    refine AL_move rfl ?_
    refine AL_norm (by first | (simp only [tput, anyAt, setAll, List.foldl_cons, List.foldl_nil, List.set_cons_zero, List.set_cons_succ]; rfl) | rfl) ?_
    refine AL_extract rfl rfl ?_
    refine AL_extract rfl rfl ?_
    refine AL_assign rfl ?_
    refine AL_assign rfl ?_
    refine AL_norm (by first | (simp only [tput, anyAt, setAll, List.foldl_cons, List.foldl_nil, List.set_cons_zero, List.set_cons_succ]; rfl) | rfl) ?_
    refine AL_nil ?_
    refine seqQ_n ?_
    refine AW_seq ?_
    refine AW_region ?_
    refine AL_move rfl ?_
    refine AL_norm (by first | (simp only [tput, anyAt, setAll, List.foldl_cons, List.foldl_nil, List.set_cons_zero, List.set_cons_succ]; rfl) | rfl) ?_
    refine AL_move rfl ?_
    refine AL_move rfl ?_
    refine AL_bitsz ((((parseS s).1 &&& ~~~(parseS t).2).toNat : Int)) rfl rfl (by decide) (b4_andNot _ _) ?_
    refine AL_move rfl ?_
    refine AL_norm (by first | (simp only [tput, anyAt, setAll, List.foldl_cons, List.foldl_nil, List.set_cons_zero, List.set_cons_succ]; rfl) | rfl) ?_
    refine AL_bitsz ((((parseS s).1 &&& ~~~(parseS t).2 ||| (parseS t).1).toNat : Int)) rfl rfl (by decide) (b4_or _ _) ?_
    refine AL_eql rfl rfl ?_
    refine AL_move rfl ?_
    refine AL_and (j := 7) (n := 7) (c := 54) (t := 61) (r := 62) (v := ?v3) [55, 56, 57, 58, 59, 60, 61] rfl rfl rfl rfl rfl rfl rfl (fun hg3 => ?_) ?_; rotate_left
    · simp only [List.take_succ_cons, List.take_zero, List.map_cons, List.map_nil, strip, Nat.reduceBEq, beq_self_eq_true, Bool.and_self, Bool.true_and, Bool.false_and, cond_true, cond_false]
      try simp only [Bool.or_eq_true, Bool.and_eq_true, Bool.or_eq_false_iff, Bool.and_eq_false_iff, decide_eq_true_eq, decide_eq_false_iff_not, Bool.not_eq_true', Bool.not_eq_false', beq_iff_eq, ne_eq, Decidable.not_not, List.length_map] at hg3
      refine AL_move rfl ?_
      refine AL_norm (by first | (simp only [tput, anyAt, setAll, List.foldl_cons, List.foldl_nil, List.set_cons_zero, List.set_cons_succ]; rfl) | rfl) ?_
      refine AL_move rfl ?_
      refine AL_move rfl ?_
      refine AL_bitsz ((((parseS s).2 &&& ~~~(parseS t).1).toNat : Int)) rfl rfl (by decide) (b4_andNot _ _) ?_
      refine AL_move rfl ?_
      refine AL_norm (by first | (simp only [tput, anyAt, setAll, List.foldl_cons, List.foldl_nil, List.set_cons_zero, List.set_cons_succ]; rfl) | rfl) ?_
      refine AL_bitsz ((((parseS s).2 &&& ~~~(parseS t).1 ||| (parseS t).2).toNat : Int)) rfl rfl (by decide) (b4_or _ _) ?_
      refine AL_eql rfl rfl ?_
      refine AL_nil (grpQ_mk ?_)
      try simp only [tput, anyAt, setAll, List.foldl_cons, List.foldl_nil, List.set_cons_zero, List.set_cons_succ]
      repeat (first | exact Weak.nil | refine Weak.cons ?_ | refine Weak.consAny ?_)
    refine AL_norm (by first | (simp only [tput, anyAt, setAll, List.foldl_cons, List.foldl_nil, List.set_cons_zero, List.set_cons_succ]; rfl) | rfl) ?_
    refine AL_move rfl ?_
    refine AL_and (j := 16) (n := 4) (c := 63) (t := 67) (r := 68) (v := ?v4) [64, 65, 66, 67] rfl rfl rfl rfl rfl rfl rfl (fun hg4 => ?_) ?_; rotate_left
    · simp only [List.take_succ_cons, List.take_zero, List.map_cons, List.map_nil, strip, Nat.reduceBEq, beq_self_eq_true, Bool.and_self, Bool.true_and, Bool.false_and, cond_true, cond_false]
      try simp only [Bool.or_eq_true, Bool.and_eq_true, Bool.or_eq_false_iff, Bool.and_eq_false_iff, decide_eq_true_eq, decide_eq_false_iff_not, Bool.not_eq_true', Bool.not_eq_false', beq_iff_eq, ne_eq, Decidable.not_not, List.length_map] at hg4
      refine AL_move rfl ?_
      refine AL_norm (by first | (simp only [tput, anyAt, setAll, List.foldl_cons, List.foldl_nil, List.set_cons_zero, List.set_cons_succ]; rfl) | rfl) ?_
      refine AL_move rfl ?_
      refine AL_bitsz ((((parseS (s ++ sSemi ++ t)).1 &&& (parseS (s ++ sSemi ++ t)).2).toNat : Int)) rfl rfl (by decide) (b4_and _ _) ?_
      refine AL_eql rfl rfl ?_
      refine AL_nil (grpQ_mk ?_)
      try simp only [tput, anyAt, setAll, List.foldl_cons, List.foldl_nil, List.set_cons_zero, List.set_cons_succ]
      repeat (first | exact Weak.nil | refine Weak.cons ?_ | refine Weak.consAny ?_)
    refine AL_norm (by first | (simp only [tput, anyAt, setAll, List.foldl_cons, List.foldl_nil, List.set_cons_zero, List.set_cons_succ]; rfl) | rfl) ?_
    refine AL_move rfl ?_
    refine AL_norm (by first | (simp only [tput, anyAt, setAll, List.foldl_cons, List.foldl_nil, List.set_cons_zero, List.set_cons_succ]; rfl) | rfl) ?_
    refine AL_and (j := 22) (n := 3) (c := 69) (t := 72) (r := 73) (v := ?v5) [70, 71, 72] rfl rfl rfl rfl rfl rfl rfl (fun hg5 => ?_) ?_; rotate_left
    · simp only [List.take_succ_cons, List.take_zero, List.map_cons, List.map_nil, strip, Nat.reduceBEq, beq_self_eq_true, Bool.and_self, Bool.true_and, Bool.false_and, cond_true, cond_false]
      try simp only [Bool.or_eq_true, Bool.and_eq_true, Bool.or_eq_false_iff, Bool.and_eq_false_iff, decide_eq_true_eq, decide_eq_false_iff_not, Bool.not_eq_true', Bool.not_eq_false', beq_iff_eq, ne_eq, Decidable.not_not, List.length_map] at hg5
      refine AL_move rfl ?_
      refine AL_move rfl ?_
      refine AL_eql rfl rfl ?_
      refine AL_nil (grpQ_mk ?_)
      try simp only [tput, anyAt, setAll, List.foldl_cons, List.foldl_nil, List.set_cons_zero, List.set_cons_succ]
      repeat (first | exact Weak.nil | refine Weak.cons ?_ | refine Weak.consAny ?_)
    refine AL_norm (by first | (simp only [tput, anyAt, setAll, List.foldl_cons, List.foldl_nil, List.set_cons_zero, List.set_cons_succ]; rfl) | rfl) ?_
    refine AL_move rfl ?_
    refine AL_norm (by first | (simp only [tput, anyAt, setAll, List.foldl_cons, List.foldl_nil, List.set_cons_zero, List.set_cons_succ]; rfl) | rfl) ?_
    refine AL_and (j := 27) (n := 3) (c := 74) (t := 77) (r := 78) (v := ?v6) [75, 76, 77] rfl rfl rfl rfl rfl rfl rfl (fun hg6 => ?_) ?_; rotate_left
    · simp only [List.take_succ_cons, List.take_zero, List.map_cons, List.map_nil, strip, Nat.reduceBEq, beq_self_eq_true, Bool.and_self, Bool.true_and, Bool.false_and, cond_true, cond_false]
      try simp only [Bool.or_eq_true, Bool.and_eq_true, Bool.or_eq_false_iff, Bool.and_eq_false_iff, decide_eq_true_eq, decide_eq_false_iff_not, Bool.not_eq_true', Bool.not_eq_false', beq_iff_eq, ne_eq, Decidable.not_not, List.length_map] at hg6
      refine AL_move rfl ?_
      refine AL_move rfl ?_
      refine AL_eql rfl rfl ?_
      refine AL_nil (grpQ_mk ?_)
      try simp only [tput, anyAt, setAll, List.foldl_cons, List.foldl_nil, List.set_cons_zero, List.set_cons_succ]
      repeat (first | exact Weak.nil | refine Weak.cons ?_ | refine Weak.consAny ?_)
    refine AL_norm (by first | (simp only [tput, anyAt, setAll, List.foldl_cons, List.foldl_nil, List.set_cons_zero, List.set_cons_succ]; rfl) | rfl) ?_
    refine AL_move rfl ?_
    refine AL_norm (by first | (simp only [tput, anyAt, setAll, List.foldl_cons, List.foldl_nil, List.set_cons_zero, List.set_cons_succ]; rfl) | rfl) ?_
    refine AL_and (j := 32) (n := 5) (c := 79) (t := 84) (r := 85) (v := ?v7) [80, 81, 82, 83, 84] rfl rfl rfl rfl rfl rfl rfl (fun hg7 => ?_) ?_; rotate_left
    · simp only [List.take_succ_cons, List.take_zero, List.map_cons, List.map_nil, strip, Nat.reduceBEq, beq_self_eq_true, Bool.and_self, Bool.true_and, Bool.false_and, cond_true, cond_false]
      try simp only [Bool.or_eq_true, Bool.and_eq_true, Bool.or_eq_false_iff, Bool.and_eq_false_iff, decide_eq_true_eq, decide_eq_false_iff_not, Bool.not_eq_true', Bool.not_eq_false', beq_iff_eq, ne_eq, Decidable.not_not, List.length_map] at hg7
      refine AL_move rfl ?_
      refine AL_move rfl ?_
      refine AL_bitsz ((((parseS (s ++ sSemi ++ t)).1 ||| (parseS (s ++ sSemi ++ t)).2).toNat : Int)) rfl rfl (by decide) (b4_or _ _) ?_
      refine AL_bitsz (((((parseS (s ++ sSemi ++ t)).1 ||| (parseS (s ++ sSemi ++ t)).2) &&& ~~~15).toNat : Int)) rfl rfl (by decide) (b4_andNot _ 15) ?_
      refine AL_norm (by first | (simp only [tput, anyAt, setAll, List.foldl_cons, List.foldl_nil, List.set_cons_zero, List.set_cons_succ]; rfl) | rfl) ?_
      refine AL_eql rfl rfl ?_
      refine AL_nil (grpQ_mk ?_)
      try simp only [tput, anyAt, setAll, List.foldl_cons, List.foldl_nil, List.set_cons_zero, List.set_cons_succ]
      repeat (first | exact Weak.nil | refine Weak.cons ?_ | refine Weak.consAny ?_)
    refine AL_norm (by first | (simp only [tput, anyAt, setAll, List.foldl_cons, List.foldl_nil, List.set_cons_zero, List.set_cons_succ]; rfl) | rfl) ?_
    refine AL_move rfl ?_
    refine AL_and (j := 39) (n := 1) (c := 86) (t := 87) (r := 88) (v := ?v8) [87] rfl rfl rfl rfl rfl rfl rfl (fun hg8 => ?_) ?_; rotate_left
    · simp only [List.take_succ_cons, List.take_zero, List.map_cons, List.map_nil, strip, Nat.reduceBEq, beq_self_eq_true, Bool.and_self, Bool.true_and, Bool.false_and, cond_true, cond_false]
      try simp only [Bool.or_eq_true, Bool.and_eq_true, Bool.or_eq_false_iff, Bool.and_eq_false_iff, decide_eq_true_eq, decide_eq_false_iff_not, Bool.not_eq_true', Bool.not_eq_false', beq_iff_eq, ne_eq, Decidable.not_not, List.length_map] at hg8
      refine AL_callpi en31 (.nil) (by repeat (first | assumption | refine Holds.upd ?_ (by first | assumption | repeat (first | assumption | refine AH.look_other (by assumption) ?_)))) (quillworklaw04_awake_ok) ?_
      refine AL_nil (grpQ_mk ?_)
      try simp only [tput, anyAt, setAll, List.foldl_cons, List.foldl_nil, List.set_cons_zero, List.set_cons_succ]
      repeat (first | exact Weak.nil | refine Weak.cons ?_ | refine Weak.consAny ?_)
    refine AL_norm (by first | (simp only [tput, anyAt, setAll, List.foldl_cons, List.foldl_nil, List.set_cons_zero, List.set_cons_succ]; rfl) | rfl) ?_
    refine AL_assign rfl ?_
    refine AL_norm (by first | (simp only [tput, anyAt, setAll, List.foldl_cons, List.foldl_nil, List.set_cons_zero, List.set_cons_succ]; rfl) | rfl) ?_
    refine AL_nil ?_
    refine seqQ_n ?_
    refine AW_ret ?_
    refine retQ_1 (H' := H) (.inr rfl) rfl (by repeat (first | exact SubH.refl _ | refine SubH.upd ?_ (by assumption))) ?_
    refine K_eq ?_ hK
    exact congrArg (fun b => AV.v (.bool b)) (by rw [show (parseS (s ++ sSemi ++ t)).1 &&& (parseS (s ++ sSemi ++ t)).2 = 0 from dis_parse _, later_mask, parse_blank, parse_later]; simp [comb])

/-- quillwork/quillworklaw04.CssOver -/
theorem quillworklaw04_CssOver_ok (s t : ByteArray) (b : Int) :
    PI TC Tryd.prog 13 [strAV s, strAV t, .v (.int .i64 b)] (.v (.bool true)) := by
  intro H K hI hK
  refine AC_of Tryd.func13 rfl (rs := [.tmp 6]) rfl Tryd.ntmps13 rfl ?_
  refine AW_norm (by simp only [List.length_cons, List.length_nil, Nat.reduceAdd, Nat.reduceSub, List.replicate, List.cons_append, List.nil_append]; rfl) ?_
  refine AW_seq ?_
  refine AW_region ?_
  refine AL_assign rfl ?_
  refine AL_norm (by first | (simp only [tput, anyAt, setAll, List.foldl_cons, List.foldl_nil, List.set_cons_zero, List.set_cons_succ]; rfl) | rfl) ?_
  refine AL_nil ?_
  refine seqQ_n ?_
  refine AW_seq ?_
  refine AW_seq ?_
  refine AW_region ?_
  refine AL_move rfl ?_
  refine AL_len_str un9 rfl ?_
  refine AL_gtr rfl rfl ?_
  refine AL_norm (by first | (simp only [tput, anyAt, setAll, List.foldl_cons, List.foldl_nil, List.set_cons_zero, List.set_cons_succ]; rfl) | rfl) ?_
  refine AL_move rfl ?_
  refine AL_or (j := 3) (n := 3) (c := 18) (t := 21) (r := 22) (v := ?v1) [19, 20, 21] rfl rfl rfl rfl rfl rfl rfl (fun hg1 => ?_) ?_; rotate_left
  · simp only [List.take_succ_cons, List.take_zero, List.map_cons, List.map_nil, strip, Nat.reduceBEq, beq_self_eq_true, Bool.and_self, Bool.true_and, Bool.false_and, cond_true, cond_false]
    try simp only [Bool.or_eq_true, Bool.and_eq_true, Bool.or_eq_false_iff, Bool.and_eq_false_iff, decide_eq_true_eq, decide_eq_false_iff_not, Bool.not_eq_true', Bool.not_eq_false', beq_iff_eq, ne_eq, Decidable.not_not, List.length_map] at hg1
    refine AL_move rfl ?_
    refine AL_len_str un9 rfl ?_
    refine AL_gtr rfl rfl ?_
    refine AL_nil (grpQ_mk ?_)
    try simp only [tput, anyAt, setAll, List.foldl_cons, List.foldl_nil, List.set_cons_zero, List.set_cons_succ]
    repeat (first | exact Weak.nil | refine Weak.cons ?_ | refine Weak.consAny ?_)
  refine AL_norm (by first | (simp only [tput, anyAt, setAll, List.foldl_cons, List.foldl_nil, List.set_cons_zero, List.set_cons_succ]; rfl) | rfl) ?_
  refine AL_norm (by first | (simp only [tput, anyAt, setAll, List.foldl_cons, List.foldl_nil, List.set_cons_zero, List.set_cons_succ]; rfl) | rfl) ?_
  refine AL_nil ?_
  refine seqQ_n ?_
  refine AW_cond rfl (fun hc2 => ?_) (fun hc2 => ?_)
  · try simp only [Bool.or_eq_true, Bool.and_eq_true, Bool.or_eq_false_iff, Bool.and_eq_false_iff, decide_eq_true_eq, decide_eq_false_iff_not, Bool.not_eq_true', Bool.not_eq_false', beq_iff_eq, ne_eq, Decidable.not_not, List.length_map] at hc2
    refine AW_seq ?_
    refine AW_region ?_
    refine AL_callpi en31 (.nil) (by repeat (first | assumption | refine Holds.upd ?_ (by first | assumption | repeat (first | assumption | refine AH.look_other (by assumption) ?_)))) (quillworklaw04_awake_ok) ?_
    refine AL_norm (by first | (simp only [tput, anyAt, setAll, List.foldl_cons, List.foldl_nil, List.set_cons_zero, List.set_cons_succ]; rfl) | rfl) ?_
    refine AL_assign rfl ?_
    refine AL_norm (by first | (simp only [tput, anyAt, setAll, List.foldl_cons, List.foldl_nil, List.set_cons_zero, List.set_cons_succ]; rfl) | rfl) ?_
    refine AL_nil ?_
    refine seqQ_n ?_
    refine AW_ret ?_
    refine seqQ_r ?_
    refine retQ_1 (H' := H) (.inr rfl) rfl (by repeat (first | exact SubH.refl _ | refine SubH.upd ?_ (by assumption))) ?_
    refine K_eq ?_ hK
    rfl
  · try simp only [Bool.or_eq_true, Bool.and_eq_true, Bool.or_eq_false_iff, Bool.and_eq_false_iff, decide_eq_true_eq, decide_eq_false_iff_not, Bool.not_eq_true', Bool.not_eq_false', beq_iff_eq, ne_eq, Decidable.not_not, List.length_map] at hc2
    refine AW_skip ?_
    refine seqQ_n ?_
    refine AW_seq ?_
    refine AW_region ?_
    refine AL_move rfl ?_
    refine AL_callpi en32 (.cons (.ev rfl) (.nil)) (by repeat (first | assumption | refine Holds.upd ?_ (by first | assumption | repeat (first | assumption | refine AH.look_other (by assumption) ?_)))) (css_Parse_ok s (by omega)) ?_
    refine AL_move rfl ?_
    refine AL_norm (by first | (simp only [tput, anyAt, setAll, List.foldl_cons, List.foldl_nil, List.set_cons_zero, List.set_cons_succ]; rfl) | rfl) ?_
    refine AL_extract rfl rfl ?_
    refine AL_extract rfl rfl ?_
    refine AL_assign rfl ?_
    refine AL_assign rfl ?_
    refine AL_norm (by first | (simp only [tput, anyAt, setAll, List.foldl_cons, List.foldl_nil, List.set_cons_zero, List.set_cons_succ]; rfl) | rfl) ?_
    refine AL_nil ?_
    refine seqQ_n ?_
    refine AW_seq ?_
    refine AW_region ?_
    refine AL_move rfl ?_
    refine AL_norm (by first | (simp only [tput, anyAt, setAll, List.foldl_cons, List.foldl_nil, List.set_cons_zero, List.set_cons_succ]; rfl) | rfl) ?_
    refine AL_callpi en32 (.cons (.ev rfl) (.nil)) (by repeat (first | assumption | refine Holds.upd ?_ (by first | assumption | repeat (first | assumption | refine AH.look_other (by assumption) ?_)))) (css_Parse_ok t (by omega)) ?_
    refine AL_move rfl ?_
    refine AL_extract rfl rfl ?_
    refine AL_extract rfl rfl ?_
    refine AL_norm (by first | (simp only [tput, anyAt, setAll, List.foldl_cons, List.foldl_nil, List.set_cons_zero, List.set_cons_succ]; rfl) | rfl) ?_
    refine AL_assign rfl ?_
    refine AL_assign rfl ?_
    refine AL_norm (by first | (simp only [tput, anyAt, setAll, List.foldl_cons, List.foldl_nil, List.set_cons_zero, List.set_cons_succ]; rfl) | rfl) ?_
    refine AL_nil ?_
    refine seqQ_n ?_
    refine AW_seq ?_
    refine AW_region ?_
    refine AL_move rfl ?_
    refine AL_sadd rfl rfl ?_ ?_
    · first | ((show s.size + 1 ≤ _); omega) | (rw [ByteArray.size_append]; (show s.size + 1 + t.size ≤ _); omega) | ((show 8 + s.size ≤ _); omega) | (rw [ByteArray.size_append]; (show 8 + s.size + 14 ≤ _); omega)
    refine AL_norm (by first | (simp only [tput, anyAt, setAll, List.foldl_cons, List.foldl_nil, List.set_cons_zero, List.set_cons_succ]; rfl) | rfl) ?_
    refine AL_move rfl ?_
    refine AL_sadd rfl rfl ?_ ?_
    · first | ((show s.size + 1 ≤ _); omega) | (rw [ByteArray.size_append]; (show s.size + 1 + t.size ≤ _); omega) | ((show 8 + s.size ≤ _); omega) | (rw [ByteArray.size_append]; (show 8 + s.size + 14 ≤ _); omega)
    refine AL_callpi en32 (.cons (.ev rfl) (.nil)) (by repeat (first | assumption | refine Holds.upd ?_ (by first | assumption | repeat (first | assumption | refine AH.look_other (by assumption) ?_)))) (css_Parse_ok (s ++ sSemi ++ t) (by first | omega | (simp only [ByteArray.size_append]; (show s.size + 1 + t.size < _); omega) | (simp only [ByteArray.size_append]; (show 8 + s.size + 14 < _); omega))) ?_
    refine AL_move rfl ?_
    refine AL_norm (by first | (simp only [tput, anyAt, setAll, List.foldl_cons, List.foldl_nil, List.set_cons_zero, List.set_cons_succ]; rfl) | rfl) ?_
    refine AL_extract rfl rfl ?_
    refine AL_extract rfl rfl ?_
    refine AL_assign rfl ?_
    refine AL_assign rfl ?_
    refine AL_norm (by first | (simp only [tput, anyAt, setAll, List.foldl_cons, List.foldl_nil, List.set_cons_zero, List.set_cons_succ]; rfl) | rfl) ?_
    refine AL_nil ?_
    refine seqQ_n ?_
    refine AW_seq ?_
    refine AW_region ?_
    refine AL_move rfl ?_
    refine AL_norm (by first | (simp only [tput, anyAt, setAll, List.foldl_cons, List.foldl_nil, List.set_cons_zero, List.set_cons_succ]; rfl) | rfl) ?_
    refine AL_move rfl ?_
    refine AL_move rfl ?_
    refine AL_callp en36 (.cons (.ev rfl) (.cons (.ev rfl) (.cons (.ev rfl) (.nil)))) (css_Over_ok _ _ _) ?_
    refine AL_assign rfl ?_
    refine AL_norm (by first | (simp only [tput, anyAt, setAll, List.foldl_cons, List.foldl_nil, List.set_cons_zero, List.set_cons_succ]; rfl) | rfl) ?_
    refine AL_nil ?_
    refine seqQ_n ?_
    refine AW_seq ?_
    refine AW_region ?_
    refine AL_move rfl ?_
    refine AL_norm (by first | (simp only [tput, anyAt, setAll, List.foldl_cons, List.foldl_nil, List.set_cons_zero, List.set_cons_succ]; rfl) | rfl) ?_
    refine AL_move rfl ?_
    refine AL_bitsz ((((parseS s).1 ||| (parseS s).2).toNat : Int)) rfl rfl (by decide) (b4_or _ _) ?_
    refine AL_move rfl ?_
    refine AL_bitsz ((((parseS s).1 ||| (parseS s).2 ||| (parseS t).1).toNat : Int)) rfl rfl (by decide) (b4_or _ _) ?_
    refine AL_norm (by first | (simp only [tput, anyAt, setAll, List.foldl_cons, List.foldl_nil, List.set_cons_zero, List.set_cons_succ]; rfl) | rfl) ?_
    refine AL_move rfl ?_
    refine AL_bitsz ((((parseS s).1 ||| (parseS s).2 ||| (parseS t).1 ||| (parseS t).2).toNat : Int)) rfl rfl (by decide) (b4_or _ _) ?_
    refine AL_assign rfl ?_
    refine AL_norm (by first | (simp only [tput, anyAt, setAll, List.foldl_cons, List.foldl_nil, List.set_cons_zero, List.set_cons_succ]; rfl) | rfl) ?_
    refine AL_nil ?_
    refine seqQ_n ?_
    refine AW_seq ?_
    refine AW_region ?_
    refine AL_move rfl ?_
    refine AL_norm (by first | (simp only [tput, anyAt, setAll, List.foldl_cons, List.foldl_nil, List.set_cons_zero, List.set_cons_succ]; rfl) | rfl) ?_
    refine AL_move rfl ?_
    refine AL_move rfl ?_
    refine AL_move rfl ?_
    refine AL_callp en36 (.cons (.ev rfl) (.cons (.ev rfl) (.cons (.ev rfl) (.nil)))) (css_Over_ok _ _ _) ?_
    refine AL_norm (by first | (simp only [tput, anyAt, setAll, List.foldl_cons, List.foldl_nil, List.set_cons_zero, List.set_cons_succ]; rfl) | rfl) ?_
    refine AL_move rfl ?_
    refine AL_move rfl ?_
    refine AL_callp en36 (.cons (.ev rfl) (.cons (.ev rfl) (.cons (.ev rfl) (.nil)))) (css_Over_ok _ _ _) ?_
    refine AL_eql rfl rfl ?_
    refine AL_norm (by first | (simp only [tput, anyAt, setAll, List.foldl_cons, List.foldl_nil, List.set_cons_zero, List.set_cons_succ]; rfl) | rfl) ?_
    refine AL_move rfl ?_
    refine AL_and (j := 9) (n := 7) (c := 62) (t := 69) (r := 70) (v := ?v3) [63, 64, 65, 66, 67, 68, 69] rfl rfl rfl rfl rfl rfl rfl (fun hg3 => ?_) ?_; rotate_left
    · simp only [List.take_succ_cons, List.take_zero, List.map_cons, List.map_nil, strip, Nat.reduceBEq, beq_self_eq_true, Bool.and_self, Bool.true_and, Bool.false_and, cond_true, cond_false]
      try simp only [Bool.or_eq_true, Bool.and_eq_true, Bool.or_eq_false_iff, Bool.and_eq_false_iff, decide_eq_true_eq, decide_eq_false_iff_not, Bool.not_eq_true', Bool.not_eq_false', beq_iff_eq, ne_eq, Decidable.not_not, List.length_map] at hg3
      refine AL_move rfl ?_
      refine AL_move rfl ?_
      refine AL_bits rfl rfl (by decide) ?_
      refine AL_norm (by first | (simp only [tput, anyAt, setAll, List.foldl_cons, List.foldl_nil, List.set_cons_zero, List.set_cons_succ]; rfl) | rfl) ?_
      refine AL_move rfl ?_
      refine AL_move rfl ?_
      refine AL_bits rfl rfl (by decide) ?_
      refine AL_eql rfl rfl ?_
      refine AL_nil (grpQ_mk ?_)
      try simp only [tput, anyAt, setAll, List.foldl_cons, List.foldl_nil, List.set_cons_zero, List.set_cons_succ]
      repeat (first | exact Weak.nil | refine Weak.cons ?_ | refine Weak.consAny ?_)
    refine AL_norm (by first | (simp only [tput, anyAt, setAll, List.foldl_cons, List.foldl_nil, List.set_cons_zero, List.set_cons_succ]; rfl) | rfl) ?_
    refine AL_move rfl ?_
    refine AL_norm (by first | (simp only [tput, anyAt, setAll, List.foldl_cons, List.foldl_nil, List.set_cons_zero, List.set_cons_succ]; rfl) | rfl) ?_
    refine AL_and (j := 18) (n := 1) (c := 71) (t := 72) (r := 73) (v := ?v4) [72] rfl rfl rfl rfl rfl rfl rfl (fun hg4 => ?_) ?_; rotate_left
    · simp only [List.take_succ_cons, List.take_zero, List.map_cons, List.map_nil, strip, Nat.reduceBEq, beq_self_eq_true, Bool.and_self, Bool.true_and, Bool.false_and, cond_true, cond_false]
      try simp only [Bool.or_eq_true, Bool.and_eq_true, Bool.or_eq_false_iff, Bool.and_eq_false_iff, decide_eq_true_eq, decide_eq_false_iff_not, Bool.not_eq_true', Bool.not_eq_false', beq_iff_eq, ne_eq, Decidable.not_not, List.length_map] at hg4
      refine AL_callpi en31 (.nil) (by repeat (first | assumption | refine Holds.upd ?_ (by first | assumption | repeat (first | assumption | refine AH.look_other (by assumption) ?_)))) (quillworklaw04_awake_ok) ?_
      refine AL_nil (grpQ_mk ?_)
      try simp only [tput, anyAt, setAll, List.foldl_cons, List.foldl_nil, List.set_cons_zero, List.set_cons_succ]
      repeat (first | exact Weak.nil | refine Weak.cons ?_ | refine Weak.consAny ?_)
    refine AL_norm (by first | (simp only [tput, anyAt, setAll, List.foldl_cons, List.foldl_nil, List.set_cons_zero, List.set_cons_succ]; rfl) | rfl) ?_
    refine AL_assign rfl ?_
    refine AL_norm (by first | (simp only [tput, anyAt, setAll, List.foldl_cons, List.foldl_nil, List.set_cons_zero, List.set_cons_succ]; rfl) | rfl) ?_
    refine AL_nil ?_
    refine seqQ_n ?_
    refine AW_ret ?_
    refine retQ_1 (H' := H) (.inr rfl) rfl (by repeat (first | exact SubH.refl _ | refine SubH.upd ?_ (by assumption))) ?_
    refine K_eq ?_ hK
    exact congrArg (fun b => AV.v (.bool b)) (by rw [parse_later, over_stays, over_law]; simp)
end Go.Css.Walk
