/- The given statement of the law: for every input the law answers true. No conditions of our own. -/
import Derived.Test.YtcnjcjhdcloniaaDoorTX
import Derived.Test.YtcnjcjhdcloniaaDoorTG
import Derived.Test.YtcnjcjhdcloniaaDoorProg
set_option autoImplicit false
set_option linter.unusedVariables false
set_option linter.unusedSimpArgs false
set_option maxRecDepth 100000
namespace Go.Proofs
open Go Go.RowKit Go.AL Go.Tags Go.IntWalk
theorem un53 : Tryd.prog.underlying 53 = some (.slice 5) := by kernel_rfl
theorem inf5 : infoOf Tryd.prog 5 = some (some (.int .u8 0), 1, 1) := by kernel_rfl
theorem un5 : Tryd.prog.underlying 5 = some (.int .u8) := by kernel_rfl
theorem sz5 : szOf Tryd.prog 5 = some 1 := by kernel_rfl
theorem en21 : entersOf Tryd.prog 21 = true := by kernel_rfl

/-- quillwork/quillworklaw02.great -/
theorem quillworklaw02_great_ok (s : ByteArray) (m : Int) (hs : s.size < 35184372088832) :
    PF Tryd.prog 21 [.v (.string s), .v (.int .u32 m)] (.v (.string (greatS s (bt m)))) := by
  intro H K hK
  refine AC_of Tryd.func21 rfl (rs := [.tmp 4]) rfl Tryd.ntmps21 rfl ?_
  refine AW_norm (by simp only [List.length_cons, List.length_nil, Nat.reduceAdd, Nat.reduceSub, List.replicate, List.cons_append, List.nil_append]; rfl) ?_
  refine AW_seq ?_
  refine AW_region ?_
  refine AL_assign rfl ?_
  refine AL_norm (by first | (simp only [tput, anyAt, setAll, List.foldl_cons, List.foldl_nil, List.set_cons_zero, List.set_cons_succ]; rfl) | rfl) ?_
  refine AL_nil ?_
  refine seqQ_n ?_
  refine AW_seq ?_
  refine AW_region ?_
  refine AL_assign rfl ?_
  refine AL_norm (by first | (simp only [tput, anyAt, setAll, List.foldl_cons, List.foldl_nil, List.set_cons_zero, List.set_cons_succ]; rfl) | rfl) ?_
  refine AL_nil ?_
  refine seqQ_n ?_
  refine AW_seq ?_
  refine AW_seq ?_
  refine AW_region ?_
  refine AL_assign rfl ?_
  refine AL_norm (by first | (simp only [tput, anyAt, setAll, List.foldl_cons, List.foldl_nil, List.set_cons_zero, List.set_cons_succ]; rfl) | rfl) ?_
  refine AL_nil ?_
  refine seqQ_n ?_
  refine AW_block ?_
  refine AW_loops (α := Nat × Option Nat × Nat) [5, 6, 7, 8, 9, 10, 11, 12, 13, 14, 15, 16, 17, 18, 19, 20, 21, 22, 23, 24, 25, 26, 27, 28, 29, 30, 31, 32, 33, 34, 35, 36] (fun z => [(6, .v (.int .i64 (z.1 : Int))), (5, .own z.2.1 z.2.2 z.1)]) (fun z => H.put z.2.1 5 z.2.2 ((greatL s (bt m) z.1).map byteAV)) (fun z => z.1 ≤ s.size ∧ Fresh H z.2.1 z.2.2 ((greatL s (bt m) z.1).map byteAV)) (fun z => s.size - z.1) ((0, none, 0)) ?_ ?_ ?_ ?_
  · exact ⟨Nat.zero_le _, rfl, rfl⟩
  · exact SubH.refl _
  · skip
    try simp only [tput, anyAt, setAll, List.foldl_cons, List.foldl_nil, List.set_cons_zero, List.set_cons_succ]
    repeat (first | exact Weak.nil | refine Weak.cons ?_ | refine Weak.consAny ?_)
  · rintro ⟨i, A, c⟩ hI; dsimp only at hI ⊢
    refine AW_norm (by first | (simp only [tput, anyAt, setAll, List.foldl_cons, List.foldl_nil, List.set_cons_zero, List.set_cons_succ]; rfl) | rfl) ?_
    refine AW_seq ?_
    refine AW_seq ?_
    refine AW_region ?_
    refine AL_move rfl ?_
    refine AL_norm (by first | (simp only [tput, anyAt, setAll, List.foldl_cons, List.foldl_nil, List.set_cons_zero, List.set_cons_succ]; rfl) | rfl) ?_
    refine AL_move rfl ?_
    refine AL_len_str un9 rfl ?_
    refine AL_lss rfl rfl ?_
    refine AL_norm (by first | (simp only [tput, anyAt, setAll, List.foldl_cons, List.foldl_nil, List.set_cons_zero, List.set_cons_succ]; rfl) | rfl) ?_
    refine AL_nil ?_
    refine seqQ_n ?_
    refine AW_cond rfl (fun hc1 => ?_) (fun hc1 => ?_)
    · try simp only [Bool.or_eq_true, Bool.and_eq_true, Bool.or_eq_false_iff, Bool.and_eq_false_iff, decide_eq_true_eq, decide_eq_false_iff_not, Bool.not_eq_true', Bool.not_eq_false', beq_iff_eq, ne_eq, Decidable.not_not, List.length_map] at hc1
      refine AW_skip ?_
      refine seqQ_n ?_
      refine AW_seq ?_
      refine AW_block ?_
      refine AW_seq ?_
      refine AW_region ?_
      refine AL_move rfl ?_
      refine AL_norm (by first | (simp only [tput, anyAt, setAll, List.foldl_cons, List.foldl_nil, List.set_cons_zero, List.set_cons_succ]; rfl) | rfl) ?_
      refine AL_move rfl ?_
      first | refine AL_index_strn un9 rfl rfl ?_ ?_ ?_ | refine AL_index_strb un9 rfl rfl ?_ ?_ ?_
      · omega
      · omega
      refine AL_assign rfl ?_
      refine AL_norm (by first | (simp only [tput, anyAt, setAll, List.foldl_cons, List.foldl_nil, List.set_cons_zero, List.set_cons_succ]; rfl) | rfl) ?_
      refine AL_nil ?_
      refine seqQ_n ?_
      refine AW_seq ?_
      refine AW_seq ?_
      refine AW_region ?_
      refine AL_move rfl ?_
      refine AL_norm (by first | (simp only [tput, anyAt, setAll, List.foldl_cons, List.foldl_nil, List.set_cons_zero, List.set_cons_succ]; rfl) | rfl) ?_
      refine AL_geq rfl rfl ?_
      refine AL_move rfl ?_
      refine AL_and (j := 2) (n := 2) (c := 19) (t := 21) (r := 22) (v := ?v2) [20, 21] rfl rfl rfl rfl rfl rfl rfl (fun hg2 => ?_) ?_; rotate_left
      · simp only [List.take_succ_cons, List.take_zero, List.map_cons, List.map_nil, strip, Nat.reduceBEq, beq_self_eq_true, Bool.and_self, Bool.true_and, Bool.false_and, cond_true, cond_false]
        refine AL_move rfl ?_
        refine AL_leq rfl rfl ?_
        refine AL_nil (grpQ_mk ?_)
        try simp only [tput, anyAt, setAll, List.foldl_cons, List.foldl_nil, List.set_cons_zero, List.set_cons_succ]
        repeat (first | exact Weak.nil | refine Weak.cons ?_ | refine Weak.consAny ?_)
      refine AL_norm (by first | (simp only [tput, anyAt, setAll, List.foldl_cons, List.foldl_nil, List.set_cons_zero, List.set_cons_succ]; rfl) | rfl) ?_
      refine AL_move rfl ?_
      refine AL_norm (by first | (simp only [tput, anyAt, setAll, List.foldl_cons, List.foldl_nil, List.set_cons_zero, List.set_cons_succ]; rfl) | rfl) ?_
      refine AL_and (j := 6) (n := 6) (c := 23) (t := 29) (r := 30) (v := ?v3) [24, 25, 26, 27, 28, 29] rfl rfl rfl rfl rfl rfl rfl (fun hg3 => ?_) ?_; rotate_left
      · simp only [List.take_succ_cons, List.take_zero, List.map_cons, List.map_nil, strip, Nat.reduceBEq, beq_self_eq_true, Bool.and_self, Bool.true_and, Bool.false_and, cond_true, cond_false]
        refine AL_move rfl ?_
        refine AL_move rfl ?_
        refine AL_rem rfl rfl (by decide) ?_
        refine AL_shr rfl rfl (by rw [Go.IntWalk.rem_in _ _ (by omega)]; omega) ?_
        refine AL_norm (by first | (simp only [tput, anyAt, setAll, List.foldl_cons, List.foldl_nil, List.set_cons_zero, List.set_cons_succ]; rfl) | rfl) ?_
        refine AL_bits rfl rfl (by decide) ?_
        refine AL_eql rfl rfl ?_
        refine AL_nil (grpQ_mk ?_)
        try simp only [tput, anyAt, setAll, List.foldl_cons, List.foldl_nil, List.set_cons_zero, List.set_cons_succ]
        repeat (first | exact Weak.nil | refine Weak.cons ?_ | refine Weak.consAny ?_)
      refine AL_norm (by first | (simp only [tput, anyAt, setAll, List.foldl_cons, List.foldl_nil, List.set_cons_zero, List.set_cons_succ]; rfl) | rfl) ?_
      refine AL_norm (by first | (simp only [tput, anyAt, setAll, List.foldl_cons, List.foldl_nil, List.set_cons_zero, List.set_cons_succ]; rfl) | rfl) ?_
      refine AL_nil ?_
      refine seqQ_n ?_
      refine AW_cond rfl (fun hc4 => ?_) (fun hc4 => ?_)
      · try simp only [Bool.or_eq_true, Bool.and_eq_true, Bool.or_eq_false_iff, Bool.and_eq_false_iff, decide_eq_true_eq, decide_eq_false_iff_not, Bool.not_eq_true', Bool.not_eq_false', beq_iff_eq, ne_eq, Decidable.not_not, List.length_map] at hc4
        refine AW_region ?_
        refine AL_move rfl ?_
        refine AL_subz rfl rfl (((upB (bAt s i) (bt m i)).toNat : Int)) (by rw [upB_up (b := bAt s i) (c := bt m i) ⟨hc4.1, by unfold bt; exact decide_eq_true hc4.2⟩]; exact u8_in _ (by have := UInt8.toNat_lt (bAt s i); omega)) ?_
        refine AL_norm (by first | (simp only [tput, anyAt, setAll, List.foldl_cons, List.foldl_nil, List.set_cons_zero, List.set_cons_succ]; rfl) | rfl) ?_
        refine AL_assign rfl ?_
        refine AL_norm (by first | (simp only [tput, anyAt, setAll, List.foldl_cons, List.foldl_nil, List.set_cons_zero, List.set_cons_succ]; rfl) | rfl) ?_
        refine AL_nil ?_
        refine seqQ_n ?_
        refine AW_region ?_
        refine AL_move rfl ?_
        refine AL_move rfl ?_
        refine AL_append1p un53 inf5 rfl (by decide) (by decide) (by decide) rfl rfl (fun h => by cases h) rfl rfl rfl hI.2 (by rw [List.length_map, greatL_len]) (by omega) ?_
        intro ba ca hba
        refine AL_norm (by first | (simp only [tput, anyAt, setAll, List.foldl_cons, List.foldl_nil, List.set_cons_zero, List.set_cons_succ]; rfl) | rfl) ?_
        refine AL_assign rfl ?_
        refine AL_norm (by first | (simp only [tput, anyAt, setAll, List.foldl_cons, List.foldl_nil, List.set_cons_zero, List.set_cons_succ]; rfl) | rfl) ?_
        refine AL_nil ?_
        refine blockQ_n ?_
        refine seqQ_n ?_
        refine AW_region ?_
        refine AL_move rfl ?_
        refine AL_addz rfl rfl (((i + 1 : Nat) : Int)) (by exact inc64 (by omega)) ?_
        refine AL_assign rfl ?_
        refine AL_norm (by first | (simp only [tput, anyAt, setAll, List.foldl_cons, List.foldl_nil, List.set_cons_zero, List.set_cons_succ]; rfl) | rfl) ?_
        refine AL_nil ?_
        refine loopQ_n ((i + 1, some ba, ca)) ?_ ?_ ?_ ?_
        · exact ⟨by omega, hba⟩
        · (show s.size - (i + 1) < s.size - i; omega)
        · rw [show (greatL s (bt m) i).map byteAV ++ [.v (.int .u8 ((upB (bAt s i) (bt m i)).toNat : Int))] = (greatL s (bt m) (i + 1)).map byteAV from greatL_next]; exact SubH.refl _
        · skip
          try simp only [tput, anyAt, setAll, List.foldl_cons, List.foldl_nil, List.set_cons_zero, List.set_cons_succ]
          repeat (first | exact Weak.nil | refine Weak.cons ?_ | refine Weak.consAny ?_)
      · try simp only [Bool.or_eq_true, Bool.and_eq_true, Bool.or_eq_false_iff, Bool.and_eq_false_iff, decide_eq_true_eq, decide_eq_false_iff_not, Bool.not_eq_true', Bool.not_eq_false', beq_iff_eq, ne_eq, Decidable.not_not, List.length_map] at hc4
        refine AW_skip ?_
        refine seqQ_n ?_
        refine AW_region ?_
        refine AL_move rfl ?_
        refine AL_norm (by first | (simp only [tput, anyAt, setAll, List.foldl_cons, List.foldl_nil, List.set_cons_zero, List.set_cons_succ]; rfl) | rfl) ?_
        refine AL_move rfl ?_
        refine AL_append1p un53 inf5 rfl (by decide) (by decide) (by decide) rfl rfl (fun h => by cases h) rfl rfl rfl hI.2 (by rw [List.length_map, greatL_len]) (by omega) ?_
        intro ba ca hba
        refine AL_norm (by first | (simp only [tput, anyAt, setAll, List.foldl_cons, List.foldl_nil, List.set_cons_zero, List.set_cons_succ]; rfl) | rfl) ?_
        refine AL_assign rfl ?_
        refine AL_norm (by first | (simp only [tput, anyAt, setAll, List.foldl_cons, List.foldl_nil, List.set_cons_zero, List.set_cons_succ]; rfl) | rfl) ?_
        refine AL_nil ?_
        refine blockQ_n ?_
        refine seqQ_n ?_
        refine AW_region ?_
        refine AL_move rfl ?_
        refine AL_addz rfl rfl (((i + 1 : Nat) : Int)) (by exact inc64 (by omega)) ?_
        refine AL_assign rfl ?_
        refine AL_norm (by first | (simp only [tput, anyAt, setAll, List.foldl_cons, List.foldl_nil, List.set_cons_zero, List.set_cons_succ]; rfl) | rfl) ?_
        refine AL_nil ?_
        refine loopQ_n ((i + 1, some ba, ca)) ?_ ?_ ?_ ?_
        · exact ⟨by omega, hba⟩
        · (show s.size - (i + 1) < s.size - i; omega)
        · rw [show (greatL s (bt m) (i + 1)).map byteAV = (greatL s (bt m) i).map byteAV ++ [.v (.int .u8 ((upB (bAt s i) (bt m i)).toNat : Int))] from greatL_next.symm, upB_no (b := bAt s i) (c := bt m i) (by simpa only [bt, decide_eq_false_iff_not] using hc4)]; exact SubH.refl _
        · skip
          try simp only [tput, anyAt, setAll, List.foldl_cons, List.foldl_nil, List.set_cons_zero, List.set_cons_succ]
          repeat (first | exact Weak.nil | refine Weak.cons ?_ | refine Weak.consAny ?_)
    · try simp only [Bool.or_eq_true, Bool.and_eq_true, Bool.or_eq_false_iff, Bool.and_eq_false_iff, decide_eq_true_eq, decide_eq_false_iff_not, Bool.not_eq_true', Bool.not_eq_false', beq_iff_eq, ne_eq, Decidable.not_not, List.length_map] at hc1
      refine AW_exit ?_
      refine seqQ_x ?_
      refine loopQ_x ?_
      refine blockQ_hit ?_
      refine seqQ_n ?_
      refine AW_seq ?_
      refine AW_region ?_
      refine AL_move rfl ?_
      refine AL_norm (by first | (simp only [tput, anyAt, setAll, List.foldl_cons, List.foldl_nil, List.set_cons_zero, List.set_cons_succ]; rfl) | rfl) ?_
      refine AL_convBytes un53 un5 un9 sz5 rfl hI.2.own (greatL_len _ _ _).symm ?_
      refine AL_assign rfl ?_
      refine AL_norm (by first | (simp only [tput, anyAt, setAll, List.foldl_cons, List.foldl_nil, List.set_cons_zero, List.set_cons_succ]; rfl) | rfl) ?_
      refine AL_nil ?_
      refine seqQ_n ?_
      refine AW_ret ?_
      refine retQ_1 (H' := H) (.inr rfl) rfl hI.2.subH ?_
      refine K_eq ?_ hK
      have e : i = s.size := (by omega); subst e; rfl

/-- quillwork/quillworklaw02.TagsNames -/
theorem quillworklaw02_TagsNames_ok (k m : Int) (x : ByteArray) :
    PI TI Tryd.prog 5 [.v (.int .i64 k), .v (.int .u32 m), .v (.string x)] (.v (.bool true)) := by
  intro H K hI hK
  refine AC_of Tryd.func5 rfl (rs := [.tmp 6]) rfl Tryd.ntmps5 rfl ?_
  refine AW_norm (by simp only [List.length_cons, List.length_nil, Nat.reduceAdd, Nat.reduceSub, List.replicate, List.cons_append, List.nil_append]; rfl) ?_
  refine AW_seq ?_
  refine AW_region ?_
  refine AL_assign rfl ?_
  refine AL_norm (by first | (simp only [tput, anyAt, setAll, List.foldl_cons, List.foldl_nil, List.set_cons_zero, List.set_cons_succ]; rfl) | rfl) ?_
  refine AL_nil ?_
  refine seqQ_n ?_
  refine AW_seq ?_
  refine AW_region ?_
  refine AL_move rfl ?_
  refine AL_callp en19 (.cons (.ev rfl) (.nil)) (tags_Name_ok _) ?_
  refine AL_assign rfl ?_
  refine AL_norm (by first | (simp only [tput, anyAt, setAll, List.foldl_cons, List.foldl_nil, List.set_cons_zero, List.set_cons_succ]; rfl) | rfl) ?_
  refine AL_nil ?_
  refine seqQ_n ?_
  refine AW_seq ?_
  refine AW_region ?_
  refine AL_move rfl ?_
  refine AL_norm (by first | (simp only [tput, anyAt, setAll, List.foldl_cons, List.foldl_nil, List.set_cons_zero, List.set_cons_succ]; rfl) | rfl) ?_
  refine AL_callp en20 (.cons (.ev rfl) (.nil)) (tags_Class_ok _) ?_
  refine AL_assign rfl ?_
  refine AL_norm (by first | (simp only [tput, anyAt, setAll, List.foldl_cons, List.foldl_nil, List.set_cons_zero, List.set_cons_succ]; rfl) | rfl) ?_
  refine AL_nil ?_
  refine seqQ_n ?_
  refine AW_seq ?_
  refine AW_seq ?_
  refine AW_region ?_
  refine AL_move rfl ?_
  refine AL_seql rfl rfl ?_
  refine AL_norm (by first | (simp only [tput, anyAt, setAll, List.foldl_cons, List.foldl_nil, List.set_cons_zero, List.set_cons_succ]; rfl) | rfl) ?_
  refine AL_move rfl ?_
  refine AL_eql rfl rfl ?_
  refine AL_move rfl ?_
  refine AL_or (j := 4) (n := 2) (c := 23) (t := 25) (r := 26) (v := ?v1) [24, 25] rfl rfl rfl rfl rfl rfl rfl (fun hg1 => ?_) ?_; rotate_left
  · simp only [List.take_succ_cons, List.take_zero, List.map_cons, List.map_nil, strip, Nat.reduceBEq, beq_self_eq_true, Bool.and_self, Bool.true_and, Bool.false_and, cond_true, cond_false]
    refine AL_move rfl ?_
    refine AL_norm (by first | (simp only [tput, anyAt, setAll, List.foldl_cons, List.foldl_nil, List.set_cons_zero, List.set_cons_succ]; rfl) | rfl) ?_
    refine AL_eql rfl rfl ?_
    refine AL_nil (grpQ_mk ?_)
    try simp only [tput, anyAt, setAll, List.foldl_cons, List.foldl_nil, List.set_cons_zero, List.set_cons_succ]
    repeat (first | exact Weak.nil | refine Weak.cons ?_ | refine Weak.consAny ?_)
  refine AL_norm (by first | (simp only [tput, anyAt, setAll, List.foldl_cons, List.foldl_nil, List.set_cons_zero, List.set_cons_succ]; rfl) | rfl) ?_
  refine AL_bneq rfl rfl un4 ?_
  refine AL_norm (by first | (simp only [tput, anyAt, setAll, List.foldl_cons, List.foldl_nil, List.set_cons_zero, List.set_cons_succ]; rfl) | rfl) ?_
  refine AL_nil ?_
  refine seqQ_n ?_
  refine AW_cond rfl (fun hc2 => ?_) (fun hc2 => ?_)
  · try simp only [Bool.or_eq_true, Bool.and_eq_true, Bool.or_eq_false_iff, Bool.and_eq_false_iff, decide_eq_true_eq, decide_eq_false_iff_not, Bool.not_eq_true', Bool.not_eq_false', beq_iff_eq, ne_eq, Decidable.not_not, List.length_map] at hc2
    refine AW_seq ?_
    refine AW_region ?_
    refine AL_assign rfl ?_
    refine AL_norm (by first | (simp only [tput, anyAt, setAll, List.foldl_cons, List.foldl_nil, List.set_cons_zero, List.set_cons_succ]; rfl) | rfl) ?_
    refine AL_nil ?_
    refine seqQ_n ?_
    refine AW_ret ?_
    refine seqQ_r ?_
    refine retQ_1 (H' := H) (.inr rfl) rfl (by repeat (first | exact SubH.refl _ | refine SubH.upd ?_ (by assumption))) ?_
    refine K_eq ?_ hK
    exact absurd hc2 (by rw [name_class]; simp)
  · try simp only [Bool.or_eq_true, Bool.and_eq_true, Bool.or_eq_false_iff, Bool.and_eq_false_iff, decide_eq_true_eq, decide_eq_false_iff_not, Bool.not_eq_true', Bool.not_eq_false', beq_iff_eq, ne_eq, Decidable.not_not, List.length_map] at hc2
    refine AW_skip ?_
    refine seqQ_n ?_
    refine AW_seq ?_
    refine AW_seq ?_
    refine AW_region ?_
    refine AL_move rfl ?_
    refine AL_norm (by first | (simp only [tput, anyAt, setAll, List.foldl_cons, List.foldl_nil, List.set_cons_zero, List.set_cons_succ]; rfl) | rfl) ?_
    refine AL_sneq rfl rfl ?_
    refine AL_norm (by first | (simp only [tput, anyAt, setAll, List.foldl_cons, List.foldl_nil, List.set_cons_zero, List.set_cons_succ]; rfl) | rfl) ?_
    refine AL_nil ?_
    refine seqQ_n ?_
    refine AW_cond rfl (fun hc3 => ?_) (fun hc3 => ?_)
    · try simp only [Bool.or_eq_true, Bool.and_eq_true, Bool.or_eq_false_iff, Bool.and_eq_false_iff, decide_eq_true_eq, decide_eq_false_iff_not, Bool.not_eq_true', Bool.not_eq_false', beq_iff_eq, ne_eq, Decidable.not_not, List.length_map] at hc3
      refine AW_seq ?_
      refine AW_region ?_
      refine AL_move rfl ?_
      refine AL_move rfl ?_
      refine AL_callp en21 (.cons (.ev rfl) (.cons (.ev rfl) (.nil))) (quillworklaw02_great_ok _ _ (by first | (have := name_size k; omega) | omega)) ?_
      refine AL_norm (by first | (simp only [tput, anyAt, setAll, List.foldl_cons, List.foldl_nil, List.set_cons_zero, List.set_cons_succ]; rfl) | rfl) ?_
      refine AL_callpi en15 (.cons (.ev rfl) (.nil)) (by repeat (first | assumption | refine Holds.upd ?_ (by assumption))) (tags_Find_ok _ (by first | (rw [greatS_size]; have := name_size k; omega) | (rw [greatS_size]; omega) | omega)) ?_
      refine AL_move rfl ?_
      refine AL_extract rfl rfl ?_
      refine AL_extract rfl rfl ?_
      refine AL_norm (by first | (simp only [tput, anyAt, setAll, List.foldl_cons, List.foldl_nil, List.set_cons_zero, List.set_cons_succ]; rfl) | rfl) ?_
      refine AL_assign rfl ?_
      refine AL_assign rfl ?_
      refine AL_norm (by first | (simp only [tput, anyAt, setAll, List.foldl_cons, List.foldl_nil, List.set_cons_zero, List.set_cons_succ]; rfl) | rfl) ?_
      refine AL_nil ?_
      refine seqQ_n ?_
      refine AW_seq ?_
      refine AW_region ?_
      refine AL_move rfl ?_
      refine AL_not rfl ?_
      refine AL_norm (by first | (simp only [tput, anyAt, setAll, List.foldl_cons, List.foldl_nil, List.set_cons_zero, List.set_cons_succ]; rfl) | rfl) ?_
      refine AL_move rfl ?_
      refine AL_or (j := 2) (n := 3) (c := 39) (t := 42) (r := 43) (v := ?v4) [40, 41, 42] rfl rfl rfl rfl rfl rfl rfl (fun hg4 => ?_) ?_; rotate_left
      · simp only [List.take_succ_cons, List.take_zero, List.map_cons, List.map_nil, strip, Nat.reduceBEq, beq_self_eq_true, Bool.and_self, Bool.true_and, Bool.false_and, cond_true, cond_false]
        refine AL_move rfl ?_
        refine AL_move rfl ?_
        refine AL_neq rfl rfl ?_
        refine AL_nil (grpQ_mk ?_)
        try simp only [tput, anyAt, setAll, List.foldl_cons, List.foldl_nil, List.set_cons_zero, List.set_cons_succ]
        repeat (first | exact Weak.nil | refine Weak.cons ?_ | refine Weak.consAny ?_)
      refine AL_norm (by first | (simp only [tput, anyAt, setAll, List.foldl_cons, List.foldl_nil, List.set_cons_zero, List.set_cons_succ]; rfl) | rfl) ?_
      refine AL_norm (by first | (simp only [tput, anyAt, setAll, List.foldl_cons, List.foldl_nil, List.set_cons_zero, List.set_cons_succ]; rfl) | rfl) ?_
      refine AL_nil ?_
      refine seqQ_n ?_
      refine AW_cond rfl (fun hc5 => ?_) (fun hc5 => ?_)
      · try simp only [Bool.or_eq_true, Bool.and_eq_true, Bool.or_eq_false_iff, Bool.and_eq_false_iff, decide_eq_true_eq, decide_eq_false_iff_not, Bool.not_eq_true', Bool.not_eq_false', beq_iff_eq, ne_eq, Decidable.not_not, List.length_map] at hc5
        refine AW_seq ?_
        refine AW_region ?_
        refine AL_assign rfl ?_
        refine AL_norm (by first | (simp only [tput, anyAt, setAll, List.foldl_cons, List.foldl_nil, List.set_cons_zero, List.set_cons_succ]; rfl) | rfl) ?_
        refine AL_nil ?_
        refine seqQ_n ?_
        refine AW_ret ?_
        refine seqQ_r ?_
        refine retQ_1 (H' := H) (.inr rfl) rfl (by repeat (first | exact SubH.refl _ | refine SubH.upd ?_ (by assumption))) ?_
        refine K_eq ?_ hK
        exact (names_no hc5 (by assumption)).elim
      · try simp only [Bool.or_eq_true, Bool.and_eq_true, Bool.or_eq_false_iff, Bool.and_eq_false_iff, decide_eq_true_eq, decide_eq_false_iff_not, Bool.not_eq_true', Bool.not_eq_false', beq_iff_eq, ne_eq, Decidable.not_not, List.length_map] at hc5
        refine AW_skip ?_
        refine seqQ_n ?_
        refine AW_seq ?_
        refine AW_seq ?_
        refine AW_region ?_
        refine AL_move rfl ?_
        refine AL_norm (by first | (simp only [tput, anyAt, setAll, List.foldl_cons, List.foldl_nil, List.set_cons_zero, List.set_cons_succ]; rfl) | rfl) ?_
        refine AL_len_str un9 rfl ?_
        refine AL_gtr rfl rfl ?_
        refine AL_norm (by first | (simp only [tput, anyAt, setAll, List.foldl_cons, List.foldl_nil, List.set_cons_zero, List.set_cons_succ]; rfl) | rfl) ?_
        refine AL_nil ?_
        refine seqQ_n ?_
        refine AW_cond rfl (fun hc6 => ?_) (fun hc6 => ?_)
        · try simp only [Bool.or_eq_true, Bool.and_eq_true, Bool.or_eq_false_iff, Bool.and_eq_false_iff, decide_eq_true_eq, decide_eq_false_iff_not, Bool.not_eq_true', Bool.not_eq_false', beq_iff_eq, ne_eq, Decidable.not_not, List.length_map] at hc6
          refine AW_seq ?_
          refine AW_region ?_
          refine AL_callpi en14 (.nil) (by repeat (first | assumption | refine Holds.upd ?_ (by assumption))) (quillworklaw02_awake_ok) ?_
          refine AL_assign rfl ?_
          refine AL_norm (by first | (simp only [tput, anyAt, setAll, List.foldl_cons, List.foldl_nil, List.set_cons_zero, List.set_cons_succ]; rfl) | rfl) ?_
          refine AL_nil ?_
          refine seqQ_n ?_
          refine AW_ret ?_
          refine seqQ_r ?_
          refine retQ_1 (H' := H) (.inr rfl) rfl (by repeat (first | exact SubH.refl _ | refine SubH.upd ?_ (by assumption))) ?_
          refine K_eq ?_ hK
          rfl
        · try simp only [Bool.or_eq_true, Bool.and_eq_true, Bool.or_eq_false_iff, Bool.and_eq_false_iff, decide_eq_true_eq, decide_eq_false_iff_not, Bool.not_eq_true', Bool.not_eq_false', beq_iff_eq, ne_eq, Decidable.not_not, List.length_map] at hc6
          refine AW_skip ?_
          refine seqQ_n ?_
          refine AW_seq ?_
          refine AW_region ?_
          refine AL_move rfl ?_
          refine AL_norm (by first | (simp only [tput, anyAt, setAll, List.foldl_cons, List.foldl_nil, List.set_cons_zero, List.set_cons_succ]; rfl) | rfl) ?_
          refine AL_callpi en15 (.cons (.ev rfl) (.nil)) (by repeat (first | assumption | refine Holds.upd ?_ (by assumption))) (tags_Find_ok _ (by first | (rw [greatS_size]; have := name_size k; omega) | (rw [greatS_size]; omega) | omega)) ?_
          refine AL_move rfl ?_
          refine AL_extract rfl rfl ?_
          refine AL_extract rfl rfl ?_
          refine AL_norm (by first | (simp only [tput, anyAt, setAll, List.foldl_cons, List.foldl_nil, List.set_cons_zero, List.set_cons_succ]; rfl) | rfl) ?_
          refine AL_assign rfl ?_
          refine AL_assign rfl ?_
          refine AL_norm (by first | (simp only [tput, anyAt, setAll, List.foldl_cons, List.foldl_nil, List.set_cons_zero, List.set_cons_succ]; rfl) | rfl) ?_
          refine AL_nil ?_
          refine seqQ_n ?_
          refine AW_seq ?_
          refine AW_seq ?_
          refine AW_region ?_
          refine AL_move rfl ?_
          refine AL_not rfl ?_
          refine AL_norm (by first | (simp only [tput, anyAt, setAll, List.foldl_cons, List.foldl_nil, List.set_cons_zero, List.set_cons_succ]; rfl) | rfl) ?_
          refine AL_nil ?_
          refine seqQ_n ?_
          refine AW_cond rfl (fun hc7 => ?_) (fun hc7 => ?_)
          · try simp only [Bool.or_eq_true, Bool.and_eq_true, Bool.or_eq_false_iff, Bool.and_eq_false_iff, decide_eq_true_eq, decide_eq_false_iff_not, Bool.not_eq_true', Bool.not_eq_false', beq_iff_eq, ne_eq, Decidable.not_not, List.length_map] at hc7
            refine AW_seq ?_
            refine AW_region ?_
            refine AL_move rfl ?_
            refine AL_norm (by first | (simp only [tput, anyAt, setAll, List.foldl_cons, List.foldl_nil, List.set_cons_zero, List.set_cons_succ]; rfl) | rfl) ?_
            refine AL_eql rfl rfl ?_
            refine AL_move rfl ?_
            refine AL_and (j := 2) (n := 1) (c := 57) (t := 58) (r := 59) (v := ?v8) [58] rfl rfl rfl rfl rfl rfl rfl (fun hg8 => ?_) ?_; rotate_left
            · simp only [List.take_succ_cons, List.take_zero, List.map_cons, List.map_nil, strip, Nat.reduceBEq, beq_self_eq_true, Bool.and_self, Bool.true_and, Bool.false_and, cond_true, cond_false]
              refine AL_callpi en14 (.nil) (by repeat (first | assumption | refine Holds.upd ?_ (by assumption))) (quillworklaw02_awake_ok) ?_
              refine AL_nil (grpQ_mk ?_)
              try simp only [tput, anyAt, setAll, List.foldl_cons, List.foldl_nil, List.set_cons_zero, List.set_cons_succ]
              repeat (first | exact Weak.nil | refine Weak.cons ?_ | refine Weak.consAny ?_)
            refine AL_norm (by first | (simp only [tput, anyAt, setAll, List.foldl_cons, List.foldl_nil, List.set_cons_zero, List.set_cons_succ]; rfl) | rfl) ?_
            refine AL_assign rfl ?_
            refine AL_norm (by first | (simp only [tput, anyAt, setAll, List.foldl_cons, List.foldl_nil, List.set_cons_zero, List.set_cons_succ]; rfl) | rfl) ?_
            refine AL_nil ?_
            refine seqQ_n ?_
            refine AW_ret ?_
            refine seqQ_r ?_
            refine retQ_1 (H' := H) (.inr rfl) rfl (by repeat (first | exact SubH.refl _ | refine SubH.upd ?_ (by assumption))) ?_
            refine K_eq ?_ hK
            exact congrArg (fun b => AV.v (.bool b)) (names_none hc7)
          · try simp only [Bool.or_eq_true, Bool.and_eq_true, Bool.or_eq_false_iff, Bool.and_eq_false_iff, decide_eq_true_eq, decide_eq_false_iff_not, Bool.not_eq_true', Bool.not_eq_false', beq_iff_eq, ne_eq, Decidable.not_not, List.length_map] at hc7
            refine AW_skip ?_
            refine seqQ_n ?_
            refine AW_seq ?_
            refine AW_region ?_
            refine AL_move rfl ?_
            refine AL_norm (by first | (simp only [tput, anyAt, setAll, List.foldl_cons, List.foldl_nil, List.set_cons_zero, List.set_cons_succ]; rfl) | rfl) ?_
            refine AL_move rfl ?_
            refine AL_callp en21 (.cons (.ev rfl) (.cons (.ev rfl) (.nil))) (quillworklaw02_great_ok _ _ (by first | (have := name_size k; omega) | omega)) ?_
            refine AL_callpi en15 (.cons (.ev rfl) (.nil)) (by repeat (first | assumption | refine Holds.upd ?_ (by assumption))) (tags_Find_ok _ (by first | (rw [greatS_size]; have := name_size k; omega) | (rw [greatS_size]; omega) | omega)) ?_
            refine AL_move rfl ?_
            refine AL_norm (by first | (simp only [tput, anyAt, setAll, List.foldl_cons, List.foldl_nil, List.set_cons_zero, List.set_cons_succ]; rfl) | rfl) ?_
            refine AL_extract rfl rfl ?_
            refine AL_extract rfl rfl ?_
            refine AL_assign rfl ?_
            refine AL_assign rfl ?_
            refine AL_norm (by first | (simp only [tput, anyAt, setAll, List.foldl_cons, List.foldl_nil, List.set_cons_zero, List.set_cons_succ]; rfl) | rfl) ?_
            refine AL_nil ?_
            refine seqQ_n ?_
            refine AW_seq ?_
            refine AW_region ?_
            refine AL_move rfl ?_
            refine AL_norm (by first | (simp only [tput, anyAt, setAll, List.foldl_cons, List.foldl_nil, List.set_cons_zero, List.set_cons_succ]; rfl) | rfl) ?_
            refine AL_move rfl ?_
            refine AL_and (j := 1) (n := 3) (c := 68) (t := 71) (r := 72) (v := ?v9) [69, 70, 71] rfl rfl rfl rfl rfl rfl rfl (fun hg9 => ?_) ?_; rotate_left
            · simp only [List.take_succ_cons, List.take_zero, List.map_cons, List.map_nil, strip, Nat.reduceBEq, beq_self_eq_true, Bool.and_self, Bool.true_and, Bool.false_and, cond_true, cond_false]
              refine AL_move rfl ?_
              refine AL_move rfl ?_
              refine AL_eql rfl rfl ?_
              refine AL_nil (grpQ_mk ?_)
              try simp only [tput, anyAt, setAll, List.foldl_cons, List.foldl_nil, List.set_cons_zero, List.set_cons_succ]
              repeat (first | exact Weak.nil | refine Weak.cons ?_ | refine Weak.consAny ?_)
            refine AL_norm (by first | (simp only [tput, anyAt, setAll, List.foldl_cons, List.foldl_nil, List.set_cons_zero, List.set_cons_succ]; rfl) | rfl) ?_
            refine AL_move rfl ?_
            refine AL_norm (by first | (simp only [tput, anyAt, setAll, List.foldl_cons, List.foldl_nil, List.set_cons_zero, List.set_cons_succ]; rfl) | rfl) ?_
            refine AL_and (j := 6) (n := 3) (c := 73) (t := 76) (r := 77) (v := ?v10) [74, 75, 76] rfl rfl rfl rfl rfl rfl rfl (fun hg10 => ?_) ?_; rotate_left
            · simp only [List.take_succ_cons, List.take_zero, List.map_cons, List.map_nil, strip, Nat.reduceBEq, beq_self_eq_true, Bool.and_self, Bool.true_and, Bool.false_and, cond_true, cond_false]
              refine AL_move rfl ?_
              refine AL_callp en20 (.cons (.ev rfl) (.nil)) (tags_Class_ok _) ?_
              refine AL_geq rfl rfl ?_
              refine AL_nil (grpQ_mk ?_)
              try simp only [tput, anyAt, setAll, List.foldl_cons, List.foldl_nil, List.set_cons_zero, List.set_cons_succ]
              repeat (first | exact Weak.nil | refine Weak.cons ?_ | refine Weak.consAny ?_)
            refine AL_norm (by first | (simp only [tput, anyAt, setAll, List.foldl_cons, List.foldl_nil, List.set_cons_zero, List.set_cons_succ]; rfl) | rfl) ?_
            refine AL_move rfl ?_
            refine AL_norm (by first | (simp only [tput, anyAt, setAll, List.foldl_cons, List.foldl_nil, List.set_cons_zero, List.set_cons_succ]; rfl) | rfl) ?_
            refine AL_and (j := 11) (n := 1) (c := 78) (t := 79) (r := 80) (v := ?v11) [79] rfl rfl rfl rfl rfl rfl rfl (fun hg11 => ?_) ?_; rotate_left
            · simp only [List.take_succ_cons, List.take_zero, List.map_cons, List.map_nil, strip, Nat.reduceBEq, beq_self_eq_true, Bool.and_self, Bool.true_and, Bool.false_and, cond_true, cond_false]
              refine AL_callpi en14 (.nil) (by repeat (first | assumption | refine Holds.upd ?_ (by assumption))) (quillworklaw02_awake_ok) ?_
              refine AL_nil (grpQ_mk ?_)
              try simp only [tput, anyAt, setAll, List.foldl_cons, List.foldl_nil, List.set_cons_zero, List.set_cons_succ]
              repeat (first | exact Weak.nil | refine Weak.cons ?_ | refine Weak.consAny ?_)
            refine AL_norm (by first | (simp only [tput, anyAt, setAll, List.foldl_cons, List.foldl_nil, List.set_cons_zero, List.set_cons_succ]; rfl) | rfl) ?_
            refine AL_assign rfl ?_
            refine AL_norm (by first | (simp only [tput, anyAt, setAll, List.foldl_cons, List.foldl_nil, List.set_cons_zero, List.set_cons_succ]; rfl) | rfl) ?_
            refine AL_nil ?_
            refine seqQ_n ?_
            refine AW_ret ?_
            refine retQ_1 (H' := H) (.inr rfl) rfl (by repeat (first | exact SubH.refl _ | refine SubH.upd ?_ (by assumption))) ?_
            refine K_eq ?_ hK
            exact congrArg (fun b => AV.v (.bool b)) (names_all hc7)
    · try simp only [Bool.or_eq_true, Bool.and_eq_true, Bool.or_eq_false_iff, Bool.and_eq_false_iff, decide_eq_true_eq, decide_eq_false_iff_not, Bool.not_eq_true', Bool.not_eq_false', beq_iff_eq, ne_eq, Decidable.not_not, List.length_map] at hc3
      refine AW_skip ?_
      refine seqQ_n ?_
      refine AW_seq ?_
      refine AW_seq ?_
      refine AW_region ?_
      refine AL_move rfl ?_
      refine AL_len_str un9 rfl ?_
      refine AL_norm (by first | (simp only [tput, anyAt, setAll, List.foldl_cons, List.foldl_nil, List.set_cons_zero, List.set_cons_succ]; rfl) | rfl) ?_
      refine AL_gtr rfl rfl ?_
      refine AL_norm (by first | (simp only [tput, anyAt, setAll, List.foldl_cons, List.foldl_nil, List.set_cons_zero, List.set_cons_succ]; rfl) | rfl) ?_
      refine AL_nil ?_
      refine seqQ_n ?_
      refine AW_cond rfl (fun hc12 => ?_) (fun hc12 => ?_)
      · try simp only [Bool.or_eq_true, Bool.and_eq_true, Bool.or_eq_false_iff, Bool.and_eq_false_iff, decide_eq_true_eq, decide_eq_false_iff_not, Bool.not_eq_true', Bool.not_eq_false', beq_iff_eq, ne_eq, Decidable.not_not, List.length_map] at hc12
        refine AW_seq ?_
        refine AW_region ?_
        refine AL_callpi en14 (.nil) (by repeat (first | assumption | refine Holds.upd ?_ (by assumption))) (quillworklaw02_awake_ok) ?_
        refine AL_assign rfl ?_
        refine AL_norm (by first | (simp only [tput, anyAt, setAll, List.foldl_cons, List.foldl_nil, List.set_cons_zero, List.set_cons_succ]; rfl) | rfl) ?_
        refine AL_nil ?_
        refine seqQ_n ?_
        refine AW_ret ?_
        refine seqQ_r ?_
        refine retQ_1 (H' := H) (.inr rfl) rfl (by repeat (first | exact SubH.refl _ | refine SubH.upd ?_ (by assumption))) ?_
        refine K_eq ?_ hK
        rfl
      · try simp only [Bool.or_eq_true, Bool.and_eq_true, Bool.or_eq_false_iff, Bool.and_eq_false_iff, decide_eq_true_eq, decide_eq_false_iff_not, Bool.not_eq_true', Bool.not_eq_false', beq_iff_eq, ne_eq, Decidable.not_not, List.length_map] at hc12
        refine AW_skip ?_
        refine seqQ_n ?_
        refine AW_seq ?_
        refine AW_region ?_
        refine AL_move rfl ?_
        refine AL_norm (by first | (simp only [tput, anyAt, setAll, List.foldl_cons, List.foldl_nil, List.set_cons_zero, List.set_cons_succ]; rfl) | rfl) ?_
        refine AL_callpi en15 (.cons (.ev rfl) (.nil)) (by repeat (first | assumption | refine Holds.upd ?_ (by assumption))) (tags_Find_ok _ (by first | (rw [greatS_size]; have := name_size k; omega) | (rw [greatS_size]; omega) | omega)) ?_
        refine AL_move rfl ?_
        refine AL_extract rfl rfl ?_
        refine AL_extract rfl rfl ?_
        refine AL_norm (by first | (simp only [tput, anyAt, setAll, List.foldl_cons, List.foldl_nil, List.set_cons_zero, List.set_cons_succ]; rfl) | rfl) ?_
        refine AL_assign rfl ?_
        refine AL_assign rfl ?_
        refine AL_norm (by first | (simp only [tput, anyAt, setAll, List.foldl_cons, List.foldl_nil, List.set_cons_zero, List.set_cons_succ]; rfl) | rfl) ?_
        refine AL_nil ?_
        refine seqQ_n ?_
        refine AW_seq ?_
        refine AW_seq ?_
        refine AW_region ?_
        refine AL_move rfl ?_
        refine AL_not rfl ?_
        refine AL_norm (by first | (simp only [tput, anyAt, setAll, List.foldl_cons, List.foldl_nil, List.set_cons_zero, List.set_cons_succ]; rfl) | rfl) ?_
        refine AL_nil ?_
        refine seqQ_n ?_
        refine AW_cond rfl (fun hc13 => ?_) (fun hc13 => ?_)
        · try simp only [Bool.or_eq_true, Bool.and_eq_true, Bool.or_eq_false_iff, Bool.and_eq_false_iff, decide_eq_true_eq, decide_eq_false_iff_not, Bool.not_eq_true', Bool.not_eq_false', beq_iff_eq, ne_eq, Decidable.not_not, List.length_map] at hc13
          refine AW_seq ?_
          refine AW_region ?_
          refine AL_move rfl ?_
          refine AL_norm (by first | (simp only [tput, anyAt, setAll, List.foldl_cons, List.foldl_nil, List.set_cons_zero, List.set_cons_succ]; rfl) | rfl) ?_
          refine AL_eql rfl rfl ?_
          refine AL_move rfl ?_
          refine AL_and (j := 2) (n := 1) (c := 57) (t := 58) (r := 59) (v := ?v14) [58] rfl rfl rfl rfl rfl rfl rfl (fun hg14 => ?_) ?_; rotate_left
          · simp only [List.take_succ_cons, List.take_zero, List.map_cons, List.map_nil, strip, Nat.reduceBEq, beq_self_eq_true, Bool.and_self, Bool.true_and, Bool.false_and, cond_true, cond_false]
            refine AL_callpi en14 (.nil) (by repeat (first | assumption | refine Holds.upd ?_ (by assumption))) (quillworklaw02_awake_ok) ?_
            refine AL_nil (grpQ_mk ?_)
            try simp only [tput, anyAt, setAll, List.foldl_cons, List.foldl_nil, List.set_cons_zero, List.set_cons_succ]
            repeat (first | exact Weak.nil | refine Weak.cons ?_ | refine Weak.consAny ?_)
          refine AL_norm (by first | (simp only [tput, anyAt, setAll, List.foldl_cons, List.foldl_nil, List.set_cons_zero, List.set_cons_succ]; rfl) | rfl) ?_
          refine AL_assign rfl ?_
          refine AL_norm (by first | (simp only [tput, anyAt, setAll, List.foldl_cons, List.foldl_nil, List.set_cons_zero, List.set_cons_succ]; rfl) | rfl) ?_
          refine AL_nil ?_
          refine seqQ_n ?_
          refine AW_ret ?_
          refine seqQ_r ?_
          refine retQ_1 (H' := H) (.inr rfl) rfl (by repeat (first | exact SubH.refl _ | refine SubH.upd ?_ (by assumption))) ?_
          refine K_eq ?_ hK
          exact congrArg (fun b => AV.v (.bool b)) (names_none hc13)
        · try simp only [Bool.or_eq_true, Bool.and_eq_true, Bool.or_eq_false_iff, Bool.and_eq_false_iff, decide_eq_true_eq, decide_eq_false_iff_not, Bool.not_eq_true', Bool.not_eq_false', beq_iff_eq, ne_eq, Decidable.not_not, List.length_map] at hc13
          refine AW_skip ?_
          refine seqQ_n ?_
          refine AW_seq ?_
          refine AW_region ?_
          refine AL_move rfl ?_
          refine AL_norm (by first | (simp only [tput, anyAt, setAll, List.foldl_cons, List.foldl_nil, List.set_cons_zero, List.set_cons_succ]; rfl) | rfl) ?_
          refine AL_move rfl ?_
          refine AL_callp en21 (.cons (.ev rfl) (.cons (.ev rfl) (.nil))) (quillworklaw02_great_ok _ _ (by first | (have := name_size k; omega) | omega)) ?_
          refine AL_callpi en15 (.cons (.ev rfl) (.nil)) (by repeat (first | assumption | refine Holds.upd ?_ (by assumption))) (tags_Find_ok _ (by first | (rw [greatS_size]; have := name_size k; omega) | (rw [greatS_size]; omega) | omega)) ?_
          refine AL_move rfl ?_
          refine AL_norm (by first | (simp only [tput, anyAt, setAll, List.foldl_cons, List.foldl_nil, List.set_cons_zero, List.set_cons_succ]; rfl) | rfl) ?_
          refine AL_extract rfl rfl ?_
          refine AL_extract rfl rfl ?_
          refine AL_assign rfl ?_
          refine AL_assign rfl ?_
          refine AL_norm (by first | (simp only [tput, anyAt, setAll, List.foldl_cons, List.foldl_nil, List.set_cons_zero, List.set_cons_succ]; rfl) | rfl) ?_
          refine AL_nil ?_
          refine seqQ_n ?_
          refine AW_seq ?_
          refine AW_region ?_
          refine AL_move rfl ?_
          refine AL_norm (by first | (simp only [tput, anyAt, setAll, List.foldl_cons, List.foldl_nil, List.set_cons_zero, List.set_cons_succ]; rfl) | rfl) ?_
          refine AL_move rfl ?_
          refine AL_and (j := 1) (n := 3) (c := 68) (t := 71) (r := 72) (v := ?v15) [69, 70, 71] rfl rfl rfl rfl rfl rfl rfl (fun hg15 => ?_) ?_; rotate_left
          · simp only [List.take_succ_cons, List.take_zero, List.map_cons, List.map_nil, strip, Nat.reduceBEq, beq_self_eq_true, Bool.and_self, Bool.true_and, Bool.false_and, cond_true, cond_false]
            refine AL_move rfl ?_
            refine AL_move rfl ?_
            refine AL_eql rfl rfl ?_
            refine AL_nil (grpQ_mk ?_)
            try simp only [tput, anyAt, setAll, List.foldl_cons, List.foldl_nil, List.set_cons_zero, List.set_cons_succ]
            repeat (first | exact Weak.nil | refine Weak.cons ?_ | refine Weak.consAny ?_)
          refine AL_norm (by first | (simp only [tput, anyAt, setAll, List.foldl_cons, List.foldl_nil, List.set_cons_zero, List.set_cons_succ]; rfl) | rfl) ?_
          refine AL_move rfl ?_
          refine AL_norm (by first | (simp only [tput, anyAt, setAll, List.foldl_cons, List.foldl_nil, List.set_cons_zero, List.set_cons_succ]; rfl) | rfl) ?_
          refine AL_and (j := 6) (n := 3) (c := 73) (t := 76) (r := 77) (v := ?v16) [74, 75, 76] rfl rfl rfl rfl rfl rfl rfl (fun hg16 => ?_) ?_; rotate_left
          · simp only [List.take_succ_cons, List.take_zero, List.map_cons, List.map_nil, strip, Nat.reduceBEq, beq_self_eq_true, Bool.and_self, Bool.true_and, Bool.false_and, cond_true, cond_false]
            refine AL_move rfl ?_
            refine AL_callp en20 (.cons (.ev rfl) (.nil)) (tags_Class_ok _) ?_
            refine AL_geq rfl rfl ?_
            refine AL_nil (grpQ_mk ?_)
            try simp only [tput, anyAt, setAll, List.foldl_cons, List.foldl_nil, List.set_cons_zero, List.set_cons_succ]
            repeat (first | exact Weak.nil | refine Weak.cons ?_ | refine Weak.consAny ?_)
          refine AL_norm (by first | (simp only [tput, anyAt, setAll, List.foldl_cons, List.foldl_nil, List.set_cons_zero, List.set_cons_succ]; rfl) | rfl) ?_
          refine AL_move rfl ?_
          refine AL_norm (by first | (simp only [tput, anyAt, setAll, List.foldl_cons, List.foldl_nil, List.set_cons_zero, List.set_cons_succ]; rfl) | rfl) ?_
          refine AL_and (j := 11) (n := 1) (c := 78) (t := 79) (r := 80) (v := ?v17) [79] rfl rfl rfl rfl rfl rfl rfl (fun hg17 => ?_) ?_; rotate_left
          · simp only [List.take_succ_cons, List.take_zero, List.map_cons, List.map_nil, strip, Nat.reduceBEq, beq_self_eq_true, Bool.and_self, Bool.true_and, Bool.false_and, cond_true, cond_false]
            refine AL_callpi en14 (.nil) (by repeat (first | assumption | refine Holds.upd ?_ (by assumption))) (quillworklaw02_awake_ok) ?_
            refine AL_nil (grpQ_mk ?_)
            try simp only [tput, anyAt, setAll, List.foldl_cons, List.foldl_nil, List.set_cons_zero, List.set_cons_succ]
            repeat (first | exact Weak.nil | refine Weak.cons ?_ | refine Weak.consAny ?_)
          refine AL_norm (by first | (simp only [tput, anyAt, setAll, List.foldl_cons, List.foldl_nil, List.set_cons_zero, List.set_cons_succ]; rfl) | rfl) ?_
          refine AL_assign rfl ?_
          refine AL_norm (by first | (simp only [tput, anyAt, setAll, List.foldl_cons, List.foldl_nil, List.set_cons_zero, List.set_cons_succ]; rfl) | rfl) ?_
          refine AL_nil ?_
          refine seqQ_n ?_
          refine AW_ret ?_
          refine retQ_1 (H' := H) (.inr rfl) rfl (by repeat (first | exact SubH.refl _ | refine SubH.upd ?_ (by assumption))) ?_
          refine K_eq ?_ hK
          exact congrArg (fun b => AV.v (.bool b)) (names_all hc13)
end Go.Proofs
