/- The walks of the functions, each said of plain values: no conditions but those in each statement. -/
import Derived.Test.YtcnjcjhdcloniaaDoorTL
import Derived.Test.YtcnjcjhdcloniaaDoorProg
set_option autoImplicit false
set_option linter.unusedVariables false
set_option linter.unusedSimpArgs false
set_option maxRecDepth 100000
namespace Go.Proofs
open Go Go.RowKit Go.AL Go.Tags Go.IntWalk
theorem un9 : Tryd.prog.underlying 9 = some .string := by kernel_rfl
theorem en40 : entersOf Tryd.prog 40 = true := by kernel_rfl
theorem un45 : Tryd.prog.underlying 45 = some (.map 9 3) := by kernel_rfl
theorem en53 : entersOf Tryd.prog 53 = true := by kernel_rfl
theorem en37 : entersOf Tryd.prog 37 = true := by kernel_rfl
theorem en38 : entersOf Tryd.prog 38 = true := by kernel_rfl
theorem ze3 : zeroOf Tryd.prog 3 = some (.int .i64 0) := by kernel_rfl
theorem en15 : entersOf Tryd.prog 15 = true := by kernel_rfl
theorem en22 : entersOf Tryd.prog 22 = true := by kernel_rfl
theorem en19 : entersOf Tryd.prog 19 = true := by kernel_rfl
theorem en17 : entersOf Tryd.prog 17 = true := by kernel_rfl
theorem en14 : entersOf Tryd.prog 14 = true := by kernel_rfl
theorem en16 : entersOf Tryd.prog 16 = true := by kernel_rfl
theorem un4 : Tryd.prog.underlying 4 = some .bool := by kernel_rfl
theorem en18 : entersOf Tryd.prog 18 = true := by kernel_rfl
theorem en23 : entersOf Tryd.prog 23 = true := by kernel_rfl
theorem en24 : entersOf Tryd.prog 24 = true := by kernel_rfl
theorem en26 : entersOf Tryd.prog 26 = true := by kernel_rfl
theorem en27 : entersOf Tryd.prog 27 = true := by kernel_rfl

/-- quillwork/quillworkref02.same -/
theorem quillworkref02_same_ok (s n : ByteArray) (hs : s.size < 35184372088832) :
    PF Tryd.prog 40 [.v (.string s), .v (.string n)] (.v (.bool (sameB s n))) := by
  intro H K hK
  refine AC_of Tryd.func40 rfl (rs := [.tmp 4]) rfl Tryd.ntmps40 rfl ?_
  refine AW_norm (by simp only [List.length_cons, List.length_nil, Nat.reduceAdd, Nat.reduceSub, List.replicate, List.cons_append, List.nil_append]; rfl) ?_
  refine AW_seq ?_
  refine AW_region ?_
  refine AL_assign rfl ?_
  refine AL_norm (by first | (simp only [tput, anyAt, setAll, List.foldl_cons, List.foldl_nil, List.set_cons_zero, List.set_cons_succ]; rfl) | rfl) ?_
  refine AL_nil ?_
  refine seqQ_n ?_
  refine AW_seq ?_
  refine AW_seq ?_
  refine AW_region ?_
  refine AL_move rfl ?_
  refine AL_len_str un9 rfl ?_
  refine AL_move rfl ?_
  refine AL_norm (by first | (simp only [tput, anyAt, setAll, List.foldl_cons, List.foldl_nil, List.set_cons_zero, List.set_cons_succ]; rfl) | rfl) ?_
  refine AL_len_str un9 rfl ?_
  refine AL_neq rfl rfl ?_
  refine AL_norm (by first | (simp only [tput, anyAt, setAll, List.foldl_cons, List.foldl_nil, List.set_cons_zero, List.set_cons_succ]; rfl) | rfl) ?_
  refine AL_nil ?_
  refine seqQ_n ?_
  refine AW_cond rfl (fun hc1 => ?_) (fun hc1 => ?_)
  · try simp only [Bool.or_eq_true, Bool.and_eq_true, Bool.or_eq_false_iff, Bool.and_eq_false_iff, decide_eq_true_eq, decide_eq_false_iff_not, Bool.not_eq_true', Bool.not_eq_false', beq_iff_eq, ne_eq, Decidable.not_not, List.length_map] at hc1
    refine AW_seq ?_
    refine AW_region ?_
    refine AL_assign rfl ?_
    refine AL_norm (by first | (simp only [tput, anyAt, setAll, List.foldl_cons, List.foldl_nil, List.set_cons_zero, List.set_cons_succ]; rfl) | rfl) ?_
    refine AL_nil ?_
    refine seqQ_n ?_
    refine AW_ret ?_
    refine seqQ_r ?_
    refine retQ_1 (H' := H) (.inr rfl) rfl (by repeat (first | exact SubH.refl _ | refine SubH.upd ?_ (by assumption))) ?_
    refine K_eq ?_ hK
    exact congrArg (fun b => AV.v (.bool b)) (same_size (by omega)).symm
  · try simp only [Bool.or_eq_true, Bool.and_eq_true, Bool.or_eq_false_iff, Bool.and_eq_false_iff, decide_eq_true_eq, decide_eq_false_iff_not, Bool.not_eq_true', Bool.not_eq_false', beq_iff_eq, ne_eq, Decidable.not_not, List.length_map] at hc1
    refine AW_skip ?_
    refine seqQ_n ?_
    refine AW_seq ?_
    refine AW_seq ?_
    refine AW_region ?_
    refine AL_assign rfl ?_
    refine AL_norm (by first | (simp only [tput, anyAt, setAll, List.foldl_cons, List.foldl_nil, List.set_cons_zero, List.set_cons_succ]; rfl) | rfl) ?_
    refine AL_nil ?_
    refine seqQ_n ?_
    refine AW_block ?_
    refine AW_loops (α := Nat) [4, 5, 6, 12, 13, 14, 15, 16, 17, 18, 19, 20, 21, 22, 23, 24, 25, 26, 27, 28, 29, 30, 31, 32, 33] (fun i => [(5, .v (.int .i64 (i : Int)))]) (fun i => H) (fun i => i ≤ s.size ∧ ∀ j, j < i → lowR ((bAt s j).toNat : Int) = ((bAt n j).toNat : Int)) (fun i => s.size - i) (0) ?_ ?_ ?_ ?_
    · exact ⟨Nat.zero_le _, fun j hj => absurd hj (Nat.not_lt_zero j)⟩
    · repeat (first | exact SubH.refl _ | assumption | refine SubH.new ?_ (by assumption))
    · skip
      try simp only [tput, anyAt, setAll, List.foldl_cons, List.foldl_nil, List.set_cons_zero, List.set_cons_succ]
      repeat (first | exact Weak.nil | refine Weak.cons ?_ | refine Weak.consAny ?_)
    · intro i hI
      refine AW_norm (by first | (simp only [tput, anyAt, setAll, List.foldl_cons, List.foldl_nil, List.set_cons_zero, List.set_cons_succ]; rfl) | rfl) ?_
      refine AW_seq ?_
      refine AW_seq ?_
      refine AW_region ?_
      refine AL_move rfl ?_
      refine AL_norm (by first | (simp only [tput, anyAt, setAll, List.foldl_cons, List.foldl_nil, List.set_cons_zero, List.set_cons_succ]; rfl) | rfl) ?_
      refine AL_move rfl ?_
      refine AL_len_str un9 rfl ?_
      refine AL_lss rfl rfl ?_
      refine AL_norm (by first | (simp only [tput, anyAt, setAll, List.foldl_cons, List.foldl_nil, List.set_cons_zero, List.set_cons_succ]; rfl) | rfl) ?_
      refine AL_nil ?_
      refine seqQ_n ?_
      refine AW_cond rfl (fun hc2 => ?_) (fun hc2 => ?_)
      · try simp only [Bool.or_eq_true, Bool.and_eq_true, Bool.or_eq_false_iff, Bool.and_eq_false_iff, decide_eq_true_eq, decide_eq_false_iff_not, Bool.not_eq_true', Bool.not_eq_false', beq_iff_eq, ne_eq, Decidable.not_not, List.length_map] at hc2
        refine AW_skip ?_
        refine seqQ_n ?_
        refine AW_seq ?_
        refine AW_block ?_
        refine AW_seq ?_
        refine AW_region ?_
        refine AL_move rfl ?_
        refine AL_norm (by first | (simp only [tput, anyAt, setAll, List.foldl_cons, List.foldl_nil, List.set_cons_zero, List.set_cons_succ]; rfl) | rfl) ?_
        refine AL_move rfl ?_
        first | refine AL_index_strn un9 rfl rfl ?_ ?_ ?_ | refine AL_index_strb un9 rfl rfl ?_ ?_ ?_
        · omega
        · omega
        refine AL_assign rfl ?_
        refine AL_norm (by first | (simp only [tput, anyAt, setAll, List.foldl_cons, List.foldl_nil, List.set_cons_zero, List.set_cons_succ]; rfl) | rfl) ?_
        refine AL_nil ?_
        refine seqQ_n ?_
        refine AW_seq ?_
        refine AW_seq ?_
        refine AW_region ?_
        refine AL_move rfl ?_
        refine AL_norm (by first | (simp only [tput, anyAt, setAll, List.foldl_cons, List.foldl_nil, List.set_cons_zero, List.set_cons_succ]; rfl) | rfl) ?_
        refine AL_geq rfl rfl ?_
        refine AL_move rfl ?_
        refine AL_and (j := 2) (n := 2) (c := 23) (t := 25) (r := 26) (v := ?v3) [24, 25] rfl rfl rfl rfl rfl rfl rfl (fun hg3 => ?_) ?_; rotate_left
        · simp only [List.take_succ_cons, List.take_zero, List.map_cons, List.map_nil, strip, Nat.reduceBEq, beq_self_eq_true, Bool.and_self, Bool.true_and, Bool.false_and, cond_true, cond_false]
          refine AL_move rfl ?_
          refine AL_leq rfl rfl ?_
          refine AL_nil (grpQ_mk ?_)
          try simp only [tput, anyAt, setAll, List.foldl_cons, List.foldl_nil, List.set_cons_zero, List.set_cons_succ]
          repeat (first | exact Weak.nil | refine Weak.cons ?_ | refine Weak.consAny ?_)
        refine AL_norm (by first | (simp only [tput, anyAt, setAll, List.foldl_cons, List.foldl_nil, List.set_cons_zero, List.set_cons_succ]; rfl) | rfl) ?_
        refine AL_norm (by first | (simp only [tput, anyAt, setAll, List.foldl_cons, List.foldl_nil, List.set_cons_zero, List.set_cons_succ]; rfl) | rfl) ?_
        refine AL_nil ?_
        refine seqQ_n ?_
        refine AW_cond rfl (fun hc4 => ?_) (fun hc4 => ?_)
        · try simp only [Bool.or_eq_true, Bool.and_eq_true, Bool.or_eq_false_iff, Bool.and_eq_false_iff, decide_eq_true_eq, decide_eq_false_iff_not, Bool.not_eq_true', Bool.not_eq_false', beq_iff_eq, ne_eq, Decidable.not_not, List.length_map] at hc4
          refine AW_region ?_
          refine AL_move rfl ?_
          refine AL_norm (by first | (simp only [tput, anyAt, setAll, List.foldl_cons, List.foldl_nil, List.set_cons_zero, List.set_cons_succ]; rfl) | rfl) ?_
          refine AL_addz rfl rfl (lowR ((bAt s i).toNat : Int)) (by rw [lowR, if_pos (by omega)]; exact u8_in _ (by omega)) ?_
          refine AL_assign rfl ?_
          refine AL_norm (by first | (simp only [tput, anyAt, setAll, List.foldl_cons, List.foldl_nil, List.set_cons_zero, List.set_cons_succ]; rfl) | rfl) ?_
          refine AL_nil ?_
          refine seqQ_n ?_
          refine AW_seq ?_
          refine AW_region ?_
          refine AL_move rfl ?_
          refine AL_move rfl ?_
          refine AL_norm (by first | (simp only [tput, anyAt, setAll, List.foldl_cons, List.foldl_nil, List.set_cons_zero, List.set_cons_succ]; rfl) | rfl) ?_
          refine AL_move rfl ?_
          first | refine AL_index_strn un9 rfl rfl ?_ ?_ ?_ | refine AL_index_strb un9 rfl rfl ?_ ?_ ?_
          · omega
          · omega
          refine AL_neq rfl rfl ?_
          refine AL_norm (by first | (simp only [tput, anyAt, setAll, List.foldl_cons, List.foldl_nil, List.set_cons_zero, List.set_cons_succ]; rfl) | rfl) ?_
          refine AL_nil ?_
          refine seqQ_n ?_
          refine AW_cond rfl (fun hc5 => ?_) (fun hc5 => ?_)
          · try simp only [Bool.or_eq_true, Bool.and_eq_true, Bool.or_eq_false_iff, Bool.and_eq_false_iff, decide_eq_true_eq, decide_eq_false_iff_not, Bool.not_eq_true', Bool.not_eq_false', beq_iff_eq, ne_eq, Decidable.not_not, List.length_map] at hc5
            refine AW_seq ?_
            refine AW_region ?_
            refine AL_assign rfl ?_
            refine AL_norm (by first | (simp only [tput, anyAt, setAll, List.foldl_cons, List.foldl_nil, List.set_cons_zero, List.set_cons_succ]; rfl) | rfl) ?_
            refine AL_nil ?_
            refine seqQ_n ?_
            refine AW_ret ?_
            refine blockQ_r ?_
            refine seqQ_r ?_
            refine loopQ_r ?_
            refine blockQ_r ?_
            refine seqQ_r ?_
            refine retQ_1 (H' := H) (.inr rfl) rfl (by repeat (first | exact SubH.refl _ | refine SubH.upd ?_ (by assumption))) ?_
            refine K_eq ?_ hK
            exact congrArg (fun b => AV.v (.bool b)) (same_byte (i := i) (by omega) hc5).symm
          · try simp only [Bool.or_eq_true, Bool.and_eq_true, Bool.or_eq_false_iff, Bool.and_eq_false_iff, decide_eq_true_eq, decide_eq_false_iff_not, Bool.not_eq_true', Bool.not_eq_false', beq_iff_eq, ne_eq, Decidable.not_not, List.length_map] at hc5
            refine AW_skip ?_
            refine blockQ_n ?_
            refine seqQ_n ?_
            refine AW_region ?_
            refine AL_move rfl ?_
            refine AL_norm (by first | (simp only [tput, anyAt, setAll, List.foldl_cons, List.foldl_nil, List.set_cons_zero, List.set_cons_succ]; rfl) | rfl) ?_
            refine AL_addz rfl rfl (((i + 1 : Nat) : Int)) (by exact inc64 (by omega)) ?_
            refine AL_assign rfl ?_
            refine AL_norm (by first | (simp only [tput, anyAt, setAll, List.foldl_cons, List.foldl_nil, List.set_cons_zero, List.set_cons_succ]; rfl) | rfl) ?_
            refine AL_nil ?_
            refine loopQ_n (i + 1) ?_ ?_ ?_ ?_
            · exact ⟨by omega, fun j hj => by rcases Nat.lt_or_ge j i with h | h; exact hI.2 j h; rw [show j = i by omega]; exact hc5⟩
            · omega
            · repeat (first | exact SubH.refl _ | assumption | refine SubH.new ?_ (by assumption))
            · skip
              try simp only [tput, anyAt, setAll, List.foldl_cons, List.foldl_nil, List.set_cons_zero, List.set_cons_succ]
              repeat (first | exact Weak.nil | refine Weak.cons ?_ | refine Weak.consAny ?_)
        · try simp only [Bool.or_eq_true, Bool.and_eq_true, Bool.or_eq_false_iff, Bool.and_eq_false_iff, decide_eq_true_eq, decide_eq_false_iff_not, Bool.not_eq_true', Bool.not_eq_false', beq_iff_eq, ne_eq, Decidable.not_not, List.length_map] at hc4
          refine AW_skip ?_
          refine seqQ_n ?_
          refine AW_seq ?_
          refine AW_region ?_
          refine AL_move rfl ?_
          refine AL_move rfl ?_
          refine AL_norm (by first | (simp only [tput, anyAt, setAll, List.foldl_cons, List.foldl_nil, List.set_cons_zero, List.set_cons_succ]; rfl) | rfl) ?_
          refine AL_move rfl ?_
          first | refine AL_index_strn un9 rfl rfl ?_ ?_ ?_ | refine AL_index_strb un9 rfl rfl ?_ ?_ ?_
          · omega
          · omega
          refine AL_neq rfl rfl ?_
          refine AL_norm (by first | (simp only [tput, anyAt, setAll, List.foldl_cons, List.foldl_nil, List.set_cons_zero, List.set_cons_succ]; rfl) | rfl) ?_
          refine AL_nil ?_
          refine seqQ_n ?_
          refine AW_cond rfl (fun hc6 => ?_) (fun hc6 => ?_)
          · try simp only [Bool.or_eq_true, Bool.and_eq_true, Bool.or_eq_false_iff, Bool.and_eq_false_iff, decide_eq_true_eq, decide_eq_false_iff_not, Bool.not_eq_true', Bool.not_eq_false', beq_iff_eq, ne_eq, Decidable.not_not, List.length_map] at hc6
            refine AW_seq ?_
            refine AW_region ?_
            refine AL_assign rfl ?_
            refine AL_norm (by first | (simp only [tput, anyAt, setAll, List.foldl_cons, List.foldl_nil, List.set_cons_zero, List.set_cons_succ]; rfl) | rfl) ?_
            refine AL_nil ?_
            refine seqQ_n ?_
            refine AW_ret ?_
            refine blockQ_r ?_
            refine seqQ_r ?_
            refine loopQ_r ?_
            refine blockQ_r ?_
            refine seqQ_r ?_
            refine retQ_1 (H' := H) (.inr rfl) rfl (by repeat (first | exact SubH.refl _ | refine SubH.upd ?_ (by assumption))) ?_
            refine K_eq ?_ hK
            exact congrArg (fun b => AV.v (.bool b)) (same_byte (i := i) (by omega) (by rw [low_not (by omega)]; exact hc6)).symm
          · try simp only [Bool.or_eq_true, Bool.and_eq_true, Bool.or_eq_false_iff, Bool.and_eq_false_iff, decide_eq_true_eq, decide_eq_false_iff_not, Bool.not_eq_true', Bool.not_eq_false', beq_iff_eq, ne_eq, Decidable.not_not, List.length_map] at hc6
            refine AW_skip ?_
            refine blockQ_n ?_
            refine seqQ_n ?_
            refine AW_region ?_
            refine AL_move rfl ?_
            refine AL_norm (by first | (simp only [tput, anyAt, setAll, List.foldl_cons, List.foldl_nil, List.set_cons_zero, List.set_cons_succ]; rfl) | rfl) ?_
            refine AL_addz rfl rfl (((i + 1 : Nat) : Int)) (by exact inc64 (by omega)) ?_
            refine AL_assign rfl ?_
            refine AL_norm (by first | (simp only [tput, anyAt, setAll, List.foldl_cons, List.foldl_nil, List.set_cons_zero, List.set_cons_succ]; rfl) | rfl) ?_
            refine AL_nil ?_
            refine loopQ_n (i + 1) ?_ ?_ ?_ ?_
            · exact ⟨by omega, fun j hj => by rcases Nat.lt_or_ge j i with h | h; exact hI.2 j h; rw [show j = i by omega]; rw [low_not (by omega)]; exact hc6⟩
            · omega
            · repeat (first | exact SubH.refl _ | assumption | refine SubH.new ?_ (by assumption))
            · skip
              try simp only [tput, anyAt, setAll, List.foldl_cons, List.foldl_nil, List.set_cons_zero, List.set_cons_succ]
              repeat (first | exact Weak.nil | refine Weak.cons ?_ | refine Weak.consAny ?_)
      · try simp only [Bool.or_eq_true, Bool.and_eq_true, Bool.or_eq_false_iff, Bool.and_eq_false_iff, decide_eq_true_eq, decide_eq_false_iff_not, Bool.not_eq_true', Bool.not_eq_false', beq_iff_eq, ne_eq, Decidable.not_not, List.length_map] at hc2
        refine AW_exit ?_
        refine seqQ_x ?_
        refine loopQ_x ?_
        refine blockQ_hit ?_
        refine seqQ_n ?_
        refine AW_seq ?_
        refine AW_region ?_
        refine AL_assign rfl ?_
        refine AL_norm (by first | (simp only [tput, anyAt, setAll, List.foldl_cons, List.foldl_nil, List.set_cons_zero, List.set_cons_succ]; rfl) | rfl) ?_
        refine AL_nil ?_
        refine seqQ_n ?_
        refine AW_ret ?_
        refine retQ_1 (H' := H) (.inr rfl) rfl (by repeat (first | exact SubH.refl _ | refine SubH.upd ?_ (by assumption))) ?_
        refine K_eq ?_ hK
        exact congrArg (fun b => AV.v (.bool b)) (same_all (by omega) (fun j hj => hI.2 j (by omega))).symm

/-- quillwork/quillworkref02.Find -/
theorem quillworkref02_Find_ok (x : ByteArray) (hs : x.size < 35184372088832) :
    PF Tryd.prog 16 [.v (.string x)] (findAV (refFind x)) := by
  intro H K hK
  refine AC_of Tryd.func16 rfl (rs := [.tmp 2, .tmp 3]) rfl Tryd.ntmps16 rfl ?_
  refine AW_norm (by simp only [List.length_cons, List.length_nil, Nat.reduceAdd, Nat.reduceSub, List.replicate, List.cons_append, List.nil_append]; rfl) ?_
  refine AW_seq ?_
  refine AW_region ?_
  refine AL_assign rfl ?_
  refine AL_assign rfl ?_
  refine AL_norm (by first | (simp only [tput, anyAt, setAll, List.foldl_cons, List.foldl_nil, List.set_cons_zero, List.set_cons_succ]; rfl) | rfl) ?_
  refine AL_nil ?_
  refine seqQ_n ?_
  refine AW_seq ?_
  refine AW_seq ?_
  refine AW_region ?_
  refine AL_assign rfl ?_
  refine AL_norm (by first | (simp only [tput, anyAt, setAll, List.foldl_cons, List.foldl_nil, List.set_cons_zero, List.set_cons_succ]; rfl) | rfl) ?_
  refine AL_nil ?_
  refine seqQ_n ?_
  refine AW_block ?_
  refine AW_loops (α := Nat) [2, 3, 4, 5, 6, 7, 8, 9, 10, 11, 12, 13, 14, 15, 16, 17, 18, 19, 20, 21, 22, 23, 24, 25] (fun s => [(4, .v (.int .i64 (s : Int)))]) (fun s => H) (fun s => 1 ≤ s ∧ s ≤ 17 ∧ ∀ j, 1 ≤ j → j < s → hits x j = false) (fun s => 17 - s) (1) ?_ ?_ ?_ ?_
  · exact ⟨Nat.le_refl _, by omega, fun j h1 h2 => absurd h2 (by omega)⟩
  · repeat (first | exact SubH.refl _ | assumption | refine SubH.new ?_ (by assumption))
  · skip
    try simp only [tput, anyAt, setAll, List.foldl_cons, List.foldl_nil, List.set_cons_zero, List.set_cons_succ]
    repeat (first | exact Weak.nil | refine Weak.cons ?_ | refine Weak.consAny ?_)
  · intro k hI
    refine AW_norm (by first | (simp only [tput, anyAt, setAll, List.foldl_cons, List.foldl_nil, List.set_cons_zero, List.set_cons_succ]; rfl) | rfl) ?_
    refine AW_seq ?_
    refine AW_seq ?_
    refine AW_region ?_
    refine AL_move rfl ?_
    refine AL_norm (by first | (simp only [tput, anyAt, setAll, List.foldl_cons, List.foldl_nil, List.set_cons_zero, List.set_cons_succ]; rfl) | rfl) ?_
    refine AL_leq rfl rfl ?_
    refine AL_norm (by first | (simp only [tput, anyAt, setAll, List.foldl_cons, List.foldl_nil, List.set_cons_zero, List.set_cons_succ]; rfl) | rfl) ?_
    refine AL_nil ?_
    refine seqQ_n ?_
    refine AW_cond rfl (fun hc1 => ?_) (fun hc1 => ?_)
    · try simp only [Bool.or_eq_true, Bool.and_eq_true, Bool.or_eq_false_iff, Bool.and_eq_false_iff, decide_eq_true_eq, decide_eq_false_iff_not, Bool.not_eq_true', Bool.not_eq_false', beq_iff_eq, ne_eq, Decidable.not_not, List.length_map] at hc1
      refine AW_skip ?_
      refine seqQ_n ?_
      refine AW_seq ?_
      refine AW_block ?_
      refine AW_seq ?_
      refine AW_region ?_
      refine AL_move rfl ?_
      refine AL_callp en39 (.cons (.ev rfl) (.nil)) (quillworkref02_Names_ok _) ?_
      refine AL_assign rfl ?_
      refine AL_norm (by first | (simp only [tput, anyAt, setAll, List.foldl_cons, List.foldl_nil, List.set_cons_zero, List.set_cons_succ]; rfl) | rfl) ?_
      refine AL_nil ?_
      refine seqQ_n ?_
      refine AW_seq ?_
      refine AW_region ?_
      refine AL_assign rfl ?_
      refine AL_norm (by first | (simp only [tput, anyAt, setAll, List.foldl_cons, List.foldl_nil, List.set_cons_zero, List.set_cons_succ]; rfl) | rfl) ?_
      refine AL_nil ?_
      refine seqQ_n ?_
      refine AW_block ?_
      refine AW_loops (α := Nat) [2, 3, 6, 13, 14, 15, 16, 17, 18, 19, 20, 21, 22, 23, 24, 25] (fun s => [(6, .v (.int .i64 (s : Int)))]) (fun s => H) (fun s => s ≤ (nm k).length ∧ ∀ j, j < s → sameB x ((nm k).getD j ⟨#[]⟩) = false) (fun s => (nm k).length - s) (0) ?_ ?_ ?_ ?_
      · exact ⟨Nat.zero_le _, fun j hj => absurd hj (Nat.not_lt_zero j)⟩
      · repeat (first | exact SubH.refl _ | assumption | refine SubH.new ?_ (by assumption))
      · skip
        try simp only [tput, anyAt, setAll, List.foldl_cons, List.foldl_nil, List.set_cons_zero, List.set_cons_succ]
        repeat (first | exact Weak.nil | refine Weak.cons ?_ | refine Weak.consAny ?_)
      · intro i hJ; have hl3 := nm_len k
        refine AW_norm (by first | (simp only [tput, anyAt, setAll, List.foldl_cons, List.foldl_nil, List.set_cons_zero, List.set_cons_succ]; rfl) | rfl) ?_
        refine AW_seq ?_
        refine AW_seq ?_
        refine AW_region ?_
        refine AL_move rfl ?_
        refine AL_norm (by first | (simp only [tput, anyAt, setAll, List.foldl_cons, List.foldl_nil, List.set_cons_zero, List.set_cons_succ]; rfl) | rfl) ?_
        refine AL_move rfl ?_
        first | refine AL_len_sl un48 rfl ?_ | refine AL_len_own un48 rfl ?_
        refine AL_lss rfl rfl ?_
        refine AL_norm (by first | (simp only [tput, anyAt, setAll, List.foldl_cons, List.foldl_nil, List.set_cons_zero, List.set_cons_succ]; rfl) | rfl) ?_
        refine AL_nil ?_
        refine seqQ_n ?_
        refine AW_cond rfl (fun hc2 => ?_) (fun hc2 => ?_)
        · try simp only [Bool.or_eq_true, Bool.and_eq_true, Bool.or_eq_false_iff, Bool.and_eq_false_iff, decide_eq_true_eq, decide_eq_false_iff_not, Bool.not_eq_true', Bool.not_eq_false', beq_iff_eq, ne_eq, Decidable.not_not, List.length_map] at hc2
          refine AW_skip ?_
          refine seqQ_n ?_
          refine AW_seq ?_
          refine AW_block ?_
          refine AW_seq ?_
          refine AW_region ?_
          refine AL_move rfl ?_
          refine AL_norm (by first | (simp only [tput, anyAt, setAll, List.foldl_cons, List.foldl_nil, List.set_cons_zero, List.set_cons_succ]; rfl) | rfl) ?_
          refine AL_move rfl ?_
          refine AL_move rfl ?_
          first | refine AL_indexAddr_sl (y := strAV ((nm k).getD i ⟨#[]⟩)) un48 sz9 (by decide) rfl rfl ?_ ?_ ?_ ?_ | refine AL_indexAddr_own un48 sz9 rfl rfl ?_ ?_ ?_
          · omega
          · simp only [List.length_map]; omega
          · exact map_at (n := i) (by omega)
          first | refine AL_load_rp sz9 rfl ag9 ?_ | refine AL_loadw sz9 rfl (by repeat (first | exact AH.upd_same _ _ _ | exact hH | assumption | refine AH.look_other (by assumption) ?_)) (by exact ag9) (by exact rfl) ?_ | refine AL_load_pt ag9 sz9 (by decide) rfl (by repeat (first | exact AH.upd_same _ _ _ | exact hH | assumption | refine AH.look_other (by assumption) ?_)) (by first | assumption | exact sz54 | exact sz9 | exact sz51 | exact sz48 | exact sz3) (by exact rfl) (by exact rfl) (by exact rfl) ?_
          refine AL_norm (by first | (simp only [tput, anyAt, setAll, List.foldl_cons, List.foldl_nil, List.set_cons_zero, List.set_cons_succ]; rfl) | rfl) ?_
          refine AL_callp en40 (.cons (.ev rfl) (.cons (.ev rfl) (.nil))) (quillworkref02_same_ok _ _ hs) ?_
          refine AL_norm (by first | (simp only [tput, anyAt, setAll, List.foldl_cons, List.foldl_nil, List.set_cons_zero, List.set_cons_succ]; rfl) | rfl) ?_
          refine AL_nil ?_
          refine seqQ_n ?_
          refine AW_cond rfl (fun hc3 => ?_) (fun hc3 => ?_)
          · try simp only [Bool.or_eq_true, Bool.and_eq_true, Bool.or_eq_false_iff, Bool.and_eq_false_iff, decide_eq_true_eq, decide_eq_false_iff_not, Bool.not_eq_true', Bool.not_eq_false', beq_iff_eq, ne_eq, Decidable.not_not, List.length_map] at hc3
            refine AW_seq ?_
            refine AW_region ?_
            refine AL_move rfl ?_
            refine AL_assign rfl ?_
            refine AL_assign rfl ?_
            refine AL_norm (by first | (simp only [tput, anyAt, setAll, List.foldl_cons, List.foldl_nil, List.set_cons_zero, List.set_cons_succ]; rfl) | rfl) ?_
            refine AL_nil ?_
            refine seqQ_n ?_
            refine AW_ret ?_
            refine blockQ_r ?_
            refine seqQ_r ?_
            refine loopQ_r ?_
            refine blockQ_r ?_
            refine blockQ_r ?_
            refine seqQ_r ?_
            refine loopQ_r ?_
            refine blockQ_r ?_
            refine seqQ_r ?_
            refine retQ_2 (H' := H) (.inr rfl) rfl rfl (by repeat (first | exact SubH.refl _ | refine SubH.upd ?_ (by assumption))) ?_
            refine K_eq ?_ hK
            exact congrArg findAV (refFind_some hI.1 (by omega) hI.2.2 (by omega) hc3).symm
          · try simp only [Bool.or_eq_true, Bool.and_eq_true, Bool.or_eq_false_iff, Bool.and_eq_false_iff, decide_eq_true_eq, decide_eq_false_iff_not, Bool.not_eq_true', Bool.not_eq_false', beq_iff_eq, ne_eq, Decidable.not_not, List.length_map] at hc3
            refine AW_skip ?_
            refine blockQ_n ?_
            refine seqQ_n ?_
            refine AW_region ?_
            refine AL_move rfl ?_
            refine AL_norm (by first | (simp only [tput, anyAt, setAll, List.foldl_cons, List.foldl_nil, List.set_cons_zero, List.set_cons_succ]; rfl) | rfl) ?_
            refine AL_addz rfl rfl (((i + 1 : Nat) : Int)) (by exact inc64 (by omega)) ?_
            refine AL_assign rfl ?_
            refine AL_norm (by first | (simp only [tput, anyAt, setAll, List.foldl_cons, List.foldl_nil, List.set_cons_zero, List.set_cons_succ]; rfl) | rfl) ?_
            refine AL_nil ?_
            refine loopQ_n (i + 1) ?_ ?_ ?_ ?_
            · exact ⟨by omega, upto_no hJ.2 hc3⟩
            · omega
            · repeat (first | exact SubH.refl _ | assumption | refine SubH.new ?_ (by assumption))
            · skip
              try simp only [tput, anyAt, setAll, List.foldl_cons, List.foldl_nil, List.set_cons_zero, List.set_cons_succ]
              repeat (first | exact Weak.nil | refine Weak.cons ?_ | refine Weak.consAny ?_)
        · try simp only [Bool.or_eq_true, Bool.and_eq_true, Bool.or_eq_false_iff, Bool.and_eq_false_iff, decide_eq_true_eq, decide_eq_false_iff_not, Bool.not_eq_true', Bool.not_eq_false', beq_iff_eq, ne_eq, Decidable.not_not, List.length_map] at hc2
          refine AW_exit ?_
          refine seqQ_x ?_
          refine loopQ_x ?_
          refine blockQ_hit ?_
          refine blockQ_n ?_
          refine seqQ_n ?_
          refine AW_region ?_
          refine AL_move rfl ?_
          refine AL_addz rfl rfl (((k + 1 : Nat) : Int)) (by exact inc64 (by omega)) ?_
          refine AL_norm (by first | (simp only [tput, anyAt, setAll, List.foldl_cons, List.foldl_nil, List.set_cons_zero, List.set_cons_succ]; rfl) | rfl) ?_
          refine AL_assign rfl ?_
          refine AL_norm (by first | (simp only [tput, anyAt, setAll, List.foldl_cons, List.foldl_nil, List.set_cons_zero, List.set_cons_succ]; rfl) | rfl) ?_
          refine AL_nil ?_
          refine loopQ_n (k + 1) ?_ ?_ ?_ ?_
          · exact ⟨by omega, by omega, fun j h1 h2 => by rcases Nat.lt_or_ge j k with h | h; exact hI.2.2 j h1 h; rw [show j = k by omega]; exact hits_no (i := i) (by omega) hJ.2⟩
          · omega
          · repeat (first | exact SubH.refl _ | assumption | refine SubH.new ?_ (by assumption))
          · skip
            try simp only [tput, anyAt, setAll, List.foldl_cons, List.foldl_nil, List.set_cons_zero, List.set_cons_succ]
            repeat (first | exact Weak.nil | refine Weak.cons ?_ | refine Weak.consAny ?_)
    · try simp only [Bool.or_eq_true, Bool.and_eq_true, Bool.or_eq_false_iff, Bool.and_eq_false_iff, decide_eq_true_eq, decide_eq_false_iff_not, Bool.not_eq_true', Bool.not_eq_false', beq_iff_eq, ne_eq, Decidable.not_not, List.length_map] at hc1
      refine AW_exit ?_
      refine seqQ_x ?_
      refine loopQ_x ?_
      refine blockQ_hit ?_
      refine seqQ_n ?_
      refine AW_seq ?_
      refine AW_region ?_
      refine AL_assign rfl ?_
      refine AL_assign rfl ?_
      refine AL_norm (by first | (simp only [tput, anyAt, setAll, List.foldl_cons, List.foldl_nil, List.set_cons_zero, List.set_cons_succ]; rfl) | rfl) ?_
      refine AL_nil ?_
      refine seqQ_n ?_
      refine AW_ret ?_
      refine retQ_2 (H' := H) (.inr rfl) rfl rfl (by repeat (first | exact SubH.refl _ | refine SubH.upd ?_ (by assumption))) ?_
      refine K_eq ?_ hK
      exact congrArg findAV (refFind_none (fun j h1 h2 => hI.2.2 j h1 (by omega))).symm

/-- quillwork/tags.names -/
theorem tags_names_ok  :
    ∀ H (K : AV → AH → Prop), (∀ b, H b = none → K (.v (.map (some b))) (H.upd b (some (.raw (mapObj namesMap))))) → AC Tryd.prog 37 [] H K := by
  intro H K hK
  refine AC_of Tryd.func37 rfl (rs := [.tmp 0]) rfl Tryd.ntmps37 rfl ?_
  refine AW_norm (by simp only [List.length_cons, List.length_nil, Nat.reduceAdd, Nat.reduceSub, List.replicate, List.cons_append, List.nil_append]; rfl) ?_
  refine AW_seq ?_
  refine AW_region ?_
  refine AL_assign rfl ?_
  refine AL_norm (by first | (simp only [tput, anyAt, setAll, List.foldl_cons, List.foldl_nil, List.set_cons_zero, List.set_cons_succ]; rfl) | rfl) ?_
  refine AL_nil ?_
  refine seqQ_n ?_
  refine AW_seq ?_
  refine AW_region ?_
  refine AL_makeMap ?_
  intro b1 hb1
  have hn1 : H b1 = none := SubH.none (by repeat (first | exact SubH.refl _ | refine SubH.upd ?_ (by assumption))) hb1
  refine AL_assign rfl ?_
  refine AL_norm (by first | (simp only [tput, anyAt, setAll, List.foldl_cons, List.foldl_nil, List.set_cons_zero, List.set_cons_succ]; rfl) | rfl) ?_
  refine AL_nil ?_
  refine seqQ_n ?_
  refine AW_seq ?_
  refine AW_seq ?_
  refine AW_region ?_
  refine AL_callp en42 (.nil) (tags_table_ok) ?_
  refine AL_norm (by first | (simp only [tput, anyAt, setAll, List.foldl_cons, List.foldl_nil, List.set_cons_zero, List.set_cons_succ]; rfl) | rfl) ?_
  refine AL_move rfl ?_
  refine AL_norm (by first | (simp only [tput, anyAt, setAll, List.foldl_cons, List.foldl_nil, List.set_cons_zero, List.set_cons_succ]; rfl) | rfl) ?_
  refine AL_nil ?_
  refine seqQ_n ?_
  refine AW_block ?_
  refine AW_loops (α := Nat) [2, 3, 5, 8, 9, 10, 11, 12, 13, 14, 15, 16, 17, 18, 19, 20, 21, 22, 23] (fun s => [(8, .v (.int .i64 (s : Int)))]) (fun s => H.upd b1 (some (.raw (mapObj (upto s))))) (fun s => s ≤ 17) (fun s => 17 - s) (0) ?_ ?_ ?_ ?_
  · exact Nat.zero_le _
  · repeat (first | exact SubH.refl _ | assumption | refine SubH.new ?_ (by assumption))
  · skip
    try simp only [tput, anyAt, setAll, List.foldl_cons, List.foldl_nil, List.set_cons_zero, List.set_cons_succ]
    repeat (first | exact Weak.nil | refine Weak.cons ?_ | refine Weak.consAny ?_)
  · intro k hI
    refine AW_norm (by first | (simp only [tput, anyAt, setAll, List.foldl_cons, List.foldl_nil, List.set_cons_zero, List.set_cons_succ]; rfl) | rfl) ?_
    refine AW_seq ?_
    refine AW_region ?_
    refine AL_lss rfl rfl ?_
    refine AL_norm (by first | (simp only [tput, anyAt, setAll, List.foldl_cons, List.foldl_nil, List.set_cons_zero, List.set_cons_succ]; rfl) | rfl) ?_
    refine AL_nil ?_
    refine seqQ_n ?_
    refine AW_seq ?_
    refine AW_cond rfl (fun hc1 => ?_) (fun hc1 => ?_)
    · try simp only [Bool.or_eq_true, Bool.and_eq_true, Bool.or_eq_false_iff, Bool.and_eq_false_iff, decide_eq_true_eq, decide_eq_false_iff_not, Bool.not_eq_true', Bool.not_eq_false', beq_iff_eq, ne_eq, Decidable.not_not, List.length_map] at hc1
      refine AW_skip ?_
      refine seqQ_n ?_
      refine AW_seq ?_
      refine AW_block ?_
      refine AW_seq ?_
      refine AW_region ?_
      refine AL_move rfl ?_
      refine AL_index_arr (y := tagRow k) un54 ag51 sz51 rfl rfl ?_ ?_ ?_ ?_
      · omega
      · omega
      · exact row_at (k := (k : Int)) (by omega) (by omega)
      refine AL_norm (by first | (simp only [tput, anyAt, setAll, List.foldl_cons, List.foldl_nil, List.set_cons_zero, List.set_cons_succ]; rfl) | rfl) ?_
      refine AL_alloc ze51 (.agg (.own (.v .nil))) rfl sz51 rfl ?_
      intro b2 hb2
      have hn2 : H b2 = none := SubH.none (by repeat (first | exact SubH.refl _ | refine SubH.upd ?_ (by assumption))) hb2
      have hd2_1 : b2 ≠ b1 := fun e => by subst e; simp [AH.upd, *] at hb2
      have hd1_2 : b1 ≠ b2 := Ne.symm hd2_1
      refine AL_assign rfl ?_
      first | refine AL_store_w sz51 rfl (.ev rfl) rfl (by repeat (first | exact AH.upd_same _ _ _ | exact hH | assumption | refine AH.look_other (by assumption) ?_)) rfl (by exact rfl) ?_ | refine AL_store rfl (.ev rfl) rfl (by repeat (first | exact AH.upd_same _ _ _ | exact hH | assumption | refine AH.look_other (by assumption) ?_)) (by first | assumption | exact sz54 | exact sz9 | exact sz51 | exact sz48 | exact sz3) (by exact rfl) sz51 rfl (by decide) (fun h => by first | (cases h; done) | exact ⟨rfl, rfl, rfl⟩) ?_
      refine AL_heap (by first | (simp only [AH.upd_upd]; rfl) | rfl) ?_
      refine AL_norm (by first | (simp only [tput, anyAt, setAll, List.foldl_cons, List.foldl_nil, List.set_cons_zero, List.set_cons_succ]; rfl) | rfl) ?_
      refine AL_nil ?_
      refine seqQ_n ?_
      refine AW_seq ?_
      refine AW_region ?_
      first | refine AL_fieldAddr_pt fl51_0 sz48 (by decide) rfl ?_ | refine AL_fieldAddr_rp fl51_0 ag48 sz48 (by decide) (by decide) rfl rfl (fun _ => rfl) ?_
      refine AL_norm (by first | (simp only [tput, anyAt, setAll, List.foldl_cons, List.foldl_nil, List.set_cons_zero, List.set_cons_succ]; rfl) | rfl) ?_
      first | refine AL_load_rp sz48 rfl ag48 ?_ | refine AL_loadw sz48 rfl (by repeat (first | exact AH.upd_same _ _ _ | exact hH | assumption | refine AH.look_other (by assumption) ?_)) (by exact ag48) (by exact rfl) ?_ | refine AL_load_pt ag48 sz48 (by decide) rfl (by repeat (first | exact AH.upd_same _ _ _ | exact hH | assumption | refine AH.look_other (by assumption) ?_)) (by first | assumption | exact sz54 | exact sz9 | exact sz51 | exact sz48 | exact sz3) (by exact rfl) (by exact rfl) (by exact rfl) ?_
      first | refine AL_len_sl un48 rfl ?_ | refine AL_len_own un48 rfl ?_
      refine AL_move rfl ?_
      refine AL_norm (by first | (simp only [tput, anyAt, setAll, List.foldl_cons, List.foldl_nil, List.set_cons_zero, List.set_cons_succ]; rfl) | rfl) ?_
      refine AL_nil ?_
      refine seqQ_n ?_
      refine AW_block ?_
      refine AW_loops (α := Nat) [5, 15, 16, 17, 18, 19, 20, 21, 22] (fun s => [(15, .v (.int .i64 (s : Int)))]) (fun s => H.upd b1 (some (.raw (mapObj (addNames (upto k) ((nm k).take s) k))))) (fun s => s ≤ (nm k).length) (fun s => (nm k).length - s) (0) ?_ ?_ ?_ ?_
      · exact Nat.zero_le _
      · repeat (first | exact SubH.refl _ | assumption | refine SubH.new ?_ (by assumption))
      · skip
        try simp only [tput, anyAt, setAll, List.foldl_cons, List.foldl_nil, List.set_cons_zero, List.set_cons_succ]
        repeat (first | exact Weak.nil | refine Weak.cons ?_ | refine Weak.consAny ?_)
      · intro i hJ; have hl3 := nm_len k
        refine AW_norm (by first | (simp only [tput, anyAt, setAll, List.foldl_cons, List.foldl_nil, List.set_cons_zero, List.set_cons_succ]; rfl) | rfl) ?_
        refine AW_seq ?_
        refine AW_region ?_
        refine AL_lss rfl rfl ?_
        refine AL_norm (by first | (simp only [tput, anyAt, setAll, List.foldl_cons, List.foldl_nil, List.set_cons_zero, List.set_cons_succ]; rfl) | rfl) ?_
        refine AL_nil ?_
        refine seqQ_n ?_
        refine AW_seq ?_
        refine AW_cond rfl (fun hc2 => ?_) (fun hc2 => ?_)
        · try simp only [Bool.or_eq_true, Bool.and_eq_true, Bool.or_eq_false_iff, Bool.and_eq_false_iff, decide_eq_true_eq, decide_eq_false_iff_not, Bool.not_eq_true', Bool.not_eq_false', beq_iff_eq, ne_eq, Decidable.not_not, List.length_map] at hc2
          refine AW_skip ?_
          refine seqQ_n ?_
          refine AW_seq ?_
          refine AW_block ?_
          refine AW_seq ?_
          refine AW_region ?_
          first | refine AL_indexAddr_sl (y := strAV ((nm k).getD i ⟨#[]⟩)) un48 sz9 (by decide) rfl rfl ?_ ?_ ?_ ?_ | refine AL_indexAddr_own un48 sz9 rfl rfl ?_ ?_ ?_
          · omega
          · simp only [List.length_map]; omega
          · exact map_at (n := i) (by omega)
          refine AL_norm (by first | (simp only [tput, anyAt, setAll, List.foldl_cons, List.foldl_nil, List.set_cons_zero, List.set_cons_succ]; rfl) | rfl) ?_
          first | refine AL_load_rp sz9 rfl ag9 ?_ | refine AL_loadw sz9 rfl (by repeat (first | exact AH.upd_same _ _ _ | exact hH | assumption | refine AH.look_other (by assumption) ?_)) (by exact ag9) (by exact rfl) ?_ | refine AL_load_pt ag9 sz9 (by decide) rfl (by repeat (first | exact AH.upd_same _ _ _ | exact hH | assumption | refine AH.look_other (by assumption) ?_)) (by first | assumption | exact sz54 | exact sz9 | exact sz51 | exact sz48 | exact sz3) (by exact rfl) (by exact rfl) (by exact rfl) ?_
          refine AL_assign rfl ?_
          refine AL_norm (by first | (simp only [tput, anyAt, setAll, List.foldl_cons, List.foldl_nil, List.set_cons_zero, List.set_cons_succ]; rfl) | rfl) ?_
          refine AL_nil ?_
          refine seqQ_n ?_
          refine AW_region ?_
          refine AL_move rfl ?_
          refine AL_move rfl ?_
          refine AL_norm (by first | (simp only [tput, anyAt, setAll, List.foldl_cons, List.foldl_nil, List.set_cons_zero, List.set_cons_succ]; rfl) | rfl) ?_
          refine AL_move rfl ?_
          refine AL_mapUpdate un45 un9 rfl rfl rfl (by repeat (first | exact AH.upd_same _ _ _ | exact hH | assumption | refine AH.look_other (by assumption) ?_)) ?_
          refine AL_heap (by first | (simp only [AH.upd_upd]; rfl) | rfl) ?_
          refine AL_norm (by first | (simp only [tput, anyAt, setAll, List.foldl_cons, List.foldl_nil, List.set_cons_zero, List.set_cons_succ]; rfl) | rfl) ?_
          refine AL_nil ?_
          refine blockQ_n ?_
          refine seqQ_n ?_
          refine AW_region ?_
          refine AL_addz rfl rfl (((i + 1 : Nat) : Int)) (by exact inc64 (by omega)) ?_
          refine AL_move rfl ?_
          refine AL_norm (by first | (simp only [tput, anyAt, setAll, List.foldl_cons, List.foldl_nil, List.set_cons_zero, List.set_cons_succ]; rfl) | rfl) ?_
          refine AL_nil ?_
          refine loopQ_n (i + 1) ?_ ?_ ?_ ?_
          · exact (by omega)
          · omega
          · rw [← addNames_next (by omega)]; exact SubH.refl _
          · skip
            try simp only [tput, anyAt, setAll, List.foldl_cons, List.foldl_nil, List.set_cons_zero, List.set_cons_succ]
            repeat (first | exact Weak.nil | refine Weak.cons ?_ | refine Weak.consAny ?_)
        · try simp only [Bool.or_eq_true, Bool.and_eq_true, Bool.or_eq_false_iff, Bool.and_eq_false_iff, decide_eq_true_eq, decide_eq_false_iff_not, Bool.not_eq_true', Bool.not_eq_false', beq_iff_eq, ne_eq, Decidable.not_not, List.length_map] at hc2
          refine AW_exit ?_
          refine seqQ_x ?_
          refine loopQ_x ?_
          refine blockQ_hit ?_
          refine blockQ_n ?_
          refine seqQ_n ?_
          refine AW_region ?_
          refine AL_addz rfl rfl (((k + 1 : Nat) : Int)) (by exact inc64 (by omega)) ?_
          refine AL_norm (by first | (simp only [tput, anyAt, setAll, List.foldl_cons, List.foldl_nil, List.set_cons_zero, List.set_cons_succ]; rfl) | rfl) ?_
          refine AL_move rfl ?_
          refine AL_norm (by first | (simp only [tput, anyAt, setAll, List.foldl_cons, List.foldl_nil, List.set_cons_zero, List.set_cons_succ]; rfl) | rfl) ?_
          refine AL_nil ?_
          refine loopQ_n (k + 1) ?_ ?_ ?_ ?_
          · exact (by omega)
          · omega
          · rw [← addNames_all (i := i) (by omega)]; exact SubH.refl _
          · skip
            try simp only [tput, anyAt, setAll, List.foldl_cons, List.foldl_nil, List.set_cons_zero, List.set_cons_succ]
            repeat (first | exact Weak.nil | refine Weak.cons ?_ | refine Weak.consAny ?_)
    · try simp only [Bool.or_eq_true, Bool.and_eq_true, Bool.or_eq_false_iff, Bool.and_eq_false_iff, decide_eq_true_eq, decide_eq_false_iff_not, Bool.not_eq_true', Bool.not_eq_false', beq_iff_eq, ne_eq, Decidable.not_not, List.length_map] at hc1; obtain rfl : k = 17 := by omega
      refine AW_exit ?_
      refine seqQ_x ?_
      refine loopQ_x ?_
      refine blockQ_hit ?_
      refine seqQ_n ?_
      refine AW_seq ?_
      refine AW_region ?_
      refine AL_move rfl ?_
      refine AL_assign rfl ?_
      refine AL_norm (by first | (simp only [tput, anyAt, setAll, List.foldl_cons, List.foldl_nil, List.set_cons_zero, List.set_cons_succ]; rfl) | rfl) ?_
      refine AL_nil ?_
      refine seqQ_n ?_
      refine AW_ret ?_
      refine retQ_1 (H' := H.upd b1 (some (.raw (mapObj namesMap)))) (.inr rfl) rfl (by repeat (first | exact SubH.refl _ | refine SubH.upd ?_ (by assumption))) ?_
      exact hK b1 hn1

/-- quillwork/tags.low -/
theorem tags_low_ok (x : ByteArray) (hs : x.size < 35184372088832) :
    PI TI Tryd.prog 38 [.v (.string x)] (.v (.string (lowStr x))) := by
  intro H K hI hK
  refine AC_of Tryd.func38 rfl (rs := [.tmp 2]) rfl Tryd.ntmps38 rfl ?_
  refine AW_norm (by simp only [List.length_cons, List.length_nil, Nat.reduceAdd, Nat.reduceSub, List.replicate, List.cons_append, List.nil_append]; rfl) ?_
  refine AW_seq ?_
  refine AW_region ?_
  refine AL_assign rfl ?_
  refine AL_norm (by first | (simp only [tput, anyAt, setAll, List.foldl_cons, List.foldl_nil, List.set_cons_zero, List.set_cons_succ]; rfl) | rfl) ?_
  refine AL_nil ?_
  refine seqQ_n ?_
  refine AW_seq ?_
  refine AW_region ?_
  refine AL_move rfl ?_
  refine AL_callpi en53 (.cons (.ev rfl) (.cons (.ev rfl) (.nil))) (by repeat (first | assumption | refine Holds.upd ?_ (by assumption))) (tags_map_ok x hs) ?_
  refine AL_assign rfl ?_
  refine AL_norm (by first | (simp only [tput, anyAt, setAll, List.foldl_cons, List.foldl_nil, List.set_cons_zero, List.set_cons_succ]; rfl) | rfl) ?_
  refine AL_nil ?_
  refine seqQ_n ?_
  refine AW_ret ?_
  refine retQ_1 (H' := H) (.inr rfl) rfl (by repeat (first | exact SubH.refl _ | refine SubH.upd ?_ (by assumption))) ?_
  refine K_eq ?_ hK
  rfl

/-- quillwork/tags.Find -/
theorem tags_Find_ok (x : ByteArray) (hs : x.size < 35184372088832) :
    PI TI Tryd.prog 15 [.v (.string x)] (findAV (refFind x)) := by
  intro H K hI hK
  refine AC_of Tryd.func15 rfl (rs := [.tmp 2, .tmp 3]) rfl Tryd.ntmps15 rfl ?_
  refine AW_norm (by simp only [List.length_cons, List.length_nil, Nat.reduceAdd, Nat.reduceSub, List.replicate, List.cons_append, List.nil_append]; rfl) ?_
  refine AW_seq ?_
  refine AW_region ?_
  refine AL_assign rfl ?_
  refine AL_assign rfl ?_
  refine AL_norm (by first | (simp only [tput, anyAt, setAll, List.foldl_cons, List.foldl_nil, List.set_cons_zero, List.set_cons_succ]; rfl) | rfl) ?_
  refine AL_nil ?_
  refine seqQ_n ?_
  refine AW_seq ?_
  refine AW_region ?_
  refine AL_callk en37 (.nil) (tags_names_ok H (fun x H1 => ∃ b, H b = none ∧ x = .v (.map (some b)) ∧ H1 = H.upd b (some (.raw (mapObj namesMap)))) (fun b hb => ⟨b, hb, rfl, rfl⟩)) ?_
  rintro _ _ ⟨bm, hbm, rfl, rfl⟩
  refine AL_move rfl ?_
  refine AL_norm (by first | (simp only [tput, anyAt, setAll, List.foldl_cons, List.foldl_nil, List.set_cons_zero, List.set_cons_succ]; rfl) | rfl) ?_
  refine AL_callpi en38 (.cons (.ev rfl) (.nil)) (by repeat (first | assumption | refine Holds.upd ?_ (by assumption))) (tags_low_ok x hs) ?_
  refine AL_lookup un45 un9 ze3 rfl rfl (by repeat (first | exact AH.upd_same _ _ _ | exact hH | assumption | refine AH.look_other (by assumption) ?_)) ?_
  refine AL_move rfl ?_
  refine AL_extract rfl rfl ?_
  refine AL_norm (by first | (simp only [tput, anyAt, setAll, List.foldl_cons, List.foldl_nil, List.set_cons_zero, List.set_cons_succ]; rfl) | rfl) ?_
  refine AL_extract rfl rfl ?_
  refine AL_assign rfl ?_
  refine AL_assign rfl ?_
  refine AL_norm (by first | (simp only [tput, anyAt, setAll, List.foldl_cons, List.foldl_nil, List.set_cons_zero, List.set_cons_succ]; rfl) | rfl) ?_
  refine AL_nil ?_
  refine seqQ_n ?_
  refine AW_seq ?_
  refine AW_region ?_
  refine AL_move rfl ?_
  refine AL_norm (by first | (simp only [tput, anyAt, setAll, List.foldl_cons, List.foldl_nil, List.set_cons_zero, List.set_cons_succ]; rfl) | rfl) ?_
  refine AL_move rfl ?_
  refine AL_assign rfl ?_
  refine AL_assign rfl ?_
  refine AL_norm (by first | (simp only [tput, anyAt, setAll, List.foldl_cons, List.foldl_nil, List.set_cons_zero, List.set_cons_succ]; rfl) | rfl) ?_
  refine AL_nil ?_
  refine seqQ_n ?_
  refine AW_ret ?_
  refine retQ_2 (H' := H) (.inr rfl) rfl rfl (by repeat (first | exact SubH.refl _ | refine SubH.upd ?_ (by assumption))) ?_
  refine K_eq ?_ hK
  exact find_law x

/-- quillwork/quillworklaw02.awake -/
theorem quillworklaw02_awake_ok  :
    PI TI Tryd.prog 14 [] (.v (.bool true)) := by
  intro H K hI hK
  refine AC_of Tryd.func14 rfl (rs := [.tmp 0]) rfl Tryd.ntmps14 rfl ?_
  refine AW_norm (by simp only [List.length_cons, List.length_nil, Nat.reduceAdd, Nat.reduceSub, List.replicate, List.cons_append, List.nil_append]; rfl) ?_
  refine AW_seq ?_
  refine AW_region ?_
  refine AL_assign rfl ?_
  refine AL_norm (by first | (simp only [tput, anyAt, setAll, List.foldl_cons, List.foldl_nil, List.set_cons_zero, List.set_cons_succ]; rfl) | rfl) ?_
  refine AL_nil ?_
  refine seqQ_n ?_
  refine AW_seq ?_
  refine AW_region ?_
  refine AL_callpi en15 (.cons (.ev rfl) (.nil)) (by repeat (first | assumption | refine Holds.upd ?_ (by assumption))) (tags_Find_ok _ (by decide)) ?_
  refine AL_move rfl ?_
  refine AL_extract rfl rfl ?_
  refine AL_norm (by first | (simp only [tput, anyAt, setAll, List.foldl_cons, List.foldl_nil, List.set_cons_zero, List.set_cons_succ]; rfl) | rfl) ?_
  refine AL_extract rfl rfl ?_
  refine AL_assign rfl ?_
  refine AL_assign rfl ?_
  refine AL_norm (by first | (simp only [tput, anyAt, setAll, List.foldl_cons, List.foldl_nil, List.set_cons_zero, List.set_cons_succ]; rfl) | rfl) ?_
  refine AL_nil ?_
  refine seqQ_n ?_
  refine AW_seq ?_
  refine AW_region ?_
  refine AL_callpi en15 (.cons (.ev rfl) (.nil)) (by repeat (first | assumption | refine Holds.upd ?_ (by assumption))) (tags_Find_ok _ (by decide)) ?_
  refine AL_norm (by first | (simp only [tput, anyAt, setAll, List.foldl_cons, List.foldl_nil, List.set_cons_zero, List.set_cons_succ]; rfl) | rfl) ?_
  refine AL_move rfl ?_
  refine AL_extract rfl rfl ?_
  refine AL_extract rfl rfl ?_
  refine AL_assign rfl ?_
  refine AL_norm (by first | (simp only [tput, anyAt, setAll, List.foldl_cons, List.foldl_nil, List.set_cons_zero, List.set_cons_succ]; rfl) | rfl) ?_
  refine AL_assign rfl ?_
  refine AL_norm (by first | (simp only [tput, anyAt, setAll, List.foldl_cons, List.foldl_nil, List.set_cons_zero, List.set_cons_succ]; rfl) | rfl) ?_
  refine AL_nil ?_
  refine seqQ_n ?_
  refine AW_seq ?_
  refine AW_region ?_
  refine AL_callp en22 (.cons (.ev rfl) (.nil)) (tags_Line_ok _) ?_
  refine AL_move rfl ?_
  refine AL_extract rfl rfl ?_
  refine AL_norm (by first | (simp only [tput, anyAt, setAll, List.foldl_cons, List.foldl_nil, List.set_cons_zero, List.set_cons_succ]; rfl) | rfl) ?_
  refine AL_extract rfl rfl ?_
  refine AL_assign rfl ?_
  refine AL_assign rfl ?_
  refine AL_norm (by first | (simp only [tput, anyAt, setAll, List.foldl_cons, List.foldl_nil, List.set_cons_zero, List.set_cons_succ]; rfl) | rfl) ?_
  refine AL_nil ?_
  refine seqQ_n ?_
  refine AW_seq ?_
  refine AW_region ?_
  refine AL_move rfl ?_
  refine AL_norm (by first | (simp only [tput, anyAt, setAll, List.foldl_cons, List.foldl_nil, List.set_cons_zero, List.set_cons_succ]; rfl) | rfl) ?_
  refine AL_eql rfl rfl ?_
  refine AL_move rfl ?_
  refine AL_and (j := 2) (n := 1) (c := 21) (t := 22) (r := 23) (v := ?v1) [22] rfl rfl rfl rfl rfl rfl rfl (fun hg1 => ?_) ?_; rotate_left
  · simp only [List.take_succ_cons, List.take_zero, List.map_cons, List.map_nil, strip, Nat.reduceBEq, beq_self_eq_true, Bool.and_self, Bool.true_and, Bool.false_and, cond_true, cond_false]
    refine AL_move rfl ?_
    refine AL_nil (grpQ_mk ?_)
    try simp only [tput, anyAt, setAll, List.foldl_cons, List.foldl_nil, List.set_cons_zero, List.set_cons_succ]
    repeat (first | exact Weak.nil | refine Weak.cons ?_ | refine Weak.consAny ?_)
  refine AL_norm (by first | (simp only [tput, anyAt, setAll, List.foldl_cons, List.foldl_nil, List.set_cons_zero, List.set_cons_succ]; rfl) | rfl) ?_
  refine AL_move rfl ?_
  refine AL_norm (by first | (simp only [tput, anyAt, setAll, List.foldl_cons, List.foldl_nil, List.set_cons_zero, List.set_cons_succ]; rfl) | rfl) ?_
  refine AL_and (j := 5) (n := 2) (c := 24) (t := 26) (r := 27) (v := ?v2) [25, 26] rfl rfl rfl rfl rfl rfl rfl (fun hg2 => ?_) ?_; rotate_left
  · simp only [List.take_succ_cons, List.take_zero, List.map_cons, List.map_nil, strip, Nat.reduceBEq, beq_self_eq_true, Bool.and_self, Bool.true_and, Bool.false_and, cond_true, cond_false]
    refine AL_move rfl ?_
    refine AL_not rfl ?_
    refine AL_nil (grpQ_mk ?_)
    try simp only [tput, anyAt, setAll, List.foldl_cons, List.foldl_nil, List.set_cons_zero, List.set_cons_succ]
    repeat (first | exact Weak.nil | refine Weak.cons ?_ | refine Weak.consAny ?_)
  refine AL_norm (by first | (simp only [tput, anyAt, setAll, List.foldl_cons, List.foldl_nil, List.set_cons_zero, List.set_cons_succ]; rfl) | rfl) ?_
  refine AL_move rfl ?_
  refine AL_and (j := 9) (n := 2) (c := 28) (t := 30) (r := 31) (v := ?v3) [29, 30] rfl rfl rfl rfl rfl rfl rfl (fun hg3 => ?_) ?_; rotate_left
  · simp only [List.take_succ_cons, List.take_zero, List.map_cons, List.map_nil, strip, Nat.reduceBEq, beq_self_eq_true, Bool.and_self, Bool.true_and, Bool.false_and, cond_true, cond_false]
    refine AL_move rfl ?_
    refine AL_norm (by first | (simp only [tput, anyAt, setAll, List.foldl_cons, List.foldl_nil, List.set_cons_zero, List.set_cons_succ]; rfl) | rfl) ?_
    refine AL_eql rfl rfl ?_
    refine AL_nil (grpQ_mk ?_)
    try simp only [tput, anyAt, setAll, List.foldl_cons, List.foldl_nil, List.set_cons_zero, List.set_cons_succ]
    repeat (first | exact Weak.nil | refine Weak.cons ?_ | refine Weak.consAny ?_)
  refine AL_norm (by first | (simp only [tput, anyAt, setAll, List.foldl_cons, List.foldl_nil, List.set_cons_zero, List.set_cons_succ]; rfl) | rfl) ?_
  refine AL_move rfl ?_
  refine AL_and (j := 13) (n := 1) (c := 32) (t := 33) (r := 34) (v := ?v4) [33] rfl rfl rfl rfl rfl rfl rfl (fun hg4 => ?_) ?_; rotate_left
  · simp only [List.take_succ_cons, List.take_zero, List.map_cons, List.map_nil, strip, Nat.reduceBEq, beq_self_eq_true, Bool.and_self, Bool.true_and, Bool.false_and, cond_true, cond_false]
    refine AL_move rfl ?_
    refine AL_nil (grpQ_mk ?_)
    try simp only [tput, anyAt, setAll, List.foldl_cons, List.foldl_nil, List.set_cons_zero, List.set_cons_succ]
    repeat (first | exact Weak.nil | refine Weak.cons ?_ | refine Weak.consAny ?_)
  refine AL_norm (by first | (simp only [tput, anyAt, setAll, List.foldl_cons, List.foldl_nil, List.set_cons_zero, List.set_cons_succ]; rfl) | rfl) ?_
  refine AL_move rfl ?_
  refine AL_norm (by first | (simp only [tput, anyAt, setAll, List.foldl_cons, List.foldl_nil, List.set_cons_zero, List.set_cons_succ]; rfl) | rfl) ?_
  refine AL_and (j := 16) (n := 2) (c := 35) (t := 37) (r := 38) (v := ?v5) [36, 37] rfl rfl rfl rfl rfl rfl rfl (fun hg5 => ?_) ?_; rotate_left
  · simp only [List.take_succ_cons, List.take_zero, List.map_cons, List.map_nil, strip, Nat.reduceBEq, beq_self_eq_true, Bool.and_self, Bool.true_and, Bool.false_and, cond_true, cond_false]
    refine AL_callp en19 (.cons (.ev rfl) (.nil)) (tags_Name_ok _) ?_
    refine AL_seql rfl rfl ?_
    refine AL_nil (grpQ_mk ?_)
    try simp only [tput, anyAt, setAll, List.foldl_cons, List.foldl_nil, List.set_cons_zero, List.set_cons_succ]
    repeat (first | exact Weak.nil | refine Weak.cons ?_ | refine Weak.consAny ?_)
  refine AL_norm (by first | (simp only [tput, anyAt, setAll, List.foldl_cons, List.foldl_nil, List.set_cons_zero, List.set_cons_succ]; rfl) | rfl) ?_
  refine AL_move rfl ?_
  refine AL_and (j := 20) (n := 1) (c := 39) (t := 40) (r := 41) (v := ?v6) [40] rfl rfl rfl rfl rfl rfl rfl (fun hg6 => ?_) ?_; rotate_left
  · simp only [List.take_succ_cons, List.take_zero, List.map_cons, List.map_nil, strip, Nat.reduceBEq, beq_self_eq_true, Bool.and_self, Bool.true_and, Bool.false_and, cond_true, cond_false]
    refine AL_callp en17 (.cons (.ev rfl) (.cons (.ev rfl) (.nil))) (tags_May_ok _ _) ?_
    refine AL_nil (grpQ_mk ?_)
    try simp only [tput, anyAt, setAll, List.foldl_cons, List.foldl_nil, List.set_cons_zero, List.set_cons_succ]
    repeat (first | exact Weak.nil | refine Weak.cons ?_ | refine Weak.consAny ?_)
  refine AL_norm (by first | (simp only [tput, anyAt, setAll, List.foldl_cons, List.foldl_nil, List.set_cons_zero, List.set_cons_succ]; rfl) | rfl) ?_
  refine AL_move rfl ?_
  refine AL_norm (by first | (simp only [tput, anyAt, setAll, List.foldl_cons, List.foldl_nil, List.set_cons_zero, List.set_cons_succ]; rfl) | rfl) ?_
  refine AL_and (j := 23) (n := 2) (c := 42) (t := 44) (r := 45) (v := ?v7) [43, 44] rfl rfl rfl rfl rfl rfl rfl (fun hg7 => ?_) ?_; rotate_left
  · simp only [List.take_succ_cons, List.take_zero, List.map_cons, List.map_nil, strip, Nat.reduceBEq, beq_self_eq_true, Bool.and_self, Bool.true_and, Bool.false_and, cond_true, cond_false]
    refine AL_callp en17 (.cons (.ev rfl) (.cons (.ev rfl) (.nil))) (tags_May_ok _ _) ?_
    refine AL_not rfl ?_
    refine AL_nil (grpQ_mk ?_)
    try simp only [tput, anyAt, setAll, List.foldl_cons, List.foldl_nil, List.set_cons_zero, List.set_cons_succ]
    repeat (first | exact Weak.nil | refine Weak.cons ?_ | refine Weak.consAny ?_)
  refine AL_norm (by first | (simp only [tput, anyAt, setAll, List.foldl_cons, List.foldl_nil, List.set_cons_zero, List.set_cons_succ]; rfl) | rfl) ?_
  refine AL_move rfl ?_
  refine AL_and (j := 27) (n := 2) (c := 46) (t := 48) (r := 49) (v := ?v8) [47, 48] rfl rfl rfl rfl rfl rfl rfl (fun hg8 => ?_) ?_; rotate_left
  · simp only [List.take_succ_cons, List.take_zero, List.map_cons, List.map_nil, strip, Nat.reduceBEq, beq_self_eq_true, Bool.and_self, Bool.true_and, Bool.false_and, cond_true, cond_false]
    refine AL_callp en17 (.cons (.ev rfl) (.cons (.ev rfl) (.nil))) (tags_May_ok _ _) ?_
    refine AL_norm (by first | (simp only [tput, anyAt, setAll, List.foldl_cons, List.foldl_nil, List.set_cons_zero, List.set_cons_succ]; rfl) | rfl) ?_
    refine AL_not rfl ?_
    refine AL_nil (grpQ_mk ?_)
    try simp only [tput, anyAt, setAll, List.foldl_cons, List.foldl_nil, List.set_cons_zero, List.set_cons_succ]
    repeat (first | exact Weak.nil | refine Weak.cons ?_ | refine Weak.consAny ?_)
  refine AL_norm (by first | (simp only [tput, anyAt, setAll, List.foldl_cons, List.foldl_nil, List.set_cons_zero, List.set_cons_succ]; rfl) | rfl) ?_
  refine AL_assign rfl ?_
  refine AL_norm (by first | (simp only [tput, anyAt, setAll, List.foldl_cons, List.foldl_nil, List.set_cons_zero, List.set_cons_succ]; rfl) | rfl) ?_
  refine AL_nil ?_
  refine seqQ_n ?_
  refine AW_ret ?_
  refine retQ_1 (H' := H) (.inr rfl) rfl (by repeat (first | exact SubH.refl _ | refine SubH.upd ?_ (by assumption))) ?_
  refine K_eq ?_ hK
  exact congrArg (fun b => AV.v (.bool b)) (by decide)

/-- quillwork/quillworklaw02.TagsFind -/
theorem quillworklaw02_TagsFind_ok (x : ByteArray) :
    PI TI Tryd.prog 3 [.v (.string x)] (.v (.bool true)) := by
  intro H K hI hK
  refine AC_of Tryd.func3 rfl (rs := [.tmp 2]) rfl Tryd.ntmps3 rfl ?_
  refine AW_norm (by simp only [List.length_cons, List.length_nil, Nat.reduceAdd, Nat.reduceSub, List.replicate, List.cons_append, List.nil_append]; rfl) ?_
  refine AW_seq ?_
  refine AW_region ?_
  refine AL_assign rfl ?_
  refine AL_norm (by first | (simp only [tput, anyAt, setAll, List.foldl_cons, List.foldl_nil, List.set_cons_zero, List.set_cons_succ]; rfl) | rfl) ?_
  refine AL_nil ?_
  refine seqQ_n ?_
  refine AW_seq ?_
  refine AW_seq ?_
  refine AW_region ?_
  refine AL_move rfl ?_
  refine AL_len_str un9 rfl ?_
  refine AL_gtr rfl rfl ?_
  refine AL_norm (by first | (simp only [tput, anyAt, setAll, List.foldl_cons, List.foldl_nil, List.set_cons_zero, List.set_cons_succ]; rfl) | rfl) ?_
  refine AL_nil ?_
  refine seqQ_n ?_
  refine AW_cond rfl (fun hc1 => ?_) (fun hc1 => ?_)
  · try simp only [Bool.or_eq_true, Bool.and_eq_true, Bool.or_eq_false_iff, Bool.and_eq_false_iff, decide_eq_true_eq, decide_eq_false_iff_not, Bool.not_eq_true', Bool.not_eq_false', beq_iff_eq, ne_eq, Decidable.not_not, List.length_map] at hc1
    refine AW_seq ?_
    refine AW_region ?_
    refine AL_callpi en14 (.nil) (by repeat (first | assumption | refine Holds.upd ?_ (by assumption))) (quillworklaw02_awake_ok) ?_
    refine AL_norm (by first | (simp only [tput, anyAt, setAll, List.foldl_cons, List.foldl_nil, List.set_cons_zero, List.set_cons_succ]; rfl) | rfl) ?_
    refine AL_assign rfl ?_
    refine AL_norm (by first | (simp only [tput, anyAt, setAll, List.foldl_cons, List.foldl_nil, List.set_cons_zero, List.set_cons_succ]; rfl) | rfl) ?_
    refine AL_nil ?_
    refine seqQ_n ?_
    refine AW_ret ?_
    refine seqQ_r ?_
    refine retQ_1 (H' := H) (.inr rfl) rfl (by repeat (first | exact SubH.refl _ | refine SubH.upd ?_ (by assumption))) ?_
    refine K_eq ?_ hK
    rfl
  · try simp only [Bool.or_eq_true, Bool.and_eq_true, Bool.or_eq_false_iff, Bool.and_eq_false_iff, decide_eq_true_eq, decide_eq_false_iff_not, Bool.not_eq_true', Bool.not_eq_false', beq_iff_eq, ne_eq, Decidable.not_not, List.length_map] at hc1
    refine AW_skip ?_
    refine seqQ_n ?_
    refine AW_seq ?_
    refine AW_region ?_
    refine AL_move rfl ?_
    refine AL_callpi en15 (.cons (.ev rfl) (.nil)) (by repeat (first | assumption | refine Holds.upd ?_ (by assumption))) (tags_Find_ok _ (by omega)) ?_
    refine AL_move rfl ?_
    refine AL_norm (by first | (simp only [tput, anyAt, setAll, List.foldl_cons, List.foldl_nil, List.set_cons_zero, List.set_cons_succ]; rfl) | rfl) ?_
    refine AL_extract rfl rfl ?_
    refine AL_extract rfl rfl ?_
    refine AL_assign rfl ?_
    refine AL_assign rfl ?_
    refine AL_norm (by first | (simp only [tput, anyAt, setAll, List.foldl_cons, List.foldl_nil, List.set_cons_zero, List.set_cons_succ]; rfl) | rfl) ?_
    refine AL_nil ?_
    refine seqQ_n ?_
    refine AW_seq ?_
    refine AW_region ?_
    refine AL_move rfl ?_
    refine AL_norm (by first | (simp only [tput, anyAt, setAll, List.foldl_cons, List.foldl_nil, List.set_cons_zero, List.set_cons_succ]; rfl) | rfl) ?_
    refine AL_callp en16 (.cons (.ev rfl) (.nil)) (quillworkref02_Find_ok _ (by omega)) ?_
    refine AL_move rfl ?_
    refine AL_extract rfl rfl ?_
    refine AL_extract rfl rfl ?_
    refine AL_norm (by first | (simp only [tput, anyAt, setAll, List.foldl_cons, List.foldl_nil, List.set_cons_zero, List.set_cons_succ]; rfl) | rfl) ?_
    refine AL_assign rfl ?_
    refine AL_assign rfl ?_
    refine AL_norm (by first | (simp only [tput, anyAt, setAll, List.foldl_cons, List.foldl_nil, List.set_cons_zero, List.set_cons_succ]; rfl) | rfl) ?_
    refine AL_nil ?_
    refine seqQ_n ?_
    refine AW_seq ?_
    refine AW_region ?_
    refine AL_move rfl ?_
    refine AL_move rfl ?_
    refine AL_norm (by first | (simp only [tput, anyAt, setAll, List.foldl_cons, List.foldl_nil, List.set_cons_zero, List.set_cons_succ]; rfl) | rfl) ?_
    refine AL_eql rfl rfl ?_
    refine AL_move rfl ?_
    refine AL_and (j := 3) (n := 3) (c := 24) (t := 27) (r := 28) (v := ?v2) [25, 26, 27] rfl rfl rfl rfl rfl rfl rfl (fun hg2 => ?_) ?_; rotate_left
    · simp only [List.take_succ_cons, List.take_zero, List.map_cons, List.map_nil, strip, Nat.reduceBEq, beq_self_eq_true, Bool.and_self, Bool.true_and, Bool.false_and, cond_true, cond_false]
      refine AL_move rfl ?_
      refine AL_move rfl ?_
      refine AL_norm (by first | (simp only [tput, anyAt, setAll, List.foldl_cons, List.foldl_nil, List.set_cons_zero, List.set_cons_succ]; rfl) | rfl) ?_
      refine AL_beql rfl rfl un4 ?_
      refine AL_nil (grpQ_mk ?_)
      try simp only [tput, anyAt, setAll, List.foldl_cons, List.foldl_nil, List.set_cons_zero, List.set_cons_succ]
      repeat (first | exact Weak.nil | refine Weak.cons ?_ | refine Weak.consAny ?_)
    refine AL_norm (by first | (simp only [tput, anyAt, setAll, List.foldl_cons, List.foldl_nil, List.set_cons_zero, List.set_cons_succ]; rfl) | rfl) ?_
    refine AL_move rfl ?_
    refine AL_and (j := 8) (n := 1) (c := 29) (t := 30) (r := 31) (v := ?v3) [30] rfl rfl rfl rfl rfl rfl rfl (fun hg3 => ?_) ?_; rotate_left
    · simp only [List.take_succ_cons, List.take_zero, List.map_cons, List.map_nil, strip, Nat.reduceBEq, beq_self_eq_true, Bool.and_self, Bool.true_and, Bool.false_and, cond_true, cond_false]
      refine AL_callpi en14 (.nil) (by repeat (first | assumption | refine Holds.upd ?_ (by assumption))) (quillworklaw02_awake_ok) ?_
      refine AL_nil (grpQ_mk ?_)
      try simp only [tput, anyAt, setAll, List.foldl_cons, List.foldl_nil, List.set_cons_zero, List.set_cons_succ]
      repeat (first | exact Weak.nil | refine Weak.cons ?_ | refine Weak.consAny ?_)
    refine AL_norm (by first | (simp only [tput, anyAt, setAll, List.foldl_cons, List.foldl_nil, List.set_cons_zero, List.set_cons_succ]; rfl) | rfl) ?_
    refine AL_assign rfl ?_
    refine AL_norm (by first | (simp only [tput, anyAt, setAll, List.foldl_cons, List.foldl_nil, List.set_cons_zero, List.set_cons_succ]; rfl) | rfl) ?_
    refine AL_nil ?_
    refine seqQ_n ?_
    refine AW_ret ?_
    refine retQ_1 (H' := H) (.inr rfl) rfl (by repeat (first | exact SubH.refl _ | refine SubH.upd ?_ (by assumption))) ?_
    refine K_eq ?_ hK
    simp

/-- quillwork/quillworklaw02.TagsMay -/
theorem quillworklaw02_TagsMay_ok (p c : Int) :
    PI TI Tryd.prog 4 [.v (.int .i64 p), .v (.int .i64 c)] (.v (.bool true)) := by
  intro H K hI hK
  refine AC_of Tryd.func4 rfl (rs := [.tmp 4]) rfl Tryd.ntmps4 rfl ?_
  refine AW_norm (by simp only [List.length_cons, List.length_nil, Nat.reduceAdd, Nat.reduceSub, List.replicate, List.cons_append, List.nil_append]; rfl) ?_
  refine AW_seq ?_
  refine AW_region ?_
  refine AL_assign rfl ?_
  refine AL_norm (by first | (simp only [tput, anyAt, setAll, List.foldl_cons, List.foldl_nil, List.set_cons_zero, List.set_cons_succ]; rfl) | rfl) ?_
  refine AL_nil ?_
  refine seqQ_n ?_
  refine AW_seq ?_
  refine AW_region ?_
  refine AL_move rfl ?_
  refine AL_move rfl ?_
  refine AL_callp en17 (.cons (.ev rfl) (.cons (.ev rfl) (.nil))) (tags_May_ok _ _) ?_
  refine AL_norm (by first | (simp only [tput, anyAt, setAll, List.foldl_cons, List.foldl_nil, List.set_cons_zero, List.set_cons_succ]; rfl) | rfl) ?_
  refine AL_move rfl ?_
  refine AL_move rfl ?_
  refine AL_callp en18 (.cons (.ev rfl) (.cons (.ev rfl) (.nil))) (quillworkref02_May_ok _ _) ?_
  refine AL_beql rfl rfl un4 ?_
  refine AL_norm (by first | (simp only [tput, anyAt, setAll, List.foldl_cons, List.foldl_nil, List.set_cons_zero, List.set_cons_succ]; rfl) | rfl) ?_
  refine AL_move rfl ?_
  refine AL_and (j := 7) (n := 1) (c := 12) (t := 13) (r := 14) (v := ?v1) [13] rfl rfl rfl rfl rfl rfl rfl (fun hg1 => ?_) ?_; rotate_left
  · simp only [List.take_succ_cons, List.take_zero, List.map_cons, List.map_nil, strip, Nat.reduceBEq, beq_self_eq_true, Bool.and_self, Bool.true_and, Bool.false_and, cond_true, cond_false]
    refine AL_callpi en14 (.nil) (by repeat (first | assumption | refine Holds.upd ?_ (by assumption))) (quillworklaw02_awake_ok) ?_
    refine AL_nil (grpQ_mk ?_)
    try simp only [tput, anyAt, setAll, List.foldl_cons, List.foldl_nil, List.set_cons_zero, List.set_cons_succ]
    repeat (first | exact Weak.nil | refine Weak.cons ?_ | refine Weak.consAny ?_)
  refine AL_norm (by first | (simp only [tput, anyAt, setAll, List.foldl_cons, List.foldl_nil, List.set_cons_zero, List.set_cons_succ]; rfl) | rfl) ?_
  refine AL_assign rfl ?_
  refine AL_norm (by first | (simp only [tput, anyAt, setAll, List.foldl_cons, List.foldl_nil, List.set_cons_zero, List.set_cons_succ]; rfl) | rfl) ?_
  refine AL_nil ?_
  refine seqQ_n ?_
  refine AW_ret ?_
  refine retQ_1 (H' := H) (.inr rfl) rfl (by repeat (first | exact SubH.refl _ | refine SubH.upd ?_ (by assumption))) ?_
  refine K_eq ?_ hK
  simp

/-- quillwork/quillworklaw02.TagsContent -/
theorem quillworklaw02_TagsContent_ok (p c : Int) :
    PI TI Tryd.prog 6 [.v (.int .i64 p), .v (.int .i64 c)] (.v (.bool true)) := by
  intro H K hI hK
  refine AC_of Tryd.func6 rfl (rs := [.tmp 4]) rfl Tryd.ntmps6 rfl ?_
  refine AW_norm (by simp only [List.length_cons, List.length_nil, Nat.reduceAdd, Nat.reduceSub, List.replicate, List.cons_append, List.nil_append]; rfl) ?_
  refine AW_seq ?_
  refine AW_region ?_
  refine AL_assign rfl ?_
  refine AL_norm (by first | (simp only [tput, anyAt, setAll, List.foldl_cons, List.foldl_nil, List.set_cons_zero, List.set_cons_succ]; rfl) | rfl) ?_
  refine AL_nil ?_
  refine seqQ_n ?_
  refine AW_seq ?_
  refine AW_region ?_
  refine AL_move rfl ?_
  refine AL_callp en20 (.cons (.ev rfl) (.nil)) (tags_Class_ok _) ?_
  refine AL_move rfl ?_
  refine AL_norm (by first | (simp only [tput, anyAt, setAll, List.foldl_cons, List.foldl_nil, List.set_cons_zero, List.set_cons_succ]; rfl) | rfl) ?_
  refine AL_callp en20 (.cons (.ev rfl) (.nil)) (tags_Class_ok _) ?_
  refine AL_assign rfl ?_
  refine AL_assign rfl ?_
  refine AL_norm (by first | (simp only [tput, anyAt, setAll, List.foldl_cons, List.foldl_nil, List.set_cons_zero, List.set_cons_succ]; rfl) | rfl) ?_
  refine AL_nil ?_
  refine seqQ_n ?_
  refine AW_seq ?_
  refine AW_region ?_
  refine AL_move rfl ?_
  refine AL_norm (by first | (simp only [tput, anyAt, setAll, List.foldl_cons, List.foldl_nil, List.set_cons_zero, List.set_cons_succ]; rfl) | rfl) ?_
  refine AL_move rfl ?_
  refine AL_callp en17 (.cons (.ev rfl) (.cons (.ev rfl) (.nil))) (tags_May_ok _ _) ?_
  refine AL_assign rfl ?_
  refine AL_norm (by first | (simp only [tput, anyAt, setAll, List.foldl_cons, List.foldl_nil, List.set_cons_zero, List.set_cons_succ]; rfl) | rfl) ?_
  refine AL_nil ?_
  refine seqQ_n ?_
  refine AW_seq ?_
  refine AW_seq ?_
  refine AW_region ?_
  refine AL_move rfl ?_
  refine AL_norm (by first | (simp only [tput, anyAt, setAll, List.foldl_cons, List.foldl_nil, List.set_cons_zero, List.set_cons_succ]; rfl) | rfl) ?_
  refine AL_move rfl ?_
  refine AL_and (j := 1) (n := 14) (c := 16) (t := 30) (r := 31) (v := ?v1) [17, 18, 19, 20, 21, 22, 23, 24, 25, 26, 27, 28, 29, 30] rfl rfl rfl rfl rfl rfl rfl (fun hg1 => ?_) ?_; rotate_left
  · simp only [List.take_succ_cons, List.take_zero, List.map_cons, List.map_nil, strip, Nat.reduceBEq, beq_self_eq_true, Bool.and_self, Bool.true_and, Bool.false_and, cond_true, cond_false]
    refine AL_move rfl ?_
    refine AL_lss rfl rfl ?_
    refine AL_move rfl ?_
    refine AL_norm (by first | (simp only [tput, anyAt, setAll, List.foldl_cons, List.foldl_nil, List.set_cons_zero, List.set_cons_succ]; rfl) | rfl) ?_
    refine AL_or (j := 4) (n := 2) (c := 19) (t := 21) (r := 22) (v := ?v2) [20, 21] rfl rfl rfl rfl rfl rfl rfl (fun hg2 => ?_) ?_; rotate_left
    · simp only [List.take_succ_cons, List.take_zero, List.map_cons, List.map_nil, strip, Nat.reduceBEq, beq_self_eq_true, Bool.and_self, Bool.true_and, Bool.false_and, cond_true, cond_false]
      refine AL_move rfl ?_
      refine AL_eql rfl rfl ?_
      refine AL_nil (grpQ_mk ?_)
      try simp only [tput, anyAt, setAll, List.foldl_cons, List.foldl_nil, List.set_cons_zero, List.set_cons_succ]
      repeat (first | exact Weak.nil | refine Weak.cons ?_ | refine Weak.consAny ?_)
    refine AL_norm (by first | (simp only [tput, anyAt, setAll, List.foldl_cons, List.foldl_nil, List.set_cons_zero, List.set_cons_succ]; rfl) | rfl) ?_
    refine AL_move rfl ?_
    refine AL_or (j := 8) (n := 2) (c := 23) (t := 25) (r := 26) (v := ?v3) [24, 25] rfl rfl rfl rfl rfl rfl rfl (fun hg3 => ?_) ?_; rotate_left
    · simp only [List.take_succ_cons, List.take_zero, List.map_cons, List.map_nil, strip, Nat.reduceBEq, beq_self_eq_true, Bool.and_self, Bool.true_and, Bool.false_and, cond_true, cond_false]
      refine AL_move rfl ?_
      refine AL_norm (by first | (simp only [tput, anyAt, setAll, List.foldl_cons, List.foldl_nil, List.set_cons_zero, List.set_cons_succ]; rfl) | rfl) ?_
      refine AL_eql rfl rfl ?_
      refine AL_nil (grpQ_mk ?_)
      try simp only [tput, anyAt, setAll, List.foldl_cons, List.foldl_nil, List.set_cons_zero, List.set_cons_succ]
      repeat (first | exact Weak.nil | refine Weak.cons ?_ | refine Weak.consAny ?_)
    refine AL_norm (by first | (simp only [tput, anyAt, setAll, List.foldl_cons, List.foldl_nil, List.set_cons_zero, List.set_cons_succ]; rfl) | rfl) ?_
    refine AL_move rfl ?_
    refine AL_or (j := 12) (n := 2) (c := 27) (t := 29) (r := 30) (v := ?v4) [28, 29] rfl rfl rfl rfl rfl rfl rfl (fun hg4 => ?_) ?_; rotate_left
    · simp only [List.take_succ_cons, List.take_zero, List.map_cons, List.map_nil, strip, Nat.reduceBEq, beq_self_eq_true, Bool.and_self, Bool.true_and, Bool.false_and, cond_true, cond_false]
      refine AL_move rfl ?_
      refine AL_eql rfl rfl ?_
      refine AL_nil (grpQ_mk ?_)
      try simp only [tput, anyAt, setAll, List.foldl_cons, List.foldl_nil, List.set_cons_zero, List.set_cons_succ]
      repeat (first | exact Weak.nil | refine Weak.cons ?_ | refine Weak.consAny ?_)
    refine AL_norm (by first | (simp only [tput, anyAt, setAll, List.foldl_cons, List.foldl_nil, List.set_cons_zero, List.set_cons_succ]; rfl) | rfl) ?_
    refine AL_nil (grpQ_mk ?_)
    try simp only [tput, anyAt, setAll, List.foldl_cons, List.foldl_nil, List.set_cons_zero, List.set_cons_succ]
    repeat (first | exact Weak.nil | refine Weak.cons ?_ | refine Weak.consAny ?_)
  refine AL_norm (by first | (simp only [tput, anyAt, setAll, List.foldl_cons, List.foldl_nil, List.set_cons_zero, List.set_cons_succ]; rfl) | rfl) ?_
  refine AL_norm (by first | (simp only [tput, anyAt, setAll, List.foldl_cons, List.foldl_nil, List.set_cons_zero, List.set_cons_succ]; rfl) | rfl) ?_
  refine AL_nil ?_
  refine seqQ_n ?_
  refine AW_cond rfl (fun hc5 => ?_) (fun hc5 => ?_)
  · try simp only [Bool.or_eq_true, Bool.and_eq_true, Bool.or_eq_false_iff, Bool.and_eq_false_iff, decide_eq_true_eq, decide_eq_false_iff_not, Bool.not_eq_true', Bool.not_eq_false', beq_iff_eq, ne_eq, Decidable.not_not, List.length_map] at hc5
    refine AW_seq ?_
    refine AW_region ?_
    refine AL_assign rfl ?_
    refine AL_norm (by first | (simp only [tput, anyAt, setAll, List.foldl_cons, List.foldl_nil, List.set_cons_zero, List.set_cons_succ]; rfl) | rfl) ?_
    refine AL_nil ?_
    refine seqQ_n ?_
    refine AW_ret ?_
    refine seqQ_r ?_
    refine retQ_1 (H' := H) (.inr rfl) rfl (by repeat (first | exact SubH.refl _ | refine SubH.upd ?_ (by assumption))) ?_
    refine K_eq ?_ hK
    exact (may_no1 hc5.1 hc5.2).elim
  · try simp only [Bool.or_eq_true, Bool.and_eq_true, Bool.or_eq_false_iff, Bool.and_eq_false_iff, decide_eq_true_eq, decide_eq_false_iff_not, Bool.not_eq_true', Bool.not_eq_false', beq_iff_eq, ne_eq, Decidable.not_not, List.length_map] at hc5
    refine AW_skip ?_
    refine seqQ_n ?_
    refine AW_seq ?_
    refine AW_seq ?_
    refine AW_region ?_
    refine AL_move rfl ?_
    refine AL_norm (by first | (simp only [tput, anyAt, setAll, List.foldl_cons, List.foldl_nil, List.set_cons_zero, List.set_cons_succ]; rfl) | rfl) ?_
    refine AL_move rfl ?_
    refine AL_and (j := 1) (n := 6) (c := 33) (t := 39) (r := 40) (v := ?v6) [34, 35, 36, 37, 38, 39] rfl rfl rfl rfl rfl rfl rfl (fun hg6 => ?_) ?_; rotate_left
    · simp only [List.take_succ_cons, List.take_zero, List.map_cons, List.map_nil, strip, Nat.reduceBEq, beq_self_eq_true, Bool.and_self, Bool.true_and, Bool.false_and, cond_true, cond_false]
      refine AL_move rfl ?_
      refine AL_eql rfl rfl ?_
      refine AL_move rfl ?_
      refine AL_norm (by first | (simp only [tput, anyAt, setAll, List.foldl_cons, List.foldl_nil, List.set_cons_zero, List.set_cons_succ]; rfl) | rfl) ?_
      refine AL_or (j := 4) (n := 2) (c := 36) (t := 38) (r := 39) (v := ?v7) [37, 38] rfl rfl rfl rfl rfl rfl rfl (fun hg7 => ?_) ?_; rotate_left
      · simp only [List.take_succ_cons, List.take_zero, List.map_cons, List.map_nil, strip, Nat.reduceBEq, beq_self_eq_true, Bool.and_self, Bool.true_and, Bool.false_and, cond_true, cond_false]
        refine AL_move rfl ?_
        refine AL_eql rfl rfl ?_
        refine AL_nil (grpQ_mk ?_)
        try simp only [tput, anyAt, setAll, List.foldl_cons, List.foldl_nil, List.set_cons_zero, List.set_cons_succ]
        repeat (first | exact Weak.nil | refine Weak.cons ?_ | refine Weak.consAny ?_)
      refine AL_norm (by first | (simp only [tput, anyAt, setAll, List.foldl_cons, List.foldl_nil, List.set_cons_zero, List.set_cons_succ]; rfl) | rfl) ?_
      refine AL_nil (grpQ_mk ?_)
      try simp only [tput, anyAt, setAll, List.foldl_cons, List.foldl_nil, List.set_cons_zero, List.set_cons_succ]
      repeat (first | exact Weak.nil | refine Weak.cons ?_ | refine Weak.consAny ?_)
    refine AL_norm (by first | (simp only [tput, anyAt, setAll, List.foldl_cons, List.foldl_nil, List.set_cons_zero, List.set_cons_succ]; rfl) | rfl) ?_
    refine AL_move rfl ?_
    refine AL_and (j := 9) (n := 6) (c := 41) (t := 47) (r := 48) (v := ?v8) [42, 43, 44, 45, 46, 47] rfl rfl rfl rfl rfl rfl rfl (fun hg8 => ?_) ?_; rotate_left
    · simp only [List.take_succ_cons, List.take_zero, List.map_cons, List.map_nil, strip, Nat.reduceBEq, beq_self_eq_true, Bool.and_self, Bool.true_and, Bool.false_and, cond_true, cond_false]
      refine AL_move rfl ?_
      refine AL_norm (by first | (simp only [tput, anyAt, setAll, List.foldl_cons, List.foldl_nil, List.set_cons_zero, List.set_cons_succ]; rfl) | rfl) ?_
      refine AL_eql rfl rfl ?_
      refine AL_move rfl ?_
      refine AL_or (j := 12) (n := 2) (c := 44) (t := 46) (r := 47) (v := ?v9) [45, 46] rfl rfl rfl rfl rfl rfl rfl (fun hg9 => ?_) ?_; rotate_left
      · simp only [List.take_succ_cons, List.take_zero, List.map_cons, List.map_nil, strip, Nat.reduceBEq, beq_self_eq_true, Bool.and_self, Bool.true_and, Bool.false_and, cond_true, cond_false]
        refine AL_move rfl ?_
        refine AL_eql rfl rfl ?_
        refine AL_nil (grpQ_mk ?_)
        try simp only [tput, anyAt, setAll, List.foldl_cons, List.foldl_nil, List.set_cons_zero, List.set_cons_succ]
        repeat (first | exact Weak.nil | refine Weak.cons ?_ | refine Weak.consAny ?_)
      refine AL_norm (by first | (simp only [tput, anyAt, setAll, List.foldl_cons, List.foldl_nil, List.set_cons_zero, List.set_cons_succ]; rfl) | rfl) ?_
      refine AL_nil (grpQ_mk ?_)
      try simp only [tput, anyAt, setAll, List.foldl_cons, List.foldl_nil, List.set_cons_zero, List.set_cons_succ]
      repeat (first | exact Weak.nil | refine Weak.cons ?_ | refine Weak.consAny ?_)
    refine AL_norm (by first | (simp only [tput, anyAt, setAll, List.foldl_cons, List.foldl_nil, List.set_cons_zero, List.set_cons_succ]; rfl) | rfl) ?_
    refine AL_norm (by first | (simp only [tput, anyAt, setAll, List.foldl_cons, List.foldl_nil, List.set_cons_zero, List.set_cons_succ]; rfl) | rfl) ?_
    refine AL_nil ?_
    refine seqQ_n ?_
    refine AW_cond rfl (fun hc10 => ?_) (fun hc10 => ?_)
    · try simp only [Bool.or_eq_true, Bool.and_eq_true, Bool.or_eq_false_iff, Bool.and_eq_false_iff, decide_eq_true_eq, decide_eq_false_iff_not, Bool.not_eq_true', Bool.not_eq_false', beq_iff_eq, ne_eq, Decidable.not_not, List.length_map] at hc10
      refine AW_seq ?_
      refine AW_region ?_
      refine AL_assign rfl ?_
      refine AL_norm (by first | (simp only [tput, anyAt, setAll, List.foldl_cons, List.foldl_nil, List.set_cons_zero, List.set_cons_succ]; rfl) | rfl) ?_
      refine AL_nil ?_
      refine seqQ_n ?_
      refine AW_ret ?_
      refine seqQ_r ?_
      refine retQ_1 (H' := H) (.inr rfl) rfl (by repeat (first | exact SubH.refl _ | refine SubH.upd ?_ (by assumption))) ?_
      refine K_eq ?_ hK
      exact (may_no2 hc10.1.1 hc10.1.2 hc10.2).elim
    · try simp only [Bool.or_eq_true, Bool.and_eq_true, Bool.or_eq_false_iff, Bool.and_eq_false_iff, decide_eq_true_eq, decide_eq_false_iff_not, Bool.not_eq_true', Bool.not_eq_false', beq_iff_eq, ne_eq, Decidable.not_not, List.length_map] at hc10
      refine AW_skip ?_
      refine seqQ_n ?_
      refine AW_seq ?_
      refine AW_seq ?_
      refine AW_region ?_
      refine AL_move rfl ?_
      refine AL_norm (by first | (simp only [tput, anyAt, setAll, List.foldl_cons, List.foldl_nil, List.set_cons_zero, List.set_cons_succ]; rfl) | rfl) ?_
      refine AL_move rfl ?_
      refine AL_and (j := 1) (n := 2) (c := 50) (t := 52) (r := 53) (v := ?v11) [51, 52] rfl rfl rfl rfl rfl rfl rfl (fun hg11 => ?_) ?_; rotate_left
      · simp only [List.take_succ_cons, List.take_zero, List.map_cons, List.map_nil, strip, Nat.reduceBEq, beq_self_eq_true, Bool.and_self, Bool.true_and, Bool.false_and, cond_true, cond_false]
        refine AL_move rfl ?_
        refine AL_eql rfl rfl ?_
        refine AL_nil (grpQ_mk ?_)
        try simp only [tput, anyAt, setAll, List.foldl_cons, List.foldl_nil, List.set_cons_zero, List.set_cons_succ]
        repeat (first | exact Weak.nil | refine Weak.cons ?_ | refine Weak.consAny ?_)
      refine AL_norm (by first | (simp only [tput, anyAt, setAll, List.foldl_cons, List.foldl_nil, List.set_cons_zero, List.set_cons_succ]; rfl) | rfl) ?_
      refine AL_move rfl ?_
      refine AL_norm (by first | (simp only [tput, anyAt, setAll, List.foldl_cons, List.foldl_nil, List.set_cons_zero, List.set_cons_succ]; rfl) | rfl) ?_
      refine AL_and (j := 5) (n := 2) (c := 54) (t := 56) (r := 57) (v := ?v12) [55, 56] rfl rfl rfl rfl rfl rfl rfl (fun hg12 => ?_) ?_; rotate_left
      · simp only [List.take_succ_cons, List.take_zero, List.map_cons, List.map_nil, strip, Nat.reduceBEq, beq_self_eq_true, Bool.and_self, Bool.true_and, Bool.false_and, cond_true, cond_false]
        refine AL_move rfl ?_
        refine AL_neq rfl rfl ?_
        refine AL_nil (grpQ_mk ?_)
        try simp only [tput, anyAt, setAll, List.foldl_cons, List.foldl_nil, List.set_cons_zero, List.set_cons_succ]
        repeat (first | exact Weak.nil | refine Weak.cons ?_ | refine Weak.consAny ?_)
      refine AL_norm (by first | (simp only [tput, anyAt, setAll, List.foldl_cons, List.foldl_nil, List.set_cons_zero, List.set_cons_succ]; rfl) | rfl) ?_
      refine AL_move rfl ?_
      refine AL_and (j := 9) (n := 2) (c := 58) (t := 60) (r := 61) (v := ?v13) [59, 60] rfl rfl rfl rfl rfl rfl rfl (fun hg13 => ?_) ?_; rotate_left
      · simp only [List.take_succ_cons, List.take_zero, List.map_cons, List.map_nil, strip, Nat.reduceBEq, beq_self_eq_true, Bool.and_self, Bool.true_and, Bool.false_and, cond_true, cond_false]
        refine AL_move rfl ?_
        refine AL_norm (by first | (simp only [tput, anyAt, setAll, List.foldl_cons, List.foldl_nil, List.set_cons_zero, List.set_cons_succ]; rfl) | rfl) ?_
        refine AL_neq rfl rfl ?_
        refine AL_nil (grpQ_mk ?_)
        try simp only [tput, anyAt, setAll, List.foldl_cons, List.foldl_nil, List.set_cons_zero, List.set_cons_succ]
        repeat (first | exact Weak.nil | refine Weak.cons ?_ | refine Weak.consAny ?_)
      refine AL_norm (by first | (simp only [tput, anyAt, setAll, List.foldl_cons, List.foldl_nil, List.set_cons_zero, List.set_cons_succ]; rfl) | rfl) ?_
      refine AL_norm (by first | (simp only [tput, anyAt, setAll, List.foldl_cons, List.foldl_nil, List.set_cons_zero, List.set_cons_succ]; rfl) | rfl) ?_
      refine AL_nil ?_
      refine seqQ_n ?_
      refine AW_cond rfl (fun hc14 => ?_) (fun hc14 => ?_)
      · try simp only [Bool.or_eq_true, Bool.and_eq_true, Bool.or_eq_false_iff, Bool.and_eq_false_iff, decide_eq_true_eq, decide_eq_false_iff_not, Bool.not_eq_true', Bool.not_eq_false', beq_iff_eq, ne_eq, Decidable.not_not, List.length_map] at hc14
        refine AW_seq ?_
        refine AW_region ?_
        refine AL_assign rfl ?_
        refine AL_norm (by first | (simp only [tput, anyAt, setAll, List.foldl_cons, List.foldl_nil, List.set_cons_zero, List.set_cons_succ]; rfl) | rfl) ?_
        refine AL_nil ?_
        refine seqQ_n ?_
        refine AW_ret ?_
        refine seqQ_r ?_
        refine retQ_1 (H' := H) (.inr rfl) rfl (by repeat (first | exact SubH.refl _ | refine SubH.upd ?_ (by assumption))) ?_
        refine K_eq ?_ hK
        exact (may_no3 hc14.1.1.1 hc14.1.1.2 hc14.1.2 hc14.2).elim
      · try simp only [Bool.or_eq_true, Bool.and_eq_true, Bool.or_eq_false_iff, Bool.and_eq_false_iff, decide_eq_true_eq, decide_eq_false_iff_not, Bool.not_eq_true', Bool.not_eq_false', beq_iff_eq, ne_eq, Decidable.not_not, List.length_map] at hc14
        refine AW_skip ?_
        refine seqQ_n ?_
        refine AW_seq ?_
        refine AW_region ?_
        refine AL_move rfl ?_
        refine AL_callp en17 (.cons (.ev rfl) (.cons (.ev rfl) (.nil))) (tags_May_ok _ _) ?_
        refine AL_norm (by first | (simp only [tput, anyAt, setAll, List.foldl_cons, List.foldl_nil, List.set_cons_zero, List.set_cons_succ]; rfl) | rfl) ?_
        refine AL_move rfl ?_
        refine AL_callp en17 (.cons (.ev rfl) (.cons (.ev rfl) (.nil))) (tags_May_ok _ _) ?_
        refine AL_beql rfl rfl un4 ?_
        refine AL_move rfl ?_
        refine AL_norm (by first | (simp only [tput, anyAt, setAll, List.foldl_cons, List.foldl_nil, List.set_cons_zero, List.set_cons_succ]; rfl) | rfl) ?_
        refine AL_and (j := 5) (n := 5) (c := 67) (t := 72) (r := 73) (v := ?v15) [68, 69, 70, 71, 72] rfl rfl rfl rfl rfl rfl rfl (fun hg15 => ?_) ?_; rotate_left
        · simp only [List.take_succ_cons, List.take_zero, List.map_cons, List.map_nil, strip, Nat.reduceBEq, beq_self_eq_true, Bool.and_self, Bool.true_and, Bool.false_and, cond_true, cond_false]
          refine AL_move rfl ?_
          refine AL_callp en17 (.cons (.ev rfl) (.cons (.ev rfl) (.nil))) (tags_May_ok _ _) ?_
          refine AL_move rfl ?_
          refine AL_callp en17 (.cons (.ev rfl) (.cons (.ev rfl) (.nil))) (tags_May_ok _ _) ?_
          refine AL_norm (by first | (simp only [tput, anyAt, setAll, List.foldl_cons, List.foldl_nil, List.set_cons_zero, List.set_cons_succ]; rfl) | rfl) ?_
          refine AL_beql rfl rfl un4 ?_
          refine AL_nil (grpQ_mk ?_)
          try simp only [tput, anyAt, setAll, List.foldl_cons, List.foldl_nil, List.set_cons_zero, List.set_cons_succ]
          repeat (first | exact Weak.nil | refine Weak.cons ?_ | refine Weak.consAny ?_)
        refine AL_norm (by first | (simp only [tput, anyAt, setAll, List.foldl_cons, List.foldl_nil, List.set_cons_zero, List.set_cons_succ]; rfl) | rfl) ?_
        refine AL_move rfl ?_
        refine AL_and (j := 12) (n := 5) (c := 74) (t := 79) (r := 80) (v := ?v16) [75, 76, 77, 78, 79] rfl rfl rfl rfl rfl rfl rfl (fun hg16 => ?_) ?_; rotate_left
        · simp only [List.take_succ_cons, List.take_zero, List.map_cons, List.map_nil, strip, Nat.reduceBEq, beq_self_eq_true, Bool.and_self, Bool.true_and, Bool.false_and, cond_true, cond_false]
          refine AL_move rfl ?_
          refine AL_callp en17 (.cons (.ev rfl) (.cons (.ev rfl) (.nil))) (tags_May_ok _ _) ?_
          refine AL_norm (by first | (simp only [tput, anyAt, setAll, List.foldl_cons, List.foldl_nil, List.set_cons_zero, List.set_cons_succ]; rfl) | rfl) ?_
          refine AL_move rfl ?_
          refine AL_callp en17 (.cons (.ev rfl) (.cons (.ev rfl) (.nil))) (tags_May_ok _ _) ?_
          refine AL_beql rfl rfl un4 ?_
          refine AL_nil (grpQ_mk ?_)
          try simp only [tput, anyAt, setAll, List.foldl_cons, List.foldl_nil, List.set_cons_zero, List.set_cons_succ]
          repeat (first | exact Weak.nil | refine Weak.cons ?_ | refine Weak.consAny ?_)
        refine AL_norm (by first | (simp only [tput, anyAt, setAll, List.foldl_cons, List.foldl_nil, List.set_cons_zero, List.set_cons_succ]; rfl) | rfl) ?_
        refine AL_move rfl ?_
        refine AL_norm (by first | (simp only [tput, anyAt, setAll, List.foldl_cons, List.foldl_nil, List.set_cons_zero, List.set_cons_succ]; rfl) | rfl) ?_
        refine AL_and (j := 19) (n := 1) (c := 81) (t := 82) (r := 83) (v := ?v17) [82] rfl rfl rfl rfl rfl rfl rfl (fun hg17 => ?_) ?_; rotate_left
        · simp only [List.take_succ_cons, List.take_zero, List.map_cons, List.map_nil, strip, Nat.reduceBEq, beq_self_eq_true, Bool.and_self, Bool.true_and, Bool.false_and, cond_true, cond_false]
          refine AL_callpi en14 (.nil) (by repeat (first | assumption | refine Holds.upd ?_ (by assumption))) (quillworklaw02_awake_ok) ?_
          refine AL_nil (grpQ_mk ?_)
          try simp only [tput, anyAt, setAll, List.foldl_cons, List.foldl_nil, List.set_cons_zero, List.set_cons_succ]
          repeat (first | exact Weak.nil | refine Weak.cons ?_ | refine Weak.consAny ?_)
        refine AL_norm (by first | (simp only [tput, anyAt, setAll, List.foldl_cons, List.foldl_nil, List.set_cons_zero, List.set_cons_succ]; rfl) | rfl) ?_
        refine AL_assign rfl ?_
        refine AL_norm (by first | (simp only [tput, anyAt, setAll, List.foldl_cons, List.foldl_nil, List.set_cons_zero, List.set_cons_succ]; rfl) | rfl) ?_
        refine AL_nil ?_
        refine seqQ_n ?_
        refine AW_ret ?_
        refine retQ_1 (H' := H) (.inr rfl) rfl (by repeat (first | exact SubH.refl _ | refine SubH.upd ?_ (by assumption))) ?_
        refine K_eq ?_ hK
        exact congrArg (fun b => AV.v (.bool b)) (by rw [may_same c (.inl ⟨rfl, rfl⟩), may_same c (.inr (.inl ⟨rfl, rfl⟩)), may_same c (.inr (.inr ⟨rfl, rfl⟩))]; rfl)

/-- quillwork/quillworklaw02.TagsTell -/
theorem quillworklaw02_TagsTell_ok (k d : Int) :
    PI TI Tryd.prog 7 [.v (.int .i64 k), .v (.int .i64 d)] (.v (.bool true)) := by
  intro H K hI hK
  refine AC_of Tryd.func7 rfl (rs := [.tmp 4]) rfl Tryd.ntmps7 rfl ?_
  refine AW_norm (by simp only [List.length_cons, List.length_nil, Nat.reduceAdd, Nat.reduceSub, List.replicate, List.cons_append, List.nil_append]; rfl) ?_
  refine AW_seq ?_
  refine AW_region ?_
  refine AL_assign rfl ?_
  refine AL_norm (by first | (simp only [tput, anyAt, setAll, List.foldl_cons, List.foldl_nil, List.set_cons_zero, List.set_cons_succ]; rfl) | rfl) ?_
  refine AL_nil ?_
  refine seqQ_n ?_
  refine AW_seq ?_
  refine AW_region ?_
  refine AL_move rfl ?_
  refine AL_callp en22 (.cons (.ev rfl) (.nil)) (tags_Line_ok _) ?_
  refine AL_move rfl ?_
  refine AL_norm (by first | (simp only [tput, anyAt, setAll, List.foldl_cons, List.foldl_nil, List.set_cons_zero, List.set_cons_succ]; rfl) | rfl) ?_
  refine AL_extract rfl rfl ?_
  refine AL_extract rfl rfl ?_
  refine AL_assign rfl ?_
  refine AL_assign rfl ?_
  refine AL_norm (by first | (simp only [tput, anyAt, setAll, List.foldl_cons, List.foldl_nil, List.set_cons_zero, List.set_cons_succ]; rfl) | rfl) ?_
  refine AL_nil ?_
  refine seqQ_n ?_
  refine AW_seq ?_
  refine AW_region ?_
  refine AL_move rfl ?_
  refine AL_norm (by first | (simp only [tput, anyAt, setAll, List.foldl_cons, List.foldl_nil, List.set_cons_zero, List.set_cons_succ]; rfl) | rfl) ?_
  refine AL_callp en23 (.cons (.ev rfl) (.nil)) (quillworkref02_Line_ok _) ?_
  refine AL_move rfl ?_
  refine AL_extract rfl rfl ?_
  refine AL_extract rfl rfl ?_
  refine AL_norm (by first | (simp only [tput, anyAt, setAll, List.foldl_cons, List.foldl_nil, List.set_cons_zero, List.set_cons_succ]; rfl) | rfl) ?_
  refine AL_assign rfl ?_
  refine AL_assign rfl ?_
  refine AL_norm (by first | (simp only [tput, anyAt, setAll, List.foldl_cons, List.foldl_nil, List.set_cons_zero, List.set_cons_succ]; rfl) | rfl) ?_
  refine AL_nil ?_
  refine seqQ_n ?_
  refine AW_seq ?_
  refine AW_region ?_
  refine AL_move rfl ?_
  refine AL_callp en19 (.cons (.ev rfl) (.nil)) (tags_Name_ok _) ?_
  refine AL_norm (by first | (simp only [tput, anyAt, setAll, List.foldl_cons, List.foldl_nil, List.set_cons_zero, List.set_cons_succ]; rfl) | rfl) ?_
  refine AL_move rfl ?_
  refine AL_callp en24 (.cons (.ev rfl) (.nil)) (quillworkref02_Name_ok _) ?_
  refine AL_seql rfl rfl ?_
  refine AL_move rfl ?_
  refine AL_norm (by first | (simp only [tput, anyAt, setAll, List.foldl_cons, List.foldl_nil, List.set_cons_zero, List.set_cons_succ]; rfl) | rfl) ?_
  refine AL_and (j := 5) (n := 5) (c := 24) (t := 29) (r := 30) (v := ?v1) [25, 26, 27, 28, 29] rfl rfl rfl rfl rfl rfl rfl (fun hg1 => ?_) ?_; rotate_left
  · simp only [List.take_succ_cons, List.take_zero, List.map_cons, List.map_nil, strip, Nat.reduceBEq, beq_self_eq_true, Bool.and_self, Bool.true_and, Bool.false_and, cond_true, cond_false]
    refine AL_move rfl ?_
    refine AL_callp en20 (.cons (.ev rfl) (.nil)) (tags_Class_ok _) ?_
    refine AL_move rfl ?_
    refine AL_callp en25 (.cons (.ev rfl) (.nil)) (quillworkref02_Class_ok _) ?_
    refine AL_norm (by first | (simp only [tput, anyAt, setAll, List.foldl_cons, List.foldl_nil, List.set_cons_zero, List.set_cons_succ]; rfl) | rfl) ?_
    refine AL_eql rfl rfl ?_
    refine AL_nil (grpQ_mk ?_)
    try simp only [tput, anyAt, setAll, List.foldl_cons, List.foldl_nil, List.set_cons_zero, List.set_cons_succ]
    repeat (first | exact Weak.nil | refine Weak.cons ?_ | refine Weak.consAny ?_)
  refine AL_norm (by first | (simp only [tput, anyAt, setAll, List.foldl_cons, List.foldl_nil, List.set_cons_zero, List.set_cons_succ]; rfl) | rfl) ?_
  refine AL_move rfl ?_
  refine AL_and (j := 12) (n := 5) (c := 31) (t := 36) (r := 37) (v := ?v2) [32, 33, 34, 35, 36] rfl rfl rfl rfl rfl rfl rfl (fun hg2 => ?_) ?_; rotate_left
  · simp only [List.take_succ_cons, List.take_zero, List.map_cons, List.map_nil, strip, Nat.reduceBEq, beq_self_eq_true, Bool.and_self, Bool.true_and, Bool.false_and, cond_true, cond_false]
    refine AL_move rfl ?_
    refine AL_callp en26 (.cons (.ev rfl) (.nil)) (tags_Heading_ok _) ?_
    refine AL_norm (by first | (simp only [tput, anyAt, setAll, List.foldl_cons, List.foldl_nil, List.set_cons_zero, List.set_cons_succ]; rfl) | rfl) ?_
    refine AL_move rfl ?_
    refine AL_callp en27 (.cons (.ev rfl) (.nil)) (quillworkref02_Heading_ok _) ?_
    refine AL_eql rfl rfl ?_
    refine AL_nil (grpQ_mk ?_)
    try simp only [tput, anyAt, setAll, List.foldl_cons, List.foldl_nil, List.set_cons_zero, List.set_cons_succ]
    repeat (first | exact Weak.nil | refine Weak.cons ?_ | refine Weak.consAny ?_)
  refine AL_norm (by first | (simp only [tput, anyAt, setAll, List.foldl_cons, List.foldl_nil, List.set_cons_zero, List.set_cons_succ]; rfl) | rfl) ?_
  refine AL_move rfl ?_
  refine AL_norm (by first | (simp only [tput, anyAt, setAll, List.foldl_cons, List.foldl_nil, List.set_cons_zero, List.set_cons_succ]; rfl) | rfl) ?_
  refine AL_and (j := 19) (n := 3) (c := 38) (t := 41) (r := 42) (v := ?v3) [39, 40, 41] rfl rfl rfl rfl rfl rfl rfl (fun hg3 => ?_) ?_; rotate_left
  · simp only [List.take_succ_cons, List.take_zero, List.map_cons, List.map_nil, strip, Nat.reduceBEq, beq_self_eq_true, Bool.and_self, Bool.true_and, Bool.false_and, cond_true, cond_false]
    refine AL_move rfl ?_
    refine AL_move rfl ?_
    refine AL_eql rfl rfl ?_
    refine AL_nil (grpQ_mk ?_)
    try simp only [tput, anyAt, setAll, List.foldl_cons, List.foldl_nil, List.set_cons_zero, List.set_cons_succ]
    repeat (first | exact Weak.nil | refine Weak.cons ?_ | refine Weak.consAny ?_)
  refine AL_norm (by first | (simp only [tput, anyAt, setAll, List.foldl_cons, List.foldl_nil, List.set_cons_zero, List.set_cons_succ]; rfl) | rfl) ?_
  refine AL_move rfl ?_
  refine AL_norm (by first | (simp only [tput, anyAt, setAll, List.foldl_cons, List.foldl_nil, List.set_cons_zero, List.set_cons_succ]; rfl) | rfl) ?_
  refine AL_and (j := 24) (n := 3) (c := 43) (t := 46) (r := 47) (v := ?v4) [44, 45, 46] rfl rfl rfl rfl rfl rfl rfl (fun hg4 => ?_) ?_; rotate_left
  · simp only [List.take_succ_cons, List.take_zero, List.map_cons, List.map_nil, strip, Nat.reduceBEq, beq_self_eq_true, Bool.and_self, Bool.true_and, Bool.false_and, cond_true, cond_false]
    refine AL_move rfl ?_
    refine AL_move rfl ?_
    refine AL_beql rfl rfl un4 ?_
    refine AL_nil (grpQ_mk ?_)
    try simp only [tput, anyAt, setAll, List.foldl_cons, List.foldl_nil, List.set_cons_zero, List.set_cons_succ]
    repeat (first | exact Weak.nil | refine Weak.cons ?_ | refine Weak.consAny ?_)
  refine AL_norm (by first | (simp only [tput, anyAt, setAll, List.foldl_cons, List.foldl_nil, List.set_cons_zero, List.set_cons_succ]; rfl) | rfl) ?_
  refine AL_move rfl ?_
  refine AL_norm (by first | (simp only [tput, anyAt, setAll, List.foldl_cons, List.foldl_nil, List.set_cons_zero, List.set_cons_succ]; rfl) | rfl) ?_
  refine AL_and (j := 29) (n := 1) (c := 48) (t := 49) (r := 50) (v := ?v5) [49] rfl rfl rfl rfl rfl rfl rfl (fun hg5 => ?_) ?_; rotate_left
  · simp only [List.take_succ_cons, List.take_zero, List.map_cons, List.map_nil, strip, Nat.reduceBEq, beq_self_eq_true, Bool.and_self, Bool.true_and, Bool.false_and, cond_true, cond_false]
    refine AL_callpi en14 (.nil) (by repeat (first | assumption | refine Holds.upd ?_ (by assumption))) (quillworklaw02_awake_ok) ?_
    refine AL_nil (grpQ_mk ?_)
    try simp only [tput, anyAt, setAll, List.foldl_cons, List.foldl_nil, List.set_cons_zero, List.set_cons_succ]
    repeat (first | exact Weak.nil | refine Weak.cons ?_ | refine Weak.consAny ?_)
  refine AL_norm (by first | (simp only [tput, anyAt, setAll, List.foldl_cons, List.foldl_nil, List.set_cons_zero, List.set_cons_succ]; rfl) | rfl) ?_
  refine AL_assign rfl ?_
  refine AL_norm (by first | (simp only [tput, anyAt, setAll, List.foldl_cons, List.foldl_nil, List.set_cons_zero, List.set_cons_succ]; rfl) | rfl) ?_
  refine AL_nil ?_
  refine seqQ_n ?_
  refine AW_ret ?_
  refine retQ_1 (H' := H) (.inr rfl) rfl (by repeat (first | exact SubH.refl _ | refine SubH.upd ?_ (by assumption))) ?_
  refine K_eq ?_ hK
  simp
end Go.Proofs
