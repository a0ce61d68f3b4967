/- The given statement of the law: for every input the law answers true. No conditions of our own. -/
import Derived.Test.YtcnjcjhdcloniaaDoorTY
import Derived.Test.YtcnjcjhdcloniaaDoorTH
import Derived.Test.YtcnjcjhdcloniaaDoorProg
set_option autoImplicit false
set_option linter.unusedVariables false
set_option linter.unusedSimpArgs false
set_option maxRecDepth 100000
set_option maxHeartbeats 2000000
namespace Go.Proofs
open Go Go.RowKit Go.AL Go.Tags Go.IntWalk
theorem un33 : Tryd.prog.underlying 33 = some (.slice 3) := by kernel_rfl
theorem en55 : entersOf Tryd.prog 55 = true := by kernel_rfl
theorem en43 : entersOf Tryd.prog 43 = true := by kernel_rfl
theorem inf3 : infoOf Tryd.prog 3 = some (some (.int .i64 0), 1, 8) := by kernel_rfl
theorem en28 : entersOf Tryd.prog 28 = true := by kernel_rfl
theorem en30 : entersOf Tryd.prog 30 = true := by kernel_rfl
theorem en29 : entersOf Tryd.prog 29 = true := by kernel_rfl

/-- slices.Index[[]int,int] -/
theorem slices_Index_int_int_ok  :
    ∀ (zs : List Int) (v : Int), zs.length ≤ 100 → ∀ H (K : AV → AH → Prop), (∀ r : Int, (0 ≤ r ↔ v ∈ zs) → K (.v (.int .i64 r)) H) → AC Tryd.prog 55 [.sl 3 (zs.map intAV), .v (.int .i64 v)] H K := by
  intro zs v hz H K hK
  refine AC_of Tryd.func55 rfl (rs := [.tmp 4]) rfl Tryd.ntmps55 rfl ?_
  refine AW_norm (by simp only [List.length_cons, List.length_nil, Nat.reduceAdd, Nat.reduceSub, List.replicate, List.cons_append, List.nil_append]; rfl) ?_
  refine AW_seq ?_
  refine AW_region ?_
  refine AL_assign rfl ?_
  refine AL_norm (by first | (simp only [tput, anyAt, setAll, List.foldl_cons, List.foldl_nil, List.set_cons_zero, List.set_cons_succ]; rfl) | rfl) ?_
  refine AL_nil ?_
  refine seqQ_n ?_
  refine AW_seq ?_
  refine AW_seq ?_
  refine AW_region ?_
  refine AL_move rfl ?_
  first | refine AL_len_sl un33 rfl ?_ | refine AL_len_own un33 rfl ?_
  refine AL_move rfl ?_
  refine AL_norm (by first | (simp only [tput, anyAt, setAll, List.foldl_cons, List.foldl_nil, List.set_cons_zero, List.set_cons_succ]; rfl) | rfl) ?_
  refine AL_nil ?_
  refine seqQ_n ?_
  refine AW_block ?_
  refine AW_loops (α := Nat) [4, 5, 8, 9, 10, 11, 12, 13, 14, 15, 16, 17, 18] (fun i => [(8, .v (.int .i64 (i : Int)))]) (fun i => H) (fun i => i ≤ zs.length ∧ ∀ j, j < i → ¬ v = zs.getD j 0) (fun i => zs.length - i) (0) ?_ ?_ ?_ ?_
  · exact ⟨Nat.zero_le _, fun j hj => absurd hj (Nat.not_lt_zero j)⟩
  · repeat (first | exact SubH.refl _ | assumption | refine SubH.new ?_ (by assumption))
  · skip
    try simp only [tput, anyAt, setAll, List.foldl_cons, List.foldl_nil, List.set_cons_zero, List.set_cons_succ]
    repeat (first | exact Weak.nil | refine Weak.cons ?_ | refine Weak.consAny ?_)
  · intro i hI
    refine AW_norm (by first | (simp only [tput, anyAt, setAll, List.foldl_cons, List.foldl_nil, List.set_cons_zero, List.set_cons_succ]; rfl) | rfl) ?_
    refine AW_seq ?_
    refine AW_region ?_
    refine AL_lss rfl rfl ?_
    refine AL_norm (by first | (simp only [tput, anyAt, setAll, List.foldl_cons, List.foldl_nil, List.set_cons_zero, List.set_cons_succ]; rfl) | rfl) ?_
    refine AL_nil ?_
    refine seqQ_n ?_
    refine AW_seq ?_
    refine AW_cond rfl (fun hc1 => ?_) (fun hc1 => ?_)
    · try simp only [Bool.or_eq_true, Bool.and_eq_true, Bool.or_eq_false_iff, Bool.and_eq_false_iff, decide_eq_true_eq, decide_eq_false_iff_not, Bool.not_eq_true', Bool.not_eq_false', beq_iff_eq, ne_eq, Decidable.not_not, List.length_map] at hc1
      refine AW_skip ?_
      refine seqQ_n ?_
      refine AW_seq ?_
      refine AW_block ?_
      refine AW_seq ?_
      refine AW_region ?_
      refine AL_move rfl ?_
      refine AL_norm (by first | (simp only [tput, anyAt, setAll, List.foldl_cons, List.foldl_nil, List.set_cons_zero, List.set_cons_succ]; rfl) | rfl) ?_
      refine AL_assign rfl ?_
      refine AL_norm (by first | (simp only [tput, anyAt, setAll, List.foldl_cons, List.foldl_nil, List.set_cons_zero, List.set_cons_succ]; rfl) | rfl) ?_
      refine AL_nil ?_
      refine seqQ_n ?_
      refine AW_seq ?_
      refine AW_region ?_
      refine AL_move rfl ?_
      refine AL_move rfl ?_
      refine AL_move rfl ?_
      refine AL_norm (by first | (simp only [tput, anyAt, setAll, List.foldl_cons, List.foldl_nil, List.set_cons_zero, List.set_cons_succ]; rfl) | rfl) ?_
      first | refine AL_indexAddr_sl (y := intAV (zs.getD i 0)) un33 sz3 (by decide) rfl rfl ?_ ?_ ?_ ?_ | refine AL_indexAddr_own un33 sz3 rfl rfl ?_ ?_ ?_
      · omega
      · simp only [List.length_map]; omega
      · exact int_at (n := i) (by omega)
      first | refine AL_load_rp sz3 rfl ag3 ?_ | refine AL_loadw sz3 rfl (by repeat (first | exact AH.upd_same _ _ _ | exact hH | assumption | refine AH.look_other (by assumption) ?_)) (by exact ag3) (by exact rfl) ?_ | refine AL_load_pt ag3 sz3 (by decide) rfl (by repeat (first | exact AH.upd_same _ _ _ | exact hH | assumption | refine AH.look_other (by assumption) ?_)) (by first | assumption | exact sz54 | exact sz9 | exact sz51 | exact sz48 | exact sz3 | exact sz5) (by exact rfl) (by exact rfl) (by exact rfl) ?_
      refine AL_eql rfl rfl ?_
      refine AL_norm (by first | (simp only [tput, anyAt, setAll, List.foldl_cons, List.foldl_nil, List.set_cons_zero, List.set_cons_succ]; rfl) | rfl) ?_
      refine AL_nil ?_
      refine seqQ_n ?_
      refine AW_cond rfl (fun hc2 => ?_) (fun hc2 => ?_)
      · try simp only [Bool.or_eq_true, Bool.and_eq_true, Bool.or_eq_false_iff, Bool.and_eq_false_iff, decide_eq_true_eq, decide_eq_false_iff_not, Bool.not_eq_true', Bool.not_eq_false', beq_iff_eq, ne_eq, Decidable.not_not, List.length_map] at hc2
        refine AW_seq ?_
        refine AW_region ?_
        refine AL_move rfl ?_
        refine AL_norm (by first | (simp only [tput, anyAt, setAll, List.foldl_cons, List.foldl_nil, List.set_cons_zero, List.set_cons_succ]; rfl) | rfl) ?_
        refine AL_assign rfl ?_
        refine AL_norm (by first | (simp only [tput, anyAt, setAll, List.foldl_cons, List.foldl_nil, List.set_cons_zero, List.set_cons_succ]; rfl) | rfl) ?_
        refine AL_nil ?_
        refine seqQ_n ?_
        refine AW_ret ?_
        refine blockQ_r ?_
        refine seqQ_r ?_
        refine loopQ_r ?_
        refine blockQ_r ?_
        refine seqQ_r ?_
        refine retQ_1 (H' := H) (.inr rfl) rfl (by repeat (first | exact SubH.refl _ | refine SubH.upd ?_ (by assumption))) ?_
        exact hK _ ⟨fun _ => mem_at (by omega) hc2, fun _ => by omega⟩
      · try simp only [Bool.or_eq_true, Bool.and_eq_true, Bool.or_eq_false_iff, Bool.and_eq_false_iff, decide_eq_true_eq, decide_eq_false_iff_not, Bool.not_eq_true', Bool.not_eq_false', beq_iff_eq, ne_eq, Decidable.not_not, List.length_map] at hc2
        refine AW_skip ?_
        refine blockQ_n ?_
        refine seqQ_n ?_
        refine AW_region ?_
        refine AL_addz rfl rfl (((i + 1 : Nat) : Int)) (by exact inc64 (by omega)) ?_
        refine AL_move rfl ?_
        refine AL_norm (by first | (simp only [tput, anyAt, setAll, List.foldl_cons, List.foldl_nil, List.set_cons_zero, List.set_cons_succ]; rfl) | rfl) ?_
        refine AL_nil ?_
        refine loopQ_n (i + 1) ?_ ?_ ?_ ?_
        · exact ⟨by omega, fun j hj => by rcases Nat.lt_or_ge j i with h | h; exact hI.2 j h; rw [show j = i by omega]; exact hc2⟩
        · omega
        · repeat (first | exact SubH.refl _ | assumption | refine SubH.new ?_ (by assumption))
        · skip
          try simp only [tput, anyAt, setAll, List.foldl_cons, List.foldl_nil, List.set_cons_zero, List.set_cons_succ]
          repeat (first | exact Weak.nil | refine Weak.cons ?_ | refine Weak.consAny ?_)
    · try simp only [Bool.or_eq_true, Bool.and_eq_true, Bool.or_eq_false_iff, Bool.and_eq_false_iff, decide_eq_true_eq, decide_eq_false_iff_not, Bool.not_eq_true', Bool.not_eq_false', beq_iff_eq, ne_eq, Decidable.not_not, List.length_map] at hc1
      refine AW_exit ?_
      refine seqQ_x ?_
      refine loopQ_x ?_
      refine blockQ_hit ?_
      refine seqQ_n ?_
      refine AW_seq ?_
      refine AW_region ?_
      refine AL_assign rfl ?_
      refine AL_norm (by first | (simp only [tput, anyAt, setAll, List.foldl_cons, List.foldl_nil, List.set_cons_zero, List.set_cons_succ]; rfl) | rfl) ?_
      refine AL_nil ?_
      refine seqQ_n ?_
      refine AW_ret ?_
      refine retQ_1 (H' := H) (.inr rfl) rfl (by repeat (first | exact SubH.refl _ | refine SubH.upd ?_ (by assumption))) ?_
      exact hK _ ⟨fun h => absurd h (by omega), fun h => absurd h (mem_not (n := i) (by omega) hI.2)⟩

/-- slices.Contains[[]int,int] -/
theorem slices_Contains_int_int_ok (zs : List Int) (hz : zs.length ≤ 100) (v : Int) :
    PF Tryd.prog 43 [.sl 3 (zs.map intAV), .v (.int .i64 v)] (.v (.bool (decide (v ∈ zs)))) := by
  intro H K hK
  refine AC_of Tryd.func43 rfl (rs := [.tmp 4]) rfl Tryd.ntmps43 rfl ?_
  refine AW_norm (by simp only [List.length_cons, List.length_nil, Nat.reduceAdd, Nat.reduceSub, List.replicate, List.cons_append, List.nil_append]; rfl) ?_
  refine AW_seq ?_
  refine AW_region ?_
  refine AL_assign rfl ?_
  refine AL_norm (by first | (simp only [tput, anyAt, setAll, List.foldl_cons, List.foldl_nil, List.set_cons_zero, List.set_cons_succ]; rfl) | rfl) ?_
  refine AL_nil ?_
  refine seqQ_n ?_
  refine AW_seq ?_
  refine AW_region ?_
  refine AL_move rfl ?_
  refine AL_move rfl ?_
  refine AL_callk en55 (.cons (.ev rfl) (.cons (.ev rfl) (.nil))) (slices_Index_int_int_ok zs v hz H (fun x H1 => ∃ r : Int, (0 ≤ r ↔ v ∈ zs) ∧ x = .v (.int .i64 r) ∧ H = H1) (fun r hr => ⟨r, hr, rfl, rfl⟩)) ?_
  rintro _ _ ⟨r, hr, rfl, rfl⟩
  refine AL_norm (by first | (simp only [tput, anyAt, setAll, List.foldl_cons, List.foldl_nil, List.set_cons_zero, List.set_cons_succ]; rfl) | rfl) ?_
  refine AL_geq rfl rfl ?_
  refine AL_assign rfl ?_
  refine AL_norm (by first | (simp only [tput, anyAt, setAll, List.foldl_cons, List.foldl_nil, List.set_cons_zero, List.set_cons_succ]; rfl) | rfl) ?_
  refine AL_nil ?_
  refine seqQ_n ?_
  refine AW_ret ?_
  refine retQ_1 (H' := H) (.inr rfl) rfl (by repeat (first | exact SubH.refl _ | refine SubH.upd ?_ (by assumption))) ?_
  refine K_eq ?_ hK
  exact congrArg (fun b => AV.v (.bool b)) (decide_eq_decide.2 hr)

/-- quillwork/tags.Tags -/
theorem tags_Tags_ok (zs : List Int) (hz : zs.length ≤ 100) :
    PF Tryd.prog 28 [.sl 3 (zs.map intAV)] (.sl 3 ((tz zs 17).map intAV)) := by
  intro H K hK
  refine AC_frz 3 ((tz zs 17).map intAV) ?_
  refine AC_of Tryd.func28 rfl (rs := [.tmp 2]) rfl Tryd.ntmps28 rfl ?_
  refine AW_norm (by simp only [List.length_cons, List.length_nil, Nat.reduceAdd, Nat.reduceSub, List.replicate, List.cons_append, List.nil_append]; rfl) ?_
  refine AW_seq ?_
  refine AW_region ?_
  refine AL_assign rfl ?_
  refine AL_norm (by first | (simp only [tput, anyAt, setAll, List.foldl_cons, List.foldl_nil, List.set_cons_zero, List.set_cons_succ]; rfl) | rfl) ?_
  refine AL_nil ?_
  refine seqQ_n ?_
  refine AW_seq ?_
  refine AW_region ?_
  refine AL_assign rfl ?_
  refine AL_norm (by first | (simp only [tput, anyAt, setAll, List.foldl_cons, List.foldl_nil, List.set_cons_zero, List.set_cons_succ]; rfl) | rfl) ?_
  refine AL_nil ?_
  refine seqQ_n ?_
  refine AW_seq ?_
  refine AW_seq ?_
  refine AW_region ?_
  refine AL_callp en42 (.nil) (tags_table_ok) ?_
  refine AL_move rfl ?_
  refine AL_norm (by first | (simp only [tput, anyAt, setAll, List.foldl_cons, List.foldl_nil, List.set_cons_zero, List.set_cons_succ]; rfl) | rfl) ?_
  refine AL_nil ?_
  refine seqQ_n ?_
  refine AW_block ?_
  refine AW_loops (α := Nat × Option Nat × Nat) [3, 4, 5, 7, 8, 9, 10, 11, 12, 13, 14, 15, 16, 17, 18, 19] (fun z => [(7, .v (.int .i64 (z.1 : Int))), (3, .own z.2.1 z.2.2 (tz zs z.1).length)]) (fun z => H.put z.2.1 3 z.2.2 ((tz zs z.1).map intAV)) (fun z => z.1 ≤ 17 ∧ Fresh H z.2.1 z.2.2 ((tz zs z.1).map intAV)) (fun z => 17 - z.1) ((0, none, 0)) ?_ ?_ ?_ ?_
  · exact ⟨Nat.zero_le _, rfl, rfl⟩
  · exact SubH.refl _
  · skip
    try simp only [tput, anyAt, setAll, List.foldl_cons, List.foldl_nil, List.set_cons_zero, List.set_cons_succ]
    repeat (first | exact Weak.nil | refine Weak.cons ?_ | refine Weak.consAny ?_)
  · rintro ⟨k, A, c⟩ hI; dsimp only at hI ⊢
    refine AW_norm (by first | (simp only [tput, anyAt, setAll, List.foldl_cons, List.foldl_nil, List.set_cons_zero, List.set_cons_succ]; rfl) | rfl) ?_
    refine AW_seq ?_
    refine AW_region ?_
    refine AL_lss rfl rfl ?_
    refine AL_norm (by first | (simp only [tput, anyAt, setAll, List.foldl_cons, List.foldl_nil, List.set_cons_zero, List.set_cons_succ]; rfl) | rfl) ?_
    refine AL_nil ?_
    refine seqQ_n ?_
    refine AW_seq ?_
    refine AW_cond rfl (fun hc1 => ?_) (fun hc1 => ?_)
    · try simp only [Bool.or_eq_true, Bool.and_eq_true, Bool.or_eq_false_iff, Bool.and_eq_false_iff, decide_eq_true_eq, decide_eq_false_iff_not, Bool.not_eq_true', Bool.not_eq_false', beq_iff_eq, ne_eq, Decidable.not_not, List.length_map] at hc1
      refine AW_skip ?_
      refine seqQ_n ?_
      refine AW_seq ?_
      refine AW_block ?_
      refine AW_seq ?_
      refine AW_region ?_
      refine AL_move rfl ?_
      refine AL_norm (by first | (simp only [tput, anyAt, setAll, List.foldl_cons, List.foldl_nil, List.set_cons_zero, List.set_cons_succ]; rfl) | rfl) ?_
      refine AL_index_arr (y := tagRow k) un54 ag51 sz51 rfl rfl ?_ ?_ ?_ ?_
      · omega
      · omega
      · exact row_at (k := (k : Int)) (by omega) (by omega)
      refine AL_alloc ze51 (.agg (.own (.v .nil))) rfl sz51 rfl ?_
      intro b1 hb1
      have hn1 : H b1 = none := SubH.none (by repeat (first | exact SubH.refl _ | exact hI.2.subH | refine SubH.upd ?_ (by assumption))) hb1
      refine AL_assign rfl ?_
      first | refine AL_store_w sz51 rfl (.ev rfl) rfl (by repeat (first | exact AH.upd_same _ _ _ | exact hH | assumption | refine AH.look_other (by assumption) ?_)) rfl (by exact rfl) ?_ | refine AL_store rfl (.ev rfl) rfl (by repeat (first | exact AH.upd_same _ _ _ | exact hH | assumption | refine AH.look_other (by assumption) ?_)) (by first | assumption | exact sz54 | exact sz9 | exact sz51 | exact sz48 | exact sz3 | exact sz5) (by exact rfl) sz51 rfl (by decide) (fun h => by first | (cases h; done) | exact ⟨rfl, rfl, rfl⟩) ?_
      refine AL_heap (by first | (simp only [AH.upd_upd]; rfl) | rfl) ?_
      refine AL_norm (by first | (simp only [tput, anyAt, setAll, List.foldl_cons, List.foldl_nil, List.set_cons_zero, List.set_cons_succ]; rfl) | rfl) ?_
      refine AL_nil ?_
      refine seqQ_n ?_
      refine AW_seq ?_
      refine AW_region ?_
      refine AL_move rfl ?_
      refine AL_norm (by first | (simp only [tput, anyAt, setAll, List.foldl_cons, List.foldl_nil, List.set_cons_zero, List.set_cons_succ]; rfl) | rfl) ?_
      first | refine AL_fieldAddr_pt fl51_1 sz3 (by decide) rfl ?_ | refine AL_fieldAddr_rp fl51_1 ag3 sz3 (by decide) (by decide) rfl rfl (fun _ => rfl) ?_
      first | refine AL_load_rp sz3 rfl ag3 ?_ | refine AL_loadw sz3 rfl (by repeat (first | exact AH.upd_same _ _ _ | exact hH | assumption | refine AH.look_other (by assumption) ?_)) (by exact ag3) (by exact rfl) ?_ | refine AL_load_pt ag3 sz3 (by decide) rfl (by repeat (first | exact AH.upd_same _ _ _ | exact hH | assumption | refine AH.look_other (by assumption) ?_)) (by first | assumption | exact sz54 | exact sz9 | exact sz51 | exact sz48 | exact sz3 | exact sz5) (by exact rfl) (by exact rfl) (by exact rfl) ?_
      refine AL_callp en43 (.cons (.ev rfl) (.cons (.ev rfl) (.nil))) (slices_Contains_int_int_ok zs hz _) ?_
      refine AL_norm (by first | (simp only [tput, anyAt, setAll, List.foldl_cons, List.foldl_nil, List.set_cons_zero, List.set_cons_succ]; rfl) | rfl) ?_
      refine AL_nil ?_
      refine seqQ_n ?_
      refine AW_cond rfl (fun hc2 => ?_) (fun hc2 => ?_)
      · try simp only [Bool.or_eq_true, Bool.and_eq_true, Bool.or_eq_false_iff, Bool.and_eq_false_iff, decide_eq_true_eq, decide_eq_false_iff_not, Bool.not_eq_true', Bool.not_eq_false', beq_iff_eq, ne_eq, Decidable.not_not, List.length_map] at hc2
        refine AW_region ?_
        refine AL_move rfl ?_
        refine AL_norm (by first | (simp only [tput, anyAt, setAll, List.foldl_cons, List.foldl_nil, List.set_cons_zero, List.set_cons_succ]; rfl) | rfl) ?_
        refine AL_move rfl ?_
        refine AL_sub' (H' := H.put A 3 c ((tz zs k).map intAV)) (SubH.new (SubH.refl _) hb1) ?_
        refine AL_append1p un33 inf3 rfl (by decide) (by decide) (by decide) rfl rfl (fun h => by cases h) rfl rfl rfl hI.2 (by rw [List.length_map]) (by have := tz_len zs k; omega) ?_
        intro ba ca hba
        refine AL_norm (by first | (simp only [tput, anyAt, setAll, List.foldl_cons, List.foldl_nil, List.set_cons_zero, List.set_cons_succ]; rfl) | rfl) ?_
        refine AL_assign rfl ?_
        refine AL_norm (by first | (simp only [tput, anyAt, setAll, List.foldl_cons, List.foldl_nil, List.set_cons_zero, List.set_cons_succ]; rfl) | rfl) ?_
        refine AL_nil ?_
        refine blockQ_n ?_
        refine seqQ_n ?_
        refine AW_region ?_
        refine AL_addz rfl rfl (((k + 1 : Nat) : Int)) (by exact inc64 (by omega)) ?_
        refine AL_move rfl ?_
        refine AL_norm (by first | (simp only [tput, anyAt, setAll, List.foldl_cons, List.foldl_nil, List.set_cons_zero, List.set_cons_succ]; rfl) | rfl) ?_
        refine AL_nil ?_
        refine loopQ_n ((k + 1, some ba, ca)) ?_ ?_ ?_ ?_
        · exact ⟨by omega, hba⟩
        · (show 17 - (k + 1) < 17 - k; omega)
        · rw [show (tz zs k).map intAV ++ [.v (.int .i64 (k : Int))] = (tz zs (k + 1)).map intAV from tz_yes hc2]; exact SubH.refl _
        · rw [show (tz zs (k + 1)).length = (tz zs k).length + 1 from tz_yes' hc2]
          try simp only [tput, anyAt, setAll, List.foldl_cons, List.foldl_nil, List.set_cons_zero, List.set_cons_succ]
          repeat (first | exact Weak.nil | refine Weak.cons ?_ | refine Weak.consAny ?_)
      · try simp only [Bool.or_eq_true, Bool.and_eq_true, Bool.or_eq_false_iff, Bool.and_eq_false_iff, decide_eq_true_eq, decide_eq_false_iff_not, Bool.not_eq_true', Bool.not_eq_false', beq_iff_eq, ne_eq, Decidable.not_not, List.length_map] at hc2
        refine AW_skip ?_
        refine blockQ_n ?_
        refine seqQ_n ?_
        refine AW_region ?_
        refine AL_addz rfl rfl (((k + 1 : Nat) : Int)) (by exact inc64 (by omega)) ?_
        refine AL_norm (by first | (simp only [tput, anyAt, setAll, List.foldl_cons, List.foldl_nil, List.set_cons_zero, List.set_cons_succ]; rfl) | rfl) ?_
        refine AL_move rfl ?_
        refine AL_norm (by first | (simp only [tput, anyAt, setAll, List.foldl_cons, List.foldl_nil, List.set_cons_zero, List.set_cons_succ]; rfl) | rfl) ?_
        refine AL_nil ?_
        refine loopQ_n ((k + 1, A, c)) ?_ ?_ ?_ ?_
        · refine ⟨by omega, ?_⟩; show Fresh H A c ((tz zs (k + 1)).map intAV); rw [tz_no hc2]; exact hI.2
        · (show 17 - (k + 1) < 17 - k; omega)
        · rw [show (tz zs (k + 1)) = tz zs k from tz_no hc2]; exact SubH.new (SubH.refl _) hb1
        · rw [show (tz zs (k + 1)) = tz zs k from tz_no hc2]
          try simp only [tput, anyAt, setAll, List.foldl_cons, List.foldl_nil, List.set_cons_zero, List.set_cons_succ]
          repeat (first | exact Weak.nil | refine Weak.cons ?_ | refine Weak.consAny ?_)
    · try simp only [Bool.or_eq_true, Bool.and_eq_true, Bool.or_eq_false_iff, Bool.and_eq_false_iff, decide_eq_true_eq, decide_eq_false_iff_not, Bool.not_eq_true', Bool.not_eq_false', beq_iff_eq, ne_eq, Decidable.not_not, List.length_map] at hc1; obtain rfl : k = 17 := by omega
      refine AW_exit ?_
      refine seqQ_x ?_
      refine loopQ_x ?_
      refine blockQ_hit ?_
      refine seqQ_n ?_
      refine AW_seq ?_
      refine AW_region ?_
      refine AL_move rfl ?_
      refine AL_assign rfl ?_
      refine AL_norm (by first | (simp only [tput, anyAt, setAll, List.foldl_cons, List.foldl_nil, List.set_cons_zero, List.set_cons_succ]; rfl) | rfl) ?_
      refine AL_nil ?_
      refine seqQ_n ?_
      refine AW_ret ?_
      refine retQ_1 (H' := H.put A 3 c ((tz zs 17).map intAV)) (.inr rfl) rfl (SubH.refl _) ?_
      exact ⟨A, c, hI.2, congrArg (AV.own A c) (List.length_map _).symm, rfl, hK⟩

/-- quillwork/quillworkref02.Same -/
theorem quillworkref02_Same_ok (zs ys : List Int) (hz : zs.length ≤ 100) :
    PF Tryd.prog 29 [.sl 3 (zs.map intAV), .sl 3 (ys.map intAV)] (.v (.bool (decide (zs = ys)))) := by
  intro H K hK
  refine AC_of Tryd.func29 rfl (rs := [.tmp 4]) rfl Tryd.ntmps29 rfl ?_
  refine AW_norm (by simp only [List.length_cons, List.length_nil, Nat.reduceAdd, Nat.reduceSub, List.replicate, List.cons_append, List.nil_append]; rfl) ?_
  refine AW_seq ?_
  refine AW_region ?_
  refine AL_assign rfl ?_
  refine AL_norm (by first | (simp only [tput, anyAt, setAll, List.foldl_cons, List.foldl_nil, List.set_cons_zero, List.set_cons_succ]; rfl) | rfl) ?_
  refine AL_nil ?_
  refine seqQ_n ?_
  refine AW_seq ?_
  refine AW_seq ?_
  refine AW_region ?_
  refine AL_move rfl ?_
  first | refine AL_len_sl un33 rfl ?_ | refine AL_len_own un33 rfl ?_
  refine AL_move rfl ?_
  refine AL_norm (by first | (simp only [tput, anyAt, setAll, List.foldl_cons, List.foldl_nil, List.set_cons_zero, List.set_cons_succ]; rfl) | rfl) ?_
  first | refine AL_len_sl un33 rfl ?_ | refine AL_len_own un33 rfl ?_
  refine AL_neq rfl rfl ?_
  refine AL_norm (by first | (simp only [tput, anyAt, setAll, List.foldl_cons, List.foldl_nil, List.set_cons_zero, List.set_cons_succ]; rfl) | rfl) ?_
  refine AL_nil ?_
  refine seqQ_n ?_
  refine AW_cond rfl (fun hc1 => ?_) (fun hc1 => ?_)
  · try simp only [Bool.or_eq_true, Bool.and_eq_true, Bool.or_eq_false_iff, Bool.and_eq_false_iff, decide_eq_true_eq, decide_eq_false_iff_not, Bool.not_eq_true', Bool.not_eq_false', beq_iff_eq, ne_eq, Decidable.not_not, List.length_map] at hc1
    refine AW_seq ?_
    refine AW_region ?_
    refine AL_assign rfl ?_
    refine AL_norm (by first | (simp only [tput, anyAt, setAll, List.foldl_cons, List.foldl_nil, List.set_cons_zero, List.set_cons_succ]; rfl) | rfl) ?_
    refine AL_nil ?_
    refine seqQ_n ?_
    refine AW_ret ?_
    refine seqQ_r ?_
    refine retQ_1 (H' := H) (.inr rfl) rfl (by repeat (first | exact SubH.refl _ | refine SubH.upd ?_ (by assumption))) ?_
    refine K_eq ?_ hK
    exact congrArg (fun b => AV.v (.bool b)) (decide_eq_false (fun h => hc1 (by rw [h]))).symm
  · try simp only [Bool.or_eq_true, Bool.and_eq_true, Bool.or_eq_false_iff, Bool.and_eq_false_iff, decide_eq_true_eq, decide_eq_false_iff_not, Bool.not_eq_true', Bool.not_eq_false', beq_iff_eq, ne_eq, Decidable.not_not, List.length_map] at hc1
    refine AW_skip ?_
    refine seqQ_n ?_
    refine AW_seq ?_
    refine AW_seq ?_
    refine AW_region ?_
    refine AL_assign rfl ?_
    refine AL_norm (by first | (simp only [tput, anyAt, setAll, List.foldl_cons, List.foldl_nil, List.set_cons_zero, List.set_cons_succ]; rfl) | rfl) ?_
    refine AL_nil ?_
    refine seqQ_n ?_
    refine AW_block ?_
    refine AW_loops (α := Nat) [4, 5, 11, 12, 13, 14, 15, 16, 17, 18, 19, 20, 21, 22, 23, 24, 25] (fun i => [(5, .v (.int .i64 (i : Int)))]) (fun i => H) (fun i => i ≤ zs.length ∧ ∀ j, j < i → zs.getD j 0 = ys.getD j 0) (fun i => zs.length - i) (0) ?_ ?_ ?_ ?_
    · exact ⟨Nat.zero_le _, fun j hj => absurd hj (Nat.not_lt_zero j)⟩
    · repeat (first | exact SubH.refl _ | assumption | refine SubH.new ?_ (by assumption))
    · skip
      try simp only [tput, anyAt, setAll, List.foldl_cons, List.foldl_nil, List.set_cons_zero, List.set_cons_succ]
      repeat (first | exact Weak.nil | refine Weak.cons ?_ | refine Weak.consAny ?_)
    · intro i hI
      refine AW_norm (by first | (simp only [tput, anyAt, setAll, List.foldl_cons, List.foldl_nil, List.set_cons_zero, List.set_cons_succ]; rfl) | rfl) ?_
      refine AW_seq ?_
      refine AW_seq ?_
      refine AW_region ?_
      refine AL_move rfl ?_
      refine AL_norm (by first | (simp only [tput, anyAt, setAll, List.foldl_cons, List.foldl_nil, List.set_cons_zero, List.set_cons_succ]; rfl) | rfl) ?_
      refine AL_move rfl ?_
      first | refine AL_len_sl un33 rfl ?_ | refine AL_len_own un33 rfl ?_
      refine AL_lss rfl rfl ?_
      refine AL_norm (by first | (simp only [tput, anyAt, setAll, List.foldl_cons, List.foldl_nil, List.set_cons_zero, List.set_cons_succ]; rfl) | rfl) ?_
      refine AL_nil ?_
      refine seqQ_n ?_
      refine AW_cond rfl (fun hc2 => ?_) (fun hc2 => ?_)
      · try simp only [Bool.or_eq_true, Bool.and_eq_true, Bool.or_eq_false_iff, Bool.and_eq_false_iff, decide_eq_true_eq, decide_eq_false_iff_not, Bool.not_eq_true', Bool.not_eq_false', beq_iff_eq, ne_eq, Decidable.not_not, List.length_map] at hc2
        refine AW_skip ?_
        refine seqQ_n ?_
        refine AW_seq ?_
        refine AW_block ?_
        refine AW_seq ?_
        refine' AW_drawl (xs := [_, _, _, _, _, _, _, _, _]) (by kernel_rfl) (Hops_cons (fun T hl hr => ?o1_0) (Hops_cons (fun T hl hr => ?o1_1) (Hops_cons (fun T hl hr => ?o1_2) (Hops_cons (fun T hl hr => ?o1_3) (Hops_cons (fun T hl hr => ?o1_4) (Hops_cons (fun T hl hr => ?o1_5) (Hops_cons (fun T hl hr => ?o1_6) (Hops_cons (fun T hl hr => ?o1_7) (Hops_cons (fun T hl hr => ?o1_8) (Hops_nil)))))))))) ?_
        case o1_0 =>
          refine AL_move ((hr 0 rfl).trans rfl) ?_
          exact AL_nil (qpost_mk (Weak.refl _))
        case o1_1 =>
          refine AL_move ((hr 5 rfl).trans rfl) ?_
          exact AL_nil (qpost_mk (Weak.refl _))
        case o1_2 =>
          first | refine AL_indexAddr_sl (y := intAV (zs.getD i 0)) un33 sz3 (by decide) ((hr 17 rfl).trans rfl) ((hr 18 rfl).trans rfl) ?_ ?_ ?_ ?_ | refine AL_indexAddr_own un33 sz3 ((hr 17 rfl).trans rfl) ((hr 18 rfl).trans rfl) ?_ ?_ ?_
          · omega
          · simp only [List.length_map]; omega
          · exact int_at (n := i) (by omega)
          exact AL_nil (qpost_mk (Weak.refl _))
        case o1_3 =>
          first | refine AL_load_rp sz3 ((hr 19 rfl).trans rfl) ag3 ?_ | refine AL_loadw sz3 ((hr 19 rfl).trans rfl) (by repeat (first | exact AH.upd_same _ _ _ | exact hH | assumption | refine AH.look_other (by assumption) ?_)) (by exact ag3) (by exact rfl) ?_ | refine AL_load_pt ag3 sz3 (by decide) ((hr 19 rfl).trans rfl) (by repeat (first | exact AH.upd_same _ _ _ | exact hH | assumption | refine AH.look_other (by assumption) ?_)) (by first | assumption | exact sz54 | exact sz9 | exact sz51 | exact sz48 | exact sz3 | exact sz5) (by exact rfl) (by exact rfl) (by exact rfl) ?_
          exact AL_nil (qpost_mk (Weak.refl _))
        case o1_4 =>
          refine AL_move ((hr 1 rfl).trans rfl) ?_
          exact AL_nil (qpost_mk (Weak.refl _))
        case o1_5 =>
          refine AL_move ((hr 5 rfl).trans rfl) ?_
          exact AL_nil (qpost_mk (Weak.refl _))
        case o1_6 =>
          first | refine AL_indexAddr_sl (y := intAV (ys.getD i 0)) un33 sz3 (by decide) ((hr 21 rfl).trans rfl) ((hr 22 rfl).trans rfl) ?_ ?_ ?_ ?_ | refine AL_indexAddr_own un33 sz3 ((hr 21 rfl).trans rfl) ((hr 22 rfl).trans rfl) ?_ ?_ ?_
          · omega
          · simp only [List.length_map]; omega
          · exact int_at (n := i) (by omega)
          exact AL_nil (qpost_mk (Weak.refl _))
        case o1_7 =>
          first | refine AL_load_rp sz3 ((hr 23 rfl).trans rfl) ag3 ?_ | refine AL_loadw sz3 ((hr 23 rfl).trans rfl) (by repeat (first | exact AH.upd_same _ _ _ | exact hH | assumption | refine AH.look_other (by assumption) ?_)) (by exact ag3) (by exact rfl) ?_ | refine AL_load_pt ag3 sz3 (by decide) ((hr 23 rfl).trans rfl) (by repeat (first | exact AH.upd_same _ _ _ | exact hH | assumption | refine AH.look_other (by assumption) ?_)) (by first | assumption | exact sz54 | exact sz9 | exact sz51 | exact sz48 | exact sz3 | exact sz5) (by exact rfl) (by exact rfl) (by exact rfl) ?_
          exact AL_nil (qpost_mk (Weak.refl _))
        case o1_8 =>
          refine AL_neq ((hr 20 rfl).trans rfl) ((hr 24 rfl).trans rfl) ?_
          exact AL_nil (qpost_mk (Weak.refl _))
        refine Q_norm (by first | (simp only [Tfin, tput, anyAt, setAll, List.foldl_cons, List.foldl_nil, List.set_cons_zero, List.set_cons_succ]; rfl) | rfl) ?_
        refine seqQ_n ?_
        refine AW_cond rfl (fun hc3 => ?_) (fun hc3 => ?_)
        · try simp only [Bool.or_eq_true, Bool.and_eq_true, Bool.or_eq_false_iff, Bool.and_eq_false_iff, decide_eq_true_eq, decide_eq_false_iff_not, Bool.not_eq_true', Bool.not_eq_false', beq_iff_eq, ne_eq, Decidable.not_not, List.length_map] at hc3
          refine AW_seq ?_
          refine AW_region ?_
          refine AL_assign rfl ?_
          refine AL_norm (by first | (simp only [tput, anyAt, setAll, List.foldl_cons, List.foldl_nil, List.set_cons_zero, List.set_cons_succ]; rfl) | rfl) ?_
          refine AL_nil ?_
          refine seqQ_n ?_
          refine AW_ret ?_
          refine blockQ_r ?_
          refine seqQ_r ?_
          refine loopQ_r ?_
          refine blockQ_r ?_
          refine seqQ_r ?_
          refine retQ_1 (H' := H) (.inr rfl) rfl (by repeat (first | exact SubH.refl _ | refine SubH.upd ?_ (by assumption))) ?_
          refine K_eq ?_ hK
          exact congrArg (fun b => AV.v (.bool b)) (decide_eq_false (fun h => hc3 (by rw [h]))).symm
        · try simp only [Bool.or_eq_true, Bool.and_eq_true, Bool.or_eq_false_iff, Bool.and_eq_false_iff, decide_eq_true_eq, decide_eq_false_iff_not, Bool.not_eq_true', Bool.not_eq_false', beq_iff_eq, ne_eq, Decidable.not_not, List.length_map] at hc3
          refine AW_skip ?_
          refine blockQ_n ?_
          refine seqQ_n ?_
          refine AW_region ?_
          refine AL_move rfl ?_
          refine AL_norm (by first | (simp only [tput, anyAt, setAll, List.foldl_cons, List.foldl_nil, List.set_cons_zero, List.set_cons_succ]; rfl) | rfl) ?_
          refine AL_addz rfl rfl (((i + 1 : Nat) : Int)) (by exact inc64 (by omega)) ?_
          refine AL_assign rfl ?_
          refine AL_norm (by first | (simp only [tput, anyAt, setAll, List.foldl_cons, List.foldl_nil, List.set_cons_zero, List.set_cons_succ]; rfl) | rfl) ?_
          refine AL_nil ?_
          refine loopQ_n (i + 1) ?_ ?_ ?_ ?_
          · exact ⟨by omega, fun j hj => by rcases Nat.lt_or_ge j i with h | h; exact hI.2 j h; rw [show j = i by omega]; exact hc3⟩
          · omega
          · repeat (first | exact SubH.refl _ | assumption | refine SubH.new ?_ (by assumption))
          · skip
            try simp only [tput, anyAt, setAll, List.foldl_cons, List.foldl_nil, List.set_cons_zero, List.set_cons_succ]
            repeat (first | exact Weak.nil | refine Weak.cons ?_ | refine Weak.consAny ?_)
      · try simp only [Bool.or_eq_true, Bool.and_eq_true, Bool.or_eq_false_iff, Bool.and_eq_false_iff, decide_eq_true_eq, decide_eq_false_iff_not, Bool.not_eq_true', Bool.not_eq_false', beq_iff_eq, ne_eq, Decidable.not_not, List.length_map] at hc2
        refine AW_exit ?_
        refine seqQ_x ?_
        refine loopQ_x ?_
        refine blockQ_hit ?_
        refine seqQ_n ?_
        refine AW_seq ?_
        refine AW_region ?_
        refine AL_assign rfl ?_
        refine AL_norm (by first | (simp only [tput, anyAt, setAll, List.foldl_cons, List.foldl_nil, List.set_cons_zero, List.set_cons_succ]; rfl) | rfl) ?_
        refine AL_nil ?_
        refine seqQ_n ?_
        refine AW_ret ?_
        refine retQ_1 (H' := H) (.inr rfl) rfl (by repeat (first | exact SubH.refl _ | refine SubH.upd ?_ (by assumption))) ?_
        refine K_eq ?_ hK
        exact congrArg (fun b => AV.v (.bool b)) (decide_eq_true (eq_of_get (by omega) (fun j hj => hI.2 j (by omega)))).symm

/-- quillwork/quillworkref02.Tags -/
theorem quillworkref02_Tags_ok (zs : List Int) (hz : zs.length ≤ 100) :
    PF Tryd.prog 30 [.sl 3 (zs.map intAV)] (.sl 3 ((tz zs 17).map intAV)) := by
  intro H K hK
  refine AC_frz 3 ((tz zs 17).map intAV) ?_
  refine AC_of Tryd.func30 rfl (rs := [.tmp 2]) rfl Tryd.ntmps30 rfl ?_
  refine AW_norm (by simp only [List.length_cons, List.length_nil, Nat.reduceAdd, Nat.reduceSub, List.replicate, List.cons_append, List.nil_append]; rfl) ?_
  refine AW_seq ?_
  refine AW_region ?_
  refine AL_assign rfl ?_
  refine AL_norm (by first | (simp only [tput, anyAt, setAll, List.foldl_cons, List.foldl_nil, List.set_cons_zero, List.set_cons_succ]; rfl) | rfl) ?_
  refine AL_nil ?_
  refine seqQ_n ?_
  refine AW_seq ?_
  refine AW_region ?_
  refine AL_assign rfl ?_
  refine AL_norm (by first | (simp only [tput, anyAt, setAll, List.foldl_cons, List.foldl_nil, List.set_cons_zero, List.set_cons_succ]; rfl) | rfl) ?_
  refine AL_nil ?_
  refine seqQ_n ?_
  refine AW_seq ?_
  refine AW_seq ?_
  refine AW_region ?_
  refine AL_assign rfl ?_
  refine AL_norm (by first | (simp only [tput, anyAt, setAll, List.foldl_cons, List.foldl_nil, List.set_cons_zero, List.set_cons_succ]; rfl) | rfl) ?_
  refine AL_nil ?_
  refine seqQ_n ?_
  refine AW_block ?_
  refine AW_loops (α := Nat × Option Nat × Nat) [3, 4, 5, 6, 7, 8, 9, 10, 11, 12, 13, 14, 15, 16, 17, 18, 19, 20, 21, 22, 23, 24, 25, 26, 27, 28, 29, 30, 31] (fun z => [(4, .v (.int .i64 (z.1 : Int))), (3, .own z.2.1 z.2.2 (tz zs z.1).length)]) (fun z => H.put z.2.1 3 z.2.2 ((tz zs z.1).map intAV)) (fun z => z.1 ≤ 17 ∧ Fresh H z.2.1 z.2.2 ((tz zs z.1).map intAV)) (fun z => 17 - z.1) ((0, none, 0)) ?_ ?_ ?_ ?_
  · exact ⟨Nat.zero_le _, rfl, rfl⟩
  · exact SubH.refl _
  · skip
    try simp only [tput, anyAt, setAll, List.foldl_cons, List.foldl_nil, List.set_cons_zero, List.set_cons_succ]
    repeat (first | exact Weak.nil | refine Weak.cons ?_ | refine Weak.consAny ?_)
  · rintro ⟨k, A, c⟩ hI; dsimp only at hI ⊢
    refine AW_norm (by first | (simp only [tput, anyAt, setAll, List.foldl_cons, List.foldl_nil, List.set_cons_zero, List.set_cons_succ]; rfl) | rfl) ?_
    refine AW_seq ?_
    refine AW_seq ?_
    refine AW_region ?_
    refine AL_move rfl ?_
    refine AL_norm (by first | (simp only [tput, anyAt, setAll, List.foldl_cons, List.foldl_nil, List.set_cons_zero, List.set_cons_succ]; rfl) | rfl) ?_
    refine AL_leq rfl rfl ?_
    refine AL_norm (by first | (simp only [tput, anyAt, setAll, List.foldl_cons, List.foldl_nil, List.set_cons_zero, List.set_cons_succ]; rfl) | rfl) ?_
    refine AL_nil ?_
    refine seqQ_n ?_
    refine AW_cond rfl (fun hc1 => ?_) (fun hc1 => ?_)
    · try simp only [Bool.or_eq_true, Bool.and_eq_true, Bool.or_eq_false_iff, Bool.and_eq_false_iff, decide_eq_true_eq, decide_eq_false_iff_not, Bool.not_eq_true', Bool.not_eq_false', beq_iff_eq, ne_eq, Decidable.not_not, List.length_map] at hc1
      refine AW_skip ?_
      refine seqQ_n ?_
      refine AW_seq ?_
      refine AW_block ?_
      refine AW_seq ?_
      refine AW_region ?_
      refine AL_assign rfl ?_
      refine AL_norm (by first | (simp only [tput, anyAt, setAll, List.foldl_cons, List.foldl_nil, List.set_cons_zero, List.set_cons_succ]; rfl) | rfl) ?_
      refine AL_nil ?_
      refine seqQ_n ?_
      refine AW_seq ?_
      refine AW_seq ?_
      refine AW_region ?_
      refine AL_assign rfl ?_
      refine AL_norm (by first | (simp only [tput, anyAt, setAll, List.foldl_cons, List.foldl_nil, List.set_cons_zero, List.set_cons_succ]; rfl) | rfl) ?_
      refine AL_nil ?_
      refine seqQ_n ?_
      refine AW_block ?_
      refine AW_loops (α := Nat × Bool) [5, 6, 11, 12, 13, 14, 15, 16, 17, 18, 19, 20, 21, 22, 23, 24, 25, 26] (fun q => [(6, .v (.int .i64 (q.1 : Int))), (5, .v (.bool q.2))]) (fun q => H.put A 3 c ((tz zs k).map intAV)) (fun q => q.1 ≤ zs.length ∧ q.2 = decide (cl (k : Int) ∈ zs.take q.1)) (fun q => zs.length - q.1) ((0, false)) ?_ ?_ ?_ ?_
      · exact ⟨Nat.zero_le _, rfl⟩
      · exact SubH.refl _
      · skip
        try simp only [tput, anyAt, setAll, List.foldl_cons, List.foldl_nil, List.set_cons_zero, List.set_cons_succ]
        repeat (first | exact Weak.nil | refine Weak.cons ?_ | refine Weak.consAny ?_)
      · rintro ⟨i, b⟩ hJ; dsimp only at hJ ⊢
        refine AW_norm (by first | (simp only [tput, anyAt, setAll, List.foldl_cons, List.foldl_nil, List.set_cons_zero, List.set_cons_succ]; rfl) | rfl) ?_
        refine AW_seq ?_
        refine AW_seq ?_
        refine AW_region ?_
        refine AL_move rfl ?_
        refine AL_norm (by first | (simp only [tput, anyAt, setAll, List.foldl_cons, List.foldl_nil, List.set_cons_zero, List.set_cons_succ]; rfl) | rfl) ?_
        refine AL_move rfl ?_
        first | refine AL_len_sl un33 rfl ?_ | refine AL_len_own un33 rfl ?_
        refine AL_lss rfl rfl ?_
        refine AL_norm (by first | (simp only [tput, anyAt, setAll, List.foldl_cons, List.foldl_nil, List.set_cons_zero, List.set_cons_succ]; rfl) | rfl) ?_
        refine AL_nil ?_
        refine seqQ_n ?_
        refine AW_cond rfl (fun hc2 => ?_) (fun hc2 => ?_)
        · try simp only [Bool.or_eq_true, Bool.and_eq_true, Bool.or_eq_false_iff, Bool.and_eq_false_iff, decide_eq_true_eq, decide_eq_false_iff_not, Bool.not_eq_true', Bool.not_eq_false', beq_iff_eq, ne_eq, Decidable.not_not, List.length_map] at hc2
          refine AW_skip ?_
          refine seqQ_n ?_
          refine AW_seq ?_
          refine AW_block ?_
          rcases b with _ | _
          ·
            refine' AW_drawl (xs := [_, _, _, _, _, _, _, _, _, _, _]) (by kernel_rfl) (Hops_cons (fun T hl hr => ?o1_0) (Hops_cons (fun T hl hr => ?o1_1) (Hops_cons (fun T hl hr => ?o1_2) (Hops_cons (fun T hl hr => ?o1_3) (Hops_cons (fun T hl hr => ?o1_4) (Hops_cons (fun T hl hr => ?o1_5) (Hops_cons (fun T hl hr => ?o1_6) (Hops_cons (fun T hl hr => ?o1_7) (Hops_cons (fun T hl hr => ?o1_8) (Hops_cons (fun T hl hr => ?o1_9) (Hops_cons (fun T hl hr => ?o1_10) (Hops_nil)))))))))))) ?_
            case o1_0 =>
              refine AL_move ((hr 5 rfl).trans rfl) ?_
              exact AL_nil (qpost_mk (Weak.refl _))
            case o1_1 =>
              refine AL_move ((hr 17 rfl).trans rfl) ?_
              exact AL_nil (qpost_mk (Weak.refl _))
            case o1_2 =>
              refine AL_take rfl ((hr 18 rfl).trans rfl) ?_
              refine AL_move ((hr 0 rfl).trans rfl) ?_
              exact AL_nil (qpost_mk (Weak.refl _))
            case o1_3 =>
              refine AL_take rfl ((hr 18 rfl).trans rfl) ?_
              refine AL_move ((hr 6 rfl).trans rfl) ?_
              exact AL_nil (qpost_mk (Weak.refl _))
            case o1_4 =>
              refine AL_take rfl ((hr 18 rfl).trans rfl) ?_
              first | refine AL_indexAddr_sl (y := intAV (zs.getD i 0)) un33 sz3 (by decide) ((hr 19 rfl).trans rfl) ((hr 20 rfl).trans rfl) ?_ ?_ ?_ ?_ | refine AL_indexAddr_own un33 sz3 ((hr 19 rfl).trans rfl) ((hr 20 rfl).trans rfl) ?_ ?_ ?_
              · omega
              · simp only [List.length_map]; omega
              · exact int_at (n := i) (by omega)
              exact AL_nil (qpost_mk (Weak.refl _))
            case o1_5 =>
              refine AL_take rfl ((hr 18 rfl).trans rfl) ?_
              first | refine AL_load_rp sz3 ((hr 21 rfl).trans rfl) ag3 ?_ | refine AL_loadw sz3 ((hr 21 rfl).trans rfl) (by repeat (first | exact AH.upd_same _ _ _ | exact hH | assumption | refine AH.look_other (by assumption) ?_)) (by exact ag3) (by exact rfl) ?_ | refine AL_load_pt ag3 sz3 (by decide) ((hr 21 rfl).trans rfl) (by repeat (first | exact AH.upd_same _ _ _ | exact hH | assumption | refine AH.look_other (by assumption) ?_)) (by first | assumption | exact sz54 | exact sz9 | exact sz51 | exact sz48 | exact sz3 | exact sz5) (by exact rfl) (by exact rfl) (by exact rfl) ?_
              exact AL_nil (qpost_mk (Weak.refl _))
            case o1_6 =>
              refine AL_take rfl ((hr 18 rfl).trans rfl) ?_
              refine AL_move ((hr 4 rfl).trans rfl) ?_
              exact AL_nil (qpost_mk (Weak.refl _))
            case o1_7 =>
              refine AL_take rfl ((hr 18 rfl).trans rfl) ?_
              refine AL_callp en25 (.cons (.ev ((hr 23 rfl).trans rfl)) (.nil)) (quillworkref02_Class_ok _) ?_
              exact AL_nil (qpost_mk (Weak.refl _))
            case o1_8 =>
              refine AL_take rfl ((hr 18 rfl).trans rfl) ?_
              refine AL_eql ((hr 22 rfl).trans rfl) ((hr 24 rfl).trans rfl) ?_
              exact AL_nil (qpost_mk (Weak.refl _))
            case o1_9 =>
              first | refine AL_pick_t ((hr 18 rfl).trans rfl) rfl ?_ | refine AL_pick_f ((hr 18 rfl).trans rfl) ((hr 25 rfl).trans rfl) ?_
              exact AL_nil (qpost_mk (Weak.refl _))
            case o1_10 =>
              refine AL_assign ((hr 26 rfl).trans rfl) ?_
              exact AL_nil (qpost_mk (Weak.refl _))
            refine Q_norm (by first | (simp only [Tfin, tput, anyAt, setAll, List.foldl_cons, List.foldl_nil, List.set_cons_zero, List.set_cons_succ]; rfl) | rfl) ?_
            refine blockQ_n ?_
            refine seqQ_n ?_
            refine AW_region ?_
            refine AL_move rfl ?_
            refine AL_norm (by first | (simp only [tput, anyAt, setAll, List.foldl_cons, List.foldl_nil, List.set_cons_zero, List.set_cons_succ]; rfl) | rfl) ?_
            refine AL_addz rfl rfl (((i + 1 : Nat) : Int)) (by exact inc64 (by omega)) ?_
            refine AL_assign rfl ?_
            refine AL_norm (by first | (simp only [tput, anyAt, setAll, List.foldl_cons, List.foldl_nil, List.set_cons_zero, List.set_cons_succ]; rfl) | rfl) ?_
            refine AL_nil ?_
            refine loopQ_n ((i + 1, decide (zs.getD i 0 = cl (k : Int)))) ?_ ?_ ?_ ?_
            · exact ⟨by omega, by rw [← take_mem (by omega), ← hJ.2]; rfl⟩
            · (show zs.length - (i + 1) < zs.length - i; omega)
            · exact SubH.refl _
            · skip
              try simp only [tput, anyAt, setAll, List.foldl_cons, List.foldl_nil, List.set_cons_zero, List.set_cons_succ]
              repeat (first | exact Weak.nil | refine Weak.cons ?_ | refine Weak.consAny ?_)
          ·
            refine' AW_drawl (xs := [_, _, _, _, _, _, _, _, _, _, _]) (by kernel_rfl) (Hops_cons (fun T hl hr => ?o2_0) (Hops_cons (fun T hl hr => ?o2_1) (Hops_cons (fun T hl hr => ?o2_2) (Hops_cons (fun T hl hr => ?o2_3) (Hops_cons (fun T hl hr => ?o2_4) (Hops_cons (fun T hl hr => ?o2_5) (Hops_cons (fun T hl hr => ?o2_6) (Hops_cons (fun T hl hr => ?o2_7) (Hops_cons (fun T hl hr => ?o2_8) (Hops_cons (fun T hl hr => ?o2_9) (Hops_cons (fun T hl hr => ?o2_10) (Hops_nil)))))))))))) ?_
            case o2_0 =>
              refine AL_move ((hr 5 rfl).trans rfl) ?_
              exact AL_nil (qpost_mk (Weak.refl _))
            case o2_1 =>
              refine AL_move ((hr 17 rfl).trans rfl) ?_
              exact AL_nil (qpost_mk (Weak.refl _))
            case o2_2 =>
              refine AL_leave rfl ((hr 18 rfl).trans rfl) (by decide) ?_
              exact AL_nil (qpost_mk (Weak.refl _))
            case o2_3 =>
              refine AL_leave rfl ((hr 18 rfl).trans rfl) (by decide) ?_
              exact AL_nil (qpost_mk (Weak.refl _))
            case o2_4 =>
              refine AL_leave rfl ((hr 18 rfl).trans rfl) (by decide) ?_
              exact AL_nil (qpost_mk (Weak.refl _))
            case o2_5 =>
              refine AL_leave rfl ((hr 18 rfl).trans rfl) (by decide) ?_
              exact AL_nil (qpost_mk (Weak.refl _))
            case o2_6 =>
              refine AL_leave rfl ((hr 18 rfl).trans rfl) (by decide) ?_
              exact AL_nil (qpost_mk (Weak.refl _))
            case o2_7 =>
              refine AL_leave rfl ((hr 18 rfl).trans rfl) (by decide) ?_
              exact AL_nil (qpost_mk (Weak.refl _))
            case o2_8 =>
              refine AL_leave rfl ((hr 18 rfl).trans rfl) (by decide) ?_
              exact AL_nil (qpost_mk (Weak.refl _))
            case o2_9 =>
              first | refine AL_pick_t ((hr 18 rfl).trans rfl) rfl ?_ | refine AL_pick_f ((hr 18 rfl).trans rfl) ((hr 25 rfl).trans rfl) ?_
              exact AL_nil (qpost_mk (Weak.refl _))
            case o2_10 =>
              refine AL_assign ((hr 26 rfl).trans rfl) ?_
              exact AL_nil (qpost_mk (Weak.refl _))
            refine Q_norm (by first | (simp only [Tfin, tput, anyAt, setAll, List.foldl_cons, List.foldl_nil, List.set_cons_zero, List.set_cons_succ]; rfl) | rfl) ?_
            refine blockQ_n ?_
            refine seqQ_n ?_
            refine AW_region ?_
            refine AL_move rfl ?_
            refine AL_addz rfl rfl (((i + 1 : Nat) : Int)) (by exact inc64 (by omega)) ?_
            refine AL_norm (by first | (simp only [tput, anyAt, setAll, List.foldl_cons, List.foldl_nil, List.set_cons_zero, List.set_cons_succ]; rfl) | rfl) ?_
            refine AL_assign rfl ?_
            refine AL_norm (by first | (simp only [tput, anyAt, setAll, List.foldl_cons, List.foldl_nil, List.set_cons_zero, List.set_cons_succ]; rfl) | rfl) ?_
            refine AL_nil ?_
            refine loopQ_n ((i + 1, true)) ?_ ?_ ?_ ?_
            · exact ⟨by omega, by rw [← take_mem (by omega), ← hJ.2]; rfl⟩
            · (show zs.length - (i + 1) < zs.length - i; omega)
            · exact SubH.refl _
            · skip
              try simp only [tput, anyAt, setAll, List.foldl_cons, List.foldl_nil, List.set_cons_zero, List.set_cons_succ]
              repeat (first | exact Weak.nil | refine Weak.cons ?_ | refine Weak.consAny ?_)
        · try simp only [Bool.or_eq_true, Bool.and_eq_true, Bool.or_eq_false_iff, Bool.and_eq_false_iff, decide_eq_true_eq, decide_eq_false_iff_not, Bool.not_eq_true', Bool.not_eq_false', beq_iff_eq, ne_eq, Decidable.not_not, List.length_map] at hc2
          refine AW_exit ?_
          refine seqQ_x ?_
          refine loopQ_x ?_
          refine blockQ_hit ?_
          refine seqQ_n ?_
          refine AW_seq ?_
          refine AW_region ?_
          refine AL_move rfl ?_
          refine AL_norm (by first | (simp only [tput, anyAt, setAll, List.foldl_cons, List.foldl_nil, List.set_cons_zero, List.set_cons_succ]; rfl) | rfl) ?_
          refine AL_nil ?_
          refine seqQ_n ?_
          refine AW_cond rfl (fun hc3 => ?_) (fun hc3 => ?_)
          · try simp only [Bool.or_eq_true, Bool.and_eq_true, Bool.or_eq_false_iff, Bool.and_eq_false_iff, decide_eq_true_eq, decide_eq_false_iff_not, Bool.not_eq_true', Bool.not_eq_false', beq_iff_eq, ne_eq, Decidable.not_not, List.length_map] at hc3
            refine AW_region ?_
            refine AL_move rfl ?_
            refine AL_move rfl ?_
            refine AL_norm (by first | (simp only [tput, anyAt, setAll, List.foldl_cons, List.foldl_nil, List.set_cons_zero, List.set_cons_succ]; rfl) | rfl) ?_
            refine AL_append1p un33 inf3 rfl (by decide) (by decide) (by decide) rfl rfl (fun h => by cases h) rfl rfl rfl hI.2 (by rw [List.length_map]) (by have := tz_len zs k; omega) ?_
            intro ba ca hba
            refine AL_norm (by first | (simp only [tput, anyAt, setAll, List.foldl_cons, List.foldl_nil, List.set_cons_zero, List.set_cons_succ]; rfl) | rfl) ?_
            refine AL_assign rfl ?_
            refine AL_norm (by first | (simp only [tput, anyAt, setAll, List.foldl_cons, List.foldl_nil, List.set_cons_zero, List.set_cons_succ]; rfl) | rfl) ?_
            refine AL_nil ?_
            refine blockQ_n ?_
            refine seqQ_n ?_
            refine AW_region ?_
            refine AL_move rfl ?_
            refine AL_addz rfl rfl (((k + 1 : Nat) : Int)) (by exact inc64 (by omega)) ?_
            refine AL_assign rfl ?_
            refine AL_norm (by first | (simp only [tput, anyAt, setAll, List.foldl_cons, List.foldl_nil, List.set_cons_zero, List.set_cons_succ]; rfl) | rfl) ?_
            refine AL_nil ?_
            refine loopQ_n ((k + 1, some ba, ca)) ?_ ?_ ?_ ?_
            · exact ⟨by omega, hba⟩
            · (show 17 - (k + 1) < 17 - k; omega)
            · rw [show (tz zs k).map intAV ++ [.v (.int .i64 (k : Int))] = (tz zs (k + 1)).map intAV from tz_yes (take_yes (i := i) (by omega) (hJ.2.symm.trans hc3))]; exact SubH.refl _
            · rw [show (tz zs (k + 1)).length = (tz zs k).length + 1 from tz_yes' (take_yes (i := i) (by omega) (hJ.2.symm.trans hc3))]
              try simp only [tput, anyAt, setAll, List.foldl_cons, List.foldl_nil, List.set_cons_zero, List.set_cons_succ]
              repeat (first | exact Weak.nil | refine Weak.cons ?_ | refine Weak.consAny ?_)
          · try simp only [Bool.or_eq_true, Bool.and_eq_true, Bool.or_eq_false_iff, Bool.and_eq_false_iff, decide_eq_true_eq, decide_eq_false_iff_not, Bool.not_eq_true', Bool.not_eq_false', beq_iff_eq, ne_eq, Decidable.not_not, List.length_map] at hc3
            refine AW_skip ?_
            refine blockQ_n ?_
            refine seqQ_n ?_
            refine AW_region ?_
            refine AL_move rfl ?_
            refine AL_norm (by first | (simp only [tput, anyAt, setAll, List.foldl_cons, List.foldl_nil, List.set_cons_zero, List.set_cons_succ]; rfl) | rfl) ?_
            refine AL_addz rfl rfl (((k + 1 : Nat) : Int)) (by exact inc64 (by omega)) ?_
            refine AL_assign rfl ?_
            refine AL_norm (by first | (simp only [tput, anyAt, setAll, List.foldl_cons, List.foldl_nil, List.set_cons_zero, List.set_cons_succ]; rfl) | rfl) ?_
            refine AL_nil ?_
            refine loopQ_n ((k + 1, A, c)) ?_ ?_ ?_ ?_
            · refine ⟨by omega, ?_⟩; show Fresh H A c ((tz zs (k + 1)).map intAV); rw [tz_no (take_no (i := i) (by omega) (hJ.2.symm.trans hc3))]; exact hI.2
            · (show 17 - (k + 1) < 17 - k; omega)
            · rw [show (tz zs (k + 1)) = tz zs k from tz_no (take_no (i := i) (by omega) (hJ.2.symm.trans hc3))]; exact SubH.refl _
            · rw [show (tz zs (k + 1)) = tz zs k from tz_no (take_no (i := i) (by omega) (hJ.2.symm.trans hc3))]
              try simp only [tput, anyAt, setAll, List.foldl_cons, List.foldl_nil, List.set_cons_zero, List.set_cons_succ]
              repeat (first | exact Weak.nil | refine Weak.cons ?_ | refine Weak.consAny ?_)
    · try simp only [Bool.or_eq_true, Bool.and_eq_true, Bool.or_eq_false_iff, Bool.and_eq_false_iff, decide_eq_true_eq, decide_eq_false_iff_not, Bool.not_eq_true', Bool.not_eq_false', beq_iff_eq, ne_eq, Decidable.not_not, List.length_map] at hc1; obtain rfl : k = 17 := by omega
      refine AW_exit ?_
      refine seqQ_x ?_
      refine loopQ_x ?_
      refine blockQ_hit ?_
      refine seqQ_n ?_
      refine AW_seq ?_
      refine AW_region ?_
      refine AL_move rfl ?_
      refine AL_assign rfl ?_
      refine AL_norm (by first | (simp only [tput, anyAt, setAll, List.foldl_cons, List.foldl_nil, List.set_cons_zero, List.set_cons_succ]; rfl) | rfl) ?_
      refine AL_nil ?_
      refine seqQ_n ?_
      refine AW_ret ?_
      refine retQ_1 (H' := H.put A 3 c ((tz zs 17).map intAV)) (.inr rfl) rfl (SubH.refl _) ?_
      exact ⟨A, c, hI.2, congrArg (AV.own A c) (List.length_map _).symm, rfl, hK⟩

/-- quillwork/quillworklaw02.TagsOf -/
theorem quillworklaw02_TagsOf_ok (zs : List Int) :
    PI TI Tryd.prog 8 [.sl 3 (zs.map intAV)] (.v (.bool true)) := by
  intro H K hI hK
  refine AC_of Tryd.func8 rfl (rs := [.tmp 2]) rfl Tryd.ntmps8 rfl ?_
  refine AW_norm (by simp only [List.length_cons, List.length_nil, Nat.reduceAdd, Nat.reduceSub, List.replicate, List.cons_append, List.nil_append]; rfl) ?_
  refine AW_seq ?_
  refine AW_region ?_
  refine AL_assign rfl ?_
  refine AL_norm (by first | (simp only [tput, anyAt, setAll, List.foldl_cons, List.foldl_nil, List.set_cons_zero, List.set_cons_succ]; rfl) | rfl) ?_
  refine AL_nil ?_
  refine seqQ_n ?_
  refine AW_seq ?_
  refine AW_seq ?_
  refine AW_region ?_
  refine AL_move rfl ?_
  first | refine AL_len_sl un33 rfl ?_ | refine AL_len_own un33 rfl ?_
  refine AL_gtr rfl rfl ?_
  refine AL_norm (by first | (simp only [tput, anyAt, setAll, List.foldl_cons, List.foldl_nil, List.set_cons_zero, List.set_cons_succ]; rfl) | rfl) ?_
  refine AL_nil ?_
  refine seqQ_n ?_
  refine AW_cond rfl (fun hc1 => ?_) (fun hc1 => ?_)
  · try simp only [Bool.or_eq_true, Bool.and_eq_true, Bool.or_eq_false_iff, Bool.and_eq_false_iff, decide_eq_true_eq, decide_eq_false_iff_not, Bool.not_eq_true', Bool.not_eq_false', beq_iff_eq, ne_eq, Decidable.not_not, List.length_map] at hc1
    refine AW_seq ?_
    refine AW_region ?_
    refine AL_callpi en14 (.nil) (by repeat (first | assumption | refine Holds.upd ?_ (by assumption))) (quillworklaw02_awake_ok) ?_
    refine AL_norm (by first | (simp only [tput, anyAt, setAll, List.foldl_cons, List.foldl_nil, List.set_cons_zero, List.set_cons_succ]; rfl) | rfl) ?_
    refine AL_assign rfl ?_
    refine AL_norm (by first | (simp only [tput, anyAt, setAll, List.foldl_cons, List.foldl_nil, List.set_cons_zero, List.set_cons_succ]; rfl) | rfl) ?_
    refine AL_nil ?_
    refine seqQ_n ?_
    refine AW_ret ?_
    refine seqQ_r ?_
    refine retQ_1 (H' := H) (.inr rfl) rfl (by repeat (first | exact SubH.refl _ | refine SubH.upd ?_ (by assumption))) ?_
    refine K_eq ?_ hK
    rfl
  · try simp only [Bool.or_eq_true, Bool.and_eq_true, Bool.or_eq_false_iff, Bool.and_eq_false_iff, decide_eq_true_eq, decide_eq_false_iff_not, Bool.not_eq_true', Bool.not_eq_false', beq_iff_eq, ne_eq, Decidable.not_not, List.length_map] at hc1
    refine AW_skip ?_
    refine seqQ_n ?_
    refine AW_seq ?_
    refine AW_region ?_
    refine AL_buildSlice un33 sz3 ze3 rfl (by decide) (by decide) (.nil) rfl rfl ?_
    intro b1 hb1
    have hn1 : H b1 = none := SubH.none (by repeat (first | exact SubH.refl _ | refine SubH.upd ?_ (by assumption))) hb1
    refine AL_move rfl ?_
    refine AL_appendSl un33 inf3 rfl (by decide) (by decide) rfl rfl (AH.upd_same _ _ _) rfl (ints_mem zs) (by simp only [List.length_map]; omega) ?_; intro A2 c2 hF2; rw [AH.rem_upd hn1] at hF2 ⊢; refine AL_freezeP 11 rfl hF2 (by simp) ?_
    refine AL_norm (by first | (simp only [tput, anyAt, setAll, List.foldl_cons, List.foldl_nil, List.set_cons_zero, List.set_cons_succ]; rfl) | rfl) ?_
    refine AL_assign rfl ?_
    refine AL_norm (by first | (simp only [tput, anyAt, setAll, List.foldl_cons, List.foldl_nil, List.set_cons_zero, List.set_cons_succ]; rfl) | rfl) ?_
    refine AL_nil ?_
    refine seqQ_n ?_
    refine AW_seq ?_
    refine AW_region ?_
    refine AL_move rfl ?_
    refine AL_callp en28 (.cons (.ev rfl) (.nil)) (tags_Tags_ok zs (by omega)) ?_
    refine AL_assign rfl ?_
    refine AL_norm (by first | (simp only [tput, anyAt, setAll, List.foldl_cons, List.foldl_nil, List.set_cons_zero, List.set_cons_succ]; rfl) | rfl) ?_
    refine AL_nil ?_
    refine seqQ_n ?_
    refine AW_seq ?_
    refine AW_region ?_
    refine AL_move rfl ?_
    refine AL_norm (by first | (simp only [tput, anyAt, setAll, List.foldl_cons, List.foldl_nil, List.set_cons_zero, List.set_cons_succ]; rfl) | rfl) ?_
    refine AL_move rfl ?_
    refine AL_callp en30 (.cons (.ev rfl) (.nil)) (quillworkref02_Tags_ok zs (by omega)) ?_
    refine AL_callp en29 (.cons (.ev rfl) (.cons (.ev rfl) (.nil))) (quillworkref02_Same_ok (tz zs 17) (tz zs 17) (by have := tz_len zs 17; omega)) ?_
    refine AL_move rfl ?_
    refine AL_norm (by first | (simp only [tput, anyAt, setAll, List.foldl_cons, List.foldl_nil, List.set_cons_zero, List.set_cons_succ]; rfl) | rfl) ?_
    refine AL_and (j := 4) (n := 3) (c := 18) (t := 21) (r := 22) (v := ?v2) [19, 20, 21] rfl rfl rfl rfl rfl rfl rfl (fun hg2 => ?_) ?_; rotate_left
    · simp only [List.take_succ_cons, List.take_zero, List.map_cons, List.map_nil, strip, Nat.reduceBEq, beq_self_eq_true, Bool.and_self, Bool.true_and, Bool.false_and, cond_true, cond_false]
      refine AL_move rfl ?_
      refine AL_move rfl ?_
      refine AL_callp en29 (.cons (.ev rfl) (.cons (.ev rfl) (.nil))) (quillworkref02_Same_ok zs zs (by omega)) ?_
      refine AL_nil (grpQ_mk ?_)
      try simp only [tput, anyAt, setAll, List.foldl_cons, List.foldl_nil, List.set_cons_zero, List.set_cons_succ]
      repeat (first | exact Weak.nil | refine Weak.cons ?_ | refine Weak.consAny ?_)
    refine AL_norm (by first | (simp only [tput, anyAt, setAll, List.foldl_cons, List.foldl_nil, List.set_cons_zero, List.set_cons_succ]; rfl) | rfl) ?_
    refine AL_move rfl ?_
    refine AL_norm (by first | (simp only [tput, anyAt, setAll, List.foldl_cons, List.foldl_nil, List.set_cons_zero, List.set_cons_succ]; rfl) | rfl) ?_
    refine AL_and (j := 9) (n := 1) (c := 23) (t := 24) (r := 25) (v := ?v3) [24] rfl rfl rfl rfl rfl rfl rfl (fun hg3 => ?_) ?_; rotate_left
    · simp only [List.take_succ_cons, List.take_zero, List.map_cons, List.map_nil, strip, Nat.reduceBEq, beq_self_eq_true, Bool.and_self, Bool.true_and, Bool.false_and, cond_true, cond_false]
      refine AL_callpi en14 (.nil) (by repeat (first | assumption | refine Holds.upd ?_ (by assumption))) (quillworklaw02_awake_ok) ?_
      refine AL_nil (grpQ_mk ?_)
      try simp only [tput, anyAt, setAll, List.foldl_cons, List.foldl_nil, List.set_cons_zero, List.set_cons_succ]
      repeat (first | exact Weak.nil | refine Weak.cons ?_ | refine Weak.consAny ?_)
    refine AL_norm (by first | (simp only [tput, anyAt, setAll, List.foldl_cons, List.foldl_nil, List.set_cons_zero, List.set_cons_succ]; rfl) | rfl) ?_
    refine AL_assign rfl ?_
    refine AL_norm (by first | (simp only [tput, anyAt, setAll, List.foldl_cons, List.foldl_nil, List.set_cons_zero, List.set_cons_succ]; rfl) | rfl) ?_
    refine AL_nil ?_
    refine seqQ_n ?_
    refine AW_ret ?_
    refine retQ_1 (H' := H) (.inr rfl) rfl (by repeat (first | exact SubH.refl _ | refine SubH.upd ?_ (by assumption))) ?_
    refine K_eq ?_ hK
    exact congrArg (fun b => AV.v (.bool b)) (by simp)
end Go.Proofs
