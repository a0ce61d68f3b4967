/- The given statement of the law: for every input the law answers true. No conditions of our own. -/
import Derived.Test.YtcnjcjhdcloniaaDoorCX
import Derived.Test.YtcnjcjhdcloniaaDoorCG
import Derived.Test.YtcnjcjhdcloniaaDoorProg
set_option autoImplicit false
set_option linter.unusedVariables false
set_option linter.unusedSimpArgs false
set_option maxRecDepth 100000
set_option maxHeartbeats 1000000
namespace Go.Css.Walk
open Go Go.RowKit Go.AL Go.Css Go.IntWalk Go.Proofs
theorem ze3 : zeroOf Tryd.prog 3 = some (.int .i64 0) := by kernel_rfl
theorem ze57 : zeroOf Tryd.prog 57 = some (.nilFunc) := by kernel_rfl
theorem sz57 : szOf Tryd.prog 57 = some 1 := by kernel_rfl
theorem en45 : entersOf Tryd.prog 45 = true := by kernel_rfl
theorem en56 : entersOf Tryd.prog 56 = true := by kernel_rfl
theorem ag57 : aggOf Tryd.prog 57 = some false := by kernel_rfl
theorem en44 : entersOf Tryd.prog 44 = true := by kernel_rfl
theorem en46 : entersOf Tryd.prog 46 = true := by kernel_rfl

/-- quillwork/css.Parse -/
theorem css_Parse_ok (s : ByteArray) (hs : s.size < 2147483648) :
    PI TC Tryd.prog 32 [strAV s] (duoAV (parseS s)) := by
  intro H K hI hK
  refine AC_ofM Tryd.func32 rfl (rs := [.cell 2 3, .cell 3 3]) rfl Tryd.ntmps32 rfl ?_
  refine AW_norm (by simp only [List.length_cons, List.length_nil, Nat.reduceAdd, Nat.reduceSub, List.replicate, List.cons_append, List.nil_append]; rfl) ?_
  refine AW_seq ?_
  refine AW_region ?_
  refine AL_alloc ze3 (.v _) rfl sz3 rfl ?_
  intro b1 hb1
  have hn1 : H b1 = none := SubH.none (by repeat (first | exact SubH.refl _ | refine SubH.upd ?_ (by assumption))) hb1
  refine AL_alloc ze3 (.v _) rfl sz3 rfl ?_
  intro b2 hb2
  have hn2 : H b2 = none := SubH.none (by repeat (first | exact SubH.refl _ | refine SubH.upd ?_ (by assumption))) hb2
  have hd2_1 : b2 ≠ b1 := fun e => by subst e; simp [AH.upd, *] at hb2
  have hd1_2 : b1 ≠ b2 := Ne.symm hd2_1
  refine AL_norm (by first | (simp only [tput, anyAt, setAll, List.foldl_cons, List.foldl_nil, List.set_cons_zero, List.set_cons_succ]; rfl) | rfl) ?_
  refine AL_nil ?_
  refine seqQ_n ?_
  refine AW_seq ?_
  refine AW_region ?_
  refine AL_makeFunc (.nil) (.cons (.ev rfl) (.cons (.ev rfl) (.nil))) ?_
  refine AL_alloc ze57 (.v _) rfl sz57 rfl ?_
  intro b3 hb3
  have hn3 : H b3 = none := SubH.none (by repeat (first | exact SubH.refl _ | refine SubH.upd ?_ (by assumption))) hb3
  have hd3_1 : b3 ≠ b1 := fun e => by subst e; simp [AH.upd, *] at hb3
  have hd1_3 : b1 ≠ b3 := Ne.symm hd3_1
  have hd3_2 : b3 ≠ b2 := fun e => by subst e; simp [AH.upd, *] at hb3
  have hd2_3 : b2 ≠ b3 := Ne.symm hd3_2
  refine AL_norm (by first | (simp only [tput, anyAt, setAll, List.foldl_cons, List.foldl_nil, List.set_cons_zero, List.set_cons_succ]; rfl) | rfl) ?_
  first | refine AL_store_w sz57 rfl (.ev rfl) rfl (by repeat (first | exact AH.upd_same _ _ _ | exact hH | assumption | refine AH.look_other (by assumption) ?_)) rfl (by exact rfl) ?_ | refine AL_store rfl (.ev rfl) rfl (by repeat (first | exact AH.upd_same _ _ _ | exact hH | assumption | refine AH.look_other (by assumption) ?_)) (by first | assumption | exact sz3 | exact sz9 | exact sz5 | exact sz57) (by exact rfl) sz57 rfl (by decide) (fun h => by first | (cases h; done) | exact ⟨rfl, rfl, rfl⟩) ?_
  refine AL_heap (by first | (simp only [AH.upd_upd]; rfl) | rfl) ?_
  refine AL_norm (by first | (simp only [tput, anyAt, setAll, List.foldl_cons, List.foldl_nil, List.set_cons_zero, List.set_cons_succ]; rfl) | rfl) ?_
  refine AL_nil ?_
  refine seqQ_n ?_
  refine AW_seq ?_
  refine AW_seq ?_
  refine AW_region ?_
  refine AL_move rfl ?_
  refine AL_callp en45 (.cons (.ev rfl) (.nil)) (css_declarations_ok _) ?_
  refine AL_norm (by first | (simp only [tput, anyAt, setAll, List.foldl_cons, List.foldl_nil, List.set_cons_zero, List.set_cons_succ]; rfl) | rfl) ?_
  refine AL_nil ?_
  refine seqQ_n ?_
  refine AW_block ?_
  refine AW_rangeFunc (α := Nat) (gf := 56) (caps := [.rp 9 (strAV s)]) (xs := (decls s).map declAV) (IT := TC) rfl en56 (css_declarations_1_ok s (by omega)) (fun y hy => by obtain ⟨p, _, rfl⟩ := List.mem_map.1 hy; rfl) ?_
  intro D hD
  have hnD : H D = none := SubH.none (by repeat (first | exact SubH.refl _ | refine SubH.upd ?_ (by assumption))) hD
  have hdD_1 : D ≠ b1 := fun e => by subst e; simp [AH.upd, *] at hD
  have hd1_D : b1 ≠ D := Ne.symm hdD_1
  have hdD_2 : D ≠ b2 := fun e => by subst e; simp [AH.upd, *] at hD
  have hd2_D : b2 ≠ D := Ne.symm hdD_2
  have hdD_3 : D ≠ b3 := fun e => by subst e; simp [AH.upd, *] at hD
  have hd3_D : b3 ≠ D := Ne.symm hdD_3
  refine ⟨⟨fun k => (((H.upd b1 (some (.row 3 1 [bAV (stP s k).1]))).upd b2 (some (.row 3 1 [bAV (stP s k).2]))).upd b3 (some (.row 57 1 [.fn (.func 44) [] [.pt b1 0 1 0, .pt b2 0 1 0]]))).upd D (some (.raw (.deferred (some [])))), fun k s => s = k, fun _ _ => False, 0, ?_, ?_, ?_, ?_, ?_, ?_⟩⟩
  · repeat (first | exact SubH.refl _ | assumption | refine SubH.new ?_ (by assumption))
  · rfl
  · intro k s _ l r hl; exact Holds.upd (by repeat (first | assumption | refine Holds.upd ?_ (by first | assumption | repeat (first | assumption | refine AH.look_other (by assumption) ?_)))) hl
  · intro l k y k2 hy hI
    obtain rfl : k = k2 := Eq.symm hI
    obtain ⟨p, hp, rfl⟩ := decls_at hy
    have hpb := decls_bound hp
    refine AW_norm (by simp only [setP, tput, List.set_cons_zero, List.set_cons_succ]; rfl) ?_
    refine AW_seq ?_
    refine AW_region ?_
    refine AL_assign rfl ?_
    refine AL_norm (by first | (simp only [tput, anyAt, setAll, List.foldl_cons, List.foldl_nil, List.set_cons_zero, List.set_cons_succ]; rfl) | rfl) ?_
    refine AL_nil ?_
    refine seqQ_n ?_
    refine AW_region ?_
    refine AL_assign rfl ?_
    refine AL_norm (by first | (simp only [tput, anyAt, setAll, List.foldl_cons, List.foldl_nil, List.set_cons_zero, List.set_cons_succ]; rfl) | rfl) ?_
    refine AL_nil ?_
    refine asgQ_n ?_
    refine AW_block ?_
    refine AW_seq ?_
    refine AW_region ?_
    refine AL_move rfl ?_
    refine AL_norm (by first | (simp only [tput, anyAt, setAll, List.foldl_cons, List.foldl_nil, List.set_cons_zero, List.set_cons_succ]; rfl) | rfl) ?_
    refine AL_sadd rfl rfl ?_ ?_
    · first | (rw [ByteArray.size_append]; (show p.1.size + 1 + _ ≤ _); omega) | ((show p.1.size + 1 ≤ _); omega)
    refine AL_move rfl ?_
    refine AL_sadd rfl rfl ?_ ?_
    · first | (rw [ByteArray.size_append]; (show p.1.size + 1 + _ ≤ _); omega) | ((show p.1.size + 1 ≤ _); omega)
    refine AL_norm (by first | (simp only [tput, anyAt, setAll, List.foldl_cons, List.foldl_nil, List.set_cons_zero, List.set_cons_succ]; rfl) | rfl) ?_
    refine AL_nil ?_
    refine seqQ_n ?_
    refine AW_block ?_
    refine AW_seq ?_
    refine AW_block ?_
    refine AW_seq ?_
    refine AW_block ?_
    refine AW_seq ?_
    refine AW_block ?_
    refine AW_seq ?_
    refine AW_block ?_
    refine AW_seq ?_
    refine AW_block ?_
    refine AW_block ?_
    refine AW_seq ?_
    refine AW_block ?_
    refine AW_block ?_
    refine AW_seq ?_
    refine AW_seq ?_
    refine AW_seq ?_
    refine AW_region ?_
    refine AL_seql rfl rfl ?_
    refine AL_norm (by first | (simp only [tput, anyAt, setAll, List.foldl_cons, List.foldl_nil, List.set_cons_zero, List.set_cons_succ]; rfl) | rfl) ?_
    refine AL_assign rfl ?_
    refine AL_norm (by first | (simp only [tput, anyAt, setAll, List.foldl_cons, List.foldl_nil, List.set_cons_zero, List.set_cons_succ]; rfl) | rfl) ?_
    refine AL_nil ?_
    refine seqQ_n ?_
    refine AW_cond rfl (fun hc1 => ?_) (fun hc1 => ?_)
    · try simp only [Bool.or_eq_true, Bool.and_eq_true, Bool.or_eq_false_iff, Bool.and_eq_false_iff, decide_eq_true_eq, decide_eq_false_iff_not, Bool.not_eq_true', Bool.not_eq_false', beq_iff_eq, ne_eq, Decidable.not_not, List.length_map] at hc1
      refine AW_exit ?_
      refine seqQ_x ?_
      refine seqQ_x ?_
      refine blockQ_hit ?_
      refine blockQ_n ?_
      refine seqQ_n ?_
      refine AW_seq ?_
      refine AW_region ?_
      first | refine AL_load_rp sz57 rfl ag57 ?_ | refine AL_loadw sz57 rfl (by repeat (first | exact AH.upd_same _ _ _ | exact hH | assumption | refine AH.look_other (by assumption) ?_)) (by exact ag57) (by exact rfl) ?_ | refine AL_load_pt ag57 sz57 (by decide) rfl (by repeat (first | exact AH.upd_same _ _ _ | exact hH | assumption | refine AH.look_other (by assumption) ?_)) (by first | assumption | exact sz3 | exact sz9 | exact sz5 | exact sz57) (by exact rfl) (by exact rfl) (by exact rfl) ?_
      refine AL_callv rfl en44 (.cons (.ev rfl) (.cons (.ev rfl) (.nil))) (css_Parse_1_ok b1 b2 _ _ (1) (0) _ (fun x H1 => x = .tup [] ∧ H1 = _) hd1_2 (by repeat (first | exact AH.upd_same _ _ _ | assumption | refine AH.look_other (by assumption) ?_)) (by repeat (first | exact AH.upd_same _ _ _ | assumption | refine AH.look_other (by assumption) ?_)) ⟨rfl, rfl⟩) ?_
      rintro _ _ ⟨rfl, rfl⟩
      refine AL_norm (by first | (simp only [tput, anyAt, setAll, List.foldl_cons, List.foldl_nil, List.set_cons_zero, List.set_cons_succ]; rfl) | rfl) ?_
      refine AL_nil ?_
      refine seqQ_n ?_
      refine AW_exit ?_
      refine blockQ_miss (by decide) ?_
      refine blockQ_miss (by decide) ?_
      refine seqQ_x ?_
      refine blockQ_miss (by decide) ?_
      refine seqQ_x ?_
      refine blockQ_miss (by decide) ?_
      refine seqQ_x ?_
      refine blockQ_miss (by decide) ?_
      refine seqQ_x ?_
      refine blockQ_miss (by decide) ?_
      refine seqQ_x ?_
      refine blockQ_hit ?_
      refine blockQ_n ?_
      refine roundQ_n ⟨k + 1, ?_, ?_⟩
      · rfl
      · have e : stP s (k + 1) = setP' (stP s k) (1) (0) := (stP_next hp).trans (apP_say (by rw [sayP, if_pos hc1])); (show SubH ((((H.upd b1 (some (.row 3 1 [bAV (stP s (k + 1)).1]))).upd b2 (some (.row 3 1 [bAV (stP s (k + 1)).2]))).upd b3 (some (.row 57 1 [.fn (.func 44) [] [.pt b1 0 1 0, .pt b2 0 1 0]]))).upd D (some (.raw (.deferred (some []))))) _); rw [e]; first | exact SubH.refl _ | (refine SubH.of_eq (funext fun j => ?_); simp only [AH.upd]; (repeat' split) <;> first | rfl | omega)
    · try simp only [Bool.or_eq_true, Bool.and_eq_true, Bool.or_eq_false_iff, Bool.and_eq_false_iff, decide_eq_true_eq, decide_eq_false_iff_not, Bool.not_eq_true', Bool.not_eq_false', beq_iff_eq, ne_eq, Decidable.not_not, List.length_map] at hc1
      refine AW_skip ?_
      refine seqQ_n ?_
      refine AW_seq ?_
      refine AW_seq ?_
      refine AW_region ?_
      refine AL_seql rfl rfl ?_
      refine AL_norm (by first | (simp only [tput, anyAt, setAll, List.foldl_cons, List.foldl_nil, List.set_cons_zero, List.set_cons_succ]; rfl) | rfl) ?_
      refine AL_assign rfl ?_
      refine AL_norm (by first | (simp only [tput, anyAt, setAll, List.foldl_cons, List.foldl_nil, List.set_cons_zero, List.set_cons_succ]; rfl) | rfl) ?_
      refine AL_nil ?_
      refine seqQ_n ?_
      refine AW_cond rfl (fun hc2 => ?_) (fun hc2 => ?_)
      · try simp only [Bool.or_eq_true, Bool.and_eq_true, Bool.or_eq_false_iff, Bool.and_eq_false_iff, decide_eq_true_eq, decide_eq_false_iff_not, Bool.not_eq_true', Bool.not_eq_false', beq_iff_eq, ne_eq, Decidable.not_not, List.length_map] at hc2
        refine AW_exit ?_
        refine seqQ_x ?_
        refine seqQ_x ?_
        refine blockQ_miss (by decide) ?_
        refine blockQ_hit ?_
        refine seqQ_n ?_
        refine AW_seq ?_
        refine AW_region ?_
        first | refine AL_load_rp sz57 rfl ag57 ?_ | refine AL_loadw sz57 rfl (by repeat (first | exact AH.upd_same _ _ _ | exact hH | assumption | refine AH.look_other (by assumption) ?_)) (by exact ag57) (by exact rfl) ?_ | refine AL_load_pt ag57 sz57 (by decide) rfl (by repeat (first | exact AH.upd_same _ _ _ | exact hH | assumption | refine AH.look_other (by assumption) ?_)) (by first | assumption | exact sz3 | exact sz9 | exact sz5 | exact sz57) (by exact rfl) (by exact rfl) (by exact rfl) ?_
        refine AL_callv rfl en44 (.cons (.ev rfl) (.cons (.ev rfl) (.nil))) (css_Parse_1_ok b1 b2 _ _ (1) (0) _ (fun x H1 => x = .tup [] ∧ H1 = _) hd1_2 (by repeat (first | exact AH.upd_same _ _ _ | assumption | refine AH.look_other (by assumption) ?_)) (by repeat (first | exact AH.upd_same _ _ _ | assumption | refine AH.look_other (by assumption) ?_)) ⟨rfl, rfl⟩) ?_
        rintro _ _ ⟨rfl, rfl⟩
        refine AL_norm (by first | (simp only [tput, anyAt, setAll, List.foldl_cons, List.foldl_nil, List.set_cons_zero, List.set_cons_succ]; rfl) | rfl) ?_
        refine AL_nil ?_
        refine seqQ_n ?_
        refine AW_exit ?_
        refine blockQ_miss (by decide) ?_
        refine blockQ_miss (by decide) ?_
        refine seqQ_x ?_
        refine blockQ_miss (by decide) ?_
        refine seqQ_x ?_
        refine blockQ_miss (by decide) ?_
        refine seqQ_x ?_
        refine blockQ_miss (by decide) ?_
        refine seqQ_x ?_
        refine blockQ_miss (by decide) ?_
        refine seqQ_x ?_
        refine blockQ_hit ?_
        refine blockQ_n ?_
        refine roundQ_n ⟨k + 1, ?_, ?_⟩
        · rfl
        · have e : stP s (k + 1) = setP' (stP s k) (1) (0) := (stP_next hp).trans (apP_say (by rw [sayP, if_neg hc1, if_pos hc2])); (show SubH ((((H.upd b1 (some (.row 3 1 [bAV (stP s (k + 1)).1]))).upd b2 (some (.row 3 1 [bAV (stP s (k + 1)).2]))).upd b3 (some (.row 57 1 [.fn (.func 44) [] [.pt b1 0 1 0, .pt b2 0 1 0]]))).upd D (some (.raw (.deferred (some []))))) _); rw [e]; first | exact SubH.refl _ | (refine SubH.of_eq (funext fun j => ?_); simp only [AH.upd]; (repeat' split) <;> first | rfl | omega)
      · try simp only [Bool.or_eq_true, Bool.and_eq_true, Bool.or_eq_false_iff, Bool.and_eq_false_iff, decide_eq_true_eq, decide_eq_false_iff_not, Bool.not_eq_true', Bool.not_eq_false', beq_iff_eq, ne_eq, Decidable.not_not, List.length_map] at hc2
        refine AW_skip ?_
        refine seqQ_n ?_
        refine AW_seq ?_
        refine AW_seq ?_
        refine AW_region ?_
        refine AL_seql rfl rfl ?_
        refine AL_norm (by first | (simp only [tput, anyAt, setAll, List.foldl_cons, List.foldl_nil, List.set_cons_zero, List.set_cons_succ]; rfl) | rfl) ?_
        refine AL_assign rfl ?_
        refine AL_norm (by first | (simp only [tput, anyAt, setAll, List.foldl_cons, List.foldl_nil, List.set_cons_zero, List.set_cons_succ]; rfl) | rfl) ?_
        refine AL_nil ?_
        refine seqQ_n ?_
        refine AW_cond rfl (fun hc3 => ?_) (fun hc3 => ?_)
        · try simp only [Bool.or_eq_true, Bool.and_eq_true, Bool.or_eq_false_iff, Bool.and_eq_false_iff, decide_eq_true_eq, decide_eq_false_iff_not, Bool.not_eq_true', Bool.not_eq_false', beq_iff_eq, ne_eq, Decidable.not_not, List.length_map] at hc3
          refine AW_exit ?_
          refine seqQ_x ?_
          refine seqQ_x ?_
          refine blockQ_miss (by decide) ?_
          refine blockQ_miss (by decide) ?_
          refine seqQ_x ?_
          refine blockQ_hit ?_
          refine blockQ_n ?_
          refine seqQ_n ?_
          refine AW_seq ?_
          refine AW_region ?_
          first | refine AL_load_rp sz57 rfl ag57 ?_ | refine AL_loadw sz57 rfl (by repeat (first | exact AH.upd_same _ _ _ | exact hH | assumption | refine AH.look_other (by assumption) ?_)) (by exact ag57) (by exact rfl) ?_ | refine AL_load_pt ag57 sz57 (by decide) rfl (by repeat (first | exact AH.upd_same _ _ _ | exact hH | assumption | refine AH.look_other (by assumption) ?_)) (by first | assumption | exact sz3 | exact sz9 | exact sz5 | exact sz57) (by exact rfl) (by exact rfl) (by exact rfl) ?_
          refine AL_callv rfl en44 (.cons (.ev rfl) (.cons (.ev rfl) (.nil))) (css_Parse_1_ok b1 b2 _ _ (0) (1) _ (fun x H1 => x = .tup [] ∧ H1 = _) hd1_2 (by repeat (first | exact AH.upd_same _ _ _ | assumption | refine AH.look_other (by assumption) ?_)) (by repeat (first | exact AH.upd_same _ _ _ | assumption | refine AH.look_other (by assumption) ?_)) ⟨rfl, rfl⟩) ?_
          rintro _ _ ⟨rfl, rfl⟩
          refine AL_norm (by first | (simp only [tput, anyAt, setAll, List.foldl_cons, List.foldl_nil, List.set_cons_zero, List.set_cons_succ]; rfl) | rfl) ?_
          refine AL_nil ?_
          refine seqQ_n ?_
          refine AW_exit ?_
          refine blockQ_miss (by decide) ?_
          refine seqQ_x ?_
          refine blockQ_miss (by decide) ?_
          refine seqQ_x ?_
          refine blockQ_miss (by decide) ?_
          refine seqQ_x ?_
          refine blockQ_miss (by decide) ?_
          refine seqQ_x ?_
          refine blockQ_hit ?_
          refine blockQ_n ?_
          refine roundQ_n ⟨k + 1, ?_, ?_⟩
          · rfl
          · have e : stP s (k + 1) = setP' (stP s k) (0) (1) := (stP_next hp).trans (apP_say (by rw [sayP, if_neg hc1, if_neg hc2, if_pos hc3])); (show SubH ((((H.upd b1 (some (.row 3 1 [bAV (stP s (k + 1)).1]))).upd b2 (some (.row 3 1 [bAV (stP s (k + 1)).2]))).upd b3 (some (.row 57 1 [.fn (.func 44) [] [.pt b1 0 1 0, .pt b2 0 1 0]]))).upd D (some (.raw (.deferred (some []))))) _); rw [e]; first | exact SubH.refl _ | (refine SubH.of_eq (funext fun j => ?_); simp only [AH.upd]; (repeat' split) <;> first | rfl | omega)
        · try simp only [Bool.or_eq_true, Bool.and_eq_true, Bool.or_eq_false_iff, Bool.and_eq_false_iff, decide_eq_true_eq, decide_eq_false_iff_not, Bool.not_eq_true', Bool.not_eq_false', beq_iff_eq, ne_eq, Decidable.not_not, List.length_map] at hc3
          refine AW_skip ?_
          refine seqQ_n ?_
          refine AW_seq ?_
          refine AW_seq ?_
          refine AW_region ?_
          refine AL_seql rfl rfl ?_
          refine AL_norm (by first | (simp only [tput, anyAt, setAll, List.foldl_cons, List.foldl_nil, List.set_cons_zero, List.set_cons_succ]; rfl) | rfl) ?_
          refine AL_assign rfl ?_
          refine AL_norm (by first | (simp only [tput, anyAt, setAll, List.foldl_cons, List.foldl_nil, List.set_cons_zero, List.set_cons_succ]; rfl) | rfl) ?_
          refine AL_nil ?_
          refine seqQ_n ?_
          refine AW_cond rfl (fun hc4 => ?_) (fun hc4 => ?_)
          · try simp only [Bool.or_eq_true, Bool.and_eq_true, Bool.or_eq_false_iff, Bool.and_eq_false_iff, decide_eq_true_eq, decide_eq_false_iff_not, Bool.not_eq_true', Bool.not_eq_false', beq_iff_eq, ne_eq, Decidable.not_not, List.length_map] at hc4
            refine AW_exit ?_
            refine seqQ_x ?_
            refine seqQ_x ?_
            refine blockQ_miss (by decide) ?_
            refine blockQ_miss (by decide) ?_
            refine seqQ_x ?_
            refine blockQ_miss (by decide) ?_
            refine blockQ_hit ?_
            refine seqQ_n ?_
            refine AW_seq ?_
            refine AW_region ?_
            first | refine AL_load_rp sz57 rfl ag57 ?_ | refine AL_loadw sz57 rfl (by repeat (first | exact AH.upd_same _ _ _ | exact hH | assumption | refine AH.look_other (by assumption) ?_)) (by exact ag57) (by exact rfl) ?_ | refine AL_load_pt ag57 sz57 (by decide) rfl (by repeat (first | exact AH.upd_same _ _ _ | exact hH | assumption | refine AH.look_other (by assumption) ?_)) (by first | assumption | exact sz3 | exact sz9 | exact sz5 | exact sz57) (by exact rfl) (by exact rfl) (by exact rfl) ?_
            refine AL_callv rfl en44 (.cons (.ev rfl) (.cons (.ev rfl) (.nil))) (css_Parse_1_ok b1 b2 _ _ (0) (1) _ (fun x H1 => x = .tup [] ∧ H1 = _) hd1_2 (by repeat (first | exact AH.upd_same _ _ _ | assumption | refine AH.look_other (by assumption) ?_)) (by repeat (first | exact AH.upd_same _ _ _ | assumption | refine AH.look_other (by assumption) ?_)) ⟨rfl, rfl⟩) ?_
            rintro _ _ ⟨rfl, rfl⟩
            refine AL_norm (by first | (simp only [tput, anyAt, setAll, List.foldl_cons, List.foldl_nil, List.set_cons_zero, List.set_cons_succ]; rfl) | rfl) ?_
            refine AL_nil ?_
            refine seqQ_n ?_
            refine AW_exit ?_
            refine blockQ_miss (by decide) ?_
            refine seqQ_x ?_
            refine blockQ_miss (by decide) ?_
            refine seqQ_x ?_
            refine blockQ_miss (by decide) ?_
            refine seqQ_x ?_
            refine blockQ_miss (by decide) ?_
            refine seqQ_x ?_
            refine blockQ_hit ?_
            refine blockQ_n ?_
            refine roundQ_n ⟨k + 1, ?_, ?_⟩
            · rfl
            · have e : stP s (k + 1) = setP' (stP s k) (0) (1) := (stP_next hp).trans (apP_say (by rw [sayP, if_neg hc1, if_neg hc2, if_neg hc3, if_pos hc4])); (show SubH ((((H.upd b1 (some (.row 3 1 [bAV (stP s (k + 1)).1]))).upd b2 (some (.row 3 1 [bAV (stP s (k + 1)).2]))).upd b3 (some (.row 57 1 [.fn (.func 44) [] [.pt b1 0 1 0, .pt b2 0 1 0]]))).upd D (some (.raw (.deferred (some []))))) _); rw [e]; first | exact SubH.refl _ | (refine SubH.of_eq (funext fun j => ?_); simp only [AH.upd]; (repeat' split) <;> first | rfl | omega)
          · try simp only [Bool.or_eq_true, Bool.and_eq_true, Bool.or_eq_false_iff, Bool.and_eq_false_iff, decide_eq_true_eq, decide_eq_false_iff_not, Bool.not_eq_true', Bool.not_eq_false', beq_iff_eq, ne_eq, Decidable.not_not, List.length_map] at hc4
            refine AW_skip ?_
            refine seqQ_n ?_
            refine AW_seq ?_
            refine AW_seq ?_
            refine AW_region ?_
            refine AL_seql rfl rfl ?_
            refine AL_norm (by first | (simp only [tput, anyAt, setAll, List.foldl_cons, List.foldl_nil, List.set_cons_zero, List.set_cons_succ]; rfl) | rfl) ?_
            refine AL_assign rfl ?_
            refine AL_norm (by first | (simp only [tput, anyAt, setAll, List.foldl_cons, List.foldl_nil, List.set_cons_zero, List.set_cons_succ]; rfl) | rfl) ?_
            refine AL_nil ?_
            refine seqQ_n ?_
            refine AW_cond rfl (fun hc5 => ?_) (fun hc5 => ?_)
            · try simp only [Bool.or_eq_true, Bool.and_eq_true, Bool.or_eq_false_iff, Bool.and_eq_false_iff, decide_eq_true_eq, decide_eq_false_iff_not, Bool.not_eq_true', Bool.not_eq_false', beq_iff_eq, ne_eq, Decidable.not_not, List.length_map] at hc5
              refine AW_exit ?_
              refine seqQ_x ?_
              refine seqQ_x ?_
              refine blockQ_miss (by decide) ?_
              refine blockQ_miss (by decide) ?_
              refine seqQ_x ?_
              refine blockQ_miss (by decide) ?_
              refine blockQ_miss (by decide) ?_
              refine seqQ_x ?_
              refine blockQ_hit ?_
              refine seqQ_n ?_
              refine AW_seq ?_
              refine AW_region ?_
              first | refine AL_load_rp sz57 rfl ag57 ?_ | refine AL_loadw sz57 rfl (by repeat (first | exact AH.upd_same _ _ _ | exact hH | assumption | refine AH.look_other (by assumption) ?_)) (by exact ag57) (by exact rfl) ?_ | refine AL_load_pt ag57 sz57 (by decide) rfl (by repeat (first | exact AH.upd_same _ _ _ | exact hH | assumption | refine AH.look_other (by assumption) ?_)) (by first | assumption | exact sz3 | exact sz9 | exact sz5 | exact sz57) (by exact rfl) (by exact rfl) (by exact rfl) ?_
              refine AL_callv rfl en44 (.cons (.ev rfl) (.cons (.ev rfl) (.nil))) (css_Parse_1_ok b1 b2 _ _ (2) (0) _ (fun x H1 => x = .tup [] ∧ H1 = _) hd1_2 (by repeat (first | exact AH.upd_same _ _ _ | assumption | refine AH.look_other (by assumption) ?_)) (by repeat (first | exact AH.upd_same _ _ _ | assumption | refine AH.look_other (by assumption) ?_)) ⟨rfl, rfl⟩) ?_
              rintro _ _ ⟨rfl, rfl⟩
              refine AL_norm (by first | (simp only [tput, anyAt, setAll, List.foldl_cons, List.foldl_nil, List.set_cons_zero, List.set_cons_succ]; rfl) | rfl) ?_
              refine AL_nil ?_
              refine seqQ_n ?_
              refine AW_exit ?_
              refine blockQ_miss (by decide) ?_
              refine seqQ_x ?_
              refine blockQ_miss (by decide) ?_
              refine seqQ_x ?_
              refine blockQ_miss (by decide) ?_
              refine seqQ_x ?_
              refine blockQ_hit ?_
              refine blockQ_n ?_
              refine roundQ_n ⟨k + 1, ?_, ?_⟩
              · rfl
              · have e : stP s (k + 1) = setP' (stP s k) (2) (0) := (stP_next hp).trans (apP_say (by rw [sayP, if_neg hc1, if_neg hc2, if_neg hc3, if_neg hc4, if_pos hc5])); (show SubH ((((H.upd b1 (some (.row 3 1 [bAV (stP s (k + 1)).1]))).upd b2 (some (.row 3 1 [bAV (stP s (k + 1)).2]))).upd b3 (some (.row 57 1 [.fn (.func 44) [] [.pt b1 0 1 0, .pt b2 0 1 0]]))).upd D (some (.raw (.deferred (some []))))) _); rw [e]; first | exact SubH.refl _ | (refine SubH.of_eq (funext fun j => ?_); simp only [AH.upd]; (repeat' split) <;> first | rfl | omega)
            · try simp only [Bool.or_eq_true, Bool.and_eq_true, Bool.or_eq_false_iff, Bool.and_eq_false_iff, decide_eq_true_eq, decide_eq_false_iff_not, Bool.not_eq_true', Bool.not_eq_false', beq_iff_eq, ne_eq, Decidable.not_not, List.length_map] at hc5
              refine AW_skip ?_
              refine seqQ_n ?_
              refine AW_seq ?_
              refine AW_seq ?_
              refine AW_region ?_
              refine AL_seql rfl rfl ?_
              refine AL_norm (by first | (simp only [tput, anyAt, setAll, List.foldl_cons, List.foldl_nil, List.set_cons_zero, List.set_cons_succ]; rfl) | rfl) ?_
              refine AL_assign rfl ?_
              refine AL_norm (by first | (simp only [tput, anyAt, setAll, List.foldl_cons, List.foldl_nil, List.set_cons_zero, List.set_cons_succ]; rfl) | rfl) ?_
              refine AL_nil ?_
              refine seqQ_n ?_
              refine AW_cond rfl (fun hc6 => ?_) (fun hc6 => ?_)
              · try simp only [Bool.or_eq_true, Bool.and_eq_true, Bool.or_eq_false_iff, Bool.and_eq_false_iff, decide_eq_true_eq, decide_eq_false_iff_not, Bool.not_eq_true', Bool.not_eq_false', beq_iff_eq, ne_eq, Decidable.not_not, List.length_map] at hc6
                refine AW_exit ?_
                refine seqQ_x ?_
                refine seqQ_x ?_
                refine blockQ_miss (by decide) ?_
                refine blockQ_miss (by decide) ?_
                refine seqQ_x ?_
                refine blockQ_miss (by decide) ?_
                refine blockQ_miss (by decide) ?_
                refine seqQ_x ?_
                refine blockQ_miss (by decide) ?_
                refine seqQ_x ?_
                refine blockQ_hit ?_
                refine seqQ_n ?_
                refine AW_seq ?_
                refine AW_region ?_
                first | refine AL_load_rp sz57 rfl ag57 ?_ | refine AL_loadw sz57 rfl (by repeat (first | exact AH.upd_same _ _ _ | exact hH | assumption | refine AH.look_other (by assumption) ?_)) (by exact ag57) (by exact rfl) ?_ | refine AL_load_pt ag57 sz57 (by decide) rfl (by repeat (first | exact AH.upd_same _ _ _ | exact hH | assumption | refine AH.look_other (by assumption) ?_)) (by first | assumption | exact sz3 | exact sz9 | exact sz5 | exact sz57) (by exact rfl) (by exact rfl) (by exact rfl) ?_
                refine AL_callv rfl en44 (.cons (.ev rfl) (.cons (.ev rfl) (.nil))) (css_Parse_1_ok b1 b2 _ _ (0) (2) _ (fun x H1 => x = .tup [] ∧ H1 = _) hd1_2 (by repeat (first | exact AH.upd_same _ _ _ | assumption | refine AH.look_other (by assumption) ?_)) (by repeat (first | exact AH.upd_same _ _ _ | assumption | refine AH.look_other (by assumption) ?_)) ⟨rfl, rfl⟩) ?_
                rintro _ _ ⟨rfl, rfl⟩
                refine AL_norm (by first | (simp only [tput, anyAt, setAll, List.foldl_cons, List.foldl_nil, List.set_cons_zero, List.set_cons_succ]; rfl) | rfl) ?_
                refine AL_nil ?_
                refine seqQ_n ?_
                refine AW_exit ?_
                refine blockQ_miss (by decide) ?_
                refine seqQ_x ?_
                refine blockQ_miss (by decide) ?_
                refine seqQ_x ?_
                refine blockQ_hit ?_
                refine blockQ_n ?_
                refine roundQ_n ⟨k + 1, ?_, ?_⟩
                · rfl
                · have e : stP s (k + 1) = setP' (stP s k) (0) (2) := (stP_next hp).trans (apP_say (by rw [sayP, if_neg hc1, if_neg hc2, if_neg hc3, if_neg hc4, if_neg hc5, if_pos hc6])); (show SubH ((((H.upd b1 (some (.row 3 1 [bAV (stP s (k + 1)).1]))).upd b2 (some (.row 3 1 [bAV (stP s (k + 1)).2]))).upd b3 (some (.row 57 1 [.fn (.func 44) [] [.pt b1 0 1 0, .pt b2 0 1 0]]))).upd D (some (.raw (.deferred (some []))))) _); rw [e]; first | exact SubH.refl _ | (refine SubH.of_eq (funext fun j => ?_); simp only [AH.upd]; (repeat' split) <;> first | rfl | omega)
              · try simp only [Bool.or_eq_true, Bool.and_eq_true, Bool.or_eq_false_iff, Bool.and_eq_false_iff, decide_eq_true_eq, decide_eq_false_iff_not, Bool.not_eq_true', Bool.not_eq_false', beq_iff_eq, ne_eq, Decidable.not_not, List.length_map] at hc6
                refine AW_skip ?_
                refine seqQ_n ?_
                refine AW_seq ?_
                refine AW_region ?_
                refine AL_seql rfl rfl ?_
                refine AL_norm (by first | (simp only [tput, anyAt, setAll, List.foldl_cons, List.foldl_nil, List.set_cons_zero, List.set_cons_succ]; rfl) | rfl) ?_
                refine AL_assign rfl ?_
                refine AL_norm (by first | (simp only [tput, anyAt, setAll, List.foldl_cons, List.foldl_nil, List.set_cons_zero, List.set_cons_succ]; rfl) | rfl) ?_
                refine AL_nil ?_
                refine seqQ_n ?_
                refine AW_cond rfl (fun hc7 => ?_) (fun hc7 => ?_)
                · try simp only [Bool.or_eq_true, Bool.and_eq_true, Bool.or_eq_false_iff, Bool.and_eq_false_iff, decide_eq_true_eq, decide_eq_false_iff_not, Bool.not_eq_true', Bool.not_eq_false', beq_iff_eq, ne_eq, Decidable.not_not, List.length_map] at hc7
                  refine AW_exit ?_
                  refine seqQ_x ?_
                  refine blockQ_miss (by decide) ?_
                  refine blockQ_miss (by decide) ?_
                  refine seqQ_x ?_
                  refine blockQ_miss (by decide) ?_
                  refine blockQ_miss (by decide) ?_
                  refine seqQ_x ?_
                  refine blockQ_miss (by decide) ?_
                  refine seqQ_x ?_
                  refine blockQ_miss (by decide) ?_
                  refine seqQ_x ?_
                  refine blockQ_hit ?_
                  refine seqQ_n ?_
                  refine AW_seq ?_
                  refine AW_region ?_
                  first | refine AL_load_rp sz57 rfl ag57 ?_ | refine AL_loadw sz57 rfl (by repeat (first | exact AH.upd_same _ _ _ | exact hH | assumption | refine AH.look_other (by assumption) ?_)) (by exact ag57) (by exact rfl) ?_ | refine AL_load_pt ag57 sz57 (by decide) rfl (by repeat (first | exact AH.upd_same _ _ _ | exact hH | assumption | refine AH.look_other (by assumption) ?_)) (by first | assumption | exact sz3 | exact sz9 | exact sz5 | exact sz57) (by exact rfl) (by exact rfl) (by exact rfl) ?_
                  refine AL_callv rfl en44 (.cons (.ev rfl) (.cons (.ev rfl) (.nil))) (css_Parse_1_ok b1 b2 _ _ (0) (12) _ (fun x H1 => x = .tup [] ∧ H1 = _) hd1_2 (by repeat (first | exact AH.upd_same _ _ _ | assumption | refine AH.look_other (by assumption) ?_)) (by repeat (first | exact AH.upd_same _ _ _ | assumption | refine AH.look_other (by assumption) ?_)) ⟨rfl, rfl⟩) ?_
                  rintro _ _ ⟨rfl, rfl⟩
                  refine AL_norm (by first | (simp only [tput, anyAt, setAll, List.foldl_cons, List.foldl_nil, List.set_cons_zero, List.set_cons_succ]; rfl) | rfl) ?_
                  refine AL_nil ?_
                  refine seqQ_n ?_
                  refine AW_exit ?_
                  refine blockQ_miss (by decide) ?_
                  refine seqQ_x ?_
                  refine blockQ_hit ?_
                  refine blockQ_n ?_
                  refine roundQ_n ⟨k + 1, ?_, ?_⟩
                  · rfl
                  · have e : stP s (k + 1) = setP' (stP s k) (0) (12) := (stP_next hp).trans (apP_say (by rw [sayP, if_neg hc1, if_neg hc2, if_neg hc3, if_neg hc4, if_neg hc5, if_neg hc6, if_pos hc7])); (show SubH ((((H.upd b1 (some (.row 3 1 [bAV (stP s (k + 1)).1]))).upd b2 (some (.row 3 1 [bAV (stP s (k + 1)).2]))).upd b3 (some (.row 57 1 [.fn (.func 44) [] [.pt b1 0 1 0, .pt b2 0 1 0]]))).upd D (some (.raw (.deferred (some []))))) _); rw [e]; first | exact SubH.refl _ | (refine SubH.of_eq (funext fun j => ?_); simp only [AH.upd]; (repeat' split) <;> first | rfl | omega)
                · try simp only [Bool.or_eq_true, Bool.and_eq_true, Bool.or_eq_false_iff, Bool.and_eq_false_iff, decide_eq_true_eq, decide_eq_false_iff_not, Bool.not_eq_true', Bool.not_eq_false', beq_iff_eq, ne_eq, Decidable.not_not, List.length_map] at hc7
                  refine AW_skip ?_
                  refine seqQ_n ?_
                  refine AW_exit ?_
                  refine blockQ_miss (by decide) ?_
                  refine blockQ_miss (by decide) ?_
                  refine seqQ_x ?_
                  refine blockQ_miss (by decide) ?_
                  refine blockQ_miss (by decide) ?_
                  refine seqQ_x ?_
                  refine blockQ_miss (by decide) ?_
                  refine seqQ_x ?_
                  refine blockQ_miss (by decide) ?_
                  refine seqQ_x ?_
                  refine blockQ_miss (by decide) ?_
                  refine seqQ_x ?_
                  refine blockQ_hit ?_
                  refine seqQ_n ?_
                  refine AW_seq ?_
                  refine AW_seq ?_
                  refine AW_region ?_
                  refine AL_move rfl ?_
                  refine AL_norm (by first | (simp only [tput, anyAt, setAll, List.foldl_cons, List.foldl_nil, List.set_cons_zero, List.set_cons_succ]; rfl) | rfl) ?_
                  refine AL_callpi en46 (.cons (.ev rfl) (.nil)) (by repeat (first | assumption | refine Holds.upd ?_ (by first | assumption | repeat (first | assumption | refine AH.look_other (by assumption) ?_)))) (css_words_ok p.2 (by omega)) ?_
                  refine AL_move rfl ?_
                  refine AL_extract rfl rfl ?_
                  refine AL_extract rfl rfl ?_
                  refine AL_norm (by first | (simp only [tput, anyAt, setAll, List.foldl_cons, List.foldl_nil, List.set_cons_zero, List.set_cons_succ]; rfl) | rfl) ?_
                  refine AL_assign rfl ?_
                  refine AL_assign rfl ?_
                  refine AL_norm (by first | (simp only [tput, anyAt, setAll, List.foldl_cons, List.foldl_nil, List.set_cons_zero, List.set_cons_succ]; rfl) | rfl) ?_
                  refine AL_nil ?_
                  refine seqQ_n ?_
                  refine AW_seq ?_
                  refine AW_region ?_
                  refine AL_move rfl ?_
                  refine AL_move rfl ?_
                  refine AL_norm (by first | (simp only [tput, anyAt, setAll, List.foldl_cons, List.foldl_nil, List.set_cons_zero, List.set_cons_succ]; rfl) | rfl) ?_
                  refine AL_and (j := 1) (n := 2) (c := 48) (t := 50) (r := 51) (v := ?v8) [49, 50] rfl rfl rfl rfl rfl rfl rfl (fun hg8 => ?_) ?_; rotate_left
                  · simp only [List.take_succ_cons, List.take_zero, List.map_cons, List.map_nil, strip, Nat.reduceBEq, beq_self_eq_true, Bool.and_self, Bool.true_and, Bool.false_and, cond_true, cond_false]
                    try simp only [Bool.or_eq_true, Bool.and_eq_true, Bool.or_eq_false_iff, Bool.and_eq_false_iff, decide_eq_true_eq, decide_eq_false_iff_not, Bool.not_eq_true', Bool.not_eq_false', beq_iff_eq, ne_eq, Decidable.not_not, List.length_map] at hg8
                    refine AL_move rfl ?_
                    refine AL_seql rfl rfl ?_
                    refine AL_nil (grpQ_mk ?_)
                    try simp only [tput, anyAt, setAll, List.foldl_cons, List.foldl_nil, List.set_cons_zero, List.set_cons_succ]
                    repeat (first | exact Weak.nil | refine Weak.cons ?_ | refine Weak.consAny ?_)
                  refine AL_norm (by first | (simp only [tput, anyAt, setAll, List.foldl_cons, List.foldl_nil, List.set_cons_zero, List.set_cons_succ]; rfl) | rfl) ?_
                  refine AL_norm (by first | (simp only [tput, anyAt, setAll, List.foldl_cons, List.foldl_nil, List.set_cons_zero, List.set_cons_succ]; rfl) | rfl) ?_
                  refine AL_nil ?_
                  refine seqQ_n ?_
                  refine AW_cond rfl (fun hc9 => ?_) (fun hc9 => ?_)
                  · try simp only [Bool.or_eq_true, Bool.and_eq_true, Bool.or_eq_false_iff, Bool.and_eq_false_iff, decide_eq_true_eq, decide_eq_false_iff_not, Bool.not_eq_true', Bool.not_eq_false', beq_iff_eq, ne_eq, Decidable.not_not, List.length_map] at hc9
                    refine AW_region ?_
                    first | refine AL_load_rp sz57 rfl ag57 ?_ | refine AL_loadw sz57 rfl (by repeat (first | exact AH.upd_same _ _ _ | exact hH | assumption | refine AH.look_other (by assumption) ?_)) (by exact ag57) (by exact rfl) ?_ | refine AL_load_pt ag57 sz57 (by decide) rfl (by repeat (first | exact AH.upd_same _ _ _ | exact hH | assumption | refine AH.look_other (by assumption) ?_)) (by first | assumption | exact sz3 | exact sz9 | exact sz5 | exact sz57) (by exact rfl) (by exact rfl) (by exact rfl) ?_
                    refine AL_move rfl ?_
                    refine AL_norm (by first | (simp only [tput, anyAt, setAll, List.foldl_cons, List.foldl_nil, List.set_cons_zero, List.set_cons_succ]; rfl) | rfl) ?_
                    refine AL_move rfl ?_
                    refine AL_bitsz (((12 &&& ~~~(wordsP (splitS p.2 32) 0 false).1).toNat : Int)) rfl rfl (by decide) (b4_andNot 12 _) ?_
                    refine AL_callv rfl en44 (.cons (.ev rfl) (.cons (.ev rfl) (.nil))) (css_Parse_1_ok b1 b2 _ _ ((wordsP (splitS p.2 32) 0 false).1) (12 &&& ~~~(wordsP (splitS p.2 32) 0 false).1) _ (fun x H1 => x = .tup [] ∧ H1 = _) hd1_2 (by repeat (first | exact AH.upd_same _ _ _ | assumption | refine AH.look_other (by assumption) ?_)) (by repeat (first | exact AH.upd_same _ _ _ | assumption | refine AH.look_other (by assumption) ?_)) ⟨rfl, rfl⟩) ?_
                    rintro _ _ ⟨rfl, rfl⟩
                    refine AL_norm (by first | (simp only [tput, anyAt, setAll, List.foldl_cons, List.foldl_nil, List.set_cons_zero, List.set_cons_succ]; rfl) | rfl) ?_
                    refine AL_nil ?_
                    refine seqQ_n ?_
                    refine AW_exit ?_
                    refine blockQ_hit ?_
                    refine blockQ_n ?_
                    refine roundQ_n ⟨k + 1, ?_, ?_⟩
                    · rfl
                    · have e : stP s (k + 1) = setP' (stP s k) ((wordsP (splitS p.2 32) 0 false).1) (12 &&& ~~~(wordsP (splitS p.2 32) 0 false).1) := (stP_next hp).trans (apP_say (by rw [sayP, if_neg hc1, if_neg hc2, if_neg hc3, if_neg hc4, if_neg hc5, if_neg hc6, if_neg hc7, if_pos hc9])); (show SubH ((((H.upd b1 (some (.row 3 1 [bAV (stP s (k + 1)).1]))).upd b2 (some (.row 3 1 [bAV (stP s (k + 1)).2]))).upd b3 (some (.row 57 1 [.fn (.func 44) [] [.pt b1 0 1 0, .pt b2 0 1 0]]))).upd D (some (.raw (.deferred (some []))))) _); rw [e]; first | exact SubH.refl _ | (refine SubH.of_eq (funext fun j => ?_); simp only [AH.upd]; (repeat' split) <;> first | rfl | omega)
                  · try simp only [Bool.or_eq_true, Bool.and_eq_true, Bool.or_eq_false_iff, Bool.and_eq_false_iff, decide_eq_true_eq, decide_eq_false_iff_not, Bool.not_eq_true', Bool.not_eq_false', beq_iff_eq, ne_eq, Decidable.not_not, List.length_map] at hc9
                    refine AW_skip ?_
                    refine seqQ_n ?_
                    refine AW_exit ?_
                    refine blockQ_hit ?_
                    refine blockQ_n ?_
                    refine roundQ_n ⟨k + 1, ?_, ?_⟩
                    · rfl
                    · have e : stP s (k + 1) = stP s k := (stP_next hp).trans (apP_no (by rw [sayP, if_neg hc1, if_neg hc2, if_neg hc3, if_neg hc4, if_neg hc5, if_neg hc6, if_neg hc7, if_neg (fun h => (hc9).elim (fun e => Bool.false_ne_true (e.symm.trans h.1)) (fun e => e h.2))])); (show SubH ((((H.upd b1 (some (.row 3 1 [bAV (stP s (k + 1)).1]))).upd b2 (some (.row 3 1 [bAV (stP s (k + 1)).2]))).upd b3 (some (.row 57 1 [.fn (.func 44) [] [.pt b1 0 1 0, .pt b2 0 1 0]]))).upd D (some (.raw (.deferred (some []))))) _); rw [e]; first | exact SubH.refl _ | (refine SubH.of_eq (funext fun j => ?_); simp only [AH.upd]; (repeat' split) <;> first | rfl | omega)
  · intro k hI; obtain rfl : k = _ := hI; rw [List.length_map]
    refine blockQ_n ?_
    refine seqQ_n ?_
    refine AW_seq ?_
    refine' AW_drawL (xs := [_, _, _, _]) [2, 3] [0, 0, 1, 2] (fun _ => (((H.upd b1 (some (.row 3 1 [bAV (stP s (decls s).length).1]))).upd b2 (some (.row 3 1 [bAV (stP s (decls s).length).2]))).upd b3 (some (.row 57 1 [.fn (.func 44) [] [.pt b1 0 1 0, .pt b2 0 1 0]]))).upd D (some (.raw (.deferred (some []))))) rfl (by kernel_rfl) ?hops1 ?_
    case hops1 =>
      refine HopsL_cons (fun m T hl hr hm hm2 => ?_) ?_
      · skip
        replace hm : 0 ≤ m := hm
        replace hm2 : m ≤ 0 := hm2
        obtain rfl : m = 0 := by omega
        refine AL_heap (by rfl : _ = (((H.upd b1 (some (.row 3 1 [bAV (stP s (decls s).length).1]))).upd b2 (some (.row 3 1 [bAV (stP s (decls s).length).2]))).upd b3 (some (.row 57 1 [.fn (.func 44) [] [.pt b1 0 1 0, .pt b2 0 1 0]]))).upd D (some (.raw (.deferred (some []))))) ?_
        first | refine AL_load_rp sz3 ((hr 2 (by kernel_rfl)).trans rfl) ag3 ?_ | refine AL_loadw sz3 ((hr 2 (by kernel_rfl)).trans rfl) (by repeat (first | exact AH.upd_same _ _ _ | exact hH | assumption | refine AH.look_other (by assumption) ?_)) (by exact ag3) (by exact rfl) ?_ | refine AL_load_pt ag3 sz3 (by decide) ((hr 2 (by kernel_rfl)).trans rfl) (by repeat (first | exact AH.upd_same _ _ _ | exact hH | assumption | refine AH.look_other (by assumption) ?_)) (by first | assumption | exact sz3 | exact sz9 | exact sz5 | exact sz57) (by exact rfl) (by exact rfl) (by exact rfl) ?_
        refine AL_nil ?_
        refine qpostL_mk ?_ ?_
        rotate_left
        exact Weak.refl _
        exact SubH.refl _
      refine HopsL_norm (by first | (simp only [tput, List.set_cons_zero, List.set_cons_succ]; rfl) | rfl) ?_
      refine HopsL_cons (fun m T hl hr hm hm2 => ?_) ?_
      · skip
        replace hm : 0 ≤ m := hm
        replace hm2 : m ≤ 1 := hm2
        obtain rfl | rfl : m = 0 ∨ m = 1 := by omega
        ·
          refine AL_heap (by rfl : _ = (((H.upd b1 (some (.row 3 1 [bAV (stP s (decls s).length).1]))).upd b2 (some (.row 3 1 [bAV (stP s (decls s).length).2]))).upd b3 (some (.row 57 1 [.fn (.func 44) [] [.pt b1 0 1 0, .pt b2 0 1 0]]))).upd D (some (.raw (.deferred (some []))))) ?_
          first | refine AL_load_rp sz3 ((hr 3 (by kernel_rfl)).trans rfl) ag3 ?_ | refine AL_loadw sz3 ((hr 3 (by kernel_rfl)).trans rfl) (by repeat (first | exact AH.upd_same _ _ _ | exact hH | assumption | refine AH.look_other (by assumption) ?_)) (by exact ag3) (by exact rfl) ?_ | refine AL_load_pt ag3 sz3 (by decide) ((hr 3 (by kernel_rfl)).trans rfl) (by repeat (first | exact AH.upd_same _ _ _ | exact hH | assumption | refine AH.look_other (by assumption) ?_)) (by first | assumption | exact sz3 | exact sz9 | exact sz5 | exact sz57) (by exact rfl) (by exact rfl) (by exact rfl) ?_
          refine AL_nil ?_
          refine qpostL_mk ?_ ?_
          rotate_left
          exact Weak.refl _
          exact SubH.refl _
        ·
          refine AL_heap (by rfl : _ = (((H.upd b1 (some (.row 3 1 [bAV (stP s (decls s).length).1]))).upd b2 (some (.row 3 1 [bAV (stP s (decls s).length).2]))).upd b3 (some (.row 57 1 [.fn (.func 44) [] [.pt b1 0 1 0, .pt b2 0 1 0]]))).upd D (some (.raw (.deferred (some []))))) ?_
          first | refine AL_load_rp sz3 ((hr 3 (by kernel_rfl)).trans rfl) ag3 ?_ | refine AL_loadw sz3 ((hr 3 (by kernel_rfl)).trans rfl) (by repeat (first | exact AH.upd_same _ _ _ | exact hH | assumption | refine AH.look_other (by assumption) ?_)) (by exact ag3) (by exact rfl) ?_ | refine AL_load_pt ag3 sz3 (by decide) ((hr 3 (by kernel_rfl)).trans rfl) (by repeat (first | exact AH.upd_same _ _ _ | exact hH | assumption | refine AH.look_other (by assumption) ?_)) (by first | assumption | exact sz3 | exact sz9 | exact sz5 | exact sz57) (by exact rfl) (by exact rfl) (by exact rfl) ?_
          refine AL_nil ?_
          refine qpostL_mk ?_ ?_
          rotate_left
          exact Weak.refl _
          exact SubH.refl _
      refine HopsL_norm (by first | (simp only [tput, List.set_cons_zero, List.set_cons_succ]; rfl) | rfl) ?_
      refine HopsL_cons (fun m T hl hr hm hm2 => ?_) ?_
      · skip
        replace hm : 0 ≤ m := hm
        replace hm2 : m ≤ 0 := hm2
        obtain rfl : m = 0 := by omega
        refine AL_heap (by rfl : _ = (((H.upd b1 (some (.row 3 1 [bAV (stP s (decls s).length).1]))).upd b2 (some (.row 3 1 [bAV (stP s (decls s).length).2]))).upd b3 (some (.row 57 1 [.fn (.func 44) [] [.pt b1 0 1 0, .pt b2 0 1 0]]))).upd D (some (.raw (.deferred (some []))))) ?_
        first | refine AL_store_w sz3 ((hr 2 (by kernel_rfl)).trans rfl) (.ev ((hr 57 (by kernel_rfl)).trans rfl)) rfl (by repeat (first | exact AH.upd_same _ _ _ | exact hH | assumption | refine AH.look_other (by assumption) ?_)) rfl (by exact rfl) ?_ | refine AL_store ((hr 2 (by kernel_rfl)).trans rfl) (.ev ((hr 57 (by kernel_rfl)).trans rfl)) rfl (by repeat (first | exact AH.upd_same _ _ _ | exact hH | assumption | refine AH.look_other (by assumption) ?_)) (by first | assumption | exact sz3 | exact sz9 | exact sz5 | exact sz57) (by exact rfl) sz3 rfl (by decide) (fun h => by first | (cases h; done) | exact ⟨rfl, rfl, rfl⟩) ?_
        refine AL_heap (by first | (simp only [AH.upd_upd]; rfl) | rfl) ?_
        refine AL_nil ?_
        refine qpostL_mk ?_ ?_
        rotate_left
        exact Weak.refl _
        first | exact SubH.refl _ | (refine SubH.of_eq (funext fun j => ?_); simp only [AH.upd]; (repeat' split) <;> first | rfl | omega)
      refine HopsL_norm (by first | (simp only [tput, List.set_cons_zero, List.set_cons_succ]; rfl) | rfl) ?_
      refine HopsL_cons (fun m T hl hr hm hm2 => ?_) ?_
      · skip
        replace hm : 1 ≤ m := hm
        replace hm2 : m ≤ 1 := hm2
        obtain rfl : m = 1 := by omega
        refine AL_heap (by rfl : _ = (((H.upd b1 (some (.row 3 1 [bAV (stP s (decls s).length).1]))).upd b2 (some (.row 3 1 [bAV (stP s (decls s).length).2]))).upd b3 (some (.row 57 1 [.fn (.func 44) [] [.pt b1 0 1 0, .pt b2 0 1 0]]))).upd D (some (.raw (.deferred (some []))))) ?_
        first | refine AL_store_w sz3 ((hr 3 (by kernel_rfl)).trans rfl) (.ev ((hr 58 (by kernel_rfl)).trans rfl)) rfl (by repeat (first | exact AH.upd_same _ _ _ | exact hH | assumption | refine AH.look_other (by assumption) ?_)) rfl (by exact rfl) ?_ | refine AL_store ((hr 3 (by kernel_rfl)).trans rfl) (.ev ((hr 58 (by kernel_rfl)).trans rfl)) rfl (by repeat (first | exact AH.upd_same _ _ _ | exact hH | assumption | refine AH.look_other (by assumption) ?_)) (by first | assumption | exact sz3 | exact sz9 | exact sz5 | exact sz57) (by exact rfl) sz3 rfl (by decide) (fun h => by first | (cases h; done) | exact ⟨rfl, rfl, rfl⟩) ?_
        refine AL_heap (by first | (simp only [AH.upd_upd]; rfl) | rfl) ?_
        refine AL_nil ?_
        refine qpostL_mk ?_ ?_
        rotate_left
        exact Weak.refl _
        first | exact SubH.refl _ | (refine SubH.of_eq (funext fun j => ?_); simp only [AH.upd]; (repeat' split) <;> first | rfl | omega)
      refine HopsL_norm (by first | (simp only [tput, List.set_cons_zero, List.set_cons_succ]; rfl) | rfl) ?_
      exact HopsL_nil
    refine Q_norm (by first | (simp only [Tfin, tput, anyAt, setAll, List.foldl_cons, List.foldl_nil, List.set_cons_zero, List.set_cons_succ]; rfl) | rfl) ?_
    refine seqQ_n ?_
    refine AW_ret ?_
    refine retQM_mk (D := D) (H1 := (H.upd b1 (some (.row 3 1 [bAV (stP s (decls s).length).1]))).upd b2 (some (.row 3 1 [bAV (stP s (decls s).length).2]))) (H' := H) (.inr rfl) (by repeat (first | exact AH.upd_same _ _ _ | exact hH | assumption | refine AH.look_other (by assumption) ?_)) (.cons (.cell rfl (by repeat (first | exact AH.upd_same _ _ _ | exact hH | assumption | refine AH.look_other (by assumption) ?_)) (by first | assumption | exact sz3 | exact sz9 | exact sz5 | exact sz57) rfl ag3 sz3 rfl rfl (by decide)) (.cons (.cell rfl (by repeat (first | exact AH.upd_same _ _ _ | exact hH | assumption | refine AH.look_other (by assumption) ?_)) (by first | assumption | exact sz3 | exact sz9 | exact sz5 | exact sz57) rfl ag3 sz3 rfl rfl (by decide)) (.nil))) (by intro j o hj; simp only [AH.upd] at hj ⊢; (repeat' split at hj) <;> (repeat' split) <;> first | omega | simp_all) (by rw [AH.upd_ne _ _ hdD_2, AH.upd_ne _ _ hdD_1]; exact hnD) (by repeat (first | exact SubH.refl _ | refine SubH.upd ?_ (by assumption))) ?_
    refine K_eq ?_ hK
    show duoAV _ = _; rw [stP_all]
  · rintro _ _ ⟨⟩
end Go.Css.Walk
