/- The given statement of the law: for every input the law answers true. No conditions of our own. -/
import Derived.Test.YtcmijcfmldaiaaaGreatDoorQZ
import Derived.Test.YtcmijcfmldaiaaaGreatDoorQY1
import Derived.Test.YtcmijcfmldaiaaaGreatDoorProg
set_option autoImplicit false
set_option linter.unusedVariables false
set_option linter.unusedSimpArgs false
set_option maxRecDepth 100000
set_option maxHeartbeats 4000000
namespace Go.Proofs
open Go Go.RowKit Go.AL Go.Q Go.IntWalk
attribute [local irreducible] AW AL seqQ blockQ retQ loopQ roundQ asgQ grpQ mQ qpost qpostL retQN retQM
theorem eqCmd (i : Nat) (w : World) : (Op.equalIn 10000 43 (.agg [Value.string (nameQ i), .string (inputQ i), .int .i64 (dataQ i)].toArray) (.agg [Value.string (nameQ i), .string (inputQ i), .int .i64 (dataQ i)].toArray)).run Tryz.prog w = .ok true w := by
  have hS : Tryz.prog.underlying 43 = some (.struct (Tryz.prog.fieldsOf 43)) := by kernel_rfl
  have hp : Tryz.prog.stoodInHeld 43 = false := by kernel_rfl
  have a3 : ∀ w, (isAgg 3).run Tryz.prog w = .ok false w := fun w => run_isAgg' (by kernel_rfl) w
  have a9 : ∀ w, (isAgg 9).run Tryz.prog w = .ok false w := fun w => run_isAgg' (by kernel_rfl) w
  have u3 := Tryz.underlying3
  have u9 := Tryz.underlying9
  rw [show (10000 : Nat) = 9999 + 1 from rfl, run_equalIn_agg w 9999 43 _ _ hS hp]
  simp only [Program.fieldsOf, Tryz.underlying43]
  go_simp
instance en25 : FEn Tryz.prog 25 := ⟨by kernel_rfl⟩
instance en68 : FEn Tryz.prog 68 := ⟨by kernel_rfl⟩
instance en27 : FEn Tryz.prog 27 := ⟨by kernel_rfl⟩
instance en33 : FEn Tryz.prog 33 := ⟨by kernel_rfl⟩
instance en10 : FEn Tryz.prog 10 := ⟨by kernel_rfl⟩
theorem eg43 : Tryz.prog.eqGuardType Tryz.prog.depth 43 = false := by kernel_rfl
instance en29 : FEn Tryz.prog 29 := ⟨by kernel_rfl⟩
instance un4 : FUn Tryz.prog 4 (.bool) := ⟨by kernel_rfl⟩

/-- quillwork/quillworkref26.small -/
theorem quillworkref26_small_ok (b : UInt8) :
    PF Tryz.prog 68 [.v (.int .u8 (b.toNat : Int))] (.v (.int .u8 ((Tags.lowB b).toNat : Int))) := by
  intro H K hK
  refine AC_of Tryz.func68 rfl (rs := [.tmp 2]) rfl Tryz.ntmps68 rfl ?_
  refine AW_norm TP ?_
  refine GC2 ?_
  refine GO1 ?_
  refine GC5 ?_
  refine GO3 ?_
  refine AL_and (j := 2) (n := 2) (c := 5) (t := 7) (r := 8) (v := ?v1) [6, 7] rfl rfl rfl rfl rfl rfl rfl (fun hg1 => ?_) ?_; rotate_left
  · refine GS ?_
    (try simp only [Bool.or_eq_true, Bool.and_eq_true, Bool.or_eq_false_iff, Bool.and_eq_false_iff, decide_eq_true_eq, decide_eq_false_iff_not, Bool.not_eq_true', Bool.not_eq_false', beq_iff_eq, ne_eq, Decidable.not_not, List.length_map] at hg1)
    refine GO2 ?_
    refine AL_nil (grpQ_mk ?_)
    exact WK
  refine AL_norm TN ?_
  refine AL_norm TN ?_
  refine GC2 ?_
  refine GI rfl (fun hc2 => ?_) (fun hc2 => ?_)
  ·
    refine GC2 ?_
    refine GO1 ?_
    refine AL_addz rfl rfl (((Tags.lowB b).toNat : Int)) (by rw [Tags.lowB_toNat, Tags.lowR, if_pos hc2]; exact u8_in _ (by omega)) ?_
    refine AL_norm TN ?_
    refine GO1 ?_
    refine GC4 ?_
    refine retQ_1 (H' := H) (.inr rfl) rfl SU ?_
    refine K_eq ?_ hK
    rfl
  ·
    refine GC4 ?_
    refine GO2 ?_
    refine GC3 ?_
    refine retQ_1 (H' := H) (.inr rfl) rfl SU ?_
    refine K_eq ?_ hK
    rw [Tags.lowB_toNat, Tags.lowR, if_neg (by omega)]

/-- quillwork/quillworkref26.All -/
theorem quillworkref26_All_ok  :
    PF Tryz.prog 25 [] (.sl 43 ((List.range 17).map cmdAV)) := by
  intro H K hK
  refine AC_of Tryz.func25 rfl (rs := [.tmp 0]) rfl Tryz.ntmps25 rfl ?_
  refine AW_norm TP ?_
  refine GC2 ?_
  refine GO1 ?_
  refine GC4 ?_
  refine AL_build_sf (zs := [_, _, _]) (pl := [(0, 1), (1, 1), (2, 1)]) Tryz.underlying43 FZe.h (by kernel_rfl) (.cons (.ev rfl) rfl (.cons (.ev rfl) rfl (.cons (.ev rfl) rfl (.nil)))) rfl rfl rfl ?_
  refine AL_build_struct (zs := [_, _, _]) (pl := [(0, 1), (1, 1), (2, 1)]) Tryz.underlying43 FZe.h (.v (.v (.v .nil))) (by kernel_rfl) (.cons (.ev rfl) rfl (.cons (.ev rfl) rfl (.nil))) rfl ?_
  refine AL_build_struct (zs := [_, _, _]) (pl := [(0, 1), (1, 1), (2, 1)]) Tryz.underlying43 FZe.h (.v (.v (.v .nil))) (by kernel_rfl) (.cons (.ev rfl) rfl (.cons (.ev rfl) rfl (.nil))) rfl ?_
  refine AL_norm TN ?_
  refine AL_build_struct (zs := [_, _, _]) (pl := [(0, 1), (1, 1), (2, 1)]) Tryz.underlying43 FZe.h (.v (.v (.v .nil))) (by kernel_rfl) (.cons (.ev rfl) rfl (.cons (.ev rfl) rfl (.nil))) rfl ?_
  refine AL_build_struct (zs := [_, _, _]) (pl := [(0, 1), (1, 1), (2, 1)]) Tryz.underlying43 FZe.h (.v (.v (.v .nil))) (by kernel_rfl) (.cons (.ev rfl) rfl (.cons (.ev rfl) rfl (.nil))) rfl ?_
  refine AL_build_struct (zs := [_, _, _]) (pl := [(0, 1), (1, 1), (2, 1)]) Tryz.underlying43 FZe.h (.v (.v (.v .nil))) (by kernel_rfl) (.cons (.ev rfl) rfl (.cons (.ev rfl) rfl (.nil))) rfl ?_
  refine AL_build_struct (zs := [_, _, _]) (pl := [(0, 1), (1, 1), (2, 1)]) Tryz.underlying43 FZe.h (.v (.v (.v .nil))) (by kernel_rfl) (.cons (.ev rfl) rfl (.cons (.ev rfl) rfl (.nil))) rfl ?_
  refine AL_norm TN ?_
  refine AL_build_struct (zs := [_, _, _]) (pl := [(0, 1), (1, 1), (2, 1)]) Tryz.underlying43 FZe.h (.v (.v (.v .nil))) (by kernel_rfl) (.cons (.ev rfl) rfl (.cons (.ev rfl) rfl (.nil))) rfl ?_
  refine AL_build_struct (zs := [_, _, _]) (pl := [(0, 1), (1, 1), (2, 1)]) Tryz.underlying43 FZe.h (.v (.v (.v .nil))) (by kernel_rfl) (.cons (.ev rfl) rfl (.cons (.ev rfl) rfl (.nil))) rfl ?_
  refine AL_build_sf (zs := [_, _, _]) (pl := [(0, 1), (1, 1), (2, 1)]) Tryz.underlying43 FZe.h (by kernel_rfl) (.cons (.ev rfl) rfl (.cons (.ev rfl) rfl (.cons (.ev rfl) rfl (.nil)))) rfl rfl rfl ?_
  refine AL_build_struct (zs := [_, _, _]) (pl := [(0, 1), (1, 1), (2, 1)]) Tryz.underlying43 FZe.h (.v (.v (.v .nil))) (by kernel_rfl) (.cons (.ev rfl) rfl (.cons (.ev rfl) rfl (.nil))) rfl ?_
  refine AL_norm TN ?_
  refine AL_build_struct (zs := [_, _, _]) (pl := [(0, 1), (1, 1), (2, 1)]) Tryz.underlying43 FZe.h (.v (.v (.v .nil))) (by kernel_rfl) (.cons (.ev rfl) rfl (.cons (.ev rfl) rfl (.nil))) rfl ?_
  refine AL_build_sf (zs := [_, _, _]) (pl := [(0, 1), (1, 1), (2, 1)]) Tryz.underlying43 FZe.h (by kernel_rfl) (.cons (.ev rfl) rfl (.cons (.ev rfl) rfl (.cons (.ev rfl) rfl (.nil)))) rfl rfl rfl ?_
  refine AL_build_struct (zs := [_, _, _]) (pl := [(0, 1), (1, 1), (2, 1)]) Tryz.underlying43 FZe.h (.v (.v (.v .nil))) (by kernel_rfl) (.cons (.ev rfl) rfl (.cons (.ev rfl) rfl (.nil))) rfl ?_
  refine AL_build_struct (zs := [_, _, _]) (pl := [(0, 1), (1, 1), (2, 1)]) Tryz.underlying43 FZe.h (.v (.v (.v .nil))) (by kernel_rfl) (.cons (.ev rfl) rfl (.cons (.ev rfl) rfl (.nil))) rfl ?_
  refine AL_norm TN ?_
  refine AL_build_struct (zs := [_, _, _]) (pl := [(0, 1), (1, 1), (2, 1)]) Tryz.underlying43 FZe.h (.v (.v (.v .nil))) (by kernel_rfl) (.cons (.ev rfl) rfl (.cons (.ev rfl) rfl (.nil))) rfl ?_
  refine AL_build_struct (zs := [_, _, _]) (pl := [(0, 1), (1, 1), (2, 1)]) Tryz.underlying43 FZe.h (.v (.v (.v .nil))) (by kernel_rfl) (.cons (.ev rfl) rfl (.cons (.ev rfl) rfl (.nil))) rfl ?_
  refine AL_buildSl FUn.h FSz.h FZe.h rfl (by decide) (by decide) (.cons (.ev rfl) rfl (.cons (.ev rfl) rfl (.cons (.ev rfl) rfl (.cons (.ev rfl) rfl (.cons (.ev rfl) rfl (.cons (.ev rfl) rfl (.cons (.ev rfl) rfl (.cons (.ev rfl) rfl (.cons (.ev rfl) rfl (.cons (.ev rfl) rfl (.cons (.ev rfl) rfl (.cons (.ev rfl) rfl (.cons (.ev rfl) rfl (.cons (.ev rfl) rfl (.cons (.ev rfl) rfl (.cons (.ev rfl) rfl (.cons (.ev rfl) rfl (.nil)))))))))))))))))) rfl rfl ?_
  refine GO1 ?_
  refine GC3 ?_
  refine retQ_1 (H' := H) (.inr rfl) rfl SU ?_
  refine K_eq ?_ hK
  rfl

/-- quillwork/quillworkref26.Find -/
theorem quillworkref26_Find_ok (x : ByteArray) (hx : x.size ≤ 1000000) :
    PF Tryz.prog 27 [strAV x] (findAVq x) := by
  intro H K hK
  have hr17 : (List.range 17).length = 17 := List.length_range
  refine AC_of Tryz.func27 rfl (rs := [.tmp 2, .tmp 3]) rfl Tryz.ntmps27 rfl ?_
  refine AW_norm TP ?_
  refine GC2 ?_
  refine GO2 ?_
  refine GC4 ?_
  refine AL_callp FEn.h XA (quillworkref26_All_ok) ?_
  refine GO1 ?_
  refine GC5 ?_
  refine GO1 ?_
  refine GC2 ?_
  refine AW_block ?_
  refine AW_loops (α := Nat) [2, 3, 5, 6, 7, 9, 10, 11, 12, 13, 14, 15, 16, 17, 18, 19, 20, 21, 22, 23, 24, 25, 26, 27, 28, 29, 30, 31, 32, 33, 34, 35, 36, 37, 38, 39, 40, 41, 42, 43, 44, 45, 46, 47] (fun i => [(5, .v (.int .i64 (i : Int)))]) (fun i => H) (fun i => i ≤ 17 ∧ ∀ j, j < i → nameEq j x = false) (fun i => 17 - i) (0) ?_ ?_ ?_ ?_
  · exact ⟨Nat.zero_le _, fun j hj => absurd hj (Nat.not_lt_zero j)⟩
  · repeat (first | exact SubH.refl _ | assumption | refine SubH.new ?_ (by assumption))
  · skip
    exact WK
  · intro i hI
    refine AW_norm TN ?_
    refine GC3 ?_
    refine GO4 ?_
    refine GC2 ?_
    refine GI rfl (fun hc1 => ?_) (fun hc1 => ?_)
    ·
      refine GC3 ?_
      refine AW_block ?_
      refine GC2 ?_
      refine GO2 ?_
      first | refine AL_indexAddr_sl (y := cmdAV i) FUn.h FSz.h (by decide) rfl rfl ?_ ?_ ?_ ?_ | refine AL_indexAddr_own FUn.h FSz.h rfl rfl ?_ ?_ ?_
      · omega
      · simp only [List.length_map, List.length_range]; omega
      · exact cmd_at (i := i) (by omega)
      refine GO7 ?_
      refine GC5 ?_
      refine GO1 ?_
      refine GC2 ?_
      refine AW_block ?_
      refine AW_loops (α := Nat × Bool) [6, 7, 24, 25, 26, 27, 28, 29, 30, 31, 32, 33, 34, 35, 36, 37, 38, 39, 40, 41, 42, 43, 44, 45] (fun z => [(7, .v (.int .i64 (z.1 : Int))), (6, .v (.bool z.2))]) (fun z => H) (fun z => EqSo i x z.1 z.2) (fun z => x.size - z.1) ((0, decide (((nameQ i).size : Int) = x.size))) ?_ ?_ ?_ ?_
      · exact eqSo_zero i x
      · repeat (first | exact SubH.refl _ | assumption | refine SubH.new ?_ (by assumption))
      · skip
        exact WK
      · rintro ⟨k, b⟩ hE; dsimp only at hE ⊢; have hkl := hE.1
        refine AW_norm TN ?_
        refine GC3 ?_
        refine GO2 ?_
        refine AL_and (j := 1) (n := 4) (c := 25) (t := 29) (r := 30) (v := ?v2) [26, 27, 28, 29] rfl rfl rfl rfl rfl rfl rfl (fun hg2 => ?_) ?_; rotate_left
        · refine GS ?_
          (try simp only [Bool.or_eq_true, Bool.and_eq_true, Bool.or_eq_false_iff, Bool.and_eq_false_iff, decide_eq_true_eq, decide_eq_false_iff_not, Bool.not_eq_true', Bool.not_eq_false', beq_iff_eq, ne_eq, Decidable.not_not, List.length_map] at hg2)
          refine GO4 ?_
          refine AL_nil (grpQ_mk ?_)
          exact WK
        refine AL_norm TN ?_
        refine AL_norm TN ?_
        refine GC2 ?_
        refine GI rfl (fun hc3 => ?_) (fun hc3 => ?_)
        · obtain ⟨rfl, hkx⟩ : b = true ∧ (k : Int) < x.size := hc3
          refine GC3 ?_
          refine AW_block ?_
          refine' AW_drawl (xs := [_, _, _, _, _, _, _, _, _, _, _, _, _, _]) (by kernel_rfl) ?hops1 ?_
          case hops1 =>
            refine GH2 ?_
            refine Hops_cons (fun T hl hr => ?_) ?_
            · skip
              first | refine AL_index_strn FUn.h ((hr 33 (by kernel_rfl)).trans rfl) ((hr 34 (by kernel_rfl)).trans rfl) ?_ ?_ ?_ | refine AL_index_strb FUn.h ((hr 33 (by kernel_rfl)).trans rfl) ((hr 34 (by kernel_rfl)).trans rfl) ?_ ?_ ?_
              · omega
              · omega
              refine AL_nil ?_
              refine qpost_mk ?_
              exact Weak.refl _
            refine Hops_norm TO ?_
            refine Hops_cons (fun T hl hr => ?_) ?_
            · skip
              refine AL_callp FEn.h (.cons (.ev ((hr 35 (by kernel_rfl)).trans rfl)) (.nil)) (quillworkref26_small_ok (bAt x k)) ?_
              refine AL_nil ?_
              refine qpost_mk ?_
              exact Weak.refl _
            refine Hops_norm TO ?_
            refine GH2 ?_
            refine Hops_cons (fun T hl hr => ?_) ?_
            · skip
              first | refine AL_indexAddr_sl (y := cmdAV i) FUn.h FSz.h (by decide) ((hr 37 (by kernel_rfl)).trans rfl) ((hr 38 (by kernel_rfl)).trans rfl) ?_ ?_ ?_ ?_ | refine AL_indexAddr_own FUn.h FSz.h ((hr 37 (by kernel_rfl)).trans rfl) ((hr 38 (by kernel_rfl)).trans rfl) ?_ ?_ ?_
              · omega
              · simp only [List.length_map, List.length_range]; omega
              · exact cmd_at (i := i) (by omega)
              refine AL_nil ?_
              refine qpost_mk ?_
              exact Weak.refl _
            refine Hops_norm TO ?_
            refine GH3 ?_
            refine Hops_cons (fun T hl hr => ?_) ?_
            · skip
              first | refine AL_index_strn FUn.h ((hr 41 (by kernel_rfl)).trans rfl) ((hr 42 (by kernel_rfl)).trans rfl) ?_ ?_ ?_ | refine AL_index_strb FUn.h ((hr 41 (by kernel_rfl)).trans rfl) ((hr 42 (by kernel_rfl)).trans rfl) ?_ ?_ ?_
              · omega
              · have := (hE.2.1 rfl).1; omega
              refine AL_nil ?_
              refine qpost_mk ?_
              exact Weak.refl _
            refine Hops_norm TO ?_
            refine Hops_cons (fun T hl hr => ?_) ?_
            · skip
              refine AL_callp FEn.h (.cons (.ev ((hr 43 (by kernel_rfl)).trans rfl)) (.nil)) (quillworkref26_small_ok (bAt (nameQ i) k)) ?_
              refine AL_nil ?_
              refine qpost_mk ?_
              exact Weak.refl _
            refine Hops_norm TO ?_
            refine GH2 ?_
            exact Hops_nil
          refine Q_norm (by first | (simp only [Tfin, tput, anyAt, setAll, List.foldl_cons, List.foldl_nil, List.set_cons_zero, List.set_cons_succ]; rfl) | rfl) ?_
          refine GC3 ?_
          refine GO1 ?_
          refine AL_addz rfl rfl (((k + 1 : Nat) : Int)) (by exact inc64 (by omega)) ?_
          refine GO1 ?_
          refine GC1 ?_
          refine loopQ_n ((k + 1, decide (((lowAt x k).toNat : Int) = ((lowAt (nameQ i) k).toNat : Int)))) ?_ ?_ ?_ ?_
          · exact eqSo_next hE (by omega)
          · (show x.size - (k + 1) < x.size - k; omega)
          · repeat (first | exact SubH.refl _ | assumption | refine SubH.new ?_ (by assumption))
          · skip
            exact WK
        · have hex : b = false ∨ ¬ k < x.size := Or.imp id (fun h => by omega) hc3
          refine GC2 ?_
          refine loopQ_x ?_
          refine GC4 ?_
          refine GO1 ?_
          refine GC2 ?_
          refine GI rfl (fun hc4 => ?_) (fun hc4 => ?_)
          ·
            refine GC2 ?_
            refine GO3 ?_
            refine GC5 ?_
            refine loopQ_r ?_
            refine GC2 ?_
            refine retQ_2 (H' := H) (.inr rfl) rfl rfl SU ?_
            refine K_eq ?_ hK
            rw [findAVq_is (find_is (by omega) ((eqSo_end hE hex).symm.trans hc4) hI.2)]
          ·
            refine GC4 ?_
            refine GO1 ?_
            refine AL_addz rfl rfl (((i + 1 : Nat) : Int)) (by exact inc64 (by omega)) ?_
            refine AL_norm TN ?_
            refine GO1 ?_
            refine GC1 ?_
            refine loopQ_n (i + 1) ?_ ?_ ?_ ?_
            · exact ⟨by omega, fun j hj => by rcases Nat.lt_or_ge j i with h | h; exact hI.2 j h; rw [show j = i by omega]; exact (eqSo_end hE hex).symm.trans hc4⟩
            · omega
            · repeat (first | exact SubH.refl _ | assumption | refine SubH.new ?_ (by assumption))
            · skip
              exact WK
    ·
      refine GC2 ?_
      refine loopQ_x ?_
      refine GC4 ?_
      refine GO2 ?_
      refine GC3 ?_
      refine retQ_2 (H' := H) (.inr rfl) rfl rfl SU ?_
      refine K_eq ?_ hK
      rw [findAVq_no (find_no fun j hj => hI.2 j (by omega))]

/-- quillwork/quillworkref26.Data -/
theorem quillworkref26_Data_ok (name arg : ByteArray) (hn : name.size ≤ 1000000) :
    PF Tryz.prog 29 [strAV name, strAV arg] (.tup [.v (.string (dataR name arg).1), .v (.bool (dataR name arg).2)]) := by
  intro H K hK
  refine AC_of Tryz.func29 rfl (rs := [.tmp 4, .tmp 5]) rfl Tryz.ntmps29 rfl ?_
  refine AW_norm TP ?_
  refine GC2 ?_
  refine GO2 ?_
  refine GC4 ?_
  refine GO1 ?_
  refine AL_callp FEn.h XA (quillworkref26_Find_ok name hn) ?_
  refine AL_norm TN ?_
  refine GO5 ?_
  refine GC5 ?_
  refine GO2 ?_
  refine AL_and (j := 1) (n := 10) (c := 14) (t := 24) (r := 25) (v := ?v1) [15, 16, 17, 18, 19, 20, 21, 22, 23, 24] rfl rfl rfl rfl rfl rfl rfl (fun hg1 => ?_) ?_; rotate_left
  · refine GS ?_
    (try simp only [Bool.or_eq_true, Bool.and_eq_true, Bool.or_eq_false_iff, Bool.and_eq_false_iff, decide_eq_true_eq, decide_eq_false_iff_not, Bool.not_eq_true', Bool.not_eq_false', beq_iff_eq, ne_eq, Decidable.not_not, List.length_map] at hg1)
    refine GO3 ?_
    refine AL_or (j := 4) (n := 2) (c := 17) (t := 19) (r := 20) (v := ?v2) [18, 19] rfl rfl rfl rfl rfl rfl rfl (fun hg2 => ?_) ?_; rotate_left
    · refine GS ?_
      (try simp only [Bool.or_eq_true, Bool.and_eq_true, Bool.or_eq_false_iff, Bool.and_eq_false_iff, decide_eq_true_eq, decide_eq_false_iff_not, Bool.not_eq_true', Bool.not_eq_false', beq_iff_eq, ne_eq, Decidable.not_not, List.length_map] at hg2)
      refine GO2 ?_
      refine AL_nil (grpQ_mk ?_)
      exact WK
    refine AL_norm TN ?_
    refine GO1 ?_
    refine AL_or (j := 8) (n := 2) (c := 21) (t := 23) (r := 24) (v := ?v3) [22, 23] rfl rfl rfl rfl rfl rfl rfl (fun hg3 => ?_) ?_; rotate_left
    · refine GS ?_
      (try simp only [Bool.or_eq_true, Bool.and_eq_true, Bool.or_eq_false_iff, Bool.and_eq_false_iff, decide_eq_true_eq, decide_eq_false_iff_not, Bool.not_eq_true', Bool.not_eq_false', beq_iff_eq, ne_eq, Decidable.not_not, List.length_map] at hg3)
      refine GO2 ?_
      refine AL_nil (grpQ_mk ?_)
      exact WK
    refine AL_norm TN ?_
    refine AL_nil (grpQ_mk ?_)
    exact WK
  refine AL_norm TN ?_
  refine AL_norm TN ?_
  refine GC2 ?_
  refine GI rfl (fun hc4 => ?_) (fun hc4 => ?_)
  ·
    refine GC2 ?_
    refine GO3 ?_
    refine GC4 ?_
    refine retQ_2 (H' := H) (.inr rfl) rfl rfl SU ?_
    refine K_eq ?_ hK
    rw [data_ry hc4]; rfl
  ·
    refine GC4 ?_
    refine GO3 ?_
    refine GC3 ?_
    refine retQ_2 (H' := H) (.inr rfl) rfl rfl SU ?_
    refine K_eq ?_ hK
    rw [data_rn hc4]

/-- quillwork/quillworkref07.Long -/
theorem quillworkref07_Long0_ok  :
    PF Tryz.prog 33 [.sl 60 []] (.v (.bool false)) := by
  intro H K hK
  refine AC_of Tryz.func33 rfl (rs := [.tmp 2]) rfl Tryz.ntmps33 rfl ?_
  refine AW_norm TP ?_
  refine GC2 ?_
  refine GO1 ?_
  refine GC5 ?_
  refine GO3 ?_
  refine GC2 ?_
  refine AW_cond rfl (fun hc1 => ?_) (fun hc1 => ?_)
  · exact absurd hc1 (by decide)
  · (try simp only [Bool.or_eq_true, Bool.and_eq_true, Bool.or_eq_false_iff, Bool.and_eq_false_iff, decide_eq_true_eq, decide_eq_false_iff_not, Bool.not_eq_true', Bool.not_eq_false', beq_iff_eq, ne_eq, Decidable.not_not, List.length_map] at hc1)
    refine GC4 ?_
    refine GO1 ?_
    refine GC5 ?_
    refine GO1 ?_
    refine GC2 ?_
    refine AW_block ?_
    refine AW_loops (α := Unit) [2, 3, 4, 5, 9, 10, 11, 12, 13, 14, 15, 16, 17, 18, 19, 20, 21, 22, 23, 24, 25, 26, 27, 28, 29, 30, 31, 32, 33, 34, 35, 36, 37, 38, 39, 40, 41, 42, 43, 44, 45, 46, 47, 48, 49, 50, 51, 52, 53, 54, 55, 56, 57, 58] (fun u => [(4, .v (.int .i64 0)), (3, .v (.int .i64 0))]) (fun u => H) (fun u => True) (fun u => 0) (()) ?_ ?_ ?_ ?_
    · trivial
    · repeat (first | exact SubH.refl _ | assumption | refine SubH.new ?_ (by assumption))
    · skip
      exact WK
    · intro u hI
      refine AW_norm TN ?_
      refine GC3 ?_
      refine GO4 ?_
      refine GC2 ?_
      refine AW_cond rfl (fun hc2 => ?_) (fun hc2 => ?_)
      · exact absurd hc2 (by decide)
      · (try simp only [Bool.or_eq_true, Bool.and_eq_true, Bool.or_eq_false_iff, Bool.and_eq_false_iff, decide_eq_true_eq, decide_eq_false_iff_not, Bool.not_eq_true', Bool.not_eq_false', beq_iff_eq, ne_eq, Decidable.not_not, List.length_map] at hc2)
        refine GC2 ?_
        refine loopQ_x ?_
        refine GC4 ?_
        refine GO1 ?_
        refine GC3 ?_
        refine retQ_1 (H' := H) (.inr rfl) rfl SU ?_
        refine K_eq ?_ hK
        rfl

/-- quillwork/quillworklaw26.long -/
theorem quillworklaw26_long0_ok (xs : List ByteArray) (hl : xs.length ≤ 100) :
    PF Tryz.prog 10 [stAV s0, .sl 9 (xs.map fun b => .v (.string b))] (.v (.bool (xs.any fun b => decide (10000 < b.size)))) := by
  intro H K hK
  refine AC_of Tryz.func10 rfl (rs := [.tmp 4]) rfl Tryz.ntmps10 rfl ?_
  refine AW_norm TP ?_
  refine GC2 ?_
  refine GF ?_
  refine GO1 ?_
  refine GC5 ?_
  refine GO1 ?_
  refine GC2 ?_
  refine AW_block ?_
  refine AW_loops (α := Nat) [4, 5, 6, 7, 8, 9, 10, 11, 12, 13, 14, 15, 16, 17] (fun i => [(5, .v (.int .i64 (i : Int)))]) (fun i => H) (fun i => i ≤ xs.length ∧ ∀ j, j < i → ¬ 10000 < ((xs.getD j eS).size : Int)) (fun i => xs.length - i) (0) ?_ ?_ ?_ ?_
  · exact ⟨Nat.zero_le _, fun j hj => absurd hj (Nat.not_lt_zero j)⟩
  · repeat (first | exact SubH.refl _ | assumption | refine SubH.new ?_ (by assumption))
  · skip
    exact WK
  · intro i hI
    refine AW_norm TN ?_
    refine GC3 ?_
    refine GO4 ?_
    refine GC2 ?_
    refine GI rfl (fun hc1 => ?_) (fun hc1 => ?_)
    ·
      refine GC3 ?_
      refine AW_block ?_
      refine GC2 ?_
      refine GO2 ?_
      first | refine AL_indexAddr_sl (y := .v (.string (xs.getD i eS))) FUn.h FSz.h (by decide) rfl rfl ?_ ?_ ?_ ?_ | refine AL_indexAddr_own FUn.h FSz.h rfl rfl ?_ ?_ ?_
      · omega
      · simp only [List.length_map]; omega
      · exact map_getD eS (g := fun b => AV.v (.string b)) (i := i) (by omega)
      refine GO3 ?_
      refine GC2 ?_
      refine GI rfl (fun hc2 => ?_) (fun hc2 => ?_)
      ·
        refine GC2 ?_
        refine GO1 ?_
        refine GC5 ?_
        refine loopQ_r ?_
        refine GC2 ?_
        refine retQ_1 (H' := H) (.inr rfl) rfl SU ?_
        refine K_eq ?_ hK
        exact congrArg (fun b => AV.v (.bool b)) (any_yes (i := i) (by omega) hc2).symm
      ·
        refine GC4 ?_
        refine GO1 ?_
        refine AL_addz rfl rfl (((i + 1 : Nat) : Int)) (by exact inc64 (by omega)) ?_
        refine AL_norm TN ?_
        refine GO1 ?_
        refine GC1 ?_
        refine loopQ_n (i + 1) ?_ ?_ ?_ ?_
        · exact ⟨by omega, fun j hj => by rcases Nat.lt_or_ge j i with h | h; exact hI.2 j h; rw [show j = i by omega]; exact hc2⟩
        · omega
        · repeat (first | exact SubH.refl _ | assumption | refine SubH.new ?_ (by assumption))
        · skip
          exact WK
    ·
      refine GC2 ?_
      refine loopQ_x ?_
      refine GC4 ?_
      refine GO2 ?_
      refine AL_callp FEn.h XA (quillworkref07_Long0_ok) ?_
      refine AL_norm TN ?_
      refine GO1 ?_
      refine GC3 ?_
      refine retQ_1 (H' := H) (.inr rfl) rfl SU ?_
      refine K_eq ?_ hK
      exact congrArg (fun b => AV.v (.bool b)) (any_no (i := i) (by omega) hI.2).symm

/-- quillwork/quillworklaw26.QueryNames -/
theorem quillworklaw26_QueryNames_ok (name arg : ByteArray) :
    PI TQ Tryz.prog 6 [strAV name, strAV arg] (.v (.bool true)) := by
  intro H K hT hK
  have hr17 : (List.range 17).length = 17 := List.length_range
  refine AC_of Tryz.func6 rfl (rs := [.tmp 4]) rfl Tryz.ntmps6 rfl ?_
  refine AW_norm TP ?_
  refine GC2 ?_
  refine GO1 ?_
  refine GC5 ?_
  refine AL_build_struct (zs := [_, _, _, _, _, _, _]) (pl := [(0, 1), (1, 2), (3, 2), (5, 1), (6, 1)]) Tryz.underlying26 FZe.h (.sl (e := 60) (.v (.v (.v (.v (.v (.v .nil))))))) (by kernel_rfl) (.nil) rfl ?_
  refine GO2 ?_
  refine AL_buildSl FUn.h FSz.h FZe.h rfl (by decide) (by decide) (.cons (.ev rfl) rfl (.cons (.ev rfl) rfl (.nil))) rfl rfl ?_
  refine AL_callp FEn.h XA (quillworklaw26_long0_ok [name, arg] (by simp)) ?_
  refine AL_norm TN ?_
  refine GC2 ?_
  refine GI rfl (fun hc1 => ?_) (fun hc1 => ?_)
  ·
    refine GC2 ?_
    refine AL_callpi FEn.h XA HS (quillworklaw26_awake_ok) ?_
    refine GO1 ?_
    refine GC4 ?_
    refine retQ_1 (H' := H) (.inr rfl) rfl SU ?_
    refine K_eq ?_ hK
    rfl
  · have hsz := long2_no hc1; clear hc1
    refine GC4 ?_
    refine AL_callp FEn.h XA (query_All_ok) ?_
    refine AL_norm TN ?_
    refine AL_callp FEn.h XA (quillworkref26_All_ok) ?_
    refine GO2 ?_
    refine GC5 ?_
    refine GO5 ?_
    refine GC2 ?_
    refine AW_cond rfl (fun hc2 => ?_) (fun hc2 => ?_)
    · exfalso; simp at hc2
    · (try simp only [Bool.or_eq_true, Bool.and_eq_true, Bool.or_eq_false_iff, Bool.and_eq_false_iff, decide_eq_true_eq, decide_eq_false_iff_not, Bool.not_eq_true', Bool.not_eq_false', beq_iff_eq, ne_eq, Decidable.not_not, List.length_map] at hc2)
      refine GC5 ?_
      refine GO1 ?_
      refine GC2 ?_
      refine AW_block ?_
      refine AW_loops (α := Nat) [4, 7, 29, 30, 31, 32, 33, 34, 35, 36, 37, 38, 39, 40, 41, 42, 43] (fun i => [(7, .v (.int .i64 (i : Int)))]) (fun i => H) (fun i => i ≤ 17) (fun i => 17 - i) (0) ?_ ?_ ?_ ?_
      · exact Nat.zero_le _
      · repeat (first | exact SubH.refl _ | assumption | refine SubH.new ?_ (by assumption))
      · skip
        exact WK
      · intro i hI
        refine AW_norm TN ?_
        refine GC3 ?_
        refine GO4 ?_
        refine GC2 ?_
        refine GI rfl (fun hc3 => ?_) (fun hc3 => ?_)
        ·
          refine GC3 ?_
          refine AW_block ?_
          refine GC1 ?_
          refine' AW_drawl (xs := [_, _, _, _, _, _, _, _, _]) (by kernel_rfl) ?hops1 ?_
          case hops1 =>
            refine GH2 ?_
            refine Hops_cons (fun T hl hr => ?_) ?_
            · skip
              first | refine AL_indexAddr_sl (y := cmdAV i) FUn.h FSz.h (by decide) ((hr 35 (by kernel_rfl)).trans rfl) ((hr 36 (by kernel_rfl)).trans rfl) ?_ ?_ ?_ ?_ | refine AL_indexAddr_own FUn.h FSz.h ((hr 35 (by kernel_rfl)).trans rfl) ((hr 36 (by kernel_rfl)).trans rfl) ?_ ?_ ?_
              · omega
              · simp only [List.length_map, List.length_range]; omega
              · exact cmd_at (i := i) (by omega)
              refine AL_nil ?_
              refine qpost_mk ?_
              exact Weak.refl _
            refine Hops_norm TO ?_
            refine GH3 ?_
            refine Hops_cons (fun T hl hr => ?_) ?_
            · skip
              first | refine AL_indexAddr_sl (y := cmdAV i) FUn.h FSz.h (by decide) ((hr 39 (by kernel_rfl)).trans rfl) ((hr 40 (by kernel_rfl)).trans rfl) ?_ ?_ ?_ ?_ | refine AL_indexAddr_own FUn.h FSz.h ((hr 39 (by kernel_rfl)).trans rfl) ((hr 40 (by kernel_rfl)).trans rfl) ?_ ?_ ?_
              · omega
              · simp only [List.length_map, List.length_range]; omega
              · exact cmd_at (i := i) (by omega)
              refine AL_nil ?_
              refine qpost_mk ?_
              exact Weak.refl _
            refine Hops_norm TO ?_
            refine GH1 ?_
            refine Hops_cons (fun T hl hr => ?_) ?_
            · skip
              refine AL_nest (vs := [Value.string (nameQ i), .string (inputQ i), .int .i64 (dataQ i)]) (us := [Value.string (nameQ i), .string (inputQ i), .int .i64 (dataQ i)]) (b := true) ((hr 38 (by kernel_rfl)).trans rfl) ((hr 42 (by kernel_rfl)).trans rfl) eg43 (eqCmd i) ?_
              refine AL_nil ?_
              refine qpost_mk ?_
              exact Weak.refl _
            refine Hops_norm TO ?_
            exact Hops_nil
          refine Q_norm (by first | (simp only [Tfin, tput, anyAt, setAll, List.foldl_cons, List.foldl_nil, List.set_cons_zero, List.set_cons_succ]; rfl) | rfl) ?_
          refine GC1 ?_
          refine AW_cond rfl (fun hc4 => ?_) (fun hc4 => ?_)
          · exfalso; simp at hc4
          · (try simp only [Bool.or_eq_true, Bool.and_eq_true, Bool.or_eq_false_iff, Bool.and_eq_false_iff, decide_eq_true_eq, decide_eq_false_iff_not, Bool.not_eq_true', Bool.not_eq_false', beq_iff_eq, ne_eq, Decidable.not_not, List.length_map] at hc4)
            refine GC4 ?_
            refine GO1 ?_
            refine AL_addz rfl rfl (((i + 1 : Nat) : Int)) (by exact inc64 (by omega)) ?_
            refine GO1 ?_
            refine GC1 ?_
            refine loopQ_n (i + 1) ?_ ?_ ?_ ?_
            · exact (by omega)
            · omega
            · repeat (first | exact SubH.refl _ | assumption | refine SubH.new ?_ (by assumption))
            · skip
              exact WK
        ·
          refine GC2 ?_
          refine loopQ_x ?_
          refine GC4 ?_
          refine GO1 ?_
          refine AL_callpi FEn.h XA HS (query_Find_ok name (by omega)) ?_
          refine AL_norm TN ?_
          refine GO5 ?_
          refine GC4 ?_
          refine GO1 ?_
          refine AL_callp FEn.h XA (quillworkref26_Find_ok name (by omega)) ?_
          refine GO5 ?_
          refine GC4 ?_
          refine GO2 ?_
          refine AL_callpi FEn.h XA HS (query_Data_ok name arg (by omega)) ?_
          refine GO5 ?_
          refine GC4 ?_
          refine GO2 ?_
          refine AL_callp FEn.h XA (quillworkref26_Data_ok name arg (by omega)) ?_
          refine GO5 ?_
          refine GC4 ?_
          refine GO4 ?_
          refine AL_and (j := 3) (n := 3) (c := 69) (t := 72) (r := 73) (v := ?v5) [70, 71, 72] rfl rfl rfl rfl rfl rfl rfl (fun hg5 => ?_) ?_; rotate_left
          · refine GS ?_
            (try simp only [Bool.or_eq_true, Bool.and_eq_true, Bool.or_eq_false_iff, Bool.and_eq_false_iff, decide_eq_true_eq, decide_eq_false_iff_not, Bool.not_eq_true', Bool.not_eq_false', beq_iff_eq, ne_eq, Decidable.not_not, List.length_map] at hg5)
            refine GO2 ?_
            refine AL_beql rfl rfl FUn.h ?_
            refine AL_nil (grpQ_mk ?_)
            exact WK
          refine AL_norm TN ?_
          refine GO1 ?_
          refine AL_and (j := 8) (n := 3) (c := 74) (t := 77) (r := 78) (v := ?v6) [75, 76, 77] rfl rfl rfl rfl rfl rfl rfl (fun hg6 => ?_) ?_; rotate_left
          · refine GS ?_
            (try simp only [Bool.or_eq_true, Bool.and_eq_true, Bool.or_eq_false_iff, Bool.and_eq_false_iff, decide_eq_true_eq, decide_eq_false_iff_not, Bool.not_eq_true', Bool.not_eq_false', beq_iff_eq, ne_eq, Decidable.not_not, List.length_map] at hg6)
            refine GO3 ?_
            refine AL_nil (grpQ_mk ?_)
            exact WK
          refine AL_norm TN ?_
          refine GO1 ?_
          refine AL_and (j := 13) (n := 3) (c := 79) (t := 82) (r := 83) (v := ?v7) [80, 81, 82] rfl rfl rfl rfl rfl rfl rfl (fun hg7 => ?_) ?_; rotate_left
          · refine GS ?_
            (try simp only [Bool.or_eq_true, Bool.and_eq_true, Bool.or_eq_false_iff, Bool.and_eq_false_iff, decide_eq_true_eq, decide_eq_false_iff_not, Bool.not_eq_true', Bool.not_eq_false', beq_iff_eq, ne_eq, Decidable.not_not, List.length_map] at hg7)
            refine GO2 ?_
            refine AL_beql rfl rfl FUn.h ?_
            refine AL_nil (grpQ_mk ?_)
            exact WK
          refine AL_norm TN ?_
          refine GO1 ?_
          refine AL_and (j := 18) (n := 1) (c := 84) (t := 85) (r := 86) (v := ?v8) [85] rfl rfl rfl rfl rfl rfl rfl (fun hg8 => ?_) ?_; rotate_left
          · refine GS ?_
            (try simp only [Bool.or_eq_true, Bool.and_eq_true, Bool.or_eq_false_iff, Bool.and_eq_false_iff, decide_eq_true_eq, decide_eq_false_iff_not, Bool.not_eq_true', Bool.not_eq_false', beq_iff_eq, ne_eq, Decidable.not_not, List.length_map] at hg8)
            refine AL_callpi FEn.h XA HS (quillworklaw26_awake_ok) ?_
            refine AL_nil (grpQ_mk ?_)
            exact WK
          refine AL_norm TN ?_
          refine GO1 ?_
          refine GC3 ?_
          refine retQ_1 (H' := H) (.inr rfl) rfl SU ?_
          refine K_eq ?_ hK
          simp


end Go.Proofs
