/- The given statement of the law: for every input the law answers true. No conditions of our own. -/
import Derived.Test.YtcmijcfmldaiaaaGreatDoorQI
import Derived.Test.YtcmijcfmldaiaaaGreatDoorQKa
import Derived.Test.YtcmijcfmldaiaaaGreatDoorProg
set_option autoImplicit false
set_option linter.unusedVariables false
set_option linter.unusedSimpArgs false
set_option maxRecDepth 100000
set_option maxHeartbeats 4000000
namespace Go.Proofs
open Go Go.RowKit Go.AL Go.Q Go.IntWalk
attribute [local irreducible] AW AL seqQ blockQ retQ loopQ roundQ asgQ grpQ mQ qpost qpostL retQN retQM
instance en166 : FEn Tryz.prog 166 := ⟨by kernel_rfl⟩
instance ze4 : FZe Tryz.prog 4 (.bool false) := ⟨by kernel_rfl⟩
instance sz4 : FSz Tryz.prog 4 1 := ⟨by kernel_rfl⟩
instance ag4 : FAg Tryz.prog 4 false := ⟨by kernel_rfl⟩

/-- quillwork/blocks.Format -/
theorem blocks_Format_ok (s : Q.St) (k : Int) (hs : SS s) :
    PI TQ Tryz.prog 165 [stAV s, .v (.int .i64 k)] (rsAV (formatS s k)) := by
  intro H K hT hK
  refine AC_of Tryz.func165 rfl (rs := [.cell 4 26, .tmp 5]) rfl Tryz.ntmps165 rfl ?_
  refine AW_norm TP ?_
  refine GC2 ?_
  refine GF ?_
  refine GF ?_
  refine AL_alloc FZe.h (.agg (.own (.v (.v (.v (.v (.v (.v .nil)))))))) rfl FSz.h rfl ?_
  intro b3 hb3
  have hn3 : H b3 = none := SubH.none SU hb3
  refine GO1 ?_
  refine GC5 ?_
  refine GO3 ?_
  refine AL_or (j := 2) (n := 2) (c := 8) (t := 10) (r := 11) (v := ?v1) [9, 10] rfl rfl rfl rfl rfl rfl rfl (fun hg1 => ?_) ?_; rotate_left
  · refine GS ?_
    (try simp only [Bool.or_eq_true, Bool.and_eq_true, Bool.or_eq_false_iff, Bool.and_eq_false_iff, decide_eq_true_eq, decide_eq_false_iff_not, Bool.not_eq_true', Bool.not_eq_false', beq_iff_eq, ne_eq, Decidable.not_not, List.length_map] at hg1)
    refine GO2 ?_
    refine AL_nil (grpQ_mk ?_)
    exact WK
  refine AL_norm TN ?_
  refine AL_norm TN ?_
  refine GC2 ?_
  refine GI rfl (fun hc2 => ?_) (fun hc2 => ?_)
  ·
    refine GC2 ?_
    refine AL_build_struct (zs := [_, _, _, _, _, _, _]) (pl := [(0, 1), (1, 2), (3, 2), (5, 1), (6, 1)]) Tryz.underlying26 FZe.h (.sl (e := 60) (.v (.v (.v (.v (.v (.v .nil))))))) (by kernel_rfl) (.nil) rfl ?_
    refine AL_norm TN ?_
    refine GW ?_
    refine GO1 ?_
    refine GC4 ?_
    refine' retQ_g (H' := H) (.inr rfl) ?rv1 SU ?_
    case rv1 => exact .cons (.cell rfl LK FSz.h rfl FAg.h FSz.h rfl rfl (by decide)) (.cons (.tmp rfl) (.nil))
    refine K_eq ?_ hK
    rw [formatS_no hc2]; rfl
  ·
    refine GC4 ?_
    refine GO1 ?_
    refine AL_makeFunc (.nil) (.cons (.ev rfl) (.nil)) ?_
    refine AL_norm TN ?_
    refine AL_callpi FEn.h XA HS (blocks_each_ok 253 [.rp 3 (.v (.int .i64 k))] s (formatL k) hs FEn.h (fun l hl => blocks_Format_1_ok l k hl)) ?_
    refine GO2 ?_
    refine GW ?_
    refine AL_norm TN ?_
    refine GO1 ?_
    refine GC3 ?_
    refine' retQ_g (H' := H) (.inr rfl) ?rv2 SU ?_
    case rv2 => exact .cons (.cell rfl LK FSz.h rfl FAg.h FSz.h rfl rfl (by decide)) (.cons (.tmp rfl) (.nil))
    refine K_eq ?_ hK
    rw [formatS_yes (by omega)]; rfl

/-- quillwork/blocks.Kind -/
theorem blocks_Kind_ok (s : Q.St) (hs : SS s) :
    PI TQ Tryz.prog 53 [stAV s] (.tup [.v (.int .i64 (kindS s).1), .v (.bool (kindS s).2)]) := by
  intro H K hT hK
  have hdl := hs.1.1
  refine AC_ofN Tryz.func53 rfl (rs := [.cell 2 3, .cell 3 4]) rfl Tryz.ntmps53 rfl ?_
  refine AW_norm TP ?_
  refine GC2 ?_
  refine GF ?_
  refine AL_alloc FZe.h (.v _) rfl FSz.h rfl ?_
  intro b2 hb2
  have hn2 : H b2 = none := SubH.none SU hb2
  refine AL_alloc FZe.h (.v _) rfl FSz.h rfl ?_
  intro b3 hb3
  have hn3 : H b3 = none := SubH.none SU hb3
  have hd3_2 : b3 ≠ b2 := AH.fresh_ne hb3 LK
  have hd2_3 : b2 ≠ b3 := Ne.symm hd3_2
  refine AL_norm TN ?_
  refine GC5 ?_
  refine GO1 ?_
  refine AL_callpi FEn.h XA HS (typing_May_ok s hs) ?_
  refine GO1 ?_
  refine GC2 ?_
  refine GI rfl (fun hc1 => ?_) (fun hc1 => ?_)
  ·
    refine GC2 ?_
    refine GW ?_
    refine GW ?_
    refine AL_norm TN ?_
    refine GC4 ?_
    refine retQN_l ?_
    refine' retQ_g (H' := H) (.inr rfl) ?rv1 SU ?_
    case rv1 => exact .cons (.cell rfl LK FSz.h rfl FAg.h FSz.h rfl rfl (by decide)) (.cons (.cell rfl LK FSz.h rfl FAg.h FSz.h rfl rfl (by decide)) (.nil))
    refine K_eq ?_ hK
    rw [kind_no hc1]; rfl
  · have hspn := span_ok2 hc1
    refine GC4 ?_
    refine GW ?_
    refine AL_norm TN ?_
    refine GC5 ?_
    refine GO1 ?_
    refine AL_callp FEn.h XA (blocks_selected_ok _) ?_
    refine AL_norm TN ?_
    refine GC2 ?_
    refine AW_block ?_
    refine AW_rangeFunc (α := Nat) (gf := 196) (caps := [.rp 26 (stAV s)]) (xs := selA s) (IT := fun _ => True) rfl FEn.h (blocks_selected_1_ok s _ hs.1 hspn.1 hspn.2.2) (selA_two s) ?_
    intro D hD
    have hnD : H D = none := SubH.none SU hD
    have hdD_2 : D ≠ b2 := AH.fresh_ne hD LK
    have hd2_D : b2 ≠ D := Ne.symm hdD_2
    have hdD_3 : D ≠ b3 := AH.fresh_ne hD LK
    have hd3_D : b3 ≠ D := Ne.symm hdD_3
    refine ⟨⟨fun k => ((H.upd b2 (some (.row 3 1 [.v (.int .i64 (kv s k))]))).upd b3 (some (.row 4 1 [.v (.bool false)]))).upd D (some (.raw (.deferred (some [])))), fun k s2 => s2 = k ∧ (selK s k).all (kindOK s) = true, fun c0 H1 => c0 = .ret ∧ SubH (((H.upd b2 (some (.row 3 1 [.v (.int .i64 (0))]))).upd b3 (some (.row 4 1 [.v (.bool false)]))).upd D (some (.raw (.deferred (some []))))) H1 ∧ kindS s = (0, false), 0, ?_, ?_, ?_, ?_, ?_, ?_⟩⟩
    · rw [show kv s 0 = -1 from rfl]; intro qq o hq; simp only [AH.upd] at hq ⊢; (repeat' split at hq) <;> (repeat' split) <;> first | exact hq | (exfalso; omega) | simp_all
    · exact ⟨rfl, rfl⟩
    · intros; trivial
    · intro l k y k2 hy hI
      obtain ⟨hk2, hI2⟩ := hI
      obtain rfl : k = k2 := hk2.symm
      obtain ⟨hle, rfl⟩ := selA_at hy
      refine AW_norm (by simp only [setP, tput, List.set_cons_zero, List.set_cons_succ]; rfl) ?_
      refine GC1 ?_
      refine AL_alloc FZe.h (.agg (.v (.own (.v (.own .nil))))) rfl FSz.h rfl ?_
      intro b4 hb4
      have hn4 : H b4 = none := SubH.none SU hb4
      have hd4_2 : b4 ≠ b2 := AH.fresh_ne hb4 LK
      have hd2_4 : b2 ≠ b4 := Ne.symm hd4_2
      have hd4_3 : b4 ≠ b3 := AH.fresh_ne hb4 LK
      have hd3_4 : b3 ≠ b4 := Ne.symm hd4_3
      have hd4_D : b4 ≠ D := AH.fresh_ne hb4 LK
      have hdD_4 : D ≠ b4 := Ne.symm hd4_D
      refine GW ?_
      refine AL_norm TN ?_
      refine GC1 ?_
      refine asgQ_n ?_
      refine AW_block ?_
      refine GC3 ?_
      refine GO5 ?_
      refine AL_or (j := 4) (n := 8) (c := 17) (t := 25) (r := 26) (v := ?v2) [18, 19, 20, 21, 22, 23, 24, 25] rfl rfl rfl rfl rfl rfl rfl (fun hg2 => ?_) ?_; rotate_left
      · refine GS ?_
        (try simp only [Bool.or_eq_true, Bool.and_eq_true, Bool.or_eq_false_iff, Bool.and_eq_false_iff, decide_eq_true_eq, decide_eq_false_iff_not, Bool.not_eq_true', Bool.not_eq_false', beq_iff_eq, ne_eq, Decidable.not_not, List.length_map] at hg2)
        refine GO3 ?_
        refine AL_and (j := 7) (n := 4) (c := 20) (t := 24) (r := 25) (v := ?v3) [21, 22, 23, 24] rfl rfl rfl rfl rfl rfl rfl (fun hg3 => ?_) ?_; rotate_left
        · refine GS ?_
          (try simp only [Bool.or_eq_true, Bool.and_eq_true, Bool.or_eq_false_iff, Bool.and_eq_false_iff, decide_eq_true_eq, decide_eq_false_iff_not, Bool.not_eq_true', Bool.not_eq_false', beq_iff_eq, ne_eq, Decidable.not_not, List.length_map] at hg3)
          refine GO4 ?_
          refine AL_nil (grpQ_mk ?_)
          exact WK
        refine AL_norm TN ?_
        refine AL_nil (grpQ_mk ?_)
        exact WK
      refine AL_norm TN ?_
      refine AL_norm TN ?_
      refine GC2 ?_
      refine GI rfl (fun hc4 => ?_) (fun hc4 => ?_)
      ·
        refine GC2 ?_
        refine GW ?_
        refine AL_norm TN ?_
        refine GW ?_
        refine AL_norm TN ?_
        refine GC5 ?_
        refine roundQ_r ?_
        exact ⟨rfl, by intro qq o hq; simp only [AH.upd] at hq ⊢; (repeat' split at hq) <;> (repeat' split) <;> first | exact hq | (exfalso; omega) | simp_all, kind_off hc1 hle (kind_stop hc4)⟩
      ·
        refine GC3 ?_
        refine GO2 ?_
        refine GW ?_
        refine AL_norm TN ?_
        refine GC2 ?_
        refine roundQ_n ⟨k + 1, ?_, ?_⟩
        · exact ⟨rfl, by rw [selK_next hle, List.all_append, hI2]; simp [kind_step (k := k) hc1 hc4]⟩
        · (show SubH (((H.upd b2 (some (.row 3 1 [.v (.int .i64 (kv s (k + 1)))]))).upd b3 (some (.row 4 1 [.v (.bool false)]))).upd D (some (.raw (.deferred (some []))))) _); rw [kv_succ, ← kind_of (kind_step (k := k) hc1 hc4)]; intro qq o hq; simp only [AH.upd] at hq ⊢; (repeat' split at hq) <;> (repeat' split) <;> first | exact hq | (exfalso; omega) | simp_all
    · intro k hI; obtain ⟨rfl, hI2⟩ := hI
      refine GC4 ?_
      refine GO1 ?_
      refine GW ?_
      refine GW ?_
      refine AL_norm TN ?_
      refine GC3 ?_
      refine retQN_r ?_
      refine retQM_mk (D := D) (H1 := ((H.upd b2 (some (.row 3 1 [.v (.int .i64 (kv s (selA s).length))]))).upd b3 (some (.row 4 1 [.v (.bool true)])))) (H' := H) (.inr rfl) LK (.cons (.cell rfl LK FSz.h rfl FAg.h FSz.h rfl rfl (by decide)) (.cons (.cell rfl LK FSz.h rfl FAg.h FSz.h rfl rfl (by decide)) (.nil))) (by intro qq o hq; simp only [AH.upd] at hq ⊢; (repeat' split at hq) <;> (repeat' split) <;> first | exact hq | (exfalso; omega) | simp_all) (by rw [AH.upd_ne _ _ hdD_3, AH.upd_ne _ _ hdD_2]; exact hnD) SU ?_
      refine K_eq ?_ hK
      rw [kind_yes hc1 hI2]; obtain ⟨n, hn⟩ : ∃ n, (selA s).length = n + 1 := ⟨(selA s).length - 1, by rw [selA_len]; omega⟩; rw [hn, kv_succ]; rfl
    · rintro c0 H1 ⟨rfl, hsub, hkd⟩
      refine AW_sub hsub ?_
      refine AW_ret ?_
      refine GC2 ?_
      refine retQN_r ?_
      refine retQM_mk (D := D) (H1 := ((H.upd b2 (some (.row 3 1 [.v (.int .i64 (0))]))).upd b3 (some (.row 4 1 [.v (.bool false)])))) (H' := H) (.inr rfl) LK (.cons (.cell rfl LK FSz.h rfl FAg.h FSz.h rfl rfl (by decide)) (.cons (.cell rfl LK FSz.h rfl FAg.h FSz.h rfl rfl (by decide)) (.nil))) (by intro qq o hq; simp only [AH.upd] at hq ⊢; (repeat' split at hq) <;> (repeat' split) <;> first | exact hq | (exfalso; omega) | simp_all) (by rw [AH.upd_ne _ _ hdD_3, AH.upd_ne _ _ hdD_2]; exact hnD) SU ?_
      refine K_eq ?_ hK
      rw [hkd]; rfl


end Go.Proofs
