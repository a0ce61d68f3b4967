/- The given statement of the law: for every input the law answers true. No conditions of our own. -/
import Derived.Test.YtcmijcfmldaiaaaGreatDoorQH
import Derived.Test.YtcmijcfmldaiaaaGreatDoorQKa
import Derived.Test.YtcmijcfmldaiaaaGreatDoorProg
set_option autoImplicit false
set_option linter.unusedVariables false
set_option linter.unusedSimpArgs false
set_option maxRecDepth 100000
set_option maxHeartbeats 4000000
namespace Go.Proofs
open Go Go.RowKit Go.AL Go.Q Go.IntWalk
attribute [local irreducible] AW AL seqQ blockQ retQ loopQ roundQ asgQ grpQ mQ qpost qpostL retQN retQM
instance en254 : FEn Tryz.prog 254 := ⟨by kernel_rfl⟩
instance sz99 : FSz Tryz.prog 99 1 := ⟨by kernel_rfl⟩
instance en31 : FEn Tryz.prog 31 := ⟨by kernel_rfl⟩
instance ze30 : FZe Tryz.prog 30 (.int .i64 0) := ⟨by kernel_rfl⟩
instance sz30 : FSz Tryz.prog 30 1 := ⟨by kernel_rfl⟩
instance ag30 : FAg Tryz.prog 30 false := ⟨by kernel_rfl⟩
instance en113 : FEn Tryz.prog 113 := ⟨by kernel_rfl⟩
instance ag99 : FAg Tryz.prog 99 false := ⟨by kernel_rfl⟩

/-- quillwork/blocks.selected -/
theorem blocks_selected_ok (s : Q.St) :
    PF Tryz.prog 113 [stAV s] (.fn (.func 196) [] [.rp 26 (stAV s)]) := by
  intro H K hK
  refine AC_of Tryz.func113 rfl (rs := [.tmp 2]) rfl Tryz.ntmps113 rfl ?_
  refine AW_norm TP ?_
  refine GC2 ?_
  refine GF ?_
  refine GO1 ?_
  refine GC4 ?_
  refine AL_makeFunc (.nil) (.cons (.ev rfl) (.nil)) ?_
  refine GO1 ?_
  refine GC3 ?_
  refine retQ_1 (H' := H) (.inr rfl) rfl SU ?_
  refine K_eq ?_ hK
  rfl

/-- quillwork/blocks.selected$1 -/
theorem blocks_selected_1_ok  :
    ∀ (s : Q.St) (I : AH → Prop), DS s.lines → 0 ≤ (spanS s).1.line → (spanS s).2.line < (s.lines.length : Int) → IterC Tryz.prog 196 [.rp 26 (stAV s)] (selA s) I := by
  intro s I hd ha hb l J Jx hI0 hY H K hJ hK
  have hdl := hd.1
  refine AC_of Tryz.func196 rfl (rs := []) rfl Tryz.ntmps196 rfl ?_
  refine AW_norm TP ?_
  refine GC2 ?_
  refine GO1 ?_
  refine AL_callp FEn.h XA (typing_Span_ok _) ?_
  refine GO3 ?_
  refine AL_alloc FZe.h (.agg (.v (.v .nil))) rfl FSz.h rfl ?_
  intro b1 hb1
  have hn1 : H b1 = none := SubH.none SU hb1
  refine AL_alloc FZe.h (.agg (.v (.v .nil))) rfl FSz.h rfl ?_
  intro b2 hb2
  have hn2 : H b2 = none := SubH.none SU hb2
  have hd2_1 : b2 ≠ b1 := AH.fresh_ne hb2 LK
  have hd1_2 : b1 ≠ b2 := Ne.symm hd2_1
  refine GW ?_
  refine AL_norm TN ?_
  refine GW ?_
  refine AL_norm TN ?_
  refine AL_frzpt 4 rfl (AH.upd_same _ _ _) ?_; refine AL_frzpt 3 rfl (AH.look_other hd1_2 (AH.look_other hd1_2 (AH.upd_same _ _ _))) ?_; refine AL_heap (H' := H) (by funext q; simp only [AH.upd]; (repeat' split) <;> simp_all) ?_; clear hb1 hb2 hd2_1 hd1_2
  refine AL_norm TN ?_
  refine AL_norm TN ?_
  refine GC4 ?_
  refine GO3 ?_
  refine GC2 ?_
  refine AW_block ?_
  refine AW_loops (α := Int × AH) [5, 13, 14, 15, 16, 17, 18, 19, 20, 21, 22, 23, 24, 25, 26, 27] (fun z => [(5, .v (.int .i64 z.1))]) (fun z => z.2) (fun z => (spanS s).1.line ≤ z.1 ∧ z.1 ≤ max (spanS s).1.line ((spanS s).2.line + 1) ∧ J (z.1 - (spanS s).1.line).toNat z.2) (fun z => ((spanS s).2.line + 1 - z.1).toNat) (((spanS s).1.line, H)) ?_ ?_ ?_ ?_
  · exact ⟨Int.le_refl _, by omega, by rw [Int.sub_self]; exact hJ⟩
  · repeat (first | exact SubH.refl _ | assumption | refine SubH.new ?_ (by assumption))
  · skip
    exact WK
  · rintro ⟨i, H1⟩ hI; dsimp only at hI ⊢
    refine AW_norm TN ?_
    refine GC3 ?_
    refine GO4 ?_
    refine GC2 ?_
    refine GI rfl (fun hc1 => ?_) (fun hc1 => ?_)
    ·
      refine GC3 ?_
      refine AW_block ?_
      refine GC2 ?_
      refine GO5 ?_
      first | refine AL_indexAddr_sl (y := lineAV (lineAt s.lines i)) FUn.h FSz.h (by decide) rfl rfl ?_ ?_ ?_ ?_ | refine AL_indexAddr_own FUn.h FSz.h rfl rfl ?_ ?_ ?_
      · omega
      · simp only [List.length_map]; omega
      · exact map_getD l0 (i := i.toNat) (by omega)
      refine GO1 ?_
      refine AL_yield rfl (.cons (.ev rfl) (.cons (.ev rfl) .nil)) (hY _ _ _ (by exact selA_mk hI.1 (by omega)) hI.2.2) ?_; rintro bb H2 hK2
      refine GO1 ?_
      refine GC2 ?_
      refine GI rfl (fun hc2 => ?_) (fun hc2 => ?_)
      ·
        refine GC3 ?_
        refine loopQ_r ?_
        refine GC1 ?_
        refine retQ_0 (H' := _) (.inr rfl) SU ?_
        exact hK _ _ (.inr (by rw [if_neg (by rw [hc2]; decide)] at hK2; exact hK2))
      ·
        refine GC4 ?_
        refine GO1 ?_
        refine AL_addz rfl rfl (i + 1) (by exact i64_in (by omega)) ?_
        refine GO1 ?_
        refine GC1 ?_
        refine loopQ_n ((i + 1, H2)) ?_ ?_ ?_ ?_
        · (have h3 : J ((i + 1 - (spanS s).1.line).toNat) H2 := (by rw [if_pos hc2] at hK2; rw [show (i + 1 - (spanS s).1.line).toNat = (i - (spanS s).1.line).toNat + 1 by omega]; exact hK2)); exact ⟨by omega, by omega, h3⟩
        · (show ((spanS s).2.line + 1 - (i + 1)).toNat < ((spanS s).2.line + 1 - i).toNat; omega)
        · repeat (first | exact SubH.refl _ | assumption | refine SubH.new ?_ (by assumption))
        · skip
          exact WK
    ·
      refine GC2 ?_
      refine loopQ_x ?_
      refine GC1 ?_
      refine retQ_0 (H' := _) (.inl rfl) SU ?_
      exact hK _ _ (.inl (by rw [selA_len, show ((spanS s).2.line + 1 - (spanS s).1.line).toNat = (i - (spanS s).1.line).toNat by omega]; exact hI.2.2))

/-- quillwork/blocks.Format$1 -/
theorem blocks_Format_1_ok (l : Line) (k : Int) (hl : LS l) :
    PI TQ Tryz.prog 253 [lineAV l, .rp 3 (.v (.int .i64 k))] (lrAV (formatL k l)) := by
  intro H K hT hK
  refine AC_of Tryz.func253 rfl (rs := [.cell 3 60, .tmp 4]) rfl Tryz.ntmps253 rfl ?_
  refine AW_norm TP ?_
  refine GC2 ?_
  refine GF ?_
  refine AL_alloc FZe.h (.agg (.v (.own (.v (.own .nil))))) rfl FSz.h rfl ?_
  intro b2 hb2
  have hn2 : H b2 = none := SubH.none SU hb2
  refine GO1 ?_
  refine GC4 ?_
  refine GO2 ?_
  refine AL_callpi FEn.h XA HS (lines_Format_ok l k hl) ?_
  refine GO2 ?_
  refine GW ?_
  refine GO1 ?_
  refine GC3 ?_
  refine' retQ_g (H' := H) (.inr rfl) ?rv1 SU ?_
  case rv1 => exact .cons (.cell rfl LK FSz.h rfl FAg.h FSz.h rfl rfl (by decide)) (.cons (.tmp rfl) (.nil))
  refine K_eq ?_ hK
  rfl

/-- quillwork/blocks.each -/
theorem blocks_each_ok  :
    ∀ (f : FuncId) (cps : List AV) (s : Q.St) (t : Line → Line × Er), SS s → entersOf Tryz.prog f = true → (∀ l, LS l → PI TQ Tryz.prog f (lineAV l :: cps) (lrAV (t l))) → PI TQ Tryz.prog 166 [stAV s, .fn (.func f) [] cps] (rsAV (eachS s t)) := by
  intro f cps s t hs hen hch H K hT hK
  refine AC_rc ?_
  have hdl := hs.1.1
  refine AC_ofN Tryz.func166 rfl (rs := [.cell 4 26, .tmp 5]) rfl Tryz.ntmps166 rfl ?_
  refine AW_norm TP ?_
  refine GC2 ?_
  refine GF ?_
  refine GF ?_
  refine AL_alloc FZe.h (.agg (.own (.v (.v (.v (.v (.v (.v .nil)))))))) rfl FSz.h rfl ?_
  intro b3 hb3
  have hn3 : H b3 = none := SubH.none SU hb3
  refine GO1 ?_
  refine GC5 ?_
  refine GO1 ?_
  refine AL_callpi FEn.h XA HS (typing_May_ok s hs) ?_
  refine GO1 ?_
  refine GC2 ?_
  refine GI rfl (fun hc1 => ?_) (fun hc1 => ?_)
  ·
    refine GC2 ?_
    refine AL_build_struct (zs := [_, _, _, _, _, _, _]) (pl := [(0, 1), (1, 2), (3, 2), (5, 1), (6, 1)]) Tryz.underlying26 FZe.h (.sl (e := 60) (.v (.v (.v (.v (.v (.v .nil))))))) (by kernel_rfl) (.nil) rfl ?_
    refine GW ?_
    refine AL_norm TN ?_
    refine GO1 ?_
    refine GC4 ?_
    refine retQN_l ?_
    refine' retQ_g (H' := H) (.inr rfl) ?rv1 SU ?_
    case rv1 => exact .cons (.cell rfl LK FSz.h rfl FAg.h FSz.h rfl rfl (by decide)) (.cons (.tmp rfl) (.nil))
    rw [eachS_no hc1] at hK; exact ⟨_, _, Rc.refl _ _, hK⟩
  · have hspn := span_ok2 hc1; have hdok := (span_ok hc1).1; have hpos : 0 < s.lines.length := (by omega)
    refine GC4 ?_
    refine GO1 ?_
    refine AL_callk FEn.h XA (typing_Own_ok s hs.1 _ (fun x H1 => ∃ A c, Fresh _ A c (s.lines.map lineAV) ∧ x = stOwn s A c ∧ H1 = AH.put _ A 60 c (s.lines.map lineAV)) (fun A c h => ⟨A, c, h, rfl, rfl⟩)) ?_
    rintro _ _ ⟨A, c, hF, rfl, rfl⟩; obtain ⟨b9, rfl⟩ : ∃ bo, A = some bo := hF.some (by rw [List.length_map]; omega); have hb9 : (H.upd b3 (some (.row 26 1 [.ag [.own none 0 0, .v (.int .i64 0), .v (.int .i64 0), .v (.int .i64 0), .v (.int .i64 0), .v (.int .i64 0), .v (.int .i64 0)]]))) b9 = none := hF; have hn9 : H b9 = none := SubH.none SU hb9; have hd9_3 : b9 ≠ b3 := AH.fresh_ne hb9 (AH.upd_same _ _ _); have hd3_9 : b3 ≠ b9 := Ne.symm hd9_3; refine AL_heap (show _ = (H.upd b3 (some (.row 26 1 [.ag [.own none 0 0, .v (.int .i64 0), .v (.int .i64 0), .v (.int .i64 0), .v (.int .i64 0), .v (.int .i64 0), .v (.int .i64 0)]]))).upd b9 (some (.row 60 c (s.lines.map lineAV))) from rfl) ?_
    refine AL_alloc FZe.h (.agg (.own (.v (.v (.v (.v (.v (.v .nil)))))))) rfl FSz.h rfl ?_
    intro b4 hb4
    have hn4 : H b4 = none := SubH.none SU hb4
    have hd4_3 : b4 ≠ b3 := AH.fresh_ne hb4 LK
    have hd3_4 : b3 ≠ b4 := Ne.symm hd4_3
    have hd4_9 : b4 ≠ b9 := AH.fresh_ne hb4 LK
    have hd9_4 : b9 ≠ b4 := Ne.symm hd4_9
    refine AL_norm TN ?_
    refine GW ?_
    refine AL_norm TN ?_
    refine GC4 ?_
    refine GO1 ?_
    refine GW ?_
    refine GO1 ?_
    refine GW ?_
    refine AL_norm TN ?_
    refine GC4 ?_
    refine AL_alloc FZe.h (.v _) rfl FSz.h rfl ?_
    intro b5 hb5
    have hn5 : H b5 = none := SubH.none SU hb5
    have hd5_3 : b5 ≠ b3 := AH.fresh_ne hb5 LK
    have hd3_5 : b3 ≠ b5 := Ne.symm hd5_3
    have hd5_9 : b5 ≠ b9 := AH.fresh_ne hb5 LK
    have hd9_5 : b9 ≠ b5 := Ne.symm hd5_9
    have hd5_4 : b5 ≠ b4 := AH.fresh_ne hb5 LK
    have hd4_5 : b4 ≠ b5 := Ne.symm hd5_4
    refine GW ?_
    refine AL_norm TN ?_
    refine GC5 ?_
    refine GO1 ?_
    refine AL_callp FEn.h XA (blocks_selected_ok _) ?_
    refine AL_norm TN ?_
    refine GC2 ?_
    refine AW_block ?_
    refine AW_rangeFunc (α := Nat) (gf := 196) (caps := [.rp 26 (stAV s)]) (xs := selA s) (IT := fun _ => True) rfl FEn.h (blocks_selected_1_ok s _ hs.1 hspn.1 hspn.2.2) (selA_two s) ?_
    intro D hD
    have hnD : H D = none := SubH.none SU hD
    have hdD_3 : D ≠ b3 := AH.fresh_ne hD LK
    have hd3_D : b3 ≠ D := Ne.symm hdD_3
    have hdD_9 : D ≠ b9 := AH.fresh_ne hD LK
    have hd9_D : b9 ≠ D := Ne.symm hdD_9
    have hdD_4 : D ≠ b4 := AH.fresh_ne hD LK
    have hd4_D : b4 ≠ D := Ne.symm hdD_4
    have hdD_5 : D ≠ b5 := AH.fresh_ne hD LK
    have hd5_D : b5 ≠ D := Ne.symm hdD_5
    refine ⟨⟨fun k => ((((H.upd b3 (some (.row 26 1 [.ag [.own none 0 0, .v (.int .i64 0), .v (.int .i64 0), .v (.int .i64 0), .v (.int .i64 0), .v (.int .i64 0), .v (.int .i64 0)]]))).upd b9 (some (.row 60 c ((turnDk t s k).map lineAV)))).upd b4 (some (.row 26 1 [.ag [.own (some b9) c s.lines.length, .v (.int .i64 s.a.line), .v (.int .i64 s.a.col), .v (.int .i64 s.f.line), .v (.int .i64 s.f.col), .v (.int .i64 0), .v (.int .i64 0)]]))).upd b5 (some (.row 30 1 [.v (.int .i64 (someE t s k))]))).upd D (some (.raw (.deferred (some [])))), fun k s => s = k, fun _ _ => False, 0, ?_, ?_, ?_, ?_, ?_, ?_⟩⟩
    · rw [turnDk_zero]; exact SubH.refl _
    · rfl
    · intros; trivial
    · intro l k y k2 hy hI
      obtain rfl : k = k2 := Eq.symm hI
      obtain ⟨hle, rfl⟩ := selA_at hy
      have hll := hs.1.line ((spanS s).1.line + (k : Int))
      refine AW_norm (by simp only [setP, tput, List.set_cons_zero, List.set_cons_succ]; rfl) ?_
      refine GC2 ?_
      refine GO1 ?_
      refine GC3 ?_
      refine AL_alloc FZe.h (.agg (.v (.own (.v (.own .nil))))) rfl FSz.h rfl ?_
      intro b6 hb6
      have hn6 : H b6 = none := SubH.none SU hb6
      have hd6_3 : b6 ≠ b3 := AH.fresh_ne hb6 LK
      have hd3_6 : b3 ≠ b6 := Ne.symm hd6_3
      have hd6_9 : b6 ≠ b9 := AH.fresh_ne hb6 LK
      have hd9_6 : b9 ≠ b6 := Ne.symm hd6_9
      have hd6_4 : b6 ≠ b4 := AH.fresh_ne hb6 LK
      have hd4_6 : b4 ≠ b6 := Ne.symm hd6_4
      have hd6_5 : b6 ≠ b5 := AH.fresh_ne hb6 LK
      have hd5_6 : b5 ≠ b6 := Ne.symm hd6_5
      have hd6_D : b6 ≠ D := AH.fresh_ne hb6 LK
      have hdD_6 : D ≠ b6 := Ne.symm hd6_D
      refine GW ?_
      refine AL_norm TN ?_
      refine GC1 ?_
      refine asgQ_n ?_
      refine AW_block ?_
      refine GC2 ?_
      refine GO2 ?_
      refine AL_callv rfl hen (.cons (.ev rfl) (.nil)) (PI.toAC (hch (lineAt s.lines ((spanS s).1.line + (k : Int))) hll) (Holds.sub hT (by repeat (first | exact SubH.refl _ | assumption | refine SubH.upd ?_ (by assumption))))) ?_
      rintro _ _ ⟨rfl, rfl⟩
      refine GO3 ?_
      refine AL_alloc FZe.h (.agg (.v (.own (.v (.own .nil))))) rfl FSz.h rfl ?_
      intro b7 hb7
      have hn7 : H b7 = none := SubH.none SU hb7
      have hd7_3 : b7 ≠ b3 := AH.fresh_ne hb7 LK
      have hd3_7 : b3 ≠ b7 := Ne.symm hd7_3
      have hd7_9 : b7 ≠ b9 := AH.fresh_ne hb7 LK
      have hd9_7 : b9 ≠ b7 := Ne.symm hd7_9
      have hd7_4 : b7 ≠ b4 := AH.fresh_ne hb7 LK
      have hd4_7 : b4 ≠ b7 := Ne.symm hd7_4
      have hd7_5 : b7 ≠ b5 := AH.fresh_ne hb7 LK
      have hd5_7 : b5 ≠ b7 := Ne.symm hd7_5
      have hd7_6 : b7 ≠ b6 := AH.fresh_ne hb7 LK
      have hd6_7 : b6 ≠ b7 := Ne.symm hd7_6
      have hd7_D : b7 ≠ D := AH.fresh_ne hb7 LK
      have hdD_7 : D ≠ b7 := Ne.symm hd7_D
      refine GW ?_
      refine GO1 ?_
      refine GC4 ?_
      refine GO2 ?_
      refine GC2 ?_
      refine GI rfl (fun hc2 => ?_) (fun hc2 => ?_)
      ·
        refine GC1 ?_
        refine GO4 ?_
        first | refine AL_indexAddr_sl FUn.h FSz.h (by decide) rfl rfl ?_ ?_ ?_ ?_ | refine AL_indexAddr_own FUn.h FSz.h rfl rfl ?_ ?_ ?_
        · omega
        · omega
        first | refine AL_store_w FSz.h rfl XV rfl LK rfl (by exact rfl) ?_ | refine AL_store rfl XV rfl LK FSz.h (by exact turnDk_at t s k hspn.1 (by omega)) FSz.h rfl (by decide) (fun h => by first | (cases h; done) | exact ⟨rfl, rfl, rfl⟩) ?_
        refine AL_heap (by first | (simp only [AH.upd_upd]; rfl) | rfl) ?_
        refine GW ?_
        refine AL_norm TN ?_
        refine GC2 ?_
        refine roundQ_n ⟨k + 1, ?_, ?_⟩
        · rfl
        · (show SubH (((((H.upd b3 (some (.row 26 1 [.ag [.own none 0 0, .v (.int .i64 0), .v (.int .i64 0), .v (.int .i64 0), .v (.int .i64 0), .v (.int .i64 0), .v (.int .i64 0)]]))).upd b9 (some (.row 60 c ((turnDk t s (k + 1)).map lineAV)))).upd b4 (some (.row 26 1 [.ag [.own (some b9) c s.lines.length, .v (.int .i64 s.a.line), .v (.int .i64 s.a.col), .v (.int .i64 s.f.line), .v (.int .i64 s.f.col), .v (.int .i64 0), .v (.int .i64 0)]]))).upd b5 (some (.row 30 1 [.v (.int .i64 (someE t s (k + 1)))]))).upd D (some (.raw (.deferred (some []))))) _); rw [someE_yes hle hc2, ← turnDk_next t s k hspn.1 (by omega), List.map_set, turnL, if_pos hc2]; intro qq o hq; simp only [AH.upd] at hq ⊢; (repeat' split at hq) <;> (repeat' split) <;> first | exact hq | (exfalso; omega) | simp_all
      ·
        refine GC2 ?_
        refine roundQ_n ⟨k + 1, ?_, ?_⟩
        · rfl
        · (show SubH (((((H.upd b3 (some (.row 26 1 [.ag [.own none 0 0, .v (.int .i64 0), .v (.int .i64 0), .v (.int .i64 0), .v (.int .i64 0), .v (.int .i64 0), .v (.int .i64 0)]]))).upd b9 (some (.row 60 c ((turnDk t s (k + 1)).map lineAV)))).upd b4 (some (.row 26 1 [.ag [.own (some b9) c s.lines.length, .v (.int .i64 s.a.line), .v (.int .i64 s.a.col), .v (.int .i64 s.f.line), .v (.int .i64 s.f.col), .v (.int .i64 0), .v (.int .i64 0)]]))).upd b5 (some (.row 30 1 [.v (.int .i64 (someE t s (k + 1)))]))).upd D (some (.raw (.deferred (some []))))) _); rw [someE_no hle hc2, turnDk_same t s k hspn.1 (by omega) hc2]; intro qq o hq; simp only [AH.upd] at hq ⊢; (repeat' split at hq) <;> (repeat' split) <;> first | exact hq | (exfalso; omega) | simp_all
    · intro k hI; obtain rfl : k = _ := hI
      refine GC5 ?_
      refine GO2 ?_
      refine GC2 ?_
      refine GI rfl (fun hc3 => ?_) (fun hc3 => ?_)
      ·
        refine GC1 ?_
        refine' AW_drawL (xs := [_, _, _, _]) [2] [0, 2, 1, 3] (fun m => match m with | 0 => ((((H.upd b3 (some (.row 26 1 [.ag [.own none 0 0, .v (.int .i64 0), .v (.int .i64 0), .v (.int .i64 0), .v (.int .i64 0), .v (.int .i64 0), .v (.int .i64 0)]]))).upd b9 (some (.row 60 c ((turnDk t s (selA s).length).map lineAV)))).upd b4 (some (.row 26 1 [.ag [.own (some b9) c s.lines.length, .v (.int .i64 s.a.line), .v (.int .i64 s.a.col), .v (.int .i64 s.f.line), .v (.int .i64 s.f.col), .v (.int .i64 0), .v (.int .i64 0)]]))).upd b5 (some (.row 30 1 [.v (.int .i64 (someE t s (selA s).length))]))).upd D (some (.raw (.deferred (some [])))) | _ => ((((H.upd b3 (some (.row 26 1 [.ag [linesAV s0.lines, .v (.int .i64 s0.a.line), .v (.int .i64 s0.a.col), .v (.int .i64 s0.f.line), .v (.int .i64 s0.f.col), .v (.int .i64 s0.on), .v (.int .i64 s0.off)]]))).upd b9 (some (.row 60 c ((turnDk t s (selA s).length).map lineAV)))).upd b4 (some (.row 26 1 [.ag [.own (some b9) c s.lines.length, .v (.int .i64 s.a.line), .v (.int .i64 s.a.col), .v (.int .i64 s.f.line), .v (.int .i64 s.f.col), .v (.int .i64 0), .v (.int .i64 0)]]))).upd b5 (some (.row 30 1 [.v (.int .i64 (someE t s (selA s).length))]))).upd D (some (.raw (.deferred (some []))))) rfl (by kernel_rfl) ?hops1 ?_
        case hops1 =>
          refine HopsL_cons (fun m T hl hr hm hm2 => ?_) ?_
          · skip
            replace hm : 0 ≤ m := hm
            replace hm2 : m ≤ 0 := hm2
            obtain rfl : m = 0 := by omega
            refine AL_heap (by rfl : _ = ((((H.upd b3 (some (.row 26 1 [.ag [.own none 0 0, .v (.int .i64 0), .v (.int .i64 0), .v (.int .i64 0), .v (.int .i64 0), .v (.int .i64 0), .v (.int .i64 0)]]))).upd b9 (some (.row 60 c ((turnDk t s (selA s).length).map lineAV)))).upd b4 (some (.row 26 1 [.ag [.own (some b9) c s.lines.length, .v (.int .i64 s.a.line), .v (.int .i64 s.a.col), .v (.int .i64 s.f.line), .v (.int .i64 s.f.col), .v (.int .i64 0), .v (.int .i64 0)]]))).upd b5 (some (.row 30 1 [.v (.int .i64 (someE t s (selA s).length))]))).upd D (some (.raw (.deferred (some []))))) ?_
            refine AL_build_struct (zs := [_, _, _, _, _, _, _]) (pl := [(0, 1), (1, 2), (3, 2), (5, 1), (6, 1)]) Tryz.underlying26 FZe.h (.sl (e := 60) (.v (.v (.v (.v (.v (.v .nil))))))) (by kernel_rfl) (.nil) rfl ?_
            refine AL_nil ?_
            refine qpostL_mk ?_ ?_
            rotate_left
            exact Weak.refl _
            show SubH (((((H.upd b3 (some (.row 26 1 [.ag [.own none 0 0, .v (.int .i64 0), .v (.int .i64 0), .v (.int .i64 0), .v (.int .i64 0), .v (.int .i64 0), .v (.int .i64 0)]]))).upd b9 (some (.row 60 c ((turnDk t s (selA s).length).map lineAV)))).upd b4 (some (.row 26 1 [.ag [.own (some b9) c s.lines.length, .v (.int .i64 s.a.line), .v (.int .i64 s.a.col), .v (.int .i64 s.f.line), .v (.int .i64 s.f.col), .v (.int .i64 0), .v (.int .i64 0)]]))).upd b5 (some (.row 30 1 [.v (.int .i64 (someE t s (selA s).length))]))).upd D (some (.raw (.deferred (some []))))) _
            exact SubH.refl _
          refine HopsL_norm TO ?_
          refine HopsL_cons (fun m T hl hr hm hm2 => ?_) ?_
          · skip
            replace hm : 0 ≤ m := hm
            replace hm2 : m ≤ 1 := hm2
            obtain rfl | rfl : m = 0 ∨ m = 1 := by omega
            ·
              refine AL_heap (by rfl : _ = ((((H.upd b3 (some (.row 26 1 [.ag [.own none 0 0, .v (.int .i64 0), .v (.int .i64 0), .v (.int .i64 0), .v (.int .i64 0), .v (.int .i64 0), .v (.int .i64 0)]]))).upd b9 (some (.row 60 c ((turnDk t s (selA s).length).map lineAV)))).upd b4 (some (.row 26 1 [.ag [.own (some b9) c s.lines.length, .v (.int .i64 s.a.line), .v (.int .i64 s.a.col), .v (.int .i64 s.f.line), .v (.int .i64 s.f.col), .v (.int .i64 0), .v (.int .i64 0)]]))).upd b5 (some (.row 30 1 [.v (.int .i64 (someE t s (selA s).length))]))).upd D (some (.raw (.deferred (some []))))) ?_
              first | refine AL_load_rp FSz.h ((hr 7 (by kernel_rfl)).trans rfl) FAg.h ?_ | refine AL_loadw FSz.h ((hr 7 (by kernel_rfl)).trans rfl) LK (by exact FAg.h) rfl ?_ | refine AL_load_pt FAg.h FSz.h (by decide) ((hr 7 (by kernel_rfl)).trans rfl) LK FSz.h (by exact rfl) (by exact rfl) (by exact rfl) ?_
              refine AL_nil ?_
              refine qpostL_mk ?_ ?_
              rotate_left
              exact Weak.refl _
              show SubH (((((H.upd b3 (some (.row 26 1 [.ag [.own none 0 0, .v (.int .i64 0), .v (.int .i64 0), .v (.int .i64 0), .v (.int .i64 0), .v (.int .i64 0), .v (.int .i64 0)]]))).upd b9 (some (.row 60 c ((turnDk t s (selA s).length).map lineAV)))).upd b4 (some (.row 26 1 [.ag [.own (some b9) c s.lines.length, .v (.int .i64 s.a.line), .v (.int .i64 s.a.col), .v (.int .i64 s.f.line), .v (.int .i64 s.f.col), .v (.int .i64 0), .v (.int .i64 0)]]))).upd b5 (some (.row 30 1 [.v (.int .i64 (someE t s (selA s).length))]))).upd D (some (.raw (.deferred (some []))))) _
              exact SubH.refl _
            ·
              refine AL_heap (by rfl : _ = ((((H.upd b3 (some (.row 26 1 [.ag [linesAV s0.lines, .v (.int .i64 s0.a.line), .v (.int .i64 s0.a.col), .v (.int .i64 s0.f.line), .v (.int .i64 s0.f.col), .v (.int .i64 s0.on), .v (.int .i64 s0.off)]]))).upd b9 (some (.row 60 c ((turnDk t s (selA s).length).map lineAV)))).upd b4 (some (.row 26 1 [.ag [.own (some b9) c s.lines.length, .v (.int .i64 s.a.line), .v (.int .i64 s.a.col), .v (.int .i64 s.f.line), .v (.int .i64 s.f.col), .v (.int .i64 0), .v (.int .i64 0)]]))).upd b5 (some (.row 30 1 [.v (.int .i64 (someE t s (selA s).length))]))).upd D (some (.raw (.deferred (some []))))) ?_
              first | refine AL_load_rp FSz.h ((hr 7 (by kernel_rfl)).trans rfl) FAg.h ?_ | refine AL_loadw FSz.h ((hr 7 (by kernel_rfl)).trans rfl) LK (by exact FAg.h) rfl ?_ | refine AL_load_pt FAg.h FSz.h (by decide) ((hr 7 (by kernel_rfl)).trans rfl) LK FSz.h (by exact rfl) (by exact rfl) (by exact rfl) ?_
              refine AL_nil ?_
              refine qpostL_mk ?_ ?_
              rotate_left
              exact Weak.refl _
              show SubH (((((H.upd b3 (some (.row 26 1 [.ag [linesAV s0.lines, .v (.int .i64 s0.a.line), .v (.int .i64 s0.a.col), .v (.int .i64 s0.f.line), .v (.int .i64 s0.f.col), .v (.int .i64 s0.on), .v (.int .i64 s0.off)]]))).upd b9 (some (.row 60 c ((turnDk t s (selA s).length).map lineAV)))).upd b4 (some (.row 26 1 [.ag [.own (some b9) c s.lines.length, .v (.int .i64 s.a.line), .v (.int .i64 s.a.col), .v (.int .i64 s.f.line), .v (.int .i64 s.f.col), .v (.int .i64 0), .v (.int .i64 0)]]))).upd b5 (some (.row 30 1 [.v (.int .i64 (someE t s (selA s).length))]))).upd D (some (.raw (.deferred (some []))))) _
              exact SubH.refl _
          refine HopsL_norm TO ?_
          refine HopsL_cons (fun m T hl hr hm hm2 => ?_) ?_
          · skip
            replace hm : 0 ≤ m := hm
            replace hm2 : m ≤ 0 := hm2
            obtain rfl : m = 0 := by omega
            refine AL_heap (by rfl : _ = ((((H.upd b3 (some (.row 26 1 [.ag [.own none 0 0, .v (.int .i64 0), .v (.int .i64 0), .v (.int .i64 0), .v (.int .i64 0), .v (.int .i64 0), .v (.int .i64 0)]]))).upd b9 (some (.row 60 c ((turnDk t s (selA s).length).map lineAV)))).upd b4 (some (.row 26 1 [.ag [.own (some b9) c s.lines.length, .v (.int .i64 s.a.line), .v (.int .i64 s.a.col), .v (.int .i64 s.f.line), .v (.int .i64 s.f.col), .v (.int .i64 0), .v (.int .i64 0)]]))).upd b5 (some (.row 30 1 [.v (.int .i64 (someE t s (selA s).length))]))).upd D (some (.raw (.deferred (some []))))) ?_
            first | refine AL_store_w FSz.h ((hr 4 (by kernel_rfl)).trans rfl) (.ev ((hr 39 (by kernel_rfl)).trans rfl)) rfl LK rfl (by exact rfl) ?_ | refine AL_store ((hr 4 (by kernel_rfl)).trans rfl) (.ev ((hr 39 (by kernel_rfl)).trans rfl)) rfl LK FSz.h (by exact rfl) FSz.h rfl (by decide) (fun h => by first | (cases h; done) | exact ⟨rfl, rfl, rfl⟩) ?_
            refine AL_heap (by first | (simp only [AH.upd_upd]; rfl) | rfl) ?_
            refine AL_nil ?_
            refine qpostL_mk ?_ ?_
            rotate_left
            exact Weak.refl _
            show SubH (((((H.upd b3 (some (.row 26 1 [.ag [linesAV s0.lines, .v (.int .i64 s0.a.line), .v (.int .i64 s0.a.col), .v (.int .i64 s0.f.line), .v (.int .i64 s0.f.col), .v (.int .i64 s0.on), .v (.int .i64 s0.off)]]))).upd b9 (some (.row 60 c ((turnDk t s (selA s).length).map lineAV)))).upd b4 (some (.row 26 1 [.ag [.own (some b9) c s.lines.length, .v (.int .i64 s.a.line), .v (.int .i64 s.a.col), .v (.int .i64 s.f.line), .v (.int .i64 s.f.col), .v (.int .i64 0), .v (.int .i64 0)]]))).upd b5 (some (.row 30 1 [.v (.int .i64 (someE t s (selA s).length))]))).upd D (some (.raw (.deferred (some []))))) _
            first | exact SubH.refl _ | (refine SubH.of_eq (funext fun j => ?_); simp only [AH.upd]; (repeat' split) <;> first | rfl | omega)
          refine HopsL_norm TO ?_
          refine HopsL_cons (fun m T hl hr hm hm2 => ?_) ?_
          · skip
            replace hm : 1 ≤ m := hm
            replace hm2 : m ≤ 1 := hm2
            obtain rfl : m = 1 := by omega
            refine AL_heap (by rfl : _ = ((((H.upd b3 (some (.row 26 1 [.ag [linesAV s0.lines, .v (.int .i64 s0.a.line), .v (.int .i64 s0.a.col), .v (.int .i64 s0.f.line), .v (.int .i64 s0.f.col), .v (.int .i64 s0.on), .v (.int .i64 s0.off)]]))).upd b9 (some (.row 60 c ((turnDk t s (selA s).length).map lineAV)))).upd b4 (some (.row 26 1 [.ag [.own (some b9) c s.lines.length, .v (.int .i64 s.a.line), .v (.int .i64 s.a.col), .v (.int .i64 s.f.line), .v (.int .i64 s.f.col), .v (.int .i64 0), .v (.int .i64 0)]]))).upd b5 (some (.row 30 1 [.v (.int .i64 (someE t s (selA s).length))]))).upd D (some (.raw (.deferred (some []))))) ?_
            refine AL_assign ((hr 40 (by kernel_rfl)).trans rfl) ?_
            refine AL_nil ?_
            refine qpostL_mk ?_ ?_
            rotate_left
            exact Weak.refl _
            show SubH (((((H.upd b3 (some (.row 26 1 [.ag [linesAV s0.lines, .v (.int .i64 s0.a.line), .v (.int .i64 s0.a.col), .v (.int .i64 s0.f.line), .v (.int .i64 s0.f.col), .v (.int .i64 s0.on), .v (.int .i64 s0.off)]]))).upd b9 (some (.row 60 c ((turnDk t s (selA s).length).map lineAV)))).upd b4 (some (.row 26 1 [.ag [.own (some b9) c s.lines.length, .v (.int .i64 s.a.line), .v (.int .i64 s.a.col), .v (.int .i64 s.f.line), .v (.int .i64 s.f.col), .v (.int .i64 0), .v (.int .i64 0)]]))).upd b5 (some (.row 30 1 [.v (.int .i64 (someE t s (selA s).length))]))).upd D (some (.raw (.deferred (some []))))) _
            exact SubH.refl _
          refine HopsL_norm TO ?_
          exact HopsL_nil
        refine Q_norm (by first | (simp only [Tfin, tput, anyAt, setAll, List.foldl_cons, List.foldl_nil, List.set_cons_zero, List.set_cons_succ]; rfl) | rfl) ?_
        refine GC3 ?_
        refine retQN_r ?_
        refine retQM_mk (D := D) (H1 := ((((H.upd b3 (some (.row 26 1 [.ag [linesAV s0.lines, .v (.int .i64 s0.a.line), .v (.int .i64 s0.a.col), .v (.int .i64 s0.f.line), .v (.int .i64 s0.f.col), .v (.int .i64 s0.on), .v (.int .i64 s0.off)]]))).upd b9 (some (.row 60 c ((turnDk t s (selA s).length).map lineAV)))).upd b4 (some (.row 26 1 [.ag [.own (some b9) c s.lines.length, .v (.int .i64 s.a.line), .v (.int .i64 s.a.col), .v (.int .i64 s.f.line), .v (.int .i64 s.f.col), .v (.int .i64 0), .v (.int .i64 0)]]))).upd b5 (some (.row 30 1 [.v (.int .i64 (someE t s (selA s).length))])))) (H' := H) (.inr rfl) LK (.cons (.cell rfl LK FSz.h rfl FAg.h FSz.h rfl rfl (by decide)) (.cons (.tmp rfl) (.nil))) (by (show SubH _ (((((H.upd b3 (some (.row 26 1 [.ag [linesAV s0.lines, .v (.int .i64 s0.a.line), .v (.int .i64 s0.a.col), .v (.int .i64 s0.f.line), .v (.int .i64 s0.f.col), .v (.int .i64 s0.on), .v (.int .i64 s0.off)]]))).upd b9 (some (.row 60 c ((turnDk t s (selA s).length).map lineAV)))).upd b4 (some (.row 26 1 [.ag [.own (some b9) c s.lines.length, .v (.int .i64 s.a.line), .v (.int .i64 s.a.col), .v (.int .i64 s.f.line), .v (.int .i64 s.f.col), .v (.int .i64 0), .v (.int .i64 0)]]))).upd b5 (some (.row 30 1 [.v (.int .i64 (someE t s (selA s).length))]))).upd D (some (.raw (.deferred (some [])))))); intro qq o hq; simp only [AH.upd] at hq ⊢; (repeat' split at hq) <;> (repeat' split) <;> first | exact hq | (exfalso; omega) | simp_all) (by rw [AH.upd_ne _ _ hdD_5, AH.upd_ne _ _ hdD_4, AH.upd_ne _ _ hdD_9, AH.upd_ne _ _ hdD_3]; exact hnD) SU ?_
        rw [eachS_off hc1 hc3] at hK; exact ⟨_, _, Rc.refl _ _, hK⟩
      ·
        refine GC4 ?_
        refine GO1 ?_
        refine GW ?_
        refine GO1 ?_
        refine GC3 ?_
        refine retQN_r ?_
        refine retQM_mk (D := D) (H1 := ((((H.upd b3 (some (.row 26 1 [.ag [.own (some b9) c s.lines.length, .v (.int .i64 s.a.line), .v (.int .i64 s.a.col), .v (.int .i64 s.f.line), .v (.int .i64 s.f.col), .v (.int .i64 0), .v (.int .i64 0)]]))).upd b9 (some (.row 60 c ((turnDk t s (selA s).length).map lineAV)))).upd b4 (some (.row 26 1 [.ag [.own (some b9) c s.lines.length, .v (.int .i64 s.a.line), .v (.int .i64 s.a.col), .v (.int .i64 s.f.line), .v (.int .i64 s.f.col), .v (.int .i64 0), .v (.int .i64 0)]]))).upd b5 (some (.row 30 1 [.v (.int .i64 (someE t s (selA s).length))])))) (H' := H.put (some b9) 60 c ((turnDk t s (selA s).length).map lineAV)) (.inr rfl) LK (.cons (.cell rfl LK FSz.h rfl FAg.h FSz.h rfl rfl (by decide)) (.cons (.tmp rfl) (.nil))) (by intro qq o hq; simp only [AH.upd] at hq ⊢; (repeat' split at hq) <;> (repeat' split) <;> first | exact hq | (exfalso; omega) | simp_all) (by rw [AH.upd_ne _ _ hdD_5, AH.upd_ne _ _ hdD_4, AH.upd_ne _ _ hdD_9, AH.upd_ne _ _ hdD_3]; exact hnD) (by (show SubH (H.upd b9 _) _); intro qq o hq; simp only [AH.upd] at hq ⊢; (repeat' split at hq) <;> (repeat' split) <;> first | exact hq | omega | simp_all) ?_
        rw [eachS_yes hc1 hc3] at hK; exact ⟨rsAV (⟨turnDk t s (selA s).length, s.a, s.f, 0, 0⟩, 0), H, Rc.tup 0 rfl (Rc.ag 0 rfl (Rc.own (xs := ((turnDk t s (selA s).length).map lineAV)) hn9 (by rw [List.length_map, turnDk_len]))), hK⟩
    · rintro _ _ ⟨⟩


end Go.Proofs
