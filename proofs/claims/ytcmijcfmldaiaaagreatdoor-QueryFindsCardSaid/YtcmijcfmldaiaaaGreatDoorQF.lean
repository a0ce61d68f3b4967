/- The given statement of the law: for every input the law answers true. No conditions of our own. -/
import Derived.Test.YtcmijcfmldaiaaaGreatDoorQE
import Derived.Test.YtcmijcfmldaiaaaGreatDoorQKa
import Derived.Test.YtcmijcfmldaiaaaGreatDoorProg
set_option autoImplicit false
set_option linter.unusedVariables false
set_option linter.unusedSimpArgs false
set_option maxRecDepth 100000
set_option maxHeartbeats 4000000
namespace Go.Proofs
open Go Go.RowKit Go.AL Go.Q Go.IntWalk
attribute [local irreducible] AW AL seqQ blockQ retQ loopQ roundQ asgQ grpQ mQ qpost qpostL retQN retQM
instance sz127 : FSz Tryz.prog 127 1 := ⟨by kernel_rfl⟩
instance en227 : FEn Tryz.prog 227 := ⟨by kernel_rfl⟩
instance en263 : FEn Tryz.prog 263 := ⟨by kernel_rfl⟩
instance sz223 : FSz Tryz.prog 223 2 := ⟨by kernel_rfl⟩
instance ag223 : FAg Tryz.prog 223 true := ⟨by kernel_rfl⟩
instance ag127 : FAg Tryz.prog 127 false := ⟨by kernel_rfl⟩

/-- quillwork/doc.All$1 -/
theorem doc_All_1_ok (c : Cell) (x : Int) :
    PF Tryz.prog 200 [cellAV c, .rp 3 (.v (.int .i64 x))] (.v (.bool (isAll x c))) := by
  intro H K hK
  refine AC_of Tryz.func200 rfl (rs := [.tmp 3]) rfl Tryz.ntmps200 rfl ?_
  refine AW_norm TP ?_
  refine GC2 ?_
  refine GF ?_
  refine GO1 ?_
  refine GC4 ?_
  refine GO3 ?_
  refine AL_bits rfl rfl (by decide) ?_
  refine GO3 ?_
  refine GC3 ?_
  refine retQ_1 (H' := H) (.inr rfl) rfl SU ?_
  refine K_eq ?_ hK
  rfl

/-- quillwork/doc.Some$1 -/
theorem doc_Some_1_ok (c : Cell) (x : Int) :
    PF Tryz.prog 199 [cellAV c, .rp 3 (.v (.int .i64 x))] (.v (.bool (isSome x c))) := by
  intro H K hK
  refine AC_of Tryz.func199 rfl (rs := [.tmp 3]) rfl Tryz.ntmps199 rfl ?_
  refine AW_norm TP ?_
  refine GC2 ?_
  refine GF ?_
  refine GO1 ?_
  refine GC4 ?_
  refine GO3 ?_
  refine AL_bits rfl rfl (by decide) ?_
  refine GO2 ?_
  refine GC3 ?_
  refine retQ_1 (H' := H) (.inr rfl) rfl SU ?_
  refine K_eq ?_ hK
  rfl

/-- quillwork/doc.Count$1 -/
theorem doc_Count_1_ok (c : Cell) :
    PF Tryz.prog 304 [cellAV c] (.v (.bool false)) := by
  intro H K hK
  refine AC_of Tryz.func304 rfl (rs := [.tmp 2]) rfl Tryz.ntmps304 rfl ?_
  refine AW_norm TP ?_
  refine GC2 ?_
  refine GF ?_
  refine GO1 ?_
  refine GC4 ?_
  refine GO1 ?_
  refine GC3 ?_
  refine retQ_1 (H' := H) (.inr rfl) rfl SU ?_
  refine K_eq ?_ hK
  rfl

/-- quillwork/doc.tells -/
theorem doc_tells_ok  :
    ∀ (p : Cell → Bool) (f : FuncId) (cps : List AV) (d : List Line) (a b : Pos), DS d → entersOf Tryz.prog f = true → (∀ c, PI TQ Tryz.prog f (cellAV c :: cps) (.v (.bool (p c)))) → PI TQ Tryz.prog 198 [linesAV d, posAV a, posAV b, .fn (.func f) [] cps] (.tup [.v (.int .i64 (tellN d a b)), .v (.int .i64 (tellM p d a b))]) := by
  intro p f cps d a b hd hen hpc H K hT hK
  have hdl := hd.1
  refine AC_ofN Tryz.func198 rfl (rs := [.cell 8 3, .cell 9 3]) rfl Tryz.ntmps198 rfl ?_
  refine AW_norm TP ?_
  refine GC2 ?_
  refine GF ?_
  refine GF ?_
  refine GF ?_
  refine GF ?_
  refine AL_norm TN ?_
  refine AL_alloc FZe.h (.v _) rfl FSz.h rfl ?_
  intro b5 hb5
  have hn5 : H b5 = none := SubH.none SU hb5
  refine AL_alloc FZe.h (.v _) rfl FSz.h rfl ?_
  intro b6 hb6
  have hn6 : H b6 = none := SubH.none SU hb6
  have hd6_5 : b6 ≠ b5 := AH.fresh_ne hb6 LK
  have hd5_6 : b5 ≠ b6 := Ne.symm hd6_5
  refine AL_norm TN ?_
  refine GC5 ?_
  refine GO3 ?_
  refine AL_callpi FEn.h XA HS (doc_span_ok d a b hd) ?_
  refine GO1 ?_
  refine GC2 ?_
  refine GI rfl (fun hc1 => ?_) (fun hc1 => ?_)
  ·
    refine GC2 ?_
    refine GW ?_
    refine AL_norm TN ?_
    refine GW ?_
    refine AL_norm TN ?_
    refine GC4 ?_
    refine retQN_l ?_
    refine' retQ_g (H' := H) (.inr rfl) ?rv1 SU ?_
    case rv1 => exact .cons (.cell rfl LK FSz.h rfl FAg.h FSz.h rfl rfl (by decide)) (.cons (.cell rfl LK FSz.h rfl FAg.h FSz.h rfl rfl (by decide)) (.nil))
    refine K_eq ?_ hK
    unfold tellN tellM; rw [if_neg (by rw [hc1]; exact Bool.false_ne_true), if_neg (by rw [hc1]; exact Bool.false_ne_true)]; rfl
  · obtain ⟨_, ha0, hb0, hab0⟩ := (spanD_iff d a b).1 hc1; have ha := (isPos_iff d a).1 ha0; have hb := (isPos_iff d b).1 hb0; have hab := cmpP_le hab0
    refine GC5 ?_
    refine GO3 ?_
    refine AL_callp FEn.h XA (doc_between_ok _ _ _) ?_
    refine AL_norm TN ?_
    refine GC2 ?_
    refine AW_block ?_
    refine AW_rangeFunc (α := Nat) (gf := 296) (caps := [.rp 24 (posAV a), .rp 24 (posAV b), .rp 22 (linesAV d)]) (xs := betL d a b) (IT := fun _ => True) rfl FEn.h (doc_between_1_ok d a b _ hd (by omega) (by omega)) (betL_two d a b) ?_
    intro D hD
    have hnD : H D = none := SubH.none SU hD
    have hdD_5 : D ≠ b5 := AH.fresh_ne hD LK
    have hd5_D : b5 ≠ D := Ne.symm hdD_5
    have hdD_6 : D ≠ b6 := AH.fresh_ne hD LK
    have hd6_D : b6 ≠ D := Ne.symm hdD_6
    refine ⟨⟨fun k => ((H.upd b5 (some (.row 3 1 [.v (.int .i64 (((cellsK d a b k).length : Nat) : Int))]))).upd b6 (some (.row 3 1 [.v (.int .i64 (((cellsK d a b k).countP p : Nat) : Int))]))).upd D (some (.raw (.deferred (some [])))), fun k s => s = k, fun _ _ => False, 0, ?_, ?_, ?_, ?_, ?_, ?_⟩⟩
    · repeat (first | exact SubH.refl _ | assumption | refine SubH.new ?_ (by assumption))
    · rfl
    · intros; trivial
    · intro l k y k2 hy hI
      obtain rfl : k = k2 := Eq.symm hI
      obtain ⟨hle, rfl⟩ := betL_at hy
      obtain ⟨f1, f2, f3, f4, f5⟩ := fromTo_ok hc1 (show a.line ≤ a.line + (k : Int) by omega) hle
      have hcl := cutK_len d a b k 20000 fun i => (hd.line i).2.1
      have hkl := cellsK_len d a b hd k (by omega)
      refine AW_norm (by simp only [setP, tput, List.set_cons_zero, List.set_cons_succ]; rfl) ?_
      refine GC2 ?_
      refine GO1 ?_
      refine GC3 ?_
      refine AL_alloc FZe.h (.agg (.v (.v .nil))) rfl FSz.h rfl ?_
      intro b7 hb7
      have hn7 : H b7 = none := SubH.none SU hb7
      have hd7_5 : b7 ≠ b5 := AH.fresh_ne hb7 LK
      have hd5_7 : b5 ≠ b7 := Ne.symm hd7_5
      have hd7_6 : b7 ≠ b6 := AH.fresh_ne hb7 LK
      have hd6_7 : b6 ≠ b7 := Ne.symm hd7_6
      have hd7_D : b7 ≠ D := AH.fresh_ne hb7 LK
      have hdD_7 : D ≠ b7 := Ne.symm hd7_D
      refine GW ?_
      refine AL_norm TN ?_
      refine GC1 ?_
      refine asgQ_n ?_
      refine AW_block ?_
      refine GC1 ?_
      skip
      ·
        refine' AW_drawl (xs := [_, _, _, _, _, _, _, _, _, _, _, _]) (by kernel_rfl) ?hops1 ?_
        case hops1 =>
          refine Hops_cons (fun T hl hr => ?_) ?_
          · skip
            first | refine AL_load_rp FSz.h ((hr 4 (by kernel_rfl)).trans rfl) FAg.h ?_ | refine AL_loadw FSz.h ((hr 4 (by kernel_rfl)).trans rfl) LK (by exact FAg.h) rfl ?_ | refine AL_load_pt FAg.h FSz.h (by decide) ((hr 4 (by kernel_rfl)).trans rfl) LK FSz.h (by exact rfl) (by exact rfl) (by exact rfl) ?_
            refine AL_nil ?_
            refine qpost_mk ?_
            exact Weak.refl _
          refine Hops_norm (by first | (simp only [tput, List.set_cons_zero, List.set_cons_succ, cut_map, cutK_fold]; rfl) | rfl) ?_
          refine Hops_cons (fun T hl hr => ?_) ?_
          · skip
            refine AL_move ((hr 10 (by kernel_rfl)).trans rfl) ?_
            refine AL_nil ?_
            refine qpost_mk ?_
            exact Weak.refl _
          refine Hops_norm (by first | (simp only [tput, List.set_cons_zero, List.set_cons_succ, cut_map, cutK_fold]; rfl) | rfl) ?_
          refine Hops_cons (fun T hl hr => ?_) ?_
          · skip
            first | refine AL_indexAddr_sl (y := lineAV (lineAt d (a.line + (k : Int)))) FUn.h FSz.h (by decide) ((hr 25 (by kernel_rfl)).trans rfl) ((hr 26 (by kernel_rfl)).trans rfl) ?_ ?_ ?_ ?_ | refine AL_indexAddr_own FUn.h FSz.h ((hr 25 (by kernel_rfl)).trans rfl) ((hr 26 (by kernel_rfl)).trans rfl) ?_ ?_ ?_
            · omega
            · simp only [List.length_map]; omega
            · exact map_getD l0 (i := (a.line + (k : Int)).toNat) (by omega)
            refine AL_nil ?_
            refine qpost_mk ?_
            exact Weak.refl _
          refine Hops_norm (by first | (simp only [tput, List.set_cons_zero, List.set_cons_succ, cut_map, cutK_fold]; rfl) | rfl) ?_
          refine Hops_cons (fun T hl hr => ?_) ?_
          · skip
            first | refine AL_fieldAddr_pt FFl.h FSz.h (by decide) ((hr 27 (by kernel_rfl)).trans rfl) ?_ | refine AL_fieldAddr_rp FFl.h FAg.h FSz.h (by decide) (by decide) ((hr 27 (by kernel_rfl)).trans rfl) rfl (fun h => by first | rfl | cases h) ?_
            refine AL_nil ?_
            refine qpost_mk ?_
            exact Weak.refl _
          refine Hops_norm (by first | (simp only [tput, List.set_cons_zero, List.set_cons_succ, cut_map, cutK_fold]; rfl) | rfl) ?_
          refine Hops_cons (fun T hl hr => ?_) ?_
          · skip
            first | refine AL_load_rp FSz.h ((hr 28 (by kernel_rfl)).trans rfl) FAg.h ?_ | refine AL_loadw FSz.h ((hr 28 (by kernel_rfl)).trans rfl) LK (by exact FAg.h) rfl ?_ | refine AL_load_pt FAg.h FSz.h (by decide) ((hr 28 (by kernel_rfl)).trans rfl) LK FSz.h (by exact rfl) (by exact rfl) (by exact rfl) ?_
            refine AL_nil ?_
            refine qpost_mk ?_
            exact Weak.refl _
          refine Hops_norm (by first | (simp only [tput, List.set_cons_zero, List.set_cons_succ, cut_map, cutK_fold]; rfl) | rfl) ?_
          refine Hops_cons (fun T hl hr => ?_) ?_
          · skip
            refine AL_indexAddr_pa FUn.h FSz.h ((hr 11 (by kernel_rfl)).trans rfl) rfl ?_ ?_ ?_
            · omega
            · omega
            refine AL_nil ?_
            refine qpost_mk ?_
            exact Weak.refl _
          refine Hops_norm (by first | (simp only [tput, List.set_cons_zero, List.set_cons_succ, cut_map, cutK_fold]; rfl) | rfl) ?_
          refine Hops_cons (fun T hl hr => ?_) ?_
          · skip
            first | refine AL_load_rp FSz.h ((hr 30 (by kernel_rfl)).trans rfl) FAg.h ?_ | refine AL_loadw FSz.h ((hr 30 (by kernel_rfl)).trans rfl) LK (by exact FAg.h) rfl ?_ | refine AL_load_pt FAg.h FSz.h (by decide) ((hr 30 (by kernel_rfl)).trans rfl) LK FSz.h (by exact rfl) (by exact rfl) (by exact rfl) ?_
            refine AL_nil ?_
            refine qpost_mk ?_
            exact Weak.refl _
          refine Hops_norm (by first | (simp only [tput, List.set_cons_zero, List.set_cons_succ, cut_map, cutK_fold]; rfl) | rfl) ?_
          refine Hops_cons (fun T hl hr => ?_) ?_
          · skip
            refine AL_indexAddr_pa FUn.h FSz.h ((hr 11 (by kernel_rfl)).trans rfl) rfl ?_ ?_ ?_
            · omega
            · omega
            refine AL_nil ?_
            refine qpost_mk ?_
            exact Weak.refl _
          refine Hops_norm (by first | (simp only [tput, List.set_cons_zero, List.set_cons_succ, cut_map, cutK_fold]; rfl) | rfl) ?_
          refine Hops_cons (fun T hl hr => ?_) ?_
          · skip
            first | refine AL_load_rp FSz.h ((hr 32 (by kernel_rfl)).trans rfl) FAg.h ?_ | refine AL_loadw FSz.h ((hr 32 (by kernel_rfl)).trans rfl) LK (by exact FAg.h) rfl ?_ | refine AL_load_pt FAg.h FSz.h (by decide) ((hr 32 (by kernel_rfl)).trans rfl) LK FSz.h (by exact rfl) (by exact rfl) (by exact rfl) ?_
            refine AL_nil ?_
            refine qpost_mk ?_
            exact Weak.refl _
          refine Hops_norm (by first | (simp only [tput, List.set_cons_zero, List.set_cons_succ, cut_map, cutK_fold]; rfl) | rfl) ?_
          refine Hops_cons (fun T hl hr => ?_) ?_
          · skip
            first | refine AL_slice_slN FUn.h FSz.h ((hr 29 (by kernel_rfl)).trans rfl) ⟨_, ((hr 33 (by kernel_rfl)).trans rfl)⟩ ⟨_, ((hr 31 (by kernel_rfl)).trans rfl)⟩ ?_ ?_ ?_ | refine AL_slice_sl FUn.h FSz.h ((hr 29 (by kernel_rfl)).trans rfl) ⟨_, _, ((hr 33 (by kernel_rfl)).trans rfl), by omega, rfl⟩ ⟨_, _, ((hr 31 (by kernel_rfl)).trans rfl), by omega, rfl⟩ ?_ ?_ ?_
            · simp only [List.length_map]; exact Int.toNat_le_toNat f5
            · omega
            refine AL_nil ?_
            refine qpost_mk ?_
            exact Weak.refl _
          refine Hops_norm (by first | (simp only [tput, List.set_cons_zero, List.set_cons_succ, cut_map, cutK_fold]; rfl) | rfl) ?_
          refine Hops_cons (fun T hl hr => ?_) ?_
          · skip
            first | refine AL_len_sl FUn.h ((hr 34 (by kernel_rfl)).trans rfl) ?_ | refine AL_len_own FUn.h ((hr 34 (by kernel_rfl)).trans rfl) ?_
            refine AL_nil ?_
            refine qpost_mk ?_
            exact Weak.refl _
          refine Hops_norm (by first | (simp only [tput, List.set_cons_zero, List.set_cons_succ, cut_map, cutK_fold]; rfl) | rfl) ?_
          refine Hops_cons (fun T hl hr => ?_) ?_
          · skip
            refine AL_move rfl ?_
            refine AL_nil ?_
            refine qpost_mk ?_
            exact Weak.refl _
          refine Hops_norm (by first | (simp only [tput, List.set_cons_zero, List.set_cons_succ, cut_map, cutK_fold]; rfl) | rfl) ?_
          exact Hops_nil
        refine Q_norm (by first | (simp only [Tfin, tput, anyAt, setAll, List.foldl_cons, List.foldl_nil, List.set_cons_zero, List.set_cons_succ, cut_map, cutK_fold]; rfl) | rfl) ?_
        refine GC1 ?_
        refine AW_block ?_
        refine AW_loops (α := Nat) [13, 36, 37, 38, 39, 40, 41, 42, 43, 44, 45, 46, 47] (fun j => [(36, .v (.int .i64 (j : Int)))]) (fun j => (((H.upd b5 (some (.row 3 1 [.v (.int .i64 (((cellsK d a b k).length + j : Nat) : Int))]))).upd b6 (some (.row 3 1 [.v (.int .i64 (((cellsK d a b k).countP p + ((cutK d a b k).take j).countP p : Nat) : Int))]))).upd D (some (.raw (.deferred (some []))))).upd b7 (some (.row 223 1 [.ag [.v (.int .i64 (fromTo d a b (a.line + (k : Int))).1), .v (.int .i64 (fromTo d a b (a.line + (k : Int))).2)]]))) (fun j => j ≤ (cutK d a b k).length) (fun j => (cutK d a b k).length - j) (0) ?_ ?_ ?_ ?_
        · exact Nat.zero_le _
        · exact SubH.refl _
        · skip
          exact WK
        · intro j hj
          refine AW_norm TN ?_
          refine GC2 ?_
          refine GO1 ?_
          refine GC3 ?_
          refine GI rfl (fun hc2 => ?_) (fun hc2 => ?_)
          ·
            refine GC3 ?_
            refine AW_block ?_
            refine GC2 ?_
            first | refine AL_indexAddr_sl (y := cellAV ((cutK d a b k).getD j c0)) FUn.h FSz.h (by decide) rfl rfl ?_ ?_ ?_ ?_ | refine AL_indexAddr_own FUn.h FSz.h rfl rfl ?_ ?_ ?_
            · omega
            · simp only [List.length_map]; omega
            · exact map_getD c0 (i := j) (by omega)
            refine AL_norm TN ?_
            refine GO1 ?_
            refine AL_alloc FZe.h (.agg (.v (.v (.v .nil)))) rfl FSz.h rfl ?_
            intro b8 hb8
            have hn8 : H b8 = none := SubH.none SU hb8
            have hd8_5 : b8 ≠ b5 := AH.fresh_ne hb8 LK
            have hd5_8 : b5 ≠ b8 := Ne.symm hd8_5
            have hd8_6 : b8 ≠ b6 := AH.fresh_ne hb8 LK
            have hd6_8 : b6 ≠ b8 := Ne.symm hd8_6
            have hd8_7 : b8 ≠ b7 := AH.fresh_ne hb8 LK
            have hd7_8 : b7 ≠ b8 := Ne.symm hd8_7
            have hd8_D : b8 ≠ D := AH.fresh_ne hb8 LK
            have hdD_8 : D ≠ b8 := Ne.symm hd8_D
            refine GW ?_
            refine AL_norm TN ?_
            refine GC4 ?_
            refine GO1 ?_
            refine AL_addz rfl rfl (((cellsK d a b k).length + (j + 1) : Nat)) (by exact inc64 (by omega)) ?_
            refine GW ?_
            refine AL_norm TN ?_
            refine GC4 ?_
            refine GO2 ?_
            refine AL_callv rfl hen (.cons (.ev rfl) .nil) (PI.toAC (hpc _) (Holds.sub hT (by repeat (first | exact SubH.refl _ | assumption | refine SubH.upd ?_ (by assumption))))) ?_; rintro _ _ ⟨rfl, rfl⟩
            refine AL_norm TN ?_
            refine GC2 ?_
            refine GI rfl (fun hc3 => ?_) (fun hc3 => ?_)
            ·
              refine GC1 ?_
              refine GO1 ?_
              refine AL_addz rfl rfl (((cellsK d a b k).countP p + ((cutK d a b k).take (j + 1)).countP p : Nat)) (by rw [countP_next p _ (by omega), if_pos hc3]; exact inc64 (by have := List.countP_le_length (p := p) (l := (cutK d a b k).take j); have := List.countP_le_length (p := p) (l := cellsK d a b k); rw [List.length_take] at *; omega)) ?_
              refine GW ?_
              refine AL_norm TN ?_
              refine GC4 ?_
              refine AL_addz rfl rfl (((j + 1 : Nat) : Int)) (by exact inc64 (by omega)) ?_
              refine AL_norm TN ?_
              refine GO1 ?_
              refine GC1 ?_
              refine loopQ_n (j + 1) ?_ ?_ ?_ ?_
              · exact (by omega)
              · omega
              · intro qq o hq; simp only [AH.upd] at hq ⊢; (repeat' split at hq) <;> (repeat' split) <;> first | exact hq | (exfalso; omega) | simp_all
              · skip
                exact WK
            ·
              refine GC4 ?_
              refine AL_addz rfl rfl (((j + 1 : Nat) : Int)) (by exact inc64 (by omega)) ?_
              refine GO1 ?_
              refine GC1 ?_
              refine loopQ_n (j + 1) ?_ ?_ ?_ ?_
              · exact (by omega)
              · omega
              · rw [countP_next p _ (by omega), if_neg (by rw [hc3]; exact Bool.false_ne_true)]; intro qq o hq; simp only [AH.upd] at hq ⊢; (repeat' split at hq) <;> (repeat' split) <;> first | exact hq | (exfalso; omega) | simp_all
              · skip
                exact WK
          ·
            refine GC2 ?_
            refine loopQ_x ?_
            refine GC2 ?_
            refine roundQ_n ⟨k + 1, ?_, ?_⟩
            · rfl
            · (show SubH (((H.upd b5 (some (.row 3 1 [.v (.int .i64 (((cellsK d a b (k + 1)).length : Nat) : Int))]))).upd b6 (some (.row 3 1 [.v (.int .i64 (((cellsK d a b (k + 1)).countP p : Nat) : Int))]))).upd D (some (.raw (.deferred (some []))))) _); rw [cellsK_next d a b k hle]; have e : j = (cutK d a b k).length := (by omega); subst e; rw [List.length_append, List.countP_append, List.take_length]; intro qq o hq; simp only [AH.upd] at hq ⊢; (repeat' split at hq) <;> (repeat' split) <;> first | exact hq | (exfalso; omega) | simp_all
    · intro k hI; obtain rfl : k = _ := hI
      refine GC3 ?_
      refine' AW_drawL (xs := [_, _, _, _]) [2, 3] [0, 0, 1, 2] (fun _ => ((H.upd b5 (some (.row 3 1 [.v (.int .i64 (((cellsK d a b (betL d a b).length).length : Nat) : Int))]))).upd b6 (some (.row 3 1 [.v (.int .i64 (((cellsK d a b (betL d a b).length).countP p : Nat) : Int))]))).upd D (some (.raw (.deferred (some []))))) rfl (by kernel_rfl) ?hops2 ?_
      case hops2 =>
        refine HopsL_cons (fun m T hl hr hm hm2 => ?_) ?_
        · skip
          replace hm : 0 ≤ m := hm
          replace hm2 : m ≤ 0 := hm2
          obtain rfl : m = 0 := by omega
          refine AL_heap (by rfl : _ = ((H.upd b5 (some (.row 3 1 [.v (.int .i64 (((cellsK d a b (betL d a b).length).length : Nat) : Int))]))).upd b6 (some (.row 3 1 [.v (.int .i64 (((cellsK d a b (betL d a b).length).countP p : Nat) : Int))]))).upd D (some (.raw (.deferred (some []))))) ?_
          first | refine AL_load_rp FSz.h ((hr 8 (by kernel_rfl)).trans rfl) FAg.h ?_ | refine AL_loadw FSz.h ((hr 8 (by kernel_rfl)).trans rfl) LK (by exact FAg.h) rfl ?_ | refine AL_load_pt FAg.h FSz.h (by decide) ((hr 8 (by kernel_rfl)).trans rfl) LK FSz.h (by exact rfl) (by exact rfl) (by exact rfl) ?_
          refine AL_nil ?_
          refine qpostL_mk ?_ ?_
          rotate_left
          exact Weak.refl _
          show SubH (((H.upd b5 (some (.row 3 1 [.v (.int .i64 (((cellsK d a b (betL d a b).length).length : Nat) : Int))]))).upd b6 (some (.row 3 1 [.v (.int .i64 (((cellsK d a b (betL d a b).length).countP p : Nat) : Int))]))).upd D (some (.raw (.deferred (some []))))) _
          exact SubH.refl _
        refine HopsL_norm TO ?_
        refine HopsL_cons (fun m T hl hr hm hm2 => ?_) ?_
        · skip
          replace hm : 0 ≤ m := hm
          replace hm2 : m ≤ 1 := hm2
          obtain rfl | rfl : m = 0 ∨ m = 1 := by omega
          ·
            refine AL_heap (by rfl : _ = ((H.upd b5 (some (.row 3 1 [.v (.int .i64 (((cellsK d a b (betL d a b).length).length : Nat) : Int))]))).upd b6 (some (.row 3 1 [.v (.int .i64 (((cellsK d a b (betL d a b).length).countP p : Nat) : Int))]))).upd D (some (.raw (.deferred (some []))))) ?_
            first | refine AL_load_rp FSz.h ((hr 9 (by kernel_rfl)).trans rfl) FAg.h ?_ | refine AL_loadw FSz.h ((hr 9 (by kernel_rfl)).trans rfl) LK (by exact FAg.h) rfl ?_ | refine AL_load_pt FAg.h FSz.h (by decide) ((hr 9 (by kernel_rfl)).trans rfl) LK FSz.h (by exact rfl) (by exact rfl) (by exact rfl) ?_
            refine AL_nil ?_
            refine qpostL_mk ?_ ?_
            rotate_left
            exact Weak.refl _
            show SubH (((H.upd b5 (some (.row 3 1 [.v (.int .i64 (((cellsK d a b (betL d a b).length).length : Nat) : Int))]))).upd b6 (some (.row 3 1 [.v (.int .i64 (((cellsK d a b (betL d a b).length).countP p : Nat) : Int))]))).upd D (some (.raw (.deferred (some []))))) _
            exact SubH.refl _
          ·
            refine AL_heap (by rfl : _ = ((H.upd b5 (some (.row 3 1 [.v (.int .i64 (((cellsK d a b (betL d a b).length).length : Nat) : Int))]))).upd b6 (some (.row 3 1 [.v (.int .i64 (((cellsK d a b (betL d a b).length).countP p : Nat) : Int))]))).upd D (some (.raw (.deferred (some []))))) ?_
            first | refine AL_load_rp FSz.h ((hr 9 (by kernel_rfl)).trans rfl) FAg.h ?_ | refine AL_loadw FSz.h ((hr 9 (by kernel_rfl)).trans rfl) LK (by exact FAg.h) rfl ?_ | refine AL_load_pt FAg.h FSz.h (by decide) ((hr 9 (by kernel_rfl)).trans rfl) LK FSz.h (by exact rfl) (by exact rfl) (by exact rfl) ?_
            refine AL_nil ?_
            refine qpostL_mk ?_ ?_
            rotate_left
            exact Weak.refl _
            show SubH (((H.upd b5 (some (.row 3 1 [.v (.int .i64 (((cellsK d a b (betL d a b).length).length : Nat) : Int))]))).upd b6 (some (.row 3 1 [.v (.int .i64 (((cellsK d a b (betL d a b).length).countP p : Nat) : Int))]))).upd D (some (.raw (.deferred (some []))))) _
            exact SubH.refl _
        refine HopsL_norm TO ?_
        refine HopsL_cons (fun m T hl hr hm hm2 => ?_) ?_
        · skip
          replace hm : 0 ≤ m := hm
          replace hm2 : m ≤ 0 := hm2
          obtain rfl : m = 0 := by omega
          refine AL_heap (by rfl : _ = ((H.upd b5 (some (.row 3 1 [.v (.int .i64 (((cellsK d a b (betL d a b).length).length : Nat) : Int))]))).upd b6 (some (.row 3 1 [.v (.int .i64 (((cellsK d a b (betL d a b).length).countP p : Nat) : Int))]))).upd D (some (.raw (.deferred (some []))))) ?_
          first | refine AL_store_w FSz.h ((hr 8 (by kernel_rfl)).trans rfl) (.ev ((hr 48 (by kernel_rfl)).trans rfl)) rfl LK rfl (by exact rfl) ?_ | refine AL_store ((hr 8 (by kernel_rfl)).trans rfl) (.ev ((hr 48 (by kernel_rfl)).trans rfl)) rfl LK FSz.h (by exact rfl) FSz.h rfl (by decide) (fun h => by first | (cases h; done) | exact ⟨rfl, rfl, rfl⟩) ?_
          refine AL_heap (by first | (simp only [AH.upd_upd]; rfl) | rfl) ?_
          refine AL_nil ?_
          refine qpostL_mk ?_ ?_
          rotate_left
          exact Weak.refl _
          show SubH (((H.upd b5 (some (.row 3 1 [.v (.int .i64 (((cellsK d a b (betL d a b).length).length : Nat) : Int))]))).upd b6 (some (.row 3 1 [.v (.int .i64 (((cellsK d a b (betL d a b).length).countP p : Nat) : Int))]))).upd D (some (.raw (.deferred (some []))))) _
          first | exact SubH.refl _ | (refine SubH.of_eq (funext fun j => ?_); simp only [AH.upd]; (repeat' split) <;> first | rfl | omega)
        refine HopsL_norm TO ?_
        refine HopsL_cons (fun m T hl hr hm hm2 => ?_) ?_
        · skip
          replace hm : 1 ≤ m := hm
          replace hm2 : m ≤ 1 := hm2
          obtain rfl : m = 1 := by omega
          refine AL_heap (by rfl : _ = ((H.upd b5 (some (.row 3 1 [.v (.int .i64 (((cellsK d a b (betL d a b).length).length : Nat) : Int))]))).upd b6 (some (.row 3 1 [.v (.int .i64 (((cellsK d a b (betL d a b).length).countP p : Nat) : Int))]))).upd D (some (.raw (.deferred (some []))))) ?_
          first | refine AL_store_w FSz.h ((hr 9 (by kernel_rfl)).trans rfl) (.ev ((hr 49 (by kernel_rfl)).trans rfl)) rfl LK rfl (by exact rfl) ?_ | refine AL_store ((hr 9 (by kernel_rfl)).trans rfl) (.ev ((hr 49 (by kernel_rfl)).trans rfl)) rfl LK FSz.h (by exact rfl) FSz.h rfl (by decide) (fun h => by first | (cases h; done) | exact ⟨rfl, rfl, rfl⟩) ?_
          refine AL_heap (by first | (simp only [AH.upd_upd]; rfl) | rfl) ?_
          refine AL_nil ?_
          refine qpostL_mk ?_ ?_
          rotate_left
          exact Weak.refl _
          show SubH (((H.upd b5 (some (.row 3 1 [.v (.int .i64 (((cellsK d a b (betL d a b).length).length : Nat) : Int))]))).upd b6 (some (.row 3 1 [.v (.int .i64 (((cellsK d a b (betL d a b).length).countP p : Nat) : Int))]))).upd D (some (.raw (.deferred (some []))))) _
          first | exact SubH.refl _ | (refine SubH.of_eq (funext fun j => ?_); simp only [AH.upd]; (repeat' split) <;> first | rfl | omega)
        refine HopsL_norm TO ?_
        exact HopsL_nil
      refine Q_norm (by first | (simp only [Tfin, tput, anyAt, setAll, List.foldl_cons, List.foldl_nil, List.set_cons_zero, List.set_cons_succ]; rfl) | rfl) ?_
      refine GC2 ?_
      refine retQN_r ?_
      refine retQM_mk (D := D) (H1 := (H.upd b5 (some (.row 3 1 [.v (.int .i64 (((cellsK d a b (betL d a b).length).length : Nat) : Int))]))).upd b6 (some (.row 3 1 [.v (.int .i64 (((cellsK d a b (betL d a b).length).countP p : Nat) : Int))]))) (H' := H) (.inr rfl) LK (.cons (.cell rfl LK FSz.h rfl FAg.h FSz.h rfl rfl (by decide)) (.cons (.cell rfl LK FSz.h rfl FAg.h FSz.h rfl rfl (by decide)) (.nil))) (by intro j o hj; simp only [AH.upd] at hj ⊢; (repeat' split at hj) <;> (repeat' split) <;> first | exact hj | omega | simp_all) (by rw [AH.upd_ne _ _ hdD_6, AH.upd_ne _ _ hdD_5]; exact hnD) SU ?_
      refine K_eq ?_ hK
      unfold tellN tellM; rw [if_pos hc1, if_pos hc1, ← cellsK_all]; rfl
    · rintro _ _ ⟨⟩


end Go.Proofs
