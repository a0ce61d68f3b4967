/- The given statement of the law: for every input the law answers true. No conditions of our own. -/
import Derived.Test.YtcmijcfmldaiaaaGreatDoorQJ
import Derived.Test.YtcmijcfmldaiaaaGreatDoorProg
set_option autoImplicit false
set_option linter.unusedVariables false
set_option linter.unusedSimpArgs false
set_option maxRecDepth 100000
set_option maxHeartbeats 4000000
namespace Go.Proofs
open Go Go.RowKit Go.AL Go.Q Go.IntWalk
attribute [local irreducible] AW AL seqQ blockQ retQ loopQ roundQ asgQ grpQ mQ qpost qpostL retQN retQM
instance en240 : FEn Tryz.prog 240 := ⟨by kernel_rfl⟩
instance en241 : FEn Tryz.prog 241 := ⟨by kernel_rfl⟩
instance en156 : FEn Tryz.prog 156 := ⟨by kernel_rfl⟩

/-- quillwork/styling.Toggle -/
theorem styling_ToggleO_ok (s : Q.St) (bit : Int) (hs : SS s) (ho : s.a ≠ s.f) :
    PI TQ Tryz.prog 155 [stAV s, .v (.int .i64 bit)] (rsAV (toggleS s bit)) := by
  intro H K hT hK
  refine AC_of Tryz.func155 rfl (rs := [.cell 4 26, .tmp 5]) rfl Tryz.ntmps155 rfl ?_
  refine AW_norm TP ?_
  refine GC2 ?_
  refine GF ?_
  refine GF ?_
  refine AL_alloc FZe.h (.agg (.own (.v (.v (.v (.v (.v (.v .nil)))))))) rfl FSz.h rfl ?_
  intro b3 hb3
  have hn3 : H b3 = none := SubH.none SU hb3
  refine GO1 ?_
  refine GC4 ?_
  refine AL_callp FEn.h XA (styling_toggled_ok) ?_
  refine AL_norm TN ?_
  refine AL_alloc FZe.h (.agg (.v (.v (.v (.v .nil))))) rfl FSz.h rfl ?_
  intro b4 hb4
  have hn4 : H b4 = none := SubH.none SU hb4
  have hd4_3 : b4 ≠ b3 := AH.fresh_ne hb4 LK
  have hd3_4 : b3 ≠ b4 := Ne.symm hd4_3
  refine GW ?_
  refine AL_norm TN ?_
  refine AL_frzpt 6 rfl (AH.upd_same _ _ _) ?_; refine AL_heap (AH.upd_none_eq hb4) ?_; clear hb4
  refine AL_norm TN ?_
  refine AL_norm TN ?_
  refine GC3 ?_
  refine AW_block ?_
  refine GC1 ?_
  rcases Bool.eq_false_or_eq_true (stOK s) with hs1 | hs1
  ·
    refine' AW_drawl (xs := [_, _, _, _, _, _, _, _, _, _]) (by kernel_rfl) ?hops1 ?_
    case hops1 =>
      refine Hops_cons (fun T hl hr => ?_) ?_
      · skip
        first | refine AL_load_rp FSz.h ((hr 2 (by kernel_rfl)).trans rfl) FAg.h ?_ | refine AL_loadw FSz.h ((hr 2 (by kernel_rfl)).trans rfl) LK (by exact FAg.h) rfl ?_ | refine AL_load_pt FAg.h FSz.h (by decide) ((hr 2 (by kernel_rfl)).trans rfl) LK FSz.h (by exact rfl) (by exact rfl) (by exact rfl) ?_
        refine AL_nil ?_
        refine qpost_mk ?_
        exact Weak.refl _
      refine Hops_norm (by first | (simp only [tput, List.set_cons_zero, List.set_cons_succ, hs1, Bool.not_true]; rfl) | rfl) ?_
      refine Hops_cons (fun T hl hr => ?_) ?_
      · skip
        refine AL_callpi FEn.h (.cons (.ev ((hr 10 (by kernel_rfl)).trans rfl)) (.nil)) HS (typing_May_ok s hs) ?_
        refine AL_nil ?_
        refine qpost_mk ?_
        exact Weak.refl _
      refine Hops_norm (by first | (simp only [tput, List.set_cons_zero, List.set_cons_succ, hs1, Bool.not_true]; rfl) | rfl) ?_
      refine Hops_cons (fun T hl hr => ?_) ?_
      · skip
        refine AL_not ((hr 11 (by kernel_rfl)).trans rfl) ?_
        refine AL_nil ?_
        refine qpost_mk ?_
        exact Weak.refl _
      refine Hops_norm (by first | (simp only [tput, List.set_cons_zero, List.set_cons_succ, hs1, Bool.not_true]; rfl) | rfl) ?_
      refine Hops_cons (fun T hl hr => ?_) ?_
      · skip
        refine AL_move ((hr 12 (by kernel_rfl)).trans rfl) ?_
        refine AL_nil ?_
        refine qpost_mk ?_
        exact Weak.refl _
      refine Hops_norm (by first | (simp only [tput, List.set_cons_zero, List.set_cons_succ, hs1, Bool.not_true]; rfl) | rfl) ?_
      refine Hops_cons (fun T hl hr => ?_) ?_
      · skip
        refine AL_take rfl ((hr 13 rfl).trans rfl) ?_
        refine AL_slice_arr (xs := [.v (.int .i64 1), .v (.int .i64 2), .v (.int .i64 4), .v (.int .i64 8)]) FUn.h FSz.h ((hr 6 (by kernel_rfl)).trans rfl) rfl rfl rfl ?_
        refine AL_nil ?_
        refine qpost_mk ?_
        exact Weak.refl _
      refine Hops_norm (by first | (simp only [tput, List.set_cons_zero, List.set_cons_succ, hs1, Bool.not_true]; rfl) | rfl) ?_
      refine Hops_cons (fun T hl hr => ?_) ?_
      · skip
        refine AL_take rfl ((hr 13 rfl).trans rfl) ?_
        first | refine AL_load_rp FSz.h ((hr 3 (by kernel_rfl)).trans rfl) FAg.h ?_ | refine AL_loadw FSz.h ((hr 3 (by kernel_rfl)).trans rfl) LK (by exact FAg.h) rfl ?_ | refine AL_load_pt FAg.h FSz.h (by decide) ((hr 3 (by kernel_rfl)).trans rfl) LK FSz.h (by exact rfl) (by exact rfl) (by exact rfl) ?_
        refine AL_nil ?_
        refine qpost_mk ?_
        exact Weak.refl _
      refine Hops_norm (by first | (simp only [tput, List.set_cons_zero, List.set_cons_succ, hs1, Bool.not_true]; rfl) | rfl) ?_
      refine Hops_cons (fun T hl hr => ?_) ?_
      · skip
        refine AL_take rfl ((hr 13 rfl).trans rfl) ?_
        refine AL_callp FEn.h (.cons (.ev ((hr 14 (by kernel_rfl)).trans rfl)) (.cons (.ev ((hr 15 (by kernel_rfl)).trans rfl)) (.nil))) (slices_Contains_int_int_ok [1, 2, 4, 8] bit (by decide)) ?_
        refine AL_nil ?_
        refine qpost_mk ?_
        exact Weak.refl _
      refine Hops_norm (by first | (simp only [tput, List.set_cons_zero, List.set_cons_succ, hs1, Bool.not_true]; rfl) | rfl) ?_
      refine Hops_cons (fun T hl hr => ?_) ?_
      · skip
        refine AL_take rfl ((hr 13 rfl).trans rfl) ?_
        refine AL_not ((hr 16 (by kernel_rfl)).trans rfl) ?_
        refine AL_nil ?_
        refine qpost_mk ?_
        exact Weak.refl _
      refine Hops_norm (by first | (simp only [tput, List.set_cons_zero, List.set_cons_succ, hs1, Bool.not_true]; rfl) | rfl) ?_
      refine Hops_cons (fun T hl hr => ?_) ?_
      · skip
        first | refine AL_pick_t ((hr 13 (by kernel_rfl)).trans rfl) rfl ?_ | refine AL_pick_f ((hr 13 (by kernel_rfl)).trans rfl) ((hr 17 (by kernel_rfl)).trans rfl) ?_
        refine AL_nil ?_
        refine qpost_mk ?_
        exact Weak.refl _
      refine Hops_norm (by first | (simp only [tput, List.set_cons_zero, List.set_cons_succ, hs1, Bool.not_true]; rfl) | rfl) ?_
      refine Hops_cons (fun T hl hr => ?_) ?_
      · skip
        refine AL_assign ((hr 18 (by kernel_rfl)).trans rfl) ?_
        refine AL_nil ?_
        refine qpost_mk ?_
        exact Weak.refl _
      refine Hops_norm (by first | (simp only [tput, List.set_cons_zero, List.set_cons_succ, hs1, Bool.not_true]; rfl) | rfl) ?_
      exact Hops_nil
    refine Q_norm (by first | (simp only [Tfin, tput, anyAt, setAll, List.foldl_cons, List.foldl_nil, List.set_cons_zero, List.set_cons_succ, hs1, Bool.not_true]; rfl) | rfl) ?_
    refine GC1 ?_
    refine GI rfl (fun hc1 => ?_) (fun hc1 => ?_)
    ·
      refine GC2 ?_
      refine AL_build_struct (zs := [_, _, _, _, _, _, _]) (pl := [(0, 1), (1, 2), (3, 2), (5, 1), (6, 1)]) Tryz.underlying26 FZe.h (.sl (e := 60) (.v (.v (.v (.v (.v (.v .nil))))))) (by kernel_rfl) (.nil) rfl ?_
      refine GW ?_
      refine AL_norm TN ?_
      refine GO1 ?_
      refine GC5 ?_
      refine' retQ_g (H' := H) (.inr rfl) ?rv1 SU ?_
      case rv1 => exact .cons (.cell rfl LK FSz.h rfl FAg.h FSz.h rfl rfl (by decide)) (.cons (.tmp rfl) (.nil))
      refine K_eq ?_ hK
      rw [toggleS_no (.inr ((any_bit bit).symm.trans hc1))]; rfl
    ·
      refine GC2 ?_
      refine GO1 ?_
      refine AL_callp FEn.h XA (styling_open_ok _) ?_
      refine GO2 ?_
      refine GC2 ?_
      refine AW_cond rfl (fun hc2 => ?_) (fun hc2 => ?_)
      · exfalso; simp_all
      · (try simp only [Bool.or_eq_true, Bool.and_eq_true, Bool.or_eq_false_iff, Bool.and_eq_false_iff, decide_eq_true_eq, decide_eq_false_iff_not, Bool.not_eq_true', Bool.not_eq_false', beq_iff_eq, ne_eq, Decidable.not_not, List.length_map] at hc2)
        refine GC5 ?_
        refine GO1 ?_
        refine AL_makeFunc (.nil) (.cons (.ev rfl) (.nil)) ?_
        refine AL_callpi FEn.h XA HS (styling_changed_ok 242 [.rp 3 (.v (.int .i64 bit))] s (fun d p q => if allD d p q bit = true then setR d p q 0 bit else setR d p q bit 0) hs FEn.h (fun a b => styling_Toggle_1_ok s.lines a b bit hs.1)) ?_
        refine AL_norm TN ?_
        refine GO2 ?_
        refine GW ?_
        refine GO1 ?_
        refine GC3 ?_
        refine' retQ_g (H' := H) (.inr rfl) ?rv2 SU ?_
        case rv2 => exact .cons (.cell rfl LK FSz.h rfl FAg.h FSz.h rfl rfl (by decide)) (.cons (.tmp rfl) (.nil))
        refine K_eq ?_ hK
        rw [toggleS_open hs1 ((any_bit bit).symm.trans hc1) ho]; rfl
  ·
    refine' AW_drawl (xs := [_, _, _, _, _, _, _, _, _, _]) (by kernel_rfl) ?hops2 ?_
    case hops2 =>
      refine Hops_cons (fun T hl hr => ?_) ?_
      · skip
        first | refine AL_load_rp FSz.h ((hr 2 (by kernel_rfl)).trans rfl) FAg.h ?_ | refine AL_loadw FSz.h ((hr 2 (by kernel_rfl)).trans rfl) LK (by exact FAg.h) rfl ?_ | refine AL_load_pt FAg.h FSz.h (by decide) ((hr 2 (by kernel_rfl)).trans rfl) LK FSz.h (by exact rfl) (by exact rfl) (by exact rfl) ?_
        refine AL_nil ?_
        refine qpost_mk ?_
        exact Weak.refl _
      refine Hops_norm (by first | (simp only [tput, List.set_cons_zero, List.set_cons_succ, hs1, Bool.not_false]; rfl) | rfl) ?_
      refine Hops_cons (fun T hl hr => ?_) ?_
      · skip
        refine AL_callpi FEn.h (.cons (.ev ((hr 10 (by kernel_rfl)).trans rfl)) (.nil)) HS (typing_May_ok s hs) ?_
        refine AL_nil ?_
        refine qpost_mk ?_
        exact Weak.refl _
      refine Hops_norm (by first | (simp only [tput, List.set_cons_zero, List.set_cons_succ, hs1, Bool.not_false]; rfl) | rfl) ?_
      refine Hops_cons (fun T hl hr => ?_) ?_
      · skip
        refine AL_not ((hr 11 (by kernel_rfl)).trans rfl) ?_
        refine AL_nil ?_
        refine qpost_mk ?_
        exact Weak.refl _
      refine Hops_norm (by first | (simp only [tput, List.set_cons_zero, List.set_cons_succ, hs1, Bool.not_false]; rfl) | rfl) ?_
      refine Hops_cons (fun T hl hr => ?_) ?_
      · skip
        refine AL_move ((hr 12 (by kernel_rfl)).trans rfl) ?_
        refine AL_nil ?_
        refine qpost_mk ?_
        exact Weak.refl _
      refine Hops_norm (by first | (simp only [tput, List.set_cons_zero, List.set_cons_succ, hs1, Bool.not_false]; rfl) | rfl) ?_
      refine Hops_cons (fun T hl hr => ?_) ?_
      · skip
        refine AL_leave rfl ((hr 13 rfl).trans rfl) (by decide) ?_
        refine AL_nil ?_
        refine qpost_mk ?_
        exact Weak.refl _
      refine Hops_norm (by first | (simp only [tput, List.set_cons_zero, List.set_cons_succ, hs1, Bool.not_false]; rfl) | rfl) ?_
      refine Hops_cons (fun T hl hr => ?_) ?_
      · skip
        refine AL_leave rfl ((hr 13 rfl).trans rfl) (by decide) ?_
        refine AL_nil ?_
        refine qpost_mk ?_
        exact Weak.refl _
      refine Hops_norm (by first | (simp only [tput, List.set_cons_zero, List.set_cons_succ, hs1, Bool.not_false]; rfl) | rfl) ?_
      refine Hops_cons (fun T hl hr => ?_) ?_
      · skip
        refine AL_leave rfl ((hr 13 rfl).trans rfl) (by decide) ?_
        refine AL_nil ?_
        refine qpost_mk ?_
        exact Weak.refl _
      refine Hops_norm (by first | (simp only [tput, List.set_cons_zero, List.set_cons_succ, hs1, Bool.not_false]; rfl) | rfl) ?_
      refine Hops_cons (fun T hl hr => ?_) ?_
      · skip
        refine AL_leave rfl ((hr 13 rfl).trans rfl) (by decide) ?_
        refine AL_nil ?_
        refine qpost_mk ?_
        exact Weak.refl _
      refine Hops_norm (by first | (simp only [tput, List.set_cons_zero, List.set_cons_succ, hs1, Bool.not_false]; rfl) | rfl) ?_
      refine Hops_cons (fun T hl hr => ?_) ?_
      · skip
        first | refine AL_pick_t ((hr 13 (by kernel_rfl)).trans rfl) rfl ?_ | refine AL_pick_f ((hr 13 (by kernel_rfl)).trans rfl) ((hr 17 (by kernel_rfl)).trans rfl) ?_
        refine AL_nil ?_
        refine qpost_mk ?_
        exact Weak.refl _
      refine Hops_norm (by first | (simp only [tput, List.set_cons_zero, List.set_cons_succ, hs1, Bool.not_false]; rfl) | rfl) ?_
      refine Hops_cons (fun T hl hr => ?_) ?_
      · skip
        refine AL_assign ((hr 18 (by kernel_rfl)).trans rfl) ?_
        refine AL_nil ?_
        refine qpost_mk ?_
        exact Weak.refl _
      refine Hops_norm (by first | (simp only [tput, List.set_cons_zero, List.set_cons_succ, hs1, Bool.not_false]; rfl) | rfl) ?_
      exact Hops_nil
    refine Q_norm (by first | (simp only [Tfin, tput, anyAt, setAll, List.foldl_cons, List.foldl_nil, List.set_cons_zero, List.set_cons_succ, hs1, Bool.not_false]; rfl) | rfl) ?_
    refine GC1 ?_
    refine AW_cond rfl (fun hc3 => ?_) (fun hc3 => ?_)
    · (try simp only [Bool.or_eq_true, Bool.and_eq_true, Bool.or_eq_false_iff, Bool.and_eq_false_iff, decide_eq_true_eq, decide_eq_false_iff_not, Bool.not_eq_true', Bool.not_eq_false', beq_iff_eq, ne_eq, Decidable.not_not, List.length_map] at hc3)
      refine GC2 ?_
      refine AL_build_struct (zs := [_, _, _, _, _, _, _]) (pl := [(0, 1), (1, 2), (3, 2), (5, 1), (6, 1)]) Tryz.underlying26 FZe.h (.sl (e := 60) (.v (.v (.v (.v (.v (.v .nil))))))) (by kernel_rfl) (.nil) rfl ?_
      refine AL_norm TN ?_
      refine GW ?_
      refine GO1 ?_
      refine GC5 ?_
      refine' retQ_g (H' := H) (.inr rfl) ?rv3 SU ?_
      case rv3 => exact .cons (.cell rfl LK FSz.h rfl FAg.h FSz.h rfl rfl (by decide)) (.cons (.tmp rfl) (.nil))
      refine K_eq ?_ hK
      rw [toggleS_no (.inl hs1)]; rfl
    · exfalso; simp_all


end Go.Proofs
