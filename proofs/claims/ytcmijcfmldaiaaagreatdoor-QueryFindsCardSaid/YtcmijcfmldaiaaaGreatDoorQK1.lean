/- The given statement of the law: for every input the law answers true. No conditions of our own. -/
import Derived.Test.YtcmijcfmldaiaaaGreatDoorQJ
import Derived.Test.YtcmijcfmldaiaaaGreatDoorProg
set_option autoImplicit false
set_option linter.unusedVariables false
set_option linter.unusedSimpArgs false
set_option maxRecDepth 100000
set_option maxHeartbeats 4000000
namespace Go.Proofs
open Go Go.RowKit Go.AL Go.Q Go.IntWalk
theorem en242 : entersOf Tryz.prog 242 = true := by kernel_rfl
theorem en240 : entersOf Tryz.prog 240 = true := by kernel_rfl
theorem en241 : entersOf Tryz.prog 241 = true := by kernel_rfl
theorem en156 : entersOf Tryz.prog 156 = true := by kernel_rfl

/-- quillwork/styling.Toggle -/
theorem styling_ToggleO_ok (s : Q.St) (bit : Int) (hs : SS s) (ho : s.a ≠ s.f) :
  PI TQ Tryz.prog 155 [stAV s, .v (.int .i64 bit)] (rsAV (toggleS s bit)) := by
 intro H K hT hK
 refine AC_of Tryz.func155 rfl (rs := [.cell 4 26, .tmp 5]) rfl Tryz.ntmps155 rfl ?_
 refine AW_norm TP ?_
 refine AW_seq ?_
 refine AW_region ?_
 refine AL_box rfl rfl sz26 rfl ?_
 intro b1 hb1
 refine AL_norm TN ?_
 refine AL_frzpt 2 rfl (AH.upd_same _ _ _) ?_
 refine AL_heap (AH.upd_none_eq hb1) ?_
 refine AL_norm TN ?_
 clear hb1
 refine AL_box rfl rfl sz3 rfl ?_
 intro b2 hb2
 refine AL_norm TN ?_
 refine AL_frzpt 3 rfl (AH.upd_same _ _ _) ?_
 refine AL_heap (AH.upd_none_eq hb2) ?_
 refine AL_norm TN ?_
 clear hb2
 refine AL_alloc ze26 (.agg (.own (.v (.v (.v (.v (.v (.v .nil)))))))) rfl sz26 rfl ?_
 intro b3 hb3
 have hn3 : H b3 = none := SubH.none SU hb3
 refine AL_assign rfl ?_
 refine AL_norm TN ?_
 refine AL_nil (seqQ_n (AW_seq (AW_region ?_)))
 refine AL_callp en240 (.nil) (styling_toggled_ok) ?_
 refine AL_norm TN ?_
 refine AL_alloc ze207 (.agg (.v (.v (.v (.v .nil))))) rfl sz207 rfl ?_
 intro b4 hb4
 have hn4 : H b4 = none := SubH.none SU hb4
 have hd4_3 : b4 ≠ b3 := AH.fresh_ne hb4 LK
 have hd3_4 : b3 ≠ b4 := Ne.symm hd4_3
 first | refine AL_store_w sz207 rfl (.ev rfl) rfl LK rfl (by exact rfl) ?_ | refine AL_store rfl (.ev rfl) rfl LK (by first | assumption | exact sz3 | exact sz57 | exact sz60 | exact sz21 | exact sz9 | exact sz52 | exact sz58 | exact sz24 | exact sz26 | exact sz22 | exact sz127 | exact sz223 | exact sz213 | exact sz207 | exact sz99 | exact sz30 | exact sz4) (by exact rfl) sz207 rfl (by decide) (fun h => by first | (cases h; done) | exact ⟨rfl, rfl, rfl⟩) ?_
 refine AL_heap (by first | (simp only [AH.upd_upd]; rfl) | rfl) ?_
 refine AL_norm TN ?_
 refine AL_frzpt 6 rfl (AH.upd_same _ _ _) ?_; refine AL_heap (AH.upd_none_eq hb4) ?_; clear hb4
 refine AL_norm TN ?_
 refine AL_norm TN ?_
 refine AL_nil ?_
 refine seqQ_n ?_
 refine AW_seq ?_
 refine AW_block ?_
 refine AW_seq ?_
 rcases Bool.eq_false_or_eq_true (stOK s) with hs1 | hs1
 ·
  refine' AW_drawl (xs := [_, _, _, _, _, _, _, _, _, _]) (by kernel_rfl) ?hops1 ?_
  case hops1 =>
   refine Hops_cons (fun T hl hr => ?_) ?_
   · skip
    first | refine AL_load_rp sz26 ((hr 2 (by kernel_rfl)).trans rfl) ag26 ?_ | refine AL_loadw sz26 ((hr 2 (by kernel_rfl)).trans rfl) LK (by exact ag26) (by exact rfl) ?_ | refine AL_load_pt ag26 sz26 (by decide) ((hr 2 (by kernel_rfl)).trans rfl) LK (by first | assumption | exact sz3 | exact sz57 | exact sz60 | exact sz21 | exact sz9 | exact sz52 | exact sz58 | exact sz24 | exact sz26 | exact sz22 | exact sz127 | exact sz223 | exact sz213 | exact sz207 | exact sz99 | exact sz30 | exact sz4) (by exact rfl) (by exact rfl) (by exact rfl) ?_
    refine AL_nil ?_
    refine qpost_mk ?_
    exact Weak.refl _
   refine Hops_norm (by first | (simp only [tput, List.set_cons_zero, List.set_cons_succ, hs1, Bool.not_true]; rfl) | rfl) ?_
   refine Hops_cons (fun T hl hr => ?_) ?_
   · skip
    refine AL_callpi en23 (.cons (.ev ((hr 10 (by kernel_rfl)).trans rfl)) (.nil)) HS (typing_May_ok s hs) ?_
    refine AL_nil ?_
    refine qpost_mk ?_
    exact Weak.refl _
   refine Hops_norm (by first | (simp only [tput, List.set_cons_zero, List.set_cons_succ, hs1, Bool.not_true]; rfl) | rfl) ?_
   refine Hops_cons (fun T hl hr => ?_) ?_
   · skip
    refine AL_not ((hr 11 (by kernel_rfl)).trans rfl) ?_
    refine AL_nil ?_
    refine qpost_mk ?_
    exact Weak.refl _
   refine Hops_norm (by first | (simp only [tput, List.set_cons_zero, List.set_cons_succ, hs1, Bool.not_true]; rfl) | rfl) ?_
   refine Hops_cons (fun T hl hr => ?_) ?_
   · skip
    refine AL_move ((hr 12 (by kernel_rfl)).trans rfl) ?_
    refine AL_nil ?_
    refine qpost_mk ?_
    exact Weak.refl _
   refine Hops_norm (by first | (simp only [tput, List.set_cons_zero, List.set_cons_succ, hs1, Bool.not_true]; rfl) | rfl) ?_
   refine Hops_cons (fun T hl hr => ?_) ?_
   · skip
    refine AL_take rfl ((hr 13 rfl).trans rfl) ?_
    refine AL_slice_arr (xs := [.v (.int .i64 1), .v (.int .i64 2), .v (.int .i64 4), .v (.int .i64 8)]) un207 sz3 ((hr 6 (by kernel_rfl)).trans rfl) rfl rfl rfl ?_
    refine AL_nil ?_
    refine qpost_mk ?_
    exact Weak.refl _
   refine Hops_norm (by first | (simp only [tput, List.set_cons_zero, List.set_cons_succ, hs1, Bool.not_true]; rfl) | rfl) ?_
   refine Hops_cons (fun T hl hr => ?_) ?_
   · skip
    refine AL_take rfl ((hr 13 rfl).trans rfl) ?_
    first | refine AL_load_rp sz3 ((hr 3 (by kernel_rfl)).trans rfl) ag3 ?_ | refine AL_loadw sz3 ((hr 3 (by kernel_rfl)).trans rfl) LK (by exact ag3) (by exact rfl) ?_ | refine AL_load_pt ag3 sz3 (by decide) ((hr 3 (by kernel_rfl)).trans rfl) LK (by first | assumption | exact sz3 | exact sz57 | exact sz60 | exact sz21 | exact sz9 | exact sz52 | exact sz58 | exact sz24 | exact sz26 | exact sz22 | exact sz127 | exact sz223 | exact sz213 | exact sz207 | exact sz99 | exact sz30 | exact sz4) (by exact rfl) (by exact rfl) (by exact rfl) ?_
    refine AL_nil ?_
    refine qpost_mk ?_
    exact Weak.refl _
   refine Hops_norm (by first | (simp only [tput, List.set_cons_zero, List.set_cons_succ, hs1, Bool.not_true]; rfl) | rfl) ?_
   refine Hops_cons (fun T hl hr => ?_) ?_
   · skip
    refine AL_take rfl ((hr 13 rfl).trans rfl) ?_
    refine AL_callp en241 (.cons (.ev ((hr 14 (by kernel_rfl)).trans rfl)) (.cons (.ev ((hr 15 (by kernel_rfl)).trans rfl)) (.nil))) (slices_Contains_int_int_ok [1, 2, 4, 8] bit (by decide)) ?_
    refine AL_nil ?_
    refine qpost_mk ?_
    exact Weak.refl _
   refine Hops_norm (by first | (simp only [tput, List.set_cons_zero, List.set_cons_succ, hs1, Bool.not_true]; rfl) | rfl) ?_
   refine Hops_cons (fun T hl hr => ?_) ?_
   · skip
    refine AL_take rfl ((hr 13 rfl).trans rfl) ?_
    refine AL_not ((hr 16 (by kernel_rfl)).trans rfl) ?_
    refine AL_nil ?_
    refine qpost_mk ?_
    exact Weak.refl _
   refine Hops_norm (by first | (simp only [tput, List.set_cons_zero, List.set_cons_succ, hs1, Bool.not_true]; rfl) | rfl) ?_
   refine Hops_cons (fun T hl hr => ?_) ?_
   · skip
    first | refine AL_pick_t ((hr 13 (by kernel_rfl)).trans rfl) rfl ?_ | refine AL_pick_f ((hr 13 (by kernel_rfl)).trans rfl) ((hr 17 (by kernel_rfl)).trans rfl) ?_
    refine AL_nil ?_
    refine qpost_mk ?_
    exact Weak.refl _
   refine Hops_norm (by first | (simp only [tput, List.set_cons_zero, List.set_cons_succ, hs1, Bool.not_true]; rfl) | rfl) ?_
   refine Hops_cons (fun T hl hr => ?_) ?_
   · skip
    refine AL_assign ((hr 18 (by kernel_rfl)).trans rfl) ?_
    refine AL_nil ?_
    refine qpost_mk ?_
    exact Weak.refl _
   refine Hops_norm (by first | (simp only [tput, List.set_cons_zero, List.set_cons_succ, hs1, Bool.not_true]; rfl) | rfl) ?_
   exact Hops_nil
  refine Q_norm (by first | (simp only [Tfin, tput, anyAt, setAll, List.foldl_cons, List.foldl_nil, List.set_cons_zero, List.set_cons_succ, hs1, Bool.not_true]; rfl) | rfl) ?_
  refine seqQ_n ?_
  refine AW_cond rfl (fun hc1 => ?_) (fun hc1 => ?_)
  · try simp only [Bool.or_eq_true, Bool.and_eq_true, Bool.or_eq_false_iff, Bool.and_eq_false_iff, decide_eq_true_eq, decide_eq_false_iff_not, Bool.not_eq_true', Bool.not_eq_false', beq_iff_eq, ne_eq, Decidable.not_not, List.length_map] at hc1
   refine AW_seq ?_
   refine AW_region ?_
   refine AL_build_struct (zs := [_, _, _, _, _, _, _]) (pl := [(0, 1), (1, 2), (3, 2), (5, 1), (6, 1)]) Tryz.underlying26 ze26 (.sl (e := 60) (.v (.v (.v (.v (.v (.v .nil))))))) (by kernel_rfl) (.nil) rfl ?_
   first | refine AL_store_w sz26 rfl (.ev rfl) rfl LK rfl (by exact rfl) ?_ | refine AL_store rfl (.ev rfl) rfl LK (by first | assumption | exact sz3 | exact sz57 | exact sz60 | exact sz21 | exact sz9 | exact sz52 | exact sz58 | exact sz24 | exact sz26 | exact sz22 | exact sz127 | exact sz223 | exact sz213 | exact sz207 | exact sz99 | exact sz30 | exact sz4) (by exact rfl) sz26 rfl (by decide) (fun h => by first | (cases h; done) | exact ⟨rfl, rfl, rfl⟩) ?_
   refine AL_heap (by first | (simp only [AH.upd_upd]; rfl) | rfl) ?_
   refine AL_norm TN ?_
   refine AL_assign rfl ?_
   refine AL_norm TN ?_
   refine AL_nil ?_
   refine seqQ_n ?_
   refine AW_ret ?_
   refine blockQ_r ?_
   refine seqQ_r ?_
   refine' retQ_g (H' := H) (.inr rfl) ?rv1 SU ?_
   case rv1 => exact .cons (.cell rfl LK (by first | assumption | exact sz3 | exact sz57 | exact sz60 | exact sz21 | exact sz9 | exact sz52 | exact sz58 | exact sz24 | exact sz26 | exact sz22 | exact sz127 | exact sz223 | exact sz213 | exact sz207 | exact sz99 | exact sz30 | exact sz4) rfl ag26 sz26 rfl rfl (by decide)) (.cons (.tmp rfl) (.nil))
   refine K_eq ?_ hK
   rw [toggleS_no (.inr ((any_bit bit).symm.trans hc1))]; rfl
  · try simp only [Bool.or_eq_true, Bool.and_eq_true, Bool.or_eq_false_iff, Bool.and_eq_false_iff, decide_eq_true_eq, decide_eq_false_iff_not, Bool.not_eq_true', Bool.not_eq_false', beq_iff_eq, ne_eq, Decidable.not_not, List.length_map] at hc1
   refine AW_seq ?_
   refine AW_region ?_
   first | refine AL_load_rp sz26 rfl ag26 ?_ | refine AL_loadw sz26 rfl LK (by exact ag26) (by exact rfl) ?_ | refine AL_load_pt ag26 sz26 (by decide) rfl LK (by first | assumption | exact sz3 | exact sz57 | exact sz60 | exact sz21 | exact sz9 | exact sz52 | exact sz58 | exact sz24 | exact sz26 | exact sz22 | exact sz127 | exact sz223 | exact sz213 | exact sz207 | exact sz99 | exact sz30 | exact sz4) (by exact rfl) (by exact rfl) (by exact rfl) ?_
   refine AL_callp en115 (.cons (.ev rfl) (.nil)) (styling_open_ok _) ?_
   refine AL_not rfl ?_
   refine AL_norm TN ?_
   refine AL_assign rfl ?_
   refine AL_norm TN ?_
   refine AL_nil ?_
   refine seqQ_n ?_
   refine AW_cond rfl (fun hc2 => ?_) (fun hc2 => ?_)
   · exfalso; simp_all
   · try simp only [Bool.or_eq_true, Bool.and_eq_true, Bool.or_eq_false_iff, Bool.and_eq_false_iff, decide_eq_true_eq, decide_eq_false_iff_not, Bool.not_eq_true', Bool.not_eq_false', beq_iff_eq, ne_eq, Decidable.not_not, List.length_map] at hc2
    refine AW_skip ?_
    refine blockQ_n ?_
    refine seqQ_n ?_
    refine AW_seq ?_
    refine AW_region ?_
    first | refine AL_load_rp sz26 rfl ag26 ?_ | refine AL_loadw sz26 rfl LK (by exact ag26) (by exact rfl) ?_ | refine AL_load_pt ag26 sz26 (by decide) rfl LK (by first | assumption | exact sz3 | exact sz57 | exact sz60 | exact sz21 | exact sz9 | exact sz52 | exact sz58 | exact sz24 | exact sz26 | exact sz22 | exact sz127 | exact sz223 | exact sz213 | exact sz207 | exact sz99 | exact sz30 | exact sz4) (by exact rfl) (by exact rfl) (by exact rfl) ?_
    refine AL_makeFunc (.nil) (.cons (.ev rfl) (.nil)) ?_
    refine AL_callpi en156 (.cons (.ev rfl) (.cons (.ev rfl) (.nil))) HS (styling_changed_ok 242 [.rp 3 (.v (.int .i64 bit))] s (fun d p q => if allD d p q bit = true then setR d p q 0 bit else setR d p q bit 0) hs en242 (fun a b => styling_Toggle_1_ok s.lines a b bit hs.1)) ?_
    refine AL_norm TN ?_
    refine AL_extract rfl rfl ?_
    refine AL_extract rfl rfl ?_
    first | refine AL_store_w sz26 rfl (.ev rfl) rfl LK rfl (by exact rfl) ?_ | refine AL_store rfl (.ev rfl) rfl LK (by first | assumption | exact sz3 | exact sz57 | exact sz60 | exact sz21 | exact sz9 | exact sz52 | exact sz58 | exact sz24 | exact sz26 | exact sz22 | exact sz127 | exact sz223 | exact sz213 | exact sz207 | exact sz99 | exact sz30 | exact sz4) (by exact rfl) sz26 rfl (by decide) (fun h => by first | (cases h; done) | exact ⟨rfl, rfl, rfl⟩) ?_
    refine AL_heap (by first | (simp only [AH.upd_upd]; rfl) | rfl) ?_
    refine AL_assign rfl ?_
    refine AL_norm TN ?_
    refine AL_nil ?_
    refine seqQ_n ?_
    refine AW_ret ?_
    refine' retQ_g (H' := H) (.inr rfl) ?rv2 SU ?_
    case rv2 => exact .cons (.cell rfl LK (by first | assumption | exact sz3 | exact sz57 | exact sz60 | exact sz21 | exact sz9 | exact sz52 | exact sz58 | exact sz24 | exact sz26 | exact sz22 | exact sz127 | exact sz223 | exact sz213 | exact sz207 | exact sz99 | exact sz30 | exact sz4) rfl ag26 sz26 rfl rfl (by decide)) (.cons (.tmp rfl) (.nil))
    refine K_eq ?_ hK
    rw [toggleS_open hs1 ((any_bit bit).symm.trans hc1) ho]; rfl
 ·
  refine' AW_drawl (xs := [_, _, _, _, _, _, _, _, _, _]) (by kernel_rfl) ?hops2 ?_
  case hops2 =>
   refine Hops_cons (fun T hl hr => ?_) ?_
   · skip
    first | refine AL_load_rp sz26 ((hr 2 (by kernel_rfl)).trans rfl) ag26 ?_ | refine AL_loadw sz26 ((hr 2 (by kernel_rfl)).trans rfl) LK (by exact ag26) (by exact rfl) ?_ | refine AL_load_pt ag26 sz26 (by decide) ((hr 2 (by kernel_rfl)).trans rfl) LK (by first | assumption | exact sz3 | exact sz57 | exact sz60 | exact sz21 | exact sz9 | exact sz52 | exact sz58 | exact sz24 | exact sz26 | exact sz22 | exact sz127 | exact sz223 | exact sz213 | exact sz207 | exact sz99 | exact sz30 | exact sz4) (by exact rfl) (by exact rfl) (by exact rfl) ?_
    refine AL_nil ?_
    refine qpost_mk ?_
    exact Weak.refl _
   refine Hops_norm (by first | (simp only [tput, List.set_cons_zero, List.set_cons_succ, hs1, Bool.not_false]; rfl) | rfl) ?_
   refine Hops_cons (fun T hl hr => ?_) ?_
   · skip
    refine AL_callpi en23 (.cons (.ev ((hr 10 (by kernel_rfl)).trans rfl)) (.nil)) HS (typing_May_ok s hs) ?_
    refine AL_nil ?_
    refine qpost_mk ?_
    exact Weak.refl _
   refine Hops_norm (by first | (simp only [tput, List.set_cons_zero, List.set_cons_succ, hs1, Bool.not_false]; rfl) | rfl) ?_
   refine Hops_cons (fun T hl hr => ?_) ?_
   · skip
    refine AL_not ((hr 11 (by kernel_rfl)).trans rfl) ?_
    refine AL_nil ?_
    refine qpost_mk ?_
    exact Weak.refl _
   refine Hops_norm (by first | (simp only [tput, List.set_cons_zero, List.set_cons_succ, hs1, Bool.not_false]; rfl) | rfl) ?_
   refine Hops_cons (fun T hl hr => ?_) ?_
   · skip
    refine AL_move ((hr 12 (by kernel_rfl)).trans rfl) ?_
    refine AL_nil ?_
    refine qpost_mk ?_
    exact Weak.refl _
   refine Hops_norm (by first | (simp only [tput, List.set_cons_zero, List.set_cons_succ, hs1, Bool.not_false]; rfl) | rfl) ?_
   refine Hops_cons (fun T hl hr => ?_) ?_
   · skip
    refine AL_leave rfl ((hr 13 rfl).trans rfl) (by decide) ?_
    refine AL_nil ?_
    refine qpost_mk ?_
    exact Weak.refl _
   refine Hops_norm (by first | (simp only [tput, List.set_cons_zero, List.set_cons_succ, hs1, Bool.not_false]; rfl) | rfl) ?_
   refine Hops_cons (fun T hl hr => ?_) ?_
   · skip
    refine AL_leave rfl ((hr 13 rfl).trans rfl) (by decide) ?_
    refine AL_nil ?_
    refine qpost_mk ?_
    exact Weak.refl _
   refine Hops_norm (by first | (simp only [tput, List.set_cons_zero, List.set_cons_succ, hs1, Bool.not_false]; rfl) | rfl) ?_
   refine Hops_cons (fun T hl hr => ?_) ?_
   · skip
    refine AL_leave rfl ((hr 13 rfl).trans rfl) (by decide) ?_
    refine AL_nil ?_
    refine qpost_mk ?_
    exact Weak.refl _
   refine Hops_norm (by first | (simp only [tput, List.set_cons_zero, List.set_cons_succ, hs1, Bool.not_false]; rfl) | rfl) ?_
   refine Hops_cons (fun T hl hr => ?_) ?_
   · skip
    refine AL_leave rfl ((hr 13 rfl).trans rfl) (by decide) ?_
    refine AL_nil ?_
    refine qpost_mk ?_
    exact Weak.refl _
   refine Hops_norm (by first | (simp only [tput, List.set_cons_zero, List.set_cons_succ, hs1, Bool.not_false]; rfl) | rfl) ?_
   refine Hops_cons (fun T hl hr => ?_) ?_
   · skip
    first | refine AL_pick_t ((hr 13 (by kernel_rfl)).trans rfl) rfl ?_ | refine AL_pick_f ((hr 13 (by kernel_rfl)).trans rfl) ((hr 17 (by kernel_rfl)).trans rfl) ?_
    refine AL_nil ?_
    refine qpost_mk ?_
    exact Weak.refl _
   refine Hops_norm (by first | (simp only [tput, List.set_cons_zero, List.set_cons_succ, hs1, Bool.not_false]; rfl) | rfl) ?_
   refine Hops_cons (fun T hl hr => ?_) ?_
   · skip
    refine AL_assign ((hr 18 (by kernel_rfl)).trans rfl) ?_
    refine AL_nil ?_
    refine qpost_mk ?_
    exact Weak.refl _
   refine Hops_norm (by first | (simp only [tput, List.set_cons_zero, List.set_cons_succ, hs1, Bool.not_false]; rfl) | rfl) ?_
   exact Hops_nil
  refine Q_norm (by first | (simp only [Tfin, tput, anyAt, setAll, List.foldl_cons, List.foldl_nil, List.set_cons_zero, List.set_cons_succ, hs1, Bool.not_false]; rfl) | rfl) ?_
  refine seqQ_n ?_
  refine AW_cond rfl (fun hc3 => ?_) (fun hc3 => ?_)
  · try simp only [Bool.or_eq_true, Bool.and_eq_true, Bool.or_eq_false_iff, Bool.and_eq_false_iff, decide_eq_true_eq, decide_eq_false_iff_not, Bool.not_eq_true', Bool.not_eq_false', beq_iff_eq, ne_eq, Decidable.not_not, List.length_map] at hc3
   refine AW_seq ?_
   refine AW_region ?_
   refine AL_build_struct (zs := [_, _, _, _, _, _, _]) (pl := [(0, 1), (1, 2), (3, 2), (5, 1), (6, 1)]) Tryz.underlying26 ze26 (.sl (e := 60) (.v (.v (.v (.v (.v (.v .nil))))))) (by kernel_rfl) (.nil) rfl ?_
   refine AL_norm TN ?_
   first | refine AL_store_w sz26 rfl (.ev rfl) rfl LK rfl (by exact rfl) ?_ | refine AL_store rfl (.ev rfl) rfl LK (by first | assumption | exact sz3 | exact sz57 | exact sz60 | exact sz21 | exact sz9 | exact sz52 | exact sz58 | exact sz24 | exact sz26 | exact sz22 | exact sz127 | exact sz223 | exact sz213 | exact sz207 | exact sz99 | exact sz30 | exact sz4) (by exact rfl) sz26 rfl (by decide) (fun h => by first | (cases h; done) | exact ⟨rfl, rfl, rfl⟩) ?_
   refine AL_heap (by first | (simp only [AH.upd_upd]; rfl) | rfl) ?_
   refine AL_assign rfl ?_
   refine AL_norm TN ?_
   refine AL_nil ?_
   refine seqQ_n ?_
   refine AW_ret ?_
   refine blockQ_r ?_
   refine seqQ_r ?_
   refine' retQ_g (H' := H) (.inr rfl) ?rv3 SU ?_
   case rv3 => exact .cons (.cell rfl LK (by first | assumption | exact sz3 | exact sz57 | exact sz60 | exact sz21 | exact sz9 | exact sz52 | exact sz58 | exact sz24 | exact sz26 | exact sz22 | exact sz127 | exact sz223 | exact sz213 | exact sz207 | exact sz99 | exact sz30 | exact sz4) rfl ag26 sz26 rfl rfl (by decide)) (.cons (.tmp rfl) (.nil))
   refine K_eq ?_ hK
   rw [toggleS_no (.inl hs1)]; rfl
  · exfalso; simp_all


end Go.Proofs
