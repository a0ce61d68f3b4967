/- The walks of the functions, each said of plain values: no conditions but those in each statement. -/
import Derived.Test.YtcmijcfmldaiaaaGreatDoorQW
import Derived.Test.YtcmijcfmldaiaaaGreatDoorProg
set_option autoImplicit false
set_option linter.unusedVariables false
set_option linter.unusedSimpArgs false
set_option maxRecDepth 100000
set_option maxHeartbeats 4000000
namespace Go.Proofs
open Go Go.RowKit Go.AL Go.Q Go.IntWalk
attribute [local irreducible] AW AL seqQ blockQ retQ loopQ roundQ asgQ grpQ mQ qpost qpostL retQN retQM
instance en155 : FEn Tryz.prog 155 := ⟨by kernel_rfl⟩
instance ag67 : FAg Tryz.prog 67 false := ⟨by kernel_rfl⟩
instance en163 : FEn Tryz.prog 163 := ⟨by kernel_rfl⟩
instance en164 : FEn Tryz.prog 164 := ⟨by kernel_rfl⟩
instance en165 : FEn Tryz.prog 165 := ⟨by kernel_rfl⟩
instance en26 : FEn Tryz.prog 26 := ⟨by kernel_rfl⟩
instance fl64_1 : FFl Tryz.prog 64 1 62 3 := ⟨by kernel_rfl⟩
instance ag62 : FAg Tryz.prog 62 false := ⟨by kernel_rfl⟩
instance sz62 : FSz Tryz.prog 62 1 := ⟨by kernel_rfl⟩

/-- quillwork/query.toggle$1 -/
theorem query_toggle_1O_ok (s : Q.St) (b : Int) (hs : SS s) (ho : s.a ≠ s.f) :
    PI TQ Tryz.prog 154 [stAV s, .rp 3 (.v (.int .i64 b))] (rsAV (toggleS s b)) := by
  intro H K hT hK
  refine AC_of Tryz.func154 rfl (rs := [.cell 3 26, .tmp 4]) rfl Tryz.ntmps154 rfl ?_
  refine AW_norm TP ?_
  refine GC2 ?_
  refine GF ?_
  refine AL_alloc FZe.h (.agg (.own (.v (.v (.v (.v (.v (.v .nil)))))))) rfl FSz.h rfl ?_
  intro b2 hb2
  have hn2 : H b2 = none := SubH.none SU hb2
  refine GO1 ?_
  refine GC4 ?_
  refine GO2 ?_
  refine AL_callpi FEn.h XA HS (styling_ToggleO_ok s b hs ho) ?_
  refine GO2 ?_
  refine GW ?_
  refine GO1 ?_
  refine GC3 ?_
  refine' retQ_g (H' := H) (.inr rfl) ?rv1 SU ?_
  case rv1 => exact .cons (.cell rfl LK FSz.h rfl FAg.h FSz.h rfl rfl (by decide)) (.cons (.tmp rfl) (.nil))
  refine K_eq ?_ hK
  rfl

/-- quillwork/query.alone$1 -/
theorem query_alone_1_ok  :
    ∀ (s : Q.St) (arg : ByteArray) (f : FuncId) (cps : List AV) (r : RS), entersOf Tryz.prog f = true → PI TQ Tryz.prog f (stAV s :: cps) (rsAV r) → PI TQ Tryz.prog 145 [stAV s, strAV arg, .rp 67 (.fn (.func f) [] cps)] (rsAV r) := by
  intro s arg f cps r hen hf H K hT hK
  refine AC_of Tryz.func145 rfl (rs := [.cell 5 26, .tmp 6]) rfl Tryz.ntmps145 rfl ?_
  refine AW_norm TP ?_
  refine GC2 ?_
  refine GF ?_
  refine AL_alloc FZe.h (.agg (.own (.v (.v (.v (.v (.v (.v .nil)))))))) rfl FSz.h rfl ?_
  intro b2 hb2
  have hn2 : H b2 = none := SubH.none SU hb2
  refine GO1 ?_
  refine GC4 ?_
  refine GO2 ?_
  refine AL_callv rfl hen (.cons (.ev rfl) (.nil)) (PI.toAC hf (Holds.sub hT (by repeat (first | exact SubH.refl _ | assumption | refine SubH.upd ?_ (by assumption))))) ?_
  rintro _ _ ⟨rfl, rfl⟩
  refine GO2 ?_
  refine GW ?_
  refine GO1 ?_
  refine GC3 ?_
  refine' retQ_g (H' := H) (.inr rfl) ?rv1 SU ?_
  case rv1 => exact .cons (.cell rfl LK FSz.h rfl FAg.h FSz.h rfl rfl (by decide)) (.cons (.tmp rfl) (.nil))
  refine K_eq ?_ hK
  rfl

/-- quillwork/query.formats -/
theorem query_formats_ok (s : Q.St) (x : ByteArray) (hs : SS s) (hx : x.size ≤ 1000000) :
    PI TQ Tryz.prog 82 [stAV s, strAV x] (rsAV (formatsS s x)) := by
  intro H K hT hK
  have hi := innerB_size x
  refine AC_of Tryz.func82 rfl (rs := [.cell 4 26, .tmp 5]) rfl Tryz.ntmps82 rfl ?_
  refine AW_norm TP ?_
  refine GC2 ?_
  refine GF ?_
  refine AL_alloc FZe.h (.agg (.own (.v (.v (.v (.v (.v (.v .nil)))))))) rfl FSz.h rfl ?_
  intro b2 hb2
  have hn2 : H b2 = none := SubH.none SU hb2
  refine GO1 ?_
  refine GC5 ?_
  refine GO4 ?_
  refine AL_and (j := 3) (n := 3) (c := 11) (t := 14) (r := 15) (v := ?v1) [12, 13, 14] rfl rfl rfl rfl rfl rfl rfl (fun hg1 => ?_) ?_; rotate_left
  · refine GS ?_
    (try simp only [Bool.or_eq_true, Bool.and_eq_true, Bool.or_eq_false_iff, Bool.and_eq_false_iff, decide_eq_true_eq, decide_eq_false_iff_not, Bool.not_eq_true', Bool.not_eq_false', beq_iff_eq, ne_eq, Decidable.not_not, List.length_map] at hg1)
    refine GO1 ?_
    first | refine AL_index_strn FUn.h rfl rfl ?_ ?_ ?_ | refine AL_index_strb FUn.h rfl rfl ?_ ?_ ?_
    · omega
    · (show 0 < _; omega)
    refine GO1 ?_
    refine AL_nil (grpQ_mk ?_)
    exact WK
  refine AL_norm TN ?_
  refine GO1 ?_
  refine AL_and (j := 8) (n := 6) (c := 16) (t := 22) (r := 23) (v := ?v2) [17, 18, 19, 20, 21, 22] rfl rfl rfl rfl rfl rfl rfl (fun hg2 => ?_) ?_; rotate_left
  · refine GS ?_
    (try simp only [Bool.or_eq_true, Bool.and_eq_true, Bool.or_eq_false_iff, Bool.and_eq_false_iff, decide_eq_true_eq, decide_eq_false_iff_not, Bool.not_eq_true', Bool.not_eq_false', beq_iff_eq, ne_eq, Decidable.not_not, List.length_map] at hg2)
    refine GO3 ?_
    refine AL_subz rfl rfl (((x.size - 1 : Nat) : Int)) (by exact sub64 (by omega) (by omega)) ?_
    first | refine AL_index_strn FUn.h rfl rfl ?_ ?_ ?_ | refine AL_index_strb FUn.h rfl rfl ?_ ?_ ?_
    · omega
    · omega
    refine AL_norm TN ?_
    refine GO1 ?_
    refine AL_nil (grpQ_mk ?_)
    exact WK
  refine AL_norm TN ?_
  refine AL_norm TN ?_
  refine GC2 ?_
  refine GI rfl (fun hc3 => ?_) (fun hc3 => ?_)
  ·
    refine GC1 ?_
    refine GO3 ?_
    refine AL_subz rfl rfl (((x.size - 1 : Nat) : Int)) (by exact sub64 (by omega) (by omega)) ?_
    first | refine AL_slice_strN (l := 1) FUn.h rfl ⟨_, rfl⟩ ⟨_, rfl⟩ ?_ ?_ ?_ | refine AL_slice_str FUn.h rfl ⟨_, _, rfl, by omega, rfl⟩ ⟨_, _, rfl, by omega, rfl⟩ ?_ ?_ ?_
    · omega
    · omega
    refine AL_norm TN ?_
    rw [show x.extract 1 (x.size - 1) = innerB x from (if_pos hc3).symm]
    refine AL_norm TN ?_
    refine GO1 ?_
    refine GC4 ?_
    refine GO1 ?_
    refine AL_callpi FEn.h XA HS (tags_Find_ok _ (by omega)) ?_
    refine AL_norm TN ?_
    refine GO5 ?_
    refine GC5 ?_
    refine GO3 ?_
    refine AL_and (j := 2) (n := 3) (c := 36) (t := 39) (r := 40) (v := ?v4) [37, 38, 39] rfl rfl rfl rfl rfl rfl rfl (fun hg4 => ?_) ?_; rotate_left
    · refine GS ?_
      (try simp only [Bool.or_eq_true, Bool.and_eq_true, Bool.or_eq_false_iff, Bool.and_eq_false_iff, decide_eq_true_eq, decide_eq_false_iff_not, Bool.not_eq_true', Bool.not_eq_false', beq_iff_eq, ne_eq, Decidable.not_not, List.length_map] at hg4)
      refine GO1 ?_
      refine AL_callp FEn.h XA (tags_Heading_ok _) ?_
      refine GO1 ?_
      refine AL_nil (grpQ_mk ?_)
      exact WK
    refine AL_norm TN ?_
    refine AL_norm TN ?_
    refine GC2 ?_
    refine GI rfl (fun hc5 => ?_) (fun hc5 => ?_)
    ·
      refine GC2 ?_
      refine AL_build_struct (zs := [_, _, _, _, _, _, _]) (pl := [(0, 1), (1, 2), (3, 2), (5, 1), (6, 1)]) Tryz.underlying26 FZe.h (.sl (e := 60) (.v (.v (.v (.v (.v (.v .nil))))))) (by kernel_rfl) (.nil) rfl ?_
      refine AL_norm TN ?_
      refine GW ?_
      refine GO1 ?_
      refine GC4 ?_
      refine' retQ_g (H' := H) (.inr rfl) ?rv1 SU ?_
      case rv1 => exact .cons (.cell rfl LK FSz.h rfl FAg.h FSz.h rfl rfl (by decide)) (.cons (.tmp rfl) (.nil))
      refine K_eq ?_ hK
      rw [formatsS, fmt_no hc5]; rfl
    ·
      refine GC3 ?_
      refine' AW_drawL (xs := [_, _, _, _, _, _, _, _]) [6] [0, 0, 1, 2, 3, 3, 4, 5] (fun m => match m with | 0 => H.upd b2 (some (.row 26 1 [.ag [.own none 0 0, .v (.int .i64 0), .v (.int .i64 0), .v (.int .i64 0), .v (.int .i64 0), .v (.int .i64 0), .v (.int .i64 0)]])) | _ => H.upd b2 (some (.row 26 1 [stAV (formatS s (Tags.headOf (((Tags.refFind (innerB x)).getD 0 : Nat) : Int))).1]))) rfl (by kernel_rfl) ?hops1 ?_
      case hops1 =>
        refine HopsL_cons (fun m T hl hr hm hm2 => ?_) ?_
        · skip
          replace hm : 0 ≤ m := hm
          replace hm2 : m ≤ 0 := hm2
          obtain rfl : m = 0 := by omega
          refine AL_heap (by rfl : _ = H.upd b2 (some (.row 26 1 [.ag [.own none 0 0, .v (.int .i64 0), .v (.int .i64 0), .v (.int .i64 0), .v (.int .i64 0), .v (.int .i64 0), .v (.int .i64 0)]]))) ?_
          first | refine AL_load_rp FSz.h ((hr 2 (by kernel_rfl)).trans rfl) FAg.h ?_ | refine AL_loadw FSz.h ((hr 2 (by kernel_rfl)).trans rfl) LK (by exact FAg.h) rfl ?_ | refine AL_load_pt FAg.h FSz.h (by decide) ((hr 2 (by kernel_rfl)).trans rfl) LK FSz.h (by exact rfl) (by exact rfl) (by exact rfl) ?_
          refine AL_nil ?_
          refine qpostL_mk ?_ ?_
          rotate_left
          exact Weak.refl _
          show SubH (H.upd b2 (some (.row 26 1 [.ag [.own none 0 0, .v (.int .i64 0), .v (.int .i64 0), .v (.int .i64 0), .v (.int .i64 0), .v (.int .i64 0), .v (.int .i64 0)]]))) _
          exact SubH.refl _
        refine HopsL_norm TO ?_
        refine HopsL_cons (fun m T hl hr hm hm2 => ?_) ?_
        · skip
          replace hm : 0 ≤ m := hm
          replace hm2 : m ≤ 0 := hm2
          obtain rfl : m = 0 := by omega
          refine AL_heap (by rfl : _ = H.upd b2 (some (.row 26 1 [.ag [.own none 0 0, .v (.int .i64 0), .v (.int .i64 0), .v (.int .i64 0), .v (.int .i64 0), .v (.int .i64 0), .v (.int .i64 0)]]))) ?_
          refine AL_move ((hr 6 (by kernel_rfl)).trans rfl) ?_
          refine AL_nil ?_
          refine qpostL_mk ?_ ?_
          rotate_left
          exact Weak.refl _
          show SubH (H.upd b2 (some (.row 26 1 [.ag [.own none 0 0, .v (.int .i64 0), .v (.int .i64 0), .v (.int .i64 0), .v (.int .i64 0), .v (.int .i64 0), .v (.int .i64 0)]]))) _
          exact SubH.refl _
        refine HopsL_norm TO ?_
        refine HopsL_cons (fun m T hl hr hm hm2 => ?_) ?_
        · skip
          replace hm : 0 ≤ m := hm
          replace hm2 : m ≤ 0 := hm2
          obtain rfl : m = 0 := by omega
          refine AL_heap (by rfl : _ = H.upd b2 (some (.row 26 1 [.ag [.own none 0 0, .v (.int .i64 0), .v (.int .i64 0), .v (.int .i64 0), .v (.int .i64 0), .v (.int .i64 0), .v (.int .i64 0)]]))) ?_
          refine AL_callp FEn.h (.cons (.ev ((hr 43 (by kernel_rfl)).trans rfl)) (.nil)) (tags_Heading_ok _) ?_
          refine AL_nil ?_
          refine qpostL_mk ?_ ?_
          rotate_left
          exact Weak.refl _
          show SubH (H.upd b2 (some (.row 26 1 [.ag [.own none 0 0, .v (.int .i64 0), .v (.int .i64 0), .v (.int .i64 0), .v (.int .i64 0), .v (.int .i64 0), .v (.int .i64 0)]]))) _
          exact SubH.refl _
        refine HopsL_norm TO ?_
        refine HopsL_cons (fun m T hl hr hm hm2 => ?_) ?_
        · skip
          replace hm : 0 ≤ m := hm
          replace hm2 : m ≤ 0 := hm2
          obtain rfl : m = 0 := by omega
          refine AL_heap (by rfl : _ = H.upd b2 (some (.row 26 1 [.ag [.own none 0 0, .v (.int .i64 0), .v (.int .i64 0), .v (.int .i64 0), .v (.int .i64 0), .v (.int .i64 0), .v (.int .i64 0)]]))) ?_
          refine AL_callpi FEn.h (.cons (.ev ((hr 42 (by kernel_rfl)).trans rfl)) (.cons (.ev ((hr 44 (by kernel_rfl)).trans rfl)) (.nil))) HS (blocks_Format_ok s _ hs) ?_
          refine AL_nil ?_
          refine qpostL_mk ?_ ?_
          rotate_left
          exact Weak.refl _
          show SubH (H.upd b2 (some (.row 26 1 [.ag [.own none 0 0, .v (.int .i64 0), .v (.int .i64 0), .v (.int .i64 0), .v (.int .i64 0), .v (.int .i64 0), .v (.int .i64 0)]]))) _
          exact SubH.refl _
        refine HopsL_norm TO ?_
        refine HopsL_cons (fun m T hl hr hm hm2 => ?_) ?_
        · skip
          replace hm : 0 ≤ m := hm
          replace hm2 : m ≤ 0 := hm2
          obtain rfl : m = 0 := by omega
          refine AL_heap (by rfl : _ = H.upd b2 (some (.row 26 1 [.ag [.own none 0 0, .v (.int .i64 0), .v (.int .i64 0), .v (.int .i64 0), .v (.int .i64 0), .v (.int .i64 0), .v (.int .i64 0)]]))) ?_
          refine AL_extract ((hr 45 (by kernel_rfl)).trans rfl) rfl ?_
          refine AL_nil ?_
          refine qpostL_mk ?_ ?_
          rotate_left
          exact Weak.refl _
          show SubH (H.upd b2 (some (.row 26 1 [.ag [.own none 0 0, .v (.int .i64 0), .v (.int .i64 0), .v (.int .i64 0), .v (.int .i64 0), .v (.int .i64 0), .v (.int .i64 0)]]))) _
          exact SubH.refl _
        refine HopsL_norm TO ?_
        refine HopsL_cons (fun m T hl hr hm hm2 => ?_) ?_
        · skip
          replace hm : 0 ≤ m := hm
          replace hm2 : m ≤ 0 := hm2
          obtain rfl : m = 0 := by omega
          refine AL_heap (by rfl : _ = H.upd b2 (some (.row 26 1 [.ag [.own none 0 0, .v (.int .i64 0), .v (.int .i64 0), .v (.int .i64 0), .v (.int .i64 0), .v (.int .i64 0), .v (.int .i64 0)]]))) ?_
          refine AL_extract ((hr 45 (by kernel_rfl)).trans rfl) rfl ?_
          refine AL_nil ?_
          refine qpostL_mk ?_ ?_
          rotate_left
          exact Weak.refl _
          show SubH (H.upd b2 (some (.row 26 1 [.ag [.own none 0 0, .v (.int .i64 0), .v (.int .i64 0), .v (.int .i64 0), .v (.int .i64 0), .v (.int .i64 0), .v (.int .i64 0)]]))) _
          exact SubH.refl _
        refine HopsL_norm TO ?_
        refine HopsL_cons (fun m T hl hr hm hm2 => ?_) ?_
        · skip
          replace hm : 0 ≤ m := hm
          replace hm2 : m ≤ 0 := hm2
          obtain rfl : m = 0 := by omega
          refine AL_heap (by rfl : _ = H.upd b2 (some (.row 26 1 [.ag [.own none 0 0, .v (.int .i64 0), .v (.int .i64 0), .v (.int .i64 0), .v (.int .i64 0), .v (.int .i64 0), .v (.int .i64 0)]]))) ?_
          first | refine AL_store_w FSz.h ((hr 4 (by kernel_rfl)).trans rfl) (.ev ((hr 46 (by kernel_rfl)).trans rfl)) rfl LK rfl (by exact rfl) ?_ | refine AL_store ((hr 4 (by kernel_rfl)).trans rfl) (.ev ((hr 46 (by kernel_rfl)).trans rfl)) rfl LK FSz.h (by exact rfl) FSz.h rfl (by decide) (fun h => by first | (cases h; done) | exact ⟨rfl, rfl, rfl⟩) ?_
          refine AL_heap (by first | (simp only [AH.upd_upd]; rfl) | rfl) ?_
          refine AL_nil ?_
          refine qpostL_mk ?_ ?_
          rotate_left
          exact Weak.refl _
          show SubH (H.upd b2 (some (.row 26 1 [stAV (formatS s (Tags.headOf (((Tags.refFind (innerB x)).getD 0 : Nat) : Int))).1]))) _
          first | exact SubH.refl _ | (refine SubH.of_eq (funext fun j => ?_); simp only [AH.upd]; (repeat' split) <;> first | rfl | omega)
        refine HopsL_norm TO ?_
        refine HopsL_cons (fun m T hl hr hm hm2 => ?_) ?_
        · skip
          replace hm : 1 ≤ m := hm
          replace hm2 : m ≤ 1 := hm2
          obtain rfl : m = 1 := by omega
          refine AL_heap (by rfl : _ = H.upd b2 (some (.row 26 1 [stAV (formatS s (Tags.headOf (((Tags.refFind (innerB x)).getD 0 : Nat) : Int))).1]))) ?_
          refine AL_assign ((hr 47 (by kernel_rfl)).trans rfl) ?_
          refine AL_nil ?_
          refine qpostL_mk ?_ ?_
          rotate_left
          exact Weak.refl _
          show SubH (H.upd b2 (some (.row 26 1 [stAV (formatS s (Tags.headOf (((Tags.refFind (innerB x)).getD 0 : Nat) : Int))).1]))) _
          exact SubH.refl _
        refine HopsL_norm TO ?_
        exact HopsL_nil
      refine Q_norm (by first | (simp only [Tfin, tput, anyAt, setAll, List.foldl_cons, List.foldl_nil, List.set_cons_zero, List.set_cons_succ]; rfl) | rfl) ?_
      refine GC2 ?_
      refine' retQ_g (H' := H) (.inr rfl) ?rv2 SU ?_
      case rv2 => exact .cons (.cell rfl LK FSz.h rfl FAg.h FSz.h rfl rfl (by decide)) (.cons (.tmp rfl) (.nil))
      refine K_eq ?_ hK
      rw [formatsS, fmt_yes hc5]; rfl
  · have hin : innerB x = x := innerB_not hc3
    refine GC4 ?_
    refine GO1 ?_
    refine AL_callpi FEn.h XA HS (tags_Find_ok _ (by omega)) ?_
    refine AL_norm TN ?_
    refine GO5 ?_
    refine GC5 ?_
    refine GO3 ?_
    refine AL_and (j := 2) (n := 3) (c := 36) (t := 39) (r := 40) (v := ?v6) [37, 38, 39] rfl rfl rfl rfl rfl rfl rfl (fun hg6 => ?_) ?_; rotate_left
    · refine GS ?_
      (try simp only [Bool.or_eq_true, Bool.and_eq_true, Bool.or_eq_false_iff, Bool.and_eq_false_iff, decide_eq_true_eq, decide_eq_false_iff_not, Bool.not_eq_true', Bool.not_eq_false', beq_iff_eq, ne_eq, Decidable.not_not, List.length_map] at hg6)
      refine GO1 ?_
      refine AL_callp FEn.h XA (tags_Heading_ok _) ?_
      refine GO1 ?_
      refine AL_nil (grpQ_mk ?_)
      exact WK
    refine AL_norm TN ?_
    refine AL_norm TN ?_
    refine GC2 ?_
    refine GI rfl (fun hc7 => ?_) (fun hc7 => ?_)
    ·
      refine GC2 ?_
      refine AL_build_struct (zs := [_, _, _, _, _, _, _]) (pl := [(0, 1), (1, 2), (3, 2), (5, 1), (6, 1)]) Tryz.underlying26 FZe.h (.sl (e := 60) (.v (.v (.v (.v (.v (.v .nil))))))) (by kernel_rfl) (.nil) rfl ?_
      refine AL_norm TN ?_
      refine GW ?_
      refine GO1 ?_
      refine GC4 ?_
      refine' retQ_g (H' := H) (.inr rfl) ?rv3 SU ?_
      case rv3 => exact .cons (.cell rfl LK FSz.h rfl FAg.h FSz.h rfl rfl (by decide)) (.cons (.tmp rfl) (.nil))
      refine K_eq ?_ hK
      rw [formatsS, hin, fmt_no hc7]; rfl
    ·
      refine GC3 ?_
      refine' AW_drawL (xs := [_, _, _, _, _, _, _, _]) [6] [0, 0, 1, 2, 3, 3, 4, 5] (fun m => match m with | 0 => H.upd b2 (some (.row 26 1 [.ag [.own none 0 0, .v (.int .i64 0), .v (.int .i64 0), .v (.int .i64 0), .v (.int .i64 0), .v (.int .i64 0), .v (.int .i64 0)]])) | _ => H.upd b2 (some (.row 26 1 [stAV (formatS s (Tags.headOf (((Tags.refFind x).getD 0 : Nat) : Int))).1]))) rfl (by kernel_rfl) ?hops2 ?_
      case hops2 =>
        refine HopsL_cons (fun m T hl hr hm hm2 => ?_) ?_
        · skip
          replace hm : 0 ≤ m := hm
          replace hm2 : m ≤ 0 := hm2
          obtain rfl : m = 0 := by omega
          refine AL_heap (by rfl : _ = H.upd b2 (some (.row 26 1 [.ag [.own none 0 0, .v (.int .i64 0), .v (.int .i64 0), .v (.int .i64 0), .v (.int .i64 0), .v (.int .i64 0), .v (.int .i64 0)]]))) ?_
          first | refine AL_load_rp FSz.h ((hr 2 (by kernel_rfl)).trans rfl) FAg.h ?_ | refine AL_loadw FSz.h ((hr 2 (by kernel_rfl)).trans rfl) LK (by exact FAg.h) rfl ?_ | refine AL_load_pt FAg.h FSz.h (by decide) ((hr 2 (by kernel_rfl)).trans rfl) LK FSz.h (by exact rfl) (by exact rfl) (by exact rfl) ?_
          refine AL_nil ?_
          refine qpostL_mk ?_ ?_
          rotate_left
          exact Weak.refl _
          show SubH (H.upd b2 (some (.row 26 1 [.ag [.own none 0 0, .v (.int .i64 0), .v (.int .i64 0), .v (.int .i64 0), .v (.int .i64 0), .v (.int .i64 0), .v (.int .i64 0)]]))) _
          exact SubH.refl _
        refine HopsL_norm TO ?_
        refine HopsL_cons (fun m T hl hr hm hm2 => ?_) ?_
        · skip
          replace hm : 0 ≤ m := hm
          replace hm2 : m ≤ 0 := hm2
          obtain rfl : m = 0 := by omega
          refine AL_heap (by rfl : _ = H.upd b2 (some (.row 26 1 [.ag [.own none 0 0, .v (.int .i64 0), .v (.int .i64 0), .v (.int .i64 0), .v (.int .i64 0), .v (.int .i64 0), .v (.int .i64 0)]]))) ?_
          refine AL_move ((hr 6 (by kernel_rfl)).trans rfl) ?_
          refine AL_nil ?_
          refine qpostL_mk ?_ ?_
          rotate_left
          exact Weak.refl _
          show SubH (H.upd b2 (some (.row 26 1 [.ag [.own none 0 0, .v (.int .i64 0), .v (.int .i64 0), .v (.int .i64 0), .v (.int .i64 0), .v (.int .i64 0), .v (.int .i64 0)]]))) _
          exact SubH.refl _
        refine HopsL_norm TO ?_
        refine HopsL_cons (fun m T hl hr hm hm2 => ?_) ?_
        · skip
          replace hm : 0 ≤ m := hm
          replace hm2 : m ≤ 0 := hm2
          obtain rfl : m = 0 := by omega
          refine AL_heap (by rfl : _ = H.upd b2 (some (.row 26 1 [.ag [.own none 0 0, .v (.int .i64 0), .v (.int .i64 0), .v (.int .i64 0), .v (.int .i64 0), .v (.int .i64 0), .v (.int .i64 0)]]))) ?_
          refine AL_callp FEn.h (.cons (.ev ((hr 43 (by kernel_rfl)).trans rfl)) (.nil)) (tags_Heading_ok _) ?_
          refine AL_nil ?_
          refine qpostL_mk ?_ ?_
          rotate_left
          exact Weak.refl _
          show SubH (H.upd b2 (some (.row 26 1 [.ag [.own none 0 0, .v (.int .i64 0), .v (.int .i64 0), .v (.int .i64 0), .v (.int .i64 0), .v (.int .i64 0), .v (.int .i64 0)]]))) _
          exact SubH.refl _
        refine HopsL_norm TO ?_
        refine HopsL_cons (fun m T hl hr hm hm2 => ?_) ?_
        · skip
          replace hm : 0 ≤ m := hm
          replace hm2 : m ≤ 0 := hm2
          obtain rfl : m = 0 := by omega
          refine AL_heap (by rfl : _ = H.upd b2 (some (.row 26 1 [.ag [.own none 0 0, .v (.int .i64 0), .v (.int .i64 0), .v (.int .i64 0), .v (.int .i64 0), .v (.int .i64 0), .v (.int .i64 0)]]))) ?_
          refine AL_callpi FEn.h (.cons (.ev ((hr 42 (by kernel_rfl)).trans rfl)) (.cons (.ev ((hr 44 (by kernel_rfl)).trans rfl)) (.nil))) HS (blocks_Format_ok s _ hs) ?_
          refine AL_nil ?_
          refine qpostL_mk ?_ ?_
          rotate_left
          exact Weak.refl _
          show SubH (H.upd b2 (some (.row 26 1 [.ag [.own none 0 0, .v (.int .i64 0), .v (.int .i64 0), .v (.int .i64 0), .v (.int .i64 0), .v (.int .i64 0), .v (.int .i64 0)]]))) _
          exact SubH.refl _
        refine HopsL_norm TO ?_
        refine HopsL_cons (fun m T hl hr hm hm2 => ?_) ?_
        · skip
          replace hm : 0 ≤ m := hm
          replace hm2 : m ≤ 0 := hm2
          obtain rfl : m = 0 := by omega
          refine AL_heap (by rfl : _ = H.upd b2 (some (.row 26 1 [.ag [.own none 0 0, .v (.int .i64 0), .v (.int .i64 0), .v (.int .i64 0), .v (.int .i64 0), .v (.int .i64 0), .v (.int .i64 0)]]))) ?_
          refine AL_extract ((hr 45 (by kernel_rfl)).trans rfl) rfl ?_
          refine AL_nil ?_
          refine qpostL_mk ?_ ?_
          rotate_left
          exact Weak.refl _
          show SubH (H.upd b2 (some (.row 26 1 [.ag [.own none 0 0, .v (.int .i64 0), .v (.int .i64 0), .v (.int .i64 0), .v (.int .i64 0), .v (.int .i64 0), .v (.int .i64 0)]]))) _
          exact SubH.refl _
        refine HopsL_norm TO ?_
        refine HopsL_cons (fun m T hl hr hm hm2 => ?_) ?_
        · skip
          replace hm : 0 ≤ m := hm
          replace hm2 : m ≤ 0 := hm2
          obtain rfl : m = 0 := by omega
          refine AL_heap (by rfl : _ = H.upd b2 (some (.row 26 1 [.ag [.own none 0 0, .v (.int .i64 0), .v (.int .i64 0), .v (.int .i64 0), .v (.int .i64 0), .v (.int .i64 0), .v (.int .i64 0)]]))) ?_
          refine AL_extract ((hr 45 (by kernel_rfl)).trans rfl) rfl ?_
          refine AL_nil ?_
          refine qpostL_mk ?_ ?_
          rotate_left
          exact Weak.refl _
          show SubH (H.upd b2 (some (.row 26 1 [.ag [.own none 0 0, .v (.int .i64 0), .v (.int .i64 0), .v (.int .i64 0), .v (.int .i64 0), .v (.int .i64 0), .v (.int .i64 0)]]))) _
          exact SubH.refl _
        refine HopsL_norm TO ?_
        refine HopsL_cons (fun m T hl hr hm hm2 => ?_) ?_
        · skip
          replace hm : 0 ≤ m := hm
          replace hm2 : m ≤ 0 := hm2
          obtain rfl : m = 0 := by omega
          refine AL_heap (by rfl : _ = H.upd b2 (some (.row 26 1 [.ag [.own none 0 0, .v (.int .i64 0), .v (.int .i64 0), .v (.int .i64 0), .v (.int .i64 0), .v (.int .i64 0), .v (.int .i64 0)]]))) ?_
          first | refine AL_store_w FSz.h ((hr 4 (by kernel_rfl)).trans rfl) (.ev ((hr 46 (by kernel_rfl)).trans rfl)) rfl LK rfl (by exact rfl) ?_ | refine AL_store ((hr 4 (by kernel_rfl)).trans rfl) (.ev ((hr 46 (by kernel_rfl)).trans rfl)) rfl LK FSz.h (by exact rfl) FSz.h rfl (by decide) (fun h => by first | (cases h; done) | exact ⟨rfl, rfl, rfl⟩) ?_
          refine AL_heap (by first | (simp only [AH.upd_upd]; rfl) | rfl) ?_
          refine AL_nil ?_
          refine qpostL_mk ?_ ?_
          rotate_left
          exact Weak.refl _
          show SubH (H.upd b2 (some (.row 26 1 [stAV (formatS s (Tags.headOf (((Tags.refFind x).getD 0 : Nat) : Int))).1]))) _
          first | exact SubH.refl _ | (refine SubH.of_eq (funext fun j => ?_); simp only [AH.upd]; (repeat' split) <;> first | rfl | omega)
        refine HopsL_norm TO ?_
        refine HopsL_cons (fun m T hl hr hm hm2 => ?_) ?_
        · skip
          replace hm : 1 ≤ m := hm
          replace hm2 : m ≤ 1 := hm2
          obtain rfl : m = 1 := by omega
          refine AL_heap (by rfl : _ = H.upd b2 (some (.row 26 1 [stAV (formatS s (Tags.headOf (((Tags.refFind x).getD 0 : Nat) : Int))).1]))) ?_
          refine AL_assign ((hr 47 (by kernel_rfl)).trans rfl) ?_
          refine AL_nil ?_
          refine qpostL_mk ?_ ?_
          rotate_left
          exact Weak.refl _
          show SubH (H.upd b2 (some (.row 26 1 [stAV (formatS s (Tags.headOf (((Tags.refFind x).getD 0 : Nat) : Int))).1]))) _
          exact SubH.refl _
        refine HopsL_norm TO ?_
        exact HopsL_nil
      refine Q_norm (by first | (simp only [Tfin, tput, anyAt, setAll, List.foldl_cons, List.foldl_nil, List.set_cons_zero, List.set_cons_succ]; rfl) | rfl) ?_
      refine GC2 ?_
      refine' retQ_g (H' := H) (.inr rfl) ?rv4 SU ?_
      case rv4 => exact .cons (.cell rfl LK FSz.h rfl FAg.h FSz.h rfl rfl (by decide)) (.cons (.tmp rfl) (.nil))
      refine K_eq ?_ hK
      rw [formatsS, hin, fmt_yes hc7]; rfl

/-- quillwork/query.Do -/
theorem query_Do_ok  :
    ∀ (s : Q.St) (name arg : ByteArray) (k : Nat) (f : FuncId) (cps : List AV) (r : RS), name.size ≤ 1000000 → idxQ name = (k : Int) → k < 17 → fnQ k = .fn (.func f) [] cps → entersOf Tryz.prog f = true → PI TQ Tryz.prog f (stAV s :: strAV arg :: cps) (rsAV r) → PI TQ Tryz.prog 13 [stAV s, strAV name, strAV arg] (rsAV r) := by
  intro s name arg k f cps r hn hk hk2 hfn hen hf H K hT hK
  refine AC_of Tryz.func13 rfl (rs := [.cell 6 26, .tmp 7]) rfl Tryz.ntmps13 rfl ?_
  refine AW_norm TP ?_
  refine GC2 ?_
  refine GF ?_
  refine AL_alloc FZe.h (.agg (.own (.v (.v (.v (.v (.v (.v .nil)))))))) rfl FSz.h rfl ?_
  intro b2 hb2
  have hn2 : H b2 = none := SubH.none SU hb2
  refine GO1 ?_
  refine GC4 ?_
  refine GO1 ?_
  refine AL_callpi FEn.h XA HS (query_Find_is name hn hk) ?_
  refine GO5 ?_
  refine GC5 ?_
  refine GO2 ?_
  refine GC2 ?_
  refine AW_cond rfl (fun hc1 => ?_) (fun hc1 => ?_)
  · exfalso; simp_all
  · (try simp only [Bool.or_eq_true, Bool.and_eq_true, Bool.or_eq_false_iff, Bool.and_eq_false_iff, decide_eq_true_eq, decide_eq_false_iff_not, Bool.not_eq_true', Bool.not_eq_false', beq_iff_eq, ne_eq, Decidable.not_not, List.length_map] at hc1)
    refine GC3 ?_
    skip
    ·
      refine' AW_drawL (xs := [_, _, _, _, _, _, _, _, _, _, _]) [9] [0, 0, 1, 2, 0, 0, 3, 4, 4, 5, 6] (fun m => match m with | 0 => H.upd b2 (some (.row 26 1 [.ag [.own none 0 0, .v (.int .i64 0), .v (.int .i64 0), .v (.int .i64 0), .v (.int .i64 0), .v (.int .i64 0), .v (.int .i64 0)]])) | _ => H.upd b2 (some (.row 26 1 [stAV r.1]))) rfl (by kernel_rfl) ?hops1 ?_
      case hops1 =>
        refine HopsL_cons (fun m T hl hr hm hm2 => ?_) ?_
        · skip
          replace hm : 0 ≤ m := hm
          replace hm2 : m ≤ 0 := hm2
          obtain rfl : m = 0 := by omega
          refine AL_heap (by rfl : _ = H.upd b2 (some (.row 26 1 [.ag [.own none 0 0, .v (.int .i64 0), .v (.int .i64 0), .v (.int .i64 0), .v (.int .i64 0), .v (.int .i64 0), .v (.int .i64 0)]]))) ?_
          refine AL_callp FEn.h (.nil) (query_table_ok) ?_
          refine AL_nil ?_
          refine qpostL_mk ?_ ?_
          rotate_left
          exact Weak.refl _
          show SubH (H.upd b2 (some (.row 26 1 [.ag [.own none 0 0, .v (.int .i64 0), .v (.int .i64 0), .v (.int .i64 0), .v (.int .i64 0), .v (.int .i64 0), .v (.int .i64 0)]]))) _
          exact SubH.refl _
        refine HopsL_norm (by first | (simp only [tput, List.set_cons_zero, List.set_cons_succ, hfn]; rfl) | rfl) ?_
        refine HopsL_cons (fun m T hl hr hm hm2 => ?_) ?_
        · skip
          replace hm : 0 ≤ m := hm
          replace hm2 : m ≤ 0 := hm2
          obtain rfl : m = 0 := by omega
          refine AL_heap (by rfl : _ = H.upd b2 (some (.row 26 1 [.ag [.own none 0 0, .v (.int .i64 0), .v (.int .i64 0), .v (.int .i64 0), .v (.int .i64 0), .v (.int .i64 0), .v (.int .i64 0)]]))) ?_
          refine AL_move ((hr 8 (by kernel_rfl)).trans rfl) ?_
          refine AL_nil ?_
          refine qpostL_mk ?_ ?_
          rotate_left
          exact Weak.refl _
          show SubH (H.upd b2 (some (.row 26 1 [.ag [.own none 0 0, .v (.int .i64 0), .v (.int .i64 0), .v (.int .i64 0), .v (.int .i64 0), .v (.int .i64 0), .v (.int .i64 0)]]))) _
          exact SubH.refl _
        refine HopsL_norm (by first | (simp only [tput, List.set_cons_zero, List.set_cons_succ, hfn]; rfl) | rfl) ?_
        refine HopsL_cons (fun m T hl hr hm hm2 => ?_) ?_
        · skip
          replace hm : 0 ≤ m := hm
          replace hm2 : m ≤ 0 := hm2
          obtain rfl : m = 0 := by omega
          refine AL_heap (by rfl : _ = H.upd b2 (some (.row 26 1 [.ag [.own none 0 0, .v (.int .i64 0), .v (.int .i64 0), .v (.int .i64 0), .v (.int .i64 0), .v (.int .i64 0), .v (.int .i64 0)]]))) ?_
          refine AL_index_arr (y := rowAV k) FUn.h FAg.h FSz.h ((hr 18 (by kernel_rfl)).trans rfl) ((hr 19 (by kernel_rfl)).trans rfl) ?_ ?_ ?_ ?_
          · omega
          · omega
          · exact table_at k hk2
          refine AL_nil ?_
          refine qpostL_mk ?_ ?_
          rotate_left
          exact Weak.refl _
          show SubH (H.upd b2 (some (.row 26 1 [.ag [.own none 0 0, .v (.int .i64 0), .v (.int .i64 0), .v (.int .i64 0), .v (.int .i64 0), .v (.int .i64 0), .v (.int .i64 0)]]))) _
          exact SubH.refl _
        refine HopsL_norm (by first | (simp only [tput, List.set_cons_zero, List.set_cons_succ, hfn]; rfl) | rfl) ?_
        refine HopsL_cons (fun m T hl hr hm hm2 => ?_) ?_
        · skip
          replace hm : 0 ≤ m := hm
          replace hm2 : m ≤ 0 := hm2
          obtain rfl : m = 0 := by omega
          refine AL_heap (by rfl : _ = H.upd b2 (some (.row 26 1 [.ag [.own none 0 0, .v (.int .i64 0), .v (.int .i64 0), .v (.int .i64 0), .v (.int .i64 0), .v (.int .i64 0), .v (.int .i64 0)]]))) ?_
          refine AL_field FFl.h FAg.h FSz.h ((hr 20 (by kernel_rfl)).trans rfl) rfl ?_
          refine AL_nil ?_
          refine qpostL_mk ?_ ?_
          rotate_left
          exact Weak.refl _
          show SubH (H.upd b2 (some (.row 26 1 [.ag [.own none 0 0, .v (.int .i64 0), .v (.int .i64 0), .v (.int .i64 0), .v (.int .i64 0), .v (.int .i64 0), .v (.int .i64 0)]]))) _
          exact SubH.refl _
        refine HopsL_norm (by first | (simp only [tput, List.set_cons_zero, List.set_cons_succ, hfn]; rfl) | rfl) ?_
        refine HopsL_cons (fun m T hl hr hm hm2 => ?_) ?_
        · skip
          replace hm : 0 ≤ m := hm
          replace hm2 : m ≤ 0 := hm2
          obtain rfl : m = 0 := by omega
          refine AL_heap (by rfl : _ = H.upd b2 (some (.row 26 1 [.ag [.own none 0 0, .v (.int .i64 0), .v (.int .i64 0), .v (.int .i64 0), .v (.int .i64 0), .v (.int .i64 0), .v (.int .i64 0)]]))) ?_
          first | refine AL_load_rp FSz.h ((hr 3 (by kernel_rfl)).trans rfl) FAg.h ?_ | refine AL_loadw FSz.h ((hr 3 (by kernel_rfl)).trans rfl) LK (by exact FAg.h) rfl ?_ | refine AL_load_pt FAg.h FSz.h (by decide) ((hr 3 (by kernel_rfl)).trans rfl) LK FSz.h (by exact rfl) (by exact rfl) (by exact rfl) ?_
          refine AL_nil ?_
          refine qpostL_mk ?_ ?_
          rotate_left
          exact Weak.refl _
          show SubH (H.upd b2 (some (.row 26 1 [.ag [.own none 0 0, .v (.int .i64 0), .v (.int .i64 0), .v (.int .i64 0), .v (.int .i64 0), .v (.int .i64 0), .v (.int .i64 0)]]))) _
          exact SubH.refl _
        refine HopsL_norm (by first | (simp only [tput, List.set_cons_zero, List.set_cons_succ, hfn]; rfl) | rfl) ?_
        refine HopsL_cons (fun m T hl hr hm hm2 => ?_) ?_
        · skip
          replace hm : 0 ≤ m := hm
          replace hm2 : m ≤ 0 := hm2
          obtain rfl : m = 0 := by omega
          refine AL_heap (by rfl : _ = H.upd b2 (some (.row 26 1 [.ag [.own none 0 0, .v (.int .i64 0), .v (.int .i64 0), .v (.int .i64 0), .v (.int .i64 0), .v (.int .i64 0), .v (.int .i64 0)]]))) ?_
          refine AL_move ((hr 2 (by kernel_rfl)).trans rfl) ?_
          refine AL_nil ?_
          refine qpostL_mk ?_ ?_
          rotate_left
          exact Weak.refl _
          show SubH (H.upd b2 (some (.row 26 1 [.ag [.own none 0 0, .v (.int .i64 0), .v (.int .i64 0), .v (.int .i64 0), .v (.int .i64 0), .v (.int .i64 0), .v (.int .i64 0)]]))) _
          exact SubH.refl _
        refine HopsL_norm (by first | (simp only [tput, List.set_cons_zero, List.set_cons_succ, hfn]; rfl) | rfl) ?_
        refine HopsL_cons (fun m T hl hr hm hm2 => ?_) ?_
        · skip
          replace hm : 0 ≤ m := hm
          replace hm2 : m ≤ 0 := hm2
          obtain rfl : m = 0 := by omega
          refine AL_heap (by rfl : _ = H.upd b2 (some (.row 26 1 [.ag [.own none 0 0, .v (.int .i64 0), .v (.int .i64 0), .v (.int .i64 0), .v (.int .i64 0), .v (.int .i64 0), .v (.int .i64 0)]]))) ?_
          refine AL_callv ((hr 21 (by kernel_rfl)).trans rfl) hen (.cons (.ev ((hr 22 (by kernel_rfl)).trans rfl)) (.cons (.ev ((hr 23 (by kernel_rfl)).trans rfl)) (.nil))) (PI.toAC hf (Holds.sub hT (by repeat (first | exact SubH.refl _ | assumption | refine SubH.upd ?_ (by assumption))))) ?_
          rintro _ _ ⟨rfl, rfl⟩
          refine AL_nil ?_
          refine qpostL_mk ?_ ?_
          rotate_left
          exact Weak.refl _
          show SubH (H.upd b2 (some (.row 26 1 [.ag [.own none 0 0, .v (.int .i64 0), .v (.int .i64 0), .v (.int .i64 0), .v (.int .i64 0), .v (.int .i64 0), .v (.int .i64 0)]]))) _
          exact SubH.refl _
        refine HopsL_norm (by first | (simp only [tput, List.set_cons_zero, List.set_cons_succ, hfn]; rfl) | rfl) ?_
        refine HopsL_cons (fun m T hl hr hm hm2 => ?_) ?_
        · skip
          replace hm : 0 ≤ m := hm
          replace hm2 : m ≤ 0 := hm2
          obtain rfl : m = 0 := by omega
          refine AL_heap (by rfl : _ = H.upd b2 (some (.row 26 1 [.ag [.own none 0 0, .v (.int .i64 0), .v (.int .i64 0), .v (.int .i64 0), .v (.int .i64 0), .v (.int .i64 0), .v (.int .i64 0)]]))) ?_
          refine AL_extract ((hr 24 (by kernel_rfl)).trans rfl) rfl ?_
          refine AL_nil ?_
          refine qpostL_mk ?_ ?_
          rotate_left
          exact Weak.refl _
          show SubH (H.upd b2 (some (.row 26 1 [.ag [.own none 0 0, .v (.int .i64 0), .v (.int .i64 0), .v (.int .i64 0), .v (.int .i64 0), .v (.int .i64 0), .v (.int .i64 0)]]))) _
          exact SubH.refl _
        refine HopsL_norm (by first | (simp only [tput, List.set_cons_zero, List.set_cons_succ, hfn]; rfl) | rfl) ?_
        refine HopsL_cons (fun m T hl hr hm hm2 => ?_) ?_
        · skip
          replace hm : 0 ≤ m := hm
          replace hm2 : m ≤ 0 := hm2
          obtain rfl : m = 0 := by omega
          refine AL_heap (by rfl : _ = H.upd b2 (some (.row 26 1 [.ag [.own none 0 0, .v (.int .i64 0), .v (.int .i64 0), .v (.int .i64 0), .v (.int .i64 0), .v (.int .i64 0), .v (.int .i64 0)]]))) ?_
          refine AL_extract ((hr 24 (by kernel_rfl)).trans rfl) rfl ?_
          refine AL_nil ?_
          refine qpostL_mk ?_ ?_
          rotate_left
          exact Weak.refl _
          show SubH (H.upd b2 (some (.row 26 1 [.ag [.own none 0 0, .v (.int .i64 0), .v (.int .i64 0), .v (.int .i64 0), .v (.int .i64 0), .v (.int .i64 0), .v (.int .i64 0)]]))) _
          exact SubH.refl _
        refine HopsL_norm (by first | (simp only [tput, List.set_cons_zero, List.set_cons_succ, hfn]; rfl) | rfl) ?_
        refine HopsL_cons (fun m T hl hr hm hm2 => ?_) ?_
        · skip
          replace hm : 0 ≤ m := hm
          replace hm2 : m ≤ 0 := hm2
          obtain rfl : m = 0 := by omega
          refine AL_heap (by rfl : _ = H.upd b2 (some (.row 26 1 [.ag [.own none 0 0, .v (.int .i64 0), .v (.int .i64 0), .v (.int .i64 0), .v (.int .i64 0), .v (.int .i64 0), .v (.int .i64 0)]]))) ?_
          first | refine AL_store_w FSz.h ((hr 6 (by kernel_rfl)).trans rfl) (.ev ((hr 25 (by kernel_rfl)).trans rfl)) rfl LK rfl (by exact rfl) ?_ | refine AL_store ((hr 6 (by kernel_rfl)).trans rfl) (.ev ((hr 25 (by kernel_rfl)).trans rfl)) rfl LK FSz.h (by exact rfl) FSz.h rfl (by decide) (fun h => by first | (cases h; done) | exact ⟨rfl, rfl, rfl⟩) ?_
          refine AL_heap (by first | (simp only [AH.upd_upd]; rfl) | rfl) ?_
          refine AL_nil ?_
          refine qpostL_mk ?_ ?_
          rotate_left
          exact Weak.refl _
          show SubH (H.upd b2 (some (.row 26 1 [stAV r.1]))) _
          first | exact SubH.refl _ | (refine SubH.of_eq (funext fun j => ?_); simp only [AH.upd]; (repeat' split) <;> first | rfl | omega)
        refine HopsL_norm (by first | (simp only [tput, List.set_cons_zero, List.set_cons_succ, hfn]; rfl) | rfl) ?_
        refine HopsL_cons (fun m T hl hr hm hm2 => ?_) ?_
        · skip
          replace hm : 1 ≤ m := hm
          replace hm2 : m ≤ 1 := hm2
          obtain rfl : m = 1 := by omega
          refine AL_heap (by rfl : _ = H.upd b2 (some (.row 26 1 [stAV r.1]))) ?_
          refine AL_assign ((hr 26 (by kernel_rfl)).trans rfl) ?_
          refine AL_nil ?_
          refine qpostL_mk ?_ ?_
          rotate_left
          exact Weak.refl _
          show SubH (H.upd b2 (some (.row 26 1 [stAV r.1]))) _
          exact SubH.refl _
        refine HopsL_norm (by first | (simp only [tput, List.set_cons_zero, List.set_cons_succ, hfn]; rfl) | rfl) ?_
        exact HopsL_nil
      refine Q_norm (by first | (simp only [Tfin, tput, anyAt, setAll, List.foldl_cons, List.foldl_nil, List.set_cons_zero, List.set_cons_succ, hfn]; rfl) | rfl) ?_
      refine GC2 ?_
      refine' retQ_g (H' := H) (.inr rfl) ?rv1 SU ?_
      case rv1 => exact .cons (.cell rfl LK FSz.h rfl FAg.h FSz.h rfl rfl (by decide)) (.cons (.tmp rfl) (.nil))
      refine K_eq ?_ hK
      rfl

/-- quillwork/query.Do -/
theorem query_DoNone_ok (s : Q.St) (name arg : ByteArray) (hn : name.size ≤ 1000000) (hk : idxQ name = -1) :
    PI TQ Tryz.prog 13 [stAV s, strAV name, strAV arg] (rsAV (s0, 2)) := by
  intro H K hT hK
  refine AC_of Tryz.func13 rfl (rs := [.cell 6 26, .tmp 7]) rfl Tryz.ntmps13 rfl ?_
  refine AW_norm TP ?_
  refine GC2 ?_
  refine GF ?_
  refine AL_alloc FZe.h (.agg (.own (.v (.v (.v (.v (.v (.v .nil)))))))) rfl FSz.h rfl ?_
  intro b2 hb2
  have hn2 : H b2 = none := SubH.none SU hb2
  refine GO1 ?_
  refine GC4 ?_
  refine GO1 ?_
  refine AL_callpi FEn.h XA HS (query_Find_no name hn hk) ?_
  refine GO5 ?_
  refine GC5 ?_
  refine GO2 ?_
  refine GC2 ?_
  refine AW_cond rfl (fun hc1 => ?_) (fun hc1 => ?_)
  · (try simp only [Bool.or_eq_true, Bool.and_eq_true, Bool.or_eq_false_iff, Bool.and_eq_false_iff, decide_eq_true_eq, decide_eq_false_iff_not, Bool.not_eq_true', Bool.not_eq_false', beq_iff_eq, ne_eq, Decidable.not_not, List.length_map] at hc1)
    refine GC2 ?_
    refine AL_build_struct (zs := [_, _, _, _, _, _, _]) (pl := [(0, 1), (1, 2), (3, 2), (5, 1), (6, 1)]) Tryz.underlying26 FZe.h (.sl (e := 60) (.v (.v (.v (.v (.v (.v .nil))))))) (by kernel_rfl) (.nil) rfl ?_
    refine AL_norm TN ?_
    refine GW ?_
    refine GO1 ?_
    refine GC4 ?_
    refine' retQ_g (H' := H) (.inr rfl) ?rv1 SU ?_
    case rv1 => exact .cons (.cell rfl LK FSz.h rfl FAg.h FSz.h rfl rfl (by decide)) (.cons (.tmp rfl) (.nil))
    refine K_eq ?_ hK
    rfl
  · exfalso; simp_all

/-- quillwork/query.listed -/
theorem query_listedN_ok (s : Q.St) (name : ByteArray) (hn : name.size ≤ 1000000) (k : Nat) (hk : idxQ name = (k : Int)) (hk2 : k < 15) :
    PI TQ Tryz.prog 48 [stAV s, strAV name] (.tup [.v (.bool false), .v (.bool false)]) := by
  intro H K hT hK
  refine AC_of Tryz.func48 rfl (rs := [.tmp 4, .tmp 5]) rfl Tryz.ntmps48 rfl ?_
  refine AW_norm TP ?_
  refine GC2 ?_
  refine GF ?_
  refine GO2 ?_
  refine GC5 ?_
  refine GO1 ?_
  refine AL_callpi FEn.h XA HS (query_Find_is name hn hk) ?_
  refine GO5 ?_
  refine GC4 ?_
  refine GO2 ?_
  refine AL_and (j := 1) (n := 2) (c := 14) (t := 16) (r := 17) (v := ?v1) [15, 16] rfl rfl rfl rfl rfl rfl rfl (fun hg1 => ?_) ?_; rotate_left
  · refine GS ?_
    (try simp only [Bool.or_eq_true, Bool.and_eq_true, Bool.or_eq_false_iff, Bool.and_eq_false_iff, decide_eq_true_eq, decide_eq_false_iff_not, Bool.not_eq_true', Bool.not_eq_false', beq_iff_eq, ne_eq, Decidable.not_not, List.length_map] at hg1)
    refine GO2 ?_
    refine AL_nil (grpQ_mk ?_)
    exact WK
  refine AL_norm TN ?_
  refine AL_norm TN ?_
  refine GC2 ?_
  refine AW_cond rfl (fun hc2 => ?_) (fun hc2 => ?_)
  · exfalso; simp only [Bool.true_and, decide_eq_true_eq] at hc2; omega
  · (try simp only [Bool.or_eq_true, Bool.and_eq_true, Bool.or_eq_false_iff, Bool.and_eq_false_iff, decide_eq_true_eq, decide_eq_false_iff_not, Bool.not_eq_true', Bool.not_eq_false', beq_iff_eq, ne_eq, Decidable.not_not, List.length_map] at hc2)
    refine GC4 ?_
    refine GO2 ?_
    refine GC3 ?_
    refine retQ_2 (H' := H) (.inr rfl) rfl rfl SU ?_
    refine K_eq ?_ hK
    rfl

/-- quillwork/query.bit -/
theorem query_bit5_ok (name : ByteArray) (hn : name.size ≤ 1000000) (hk : idxQ name = ((5 : Nat) : Int)) :
    PI TQ Tryz.prog 50 [strAV name] (.v (.int .i64 1)) := by
  intro H K hT hK
  refine AC_of Tryz.func50 rfl (rs := [.tmp 2]) rfl Tryz.ntmps50 rfl ?_
  refine AW_norm TP ?_
  refine GC2 ?_
  refine GO1 ?_
  refine GC5 ?_
  refine GO1 ?_
  refine AL_callpi FEn.h XA HS (query_Find_is name hn hk) ?_
  refine GO5 ?_
  refine GC4 ?_
  refine GO2 ?_
  refine AL_and (j := 1) (n := 2) (c := 11) (t := 13) (r := 14) (v := ?v1) [12, 13] rfl rfl rfl rfl rfl rfl rfl (fun hg1 => ?_) ?_; rotate_left
  · refine GS ?_
    (try simp only [Bool.or_eq_true, Bool.and_eq_true, Bool.or_eq_false_iff, Bool.and_eq_false_iff, decide_eq_true_eq, decide_eq_false_iff_not, Bool.not_eq_true', Bool.not_eq_false', beq_iff_eq, ne_eq, Decidable.not_not, List.length_map] at hg1)
    refine GO2 ?_
    refine AL_nil (grpQ_mk ?_)
    exact WK
  refine AL_norm TN ?_
  refine GO1 ?_
  refine AL_and (j := 5) (n := 2) (c := 15) (t := 17) (r := 18) (v := ?v2) [16, 17] rfl rfl rfl rfl rfl rfl rfl (fun hg2 => ?_) ?_; rotate_left
  · refine GS ?_
    (try simp only [Bool.or_eq_true, Bool.and_eq_true, Bool.or_eq_false_iff, Bool.and_eq_false_iff, decide_eq_true_eq, decide_eq_false_iff_not, Bool.not_eq_true', Bool.not_eq_false', beq_iff_eq, ne_eq, Decidable.not_not, List.length_map] at hg2)
    refine GO2 ?_
    refine AL_nil (grpQ_mk ?_)
    exact WK
  refine AL_norm TN ?_
  refine AL_norm TN ?_
  refine GC2 ?_
  refine AW_cond rfl (fun hc3 => ?_) (fun hc3 => ?_)
  · (try simp only [Bool.or_eq_true, Bool.and_eq_true, Bool.or_eq_false_iff, Bool.and_eq_false_iff, decide_eq_true_eq, decide_eq_false_iff_not, Bool.not_eq_true', Bool.not_eq_false', beq_iff_eq, ne_eq, Decidable.not_not, List.length_map] at hc3)
    refine GC2 ?_
    refine GO1 ?_
    refine AL_subz rfl rfl (0) (by rfl) ?_
    refine AL_norm TN ?_
    refine AL_ibin rfl rfl (by rfl) ?_
    refine GO1 ?_
    refine GC4 ?_
    refine retQ_1 (H' := H) (.inr rfl) rfl SU ?_
    refine K_eq ?_ hK
    rfl
  · exfalso; simp_all


end Go.Proofs
