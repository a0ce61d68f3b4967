/- The given statement of the law: for every input the law answers true. No conditions of our own. -/
import Derived.Test.YtcmijcfmldaiaaaGreatDoorQG
import Derived.Test.YtcmijcfmldaiaaaGreatDoorQKa
import Derived.Test.YtcmijcfmldaiaaaGreatDoorProg
set_option autoImplicit false
set_option linter.unusedVariables false
set_option linter.unusedSimpArgs false
set_option maxRecDepth 100000
set_option maxHeartbeats 4000000
namespace Go.Proofs
open Go Go.RowKit Go.AL Go.Q Go.IntWalk
attribute [local irreducible] AW AL seqQ blockQ retQ loopQ roundQ asgQ grpQ mQ qpost qpostL retQN retQM
theorem eqPos (a b : Q.Pos) (w : World) : (Op.equalIn 10000 24 (.agg [Value.int .i64 a.line, .int .i64 a.col].toArray) (.agg [Value.int .i64 b.line, .int .i64 b.col].toArray)).run Tryz.prog w = .ok (decide (a = b)) w := by
  have hS : Tryz.prog.underlying 24 = some (.struct (Tryz.prog.fieldsOf 24)) := by kernel_rfl
  have hp : Tryz.prog.stoodInHeld 24 = false := by kernel_rfl
  have a3 : ∀ w, (isAgg 3).run Tryz.prog w = .ok false w := fun w => run_isAgg' (by kernel_rfl) w
  have u3 := Tryz.underlying3
  rw [show (10000 : Nat) = 9999 + 1 from rfl, run_equalIn_agg w 9999 24 _ _ hS hp]
  simp only [Program.fieldsOf, Tryz.underlying24]
  go_simp
  by_cases h1 : a.line = b.line <;> by_cases h2 : a.col = b.col <;> simp [h1, h2, pos_ext]
instance en283 : FEn Tryz.prog 283 := ⟨by kernel_rfl⟩
instance ze207 : FZe Tryz.prog 207 (.agg #[.int .i64 0, .int .i64 0, .int .i64 0, .int .i64 0]) := ⟨by kernel_rfl⟩
instance sz207 : FSz Tryz.prog 207 4 := ⟨by kernel_rfl⟩
instance un207 : FUn Tryz.prog 207 (.array 4 3) := ⟨by kernel_rfl⟩
instance ag207 : FAg Tryz.prog 207 true := ⟨by kernel_rfl⟩
theorem eg24 : Tryz.prog.eqGuardType Tryz.prog.depth 24 = false := by kernel_rfl
instance fl26_3 : FFl Tryz.prog 26 3 3 5 := ⟨by kernel_rfl⟩
instance fl26_4 : FFl Tryz.prog 26 4 3 6 := ⟨by kernel_rfl⟩
instance en229 : FEn Tryz.prog 229 := ⟨by kernel_rfl⟩
instance en23 : FEn Tryz.prog 23 := ⟨by kernel_rfl⟩
instance en114 : FEn Tryz.prog 114 := ⟨by kernel_rfl⟩
instance en117 : FEn Tryz.prog 117 := ⟨by kernel_rfl⟩
instance en162 : FEn Tryz.prog 162 := ⟨by kernel_rfl⟩
instance en115 : FEn Tryz.prog 115 := ⟨by kernel_rfl⟩
instance en116 : FEn Tryz.prog 116 := ⟨by kernel_rfl⟩

/-- slices.Index[[]int,int] -/
theorem slices_Index_int_int_ok (zs : List Int) (v : Int) (hz : zs.length ≤ 1000) :
    PF Tryz.prog 283 [.sl 3 (zs.map intAV), .v (.int .i64 v)] (.v (.int .i64 (idxI (fun x => decide (v = x)) zs))) := by
  intro H K hK
  refine AC_of Tryz.func283 rfl (rs := [.tmp 4]) rfl Tryz.ntmps283 rfl ?_
  refine AW_norm TP ?_
  refine GC2 ?_
  refine GO1 ?_
  refine GC5 ?_
  refine GO3 ?_
  refine GC2 ?_
  refine AW_block ?_
  refine AW_loops (α := Nat) [4, 5, 8, 9, 10, 11, 12, 13, 14, 15, 16, 17, 18] (fun i => [(8, .v (.int .i64 (i : Int)))]) (fun i => H) (fun i => i ≤ zs.length ∧ ∀ j, j < i → decide (v = zs.getD j 0) = false) (fun i => zs.length - i) (0) ?_ ?_ ?_ ?_
  · exact ⟨Nat.zero_le _, fun j hj => absurd hj (Nat.not_lt_zero j)⟩
  · repeat (first | exact SubH.refl _ | assumption | refine SubH.new ?_ (by assumption))
  · skip
    exact WK
  · intro i hI
    refine AW_norm TN ?_
    refine GC2 ?_
    refine GO1 ?_
    refine GC3 ?_
    refine GI rfl (fun hc1 => ?_) (fun hc1 => ?_)
    ·
      refine GC3 ?_
      refine AW_block ?_
      refine GC2 ?_
      refine GO2 ?_
      refine GC4 ?_
      refine GO3 ?_
      first | refine AL_indexAddr_sl (y := intAV (zs.getD i 0)) FUn.h FSz.h (by decide) rfl rfl ?_ ?_ ?_ ?_ | refine AL_indexAddr_own FUn.h FSz.h rfl rfl ?_ ?_ ?_
      · omega
      · simp only [List.length_map]; omega
      · exact map_getD 0 (i := i) (by omega)
      refine GO2 ?_
      refine GC2 ?_
      refine GI rfl (fun hc2 => ?_) (fun hc2 => ?_)
      ·
        refine GC2 ?_
        refine GO2 ?_
        refine GC5 ?_
        refine loopQ_r ?_
        refine GC2 ?_
        refine retQ_1 (H' := H) (.inr rfl) rfl SU ?_
        refine K_eq ?_ hK
        exact congrArg (fun z => AV.v (.int .i64 z)) (idxI_some (p := fun x => decide (v = x)) (l := zs) (d := 0) (by omega) (decide_eq_true hc2) hI.2).symm
      ·
        refine GC4 ?_
        refine AL_addz rfl rfl (((i + 1 : Nat) : Int)) (by exact inc64 (by omega)) ?_
        refine GO1 ?_
        refine GC1 ?_
        refine loopQ_n (i + 1) ?_ ?_ ?_ ?_
        · exact ⟨by omega, upto_no2 (p := fun x => decide (v = x)) hI.2 (decide_eq_false hc2)⟩
        · omega
        · repeat (first | exact SubH.refl _ | assumption | refine SubH.new ?_ (by assumption))
        · skip
          exact WK
    ·
      refine GC2 ?_
      refine loopQ_x ?_
      refine GC4 ?_
      refine GO1 ?_
      refine GC3 ?_
      refine retQ_1 (H' := H) (.inr rfl) rfl SU ?_
      refine K_eq ?_ hK
      exact congrArg (fun z => AV.v (.int .i64 z)) (idxI_none (p := fun x => decide (v = x)) (l := zs) (d := 0) (i := i) (by omega) hI.2).symm

/-- slices.Contains[[]int,int] -/
theorem slices_Contains_int_int_ok (zs : List Int) (v : Int) (hz : zs.length ≤ 1000) :
    PF Tryz.prog 241 [.sl 3 (zs.map intAV), .v (.int .i64 v)] (.v (.bool (zs.any fun x => decide (v = x)))) := by
  intro H K hK
  refine AC_of Tryz.func241 rfl (rs := [.tmp 4]) rfl Tryz.ntmps241 rfl ?_
  refine AW_norm TP ?_
  refine GC2 ?_
  refine GO1 ?_
  refine GC4 ?_
  refine GO2 ?_
  refine AL_callp FEn.h XA (slices_Index_int_int_ok zs v hz) ?_
  refine AL_norm TN ?_
  refine GO2 ?_
  refine GC3 ?_
  refine retQ_1 (H' := H) (.inr rfl) rfl SU ?_
  refine K_eq ?_ hK
  exact congrArg (fun b => AV.v (.bool b)) (idxI_any _ zs)

/-- quillwork/styling.toggled -/
theorem styling_toggled_ok  :
    PF Tryz.prog 240 [] (.ag [.v (.int .i64 1), .v (.int .i64 2), .v (.int .i64 4), .v (.int .i64 8)]) := by
  intro H K hK
  refine AC_of Tryz.func240 rfl (rs := [.cell 0 207]) rfl Tryz.ntmps240 rfl ?_
  refine AW_norm TP ?_
  refine GC2 ?_
  refine AL_alloc FZe.h (.agg (.v (.v (.v (.v .nil))))) rfl FSz.h rfl ?_
  intro b1 hb1
  have hn1 : H b1 = none := SubH.none SU hb1
  refine AL_norm TN ?_
  refine GC4 ?_
  refine AL_build_af (zs := [_, _, _, _]) FUn.h FZe.h FSz.h (.cons (.ev rfl) rfl (.cons (.ev rfl) rfl (.cons (.ev rfl) rfl (.cons (.ev rfl) rfl (.nil))))) rfl rfl rfl ?_
  refine GW ?_
  refine AL_norm TN ?_
  refine GC3 ?_
  first | refine retQ_cw (H' := H) (.inr rfl) FSz.h rfl LK (by exact FAg.h) (by exact rfl) SU ?_ | refine retQ_c (H' := H) (.inr rfl) FAg.h FSz.h FSz.h (by decide) rfl LK (by exact rfl) (by exact rfl) (by exact rfl) SU ?_
  refine K_eq ?_ hK
  rfl

/-- quillwork/styling.open -/
theorem styling_open_ok (s : Q.St) :
    PF Tryz.prog 115 [stAV s] (.v (.bool (decide (s.a ≠ s.f)))) := by
  intro H K hK
  refine AC_of Tryz.func115 rfl (rs := [.tmp 2]) rfl Tryz.ntmps115 rfl ?_
  refine AW_norm TP ?_
  refine GC2 ?_
  refine GF ?_
  refine GO1 ?_
  refine GC4 ?_
  refine GO4 ?_
  refine AL_nest (vs := [Value.int .i64 s.a.line, .int .i64 s.a.col]) (us := [Value.int .i64 s.f.line, .int .i64 s.f.col]) (b := decide (s.a = s.f)) rfl rfl eg24 (eqPos s.a s.f) ?_
  refine GO1 ?_
  refine GC3 ?_
  refine retQ_1 (H' := H) (.inr rfl) rfl SU ?_
  refine K_eq ?_ hK
  exact congrArg (fun b => AV.v (.bool b)) (open_mk s)

/-- quillwork/typing.May -/
theorem typing_May_ok (s : Q.St) (hs : SS s) :
    PI TQ Tryz.prog 23 [stAV s] (.v (.bool (stOK s))) := by
  intro H K hT hK
  refine AC_of Tryz.func23 rfl (rs := [.tmp 2]) rfl Tryz.ntmps23 rfl ?_
  refine AW_norm TP ?_
  refine GC2 ?_
  refine GF ?_
  refine GO1 ?_
  refine GC4 ?_
  refine GO2 ?_
  refine AL_callpi FEn.h XA HS (doc_May_ok s.lines hs.1) ?_
  refine GO1 ?_
  refine AL_and (j := 3) (n := 5) (c := 6) (t := 11) (r := 12) (v := ?v1) [7, 8, 9, 10, 11] rfl rfl rfl rfl rfl rfl rfl (fun hg1 => ?_) ?_; rotate_left
  · refine GS ?_
    (try simp only [Bool.or_eq_true, Bool.and_eq_true, Bool.or_eq_false_iff, Bool.and_eq_false_iff, decide_eq_true_eq, decide_eq_false_iff_not, Bool.not_eq_true', Bool.not_eq_false', beq_iff_eq, ne_eq, Decidable.not_not, List.length_map] at hg1)
    refine GO4 ?_
    refine AL_callp FEn.h XA (doc_Is_ok _ _) ?_
    refine AL_nil (grpQ_mk ?_)
    exact WK
  refine AL_norm TN ?_
  refine GO1 ?_
  refine AL_and (j := 10) (n := 5) (c := 13) (t := 18) (r := 19) (v := ?v2) [14, 15, 16, 17, 18] rfl rfl rfl rfl rfl rfl rfl (fun hg2 => ?_) ?_; rotate_left
  · refine GS ?_
    (try simp only [Bool.or_eq_true, Bool.and_eq_true, Bool.or_eq_false_iff, Bool.and_eq_false_iff, decide_eq_true_eq, decide_eq_false_iff_not, Bool.not_eq_true', Bool.not_eq_false', beq_iff_eq, ne_eq, Decidable.not_not, List.length_map] at hg2)
    refine GO4 ?_
    refine AL_callp FEn.h XA (doc_Is_ok _ _) ?_
    refine AL_nil (grpQ_mk ?_)
    exact WK
  refine AL_norm TN ?_
  refine GO1 ?_
  refine AL_and (j := 17) (n := 4) (c := 20) (t := 24) (r := 25) (v := ?v3) [21, 22, 23, 24] rfl rfl rfl rfl rfl rfl rfl (fun hg3 => ?_) ?_; rotate_left
  · refine GS ?_
    (try simp only [Bool.or_eq_true, Bool.and_eq_true, Bool.or_eq_false_iff, Bool.and_eq_false_iff, decide_eq_true_eq, decide_eq_false_iff_not, Bool.not_eq_true', Bool.not_eq_false', beq_iff_eq, ne_eq, Decidable.not_not, List.length_map] at hg3)
    refine GO2 ?_
    refine AL_bits rfl rfl (by decide) ?_
    refine GO1 ?_
    refine AL_nil (grpQ_mk ?_)
    exact WK
  refine AL_norm TN ?_
  refine GO1 ?_
  refine AL_and (j := 23) (n := 4) (c := 26) (t := 30) (r := 31) (v := ?v4) [27, 28, 29, 30] rfl rfl rfl rfl rfl rfl rfl (fun hg4 => ?_) ?_; rotate_left
  · refine GS ?_
    (try simp only [Bool.or_eq_true, Bool.and_eq_true, Bool.or_eq_false_iff, Bool.and_eq_false_iff, decide_eq_true_eq, decide_eq_false_iff_not, Bool.not_eq_true', Bool.not_eq_false', beq_iff_eq, ne_eq, Decidable.not_not, List.length_map] at hg4)
    refine GO2 ?_
    refine AL_bits rfl rfl (by decide) ?_
    refine GO1 ?_
    refine AL_nil (grpQ_mk ?_)
    exact WK
  refine AL_norm TN ?_
  refine GO1 ?_
  refine AL_and (j := 29) (n := 6) (c := 32) (t := 38) (r := 39) (v := ?v5) [33, 34, 35, 36, 37, 38] rfl rfl rfl rfl rfl rfl rfl (fun hg5 => ?_) ?_; rotate_left
  · refine GS ?_
    (try simp only [Bool.or_eq_true, Bool.and_eq_true, Bool.or_eq_false_iff, Bool.and_eq_false_iff, decide_eq_true_eq, decide_eq_false_iff_not, Bool.not_eq_true', Bool.not_eq_false', beq_iff_eq, ne_eq, Decidable.not_not, List.length_map] at hg5)
    refine GO4 ?_
    refine AL_bits rfl rfl (by decide) ?_
    refine GO1 ?_
    refine AL_nil (grpQ_mk ?_)
    exact WK
  refine AL_norm TN ?_
  refine GO1 ?_
  refine GC3 ?_
  refine retQ_1 (H' := H) (.inr rfl) rfl SU ?_
  refine K_eq ?_ hK
  exact congrArg (fun b => AV.v (.bool b)) (stOK_mk s hs)

/-- quillwork/lines.Format$1 -/
theorem lines_Format_1_ok  :
    ∀ (k : Int) (l : Line), TurnC Tryz.prog 292 [.rp 3 (.v (.int .i64 k))] l (formatR k l) := by
  intro k l H K b hH hK
  refine AC_of Tryz.func292 rfl (rs := [.tmp 3]) rfl Tryz.ntmps292 rfl ?_
  refine AW_norm TP ?_
  refine GC2 ?_
  refine GO1 ?_
  refine GC4 ?_
  refine GO5 ?_
  refine GC4 ?_
  refine GO4 ?_
  refine GW ?_
  refine AL_norm TN ?_
  refine GC4 ?_
  refine GO7 ?_
  refine AL_and (j := 6) (n := 3) (c := 19) (t := 22) (r := 23) (v := ?v1) [20, 21, 22] rfl rfl rfl rfl rfl rfl rfl (fun hg1 => ?_) ?_; rotate_left
  · refine GS ?_
    (try simp only [Bool.or_eq_true, Bool.and_eq_true, Bool.or_eq_false_iff, Bool.and_eq_false_iff, decide_eq_true_eq, decide_eq_false_iff_not, Bool.not_eq_true', Bool.not_eq_false', beq_iff_eq, ne_eq, Decidable.not_not, List.length_map] at hg1)
    refine GO3 ?_
    refine AL_nil (grpQ_mk ?_)
    exact WK
  refine AL_norm TN ?_
  refine GO1 ?_
  refine GC3 ?_
  refine retQ_1 (H' := H.upd b (some (.row 60 1 [lineAV { l with kind := k }]))) (.inr rfl) rfl (SubH.refl _) ?_
  rw [List.length_map]; exact turnK_mk hK (formatR_some k l) (fun x' h => formatR_eq h)

/-- quillwork/lines.turned -/
theorem lines_turned_ok  :
    ∀ (f : FuncId) (cps : List AV) (l : Line) (r : Option Line), LS l → entersOf Tryz.prog f = true → TurnC Tryz.prog f cps l r → PI TQ Tryz.prog 229 [lineAV l, .fn (.func f) [] cps] (lrAV (turned l r)) := by
  intro f cps l r hl hen hch H K hT hK
  refine AC_of Tryz.func229 rfl (rs := [.cell 4 60, .tmp 5]) rfl Tryz.ntmps229 rfl ?_
  refine AW_norm TP ?_
  refine GC2 ?_
  refine AL_box rfl rfl FSz.h rfl ?_
  intro b1 hb1
  have hn1 : H b1 = none := SubH.none SU hb1
  refine AL_alloc FZe.h (.agg (.v (.own (.v (.own .nil))))) rfl FSz.h rfl ?_
  intro b2 hb2
  have hn2 : H b2 = none := SubH.none SU hb2
  have hd2_1 : b2 ≠ b1 := AH.fresh_ne hb2 LK
  have hd1_2 : b1 ≠ b2 := Ne.symm hd2_1
  refine GO1 ?_
  refine GC5 ?_
  refine GO1 ?_
  refine AL_callpi FEn.h XA HS (lines_May_ok l hl) ?_
  refine GO1 ?_
  refine GC2 ?_
  refine GI rfl (fun hc1 => ?_) (fun hc1 => ?_)
  ·
    refine GC2 ?_
    refine AL_build_struct (zs := [_, _, _, _]) (pl := [(0, 1), (1, 1), (2, 1), (3, 1)]) Tryz.underlying60 FZe.h (.v (.sl (e := 3) (.v (.sl (e := 57) .nil)))) (by kernel_rfl) (.nil) rfl ?_
    refine GW ?_
    refine AL_norm TN ?_
    refine GO1 ?_
    refine GC4 ?_
    refine' retQ_g (H' := H) (.inr rfl) ?rv1 SU ?_
    case rv1 => exact .cons (.cell rfl LK FSz.h rfl FAg.h FSz.h rfl rfl (by decide)) (.cons (.tmp rfl) (.nil))
    refine K_eq ?_ hK
    rw [turned_no hc1]; rfl
  ·
    refine GC4 ?_
    refine GO1 ?_
    refine AL_callp FEn.h XA (lines_Own_ok l hl) ?_
    refine GW ?_
    refine AL_norm TN ?_
    refine GC5 ?_
    refine GO1 ?_
    refine AL_callv rfl hen (.cons (.ev rfl) (.nil)) ((hch.ac LK)) ?_
    rintro _ _ ⟨y, rfl, hy, rfl⟩
    refine GO1 ?_
    refine GC2 ?_
    refine GI rfl (fun hc2 => ?_) (fun hc2 => ?_)
    ·
      refine GC2 ?_
      refine AL_build_struct (zs := [_, _, _, _]) (pl := [(0, 1), (1, 1), (2, 1), (3, 1)]) Tryz.underlying60 FZe.h (.v (.sl (e := 3) (.v (.sl (e := 57) .nil)))) (by kernel_rfl) (.nil) rfl ?_
      refine GW ?_
      refine AL_norm TN ?_
      refine GO1 ?_
      refine GC4 ?_
      refine' retQ_g (H' := H) (.inr rfl) ?rv2 SU ?_
      case rv2 => exact .cons (.cell rfl LK FSz.h rfl FAg.h FSz.h rfl rfl (by decide)) (.cons (.tmp rfl) (.nil))
      refine K_eq ?_ hK
      rw [turned_off hc1 hc2]; rfl
    · obtain ⟨x1, hr⟩ := some_of hc2; obtain rfl := hy x1 hr
      refine GC4 ?_
      refine GO1 ?_
      refine GW ?_
      refine GO1 ?_
      refine GC3 ?_
      refine' retQ_g (H' := H) (.inr rfl) ?rv3 SU ?_
      case rv3 => exact .cons (.cell rfl LK FSz.h rfl FAg.h FSz.h rfl rfl (by decide)) (.cons (.tmp rfl) (.nil))
      refine K_eq ?_ hK
      rw [turned_yes hc1 hr]; rfl

/-- quillwork/lines.Format -/
theorem lines_Format_ok (l : Line) (k : Int) (hl : LS l) :
    PI TQ Tryz.prog 254 [lineAV l, .v (.int .i64 k)] (lrAV (formatL k l)) := by
  intro H K hT hK
  refine AC_of Tryz.func254 rfl (rs := [.cell 4 60, .tmp 5]) rfl Tryz.ntmps254 rfl ?_
  refine AW_norm TP ?_
  refine GC2 ?_
  refine GF ?_
  refine GF ?_
  refine AL_alloc FZe.h (.agg (.v (.own (.v (.own .nil))))) rfl FSz.h rfl ?_
  intro b3 hb3
  have hn3 : H b3 = none := SubH.none SU hb3
  refine GO1 ?_
  refine GC5 ?_
  refine GO3 ?_
  refine AL_or (j := 2) (n := 2) (c := 8) (t := 10) (r := 11) (v := ?v1) [9, 10] rfl rfl rfl rfl rfl rfl rfl (fun hg1 => ?_) ?_; rotate_left
  · refine GS ?_
    (try simp only [Bool.or_eq_true, Bool.and_eq_true, Bool.or_eq_false_iff, Bool.and_eq_false_iff, decide_eq_true_eq, decide_eq_false_iff_not, Bool.not_eq_true', Bool.not_eq_false', beq_iff_eq, ne_eq, Decidable.not_not, List.length_map] at hg1)
    refine GO2 ?_
    refine AL_nil (grpQ_mk ?_)
    exact WK
  refine AL_norm TN ?_
  refine AL_norm TN ?_
  refine GC2 ?_
  refine GI rfl (fun hc2 => ?_) (fun hc2 => ?_)
  ·
    refine GC2 ?_
    refine AL_build_struct (zs := [_, _, _, _]) (pl := [(0, 1), (1, 1), (2, 1), (3, 1)]) Tryz.underlying60 FZe.h (.v (.sl (e := 3) (.v (.sl (e := 57) .nil)))) (by kernel_rfl) (.nil) rfl ?_
    refine AL_norm TN ?_
    refine GW ?_
    refine GO1 ?_
    refine GC4 ?_
    refine' retQ_g (H' := H) (.inr rfl) ?rv1 SU ?_
    case rv1 => exact .cons (.cell rfl LK FSz.h rfl FAg.h FSz.h rfl rfl (by decide)) (.cons (.tmp rfl) (.nil))
    refine K_eq ?_ hK
    rw [formatL_no hc2]; rfl
  ·
    refine GC4 ?_
    refine GO1 ?_
    refine AL_makeFunc (.nil) (.cons (.ev rfl) (.nil)) ?_
    refine AL_norm TN ?_
    refine AL_callpi FEn.h XA HS (lines_turned_ok 292 [.rp 3 (.v (.int .i64 k))] l (formatR k l) hl FEn.h (lines_Format_1_ok k l)) ?_
    refine GO2 ?_
    refine GW ?_
    refine AL_norm TN ?_
    refine GO1 ?_
    refine GC3 ?_
    refine' retQ_g (H' := H) (.inr rfl) ?rv2 SU ?_
    case rv2 => exact .cons (.cell rfl LK FSz.h rfl FAg.h FSz.h rfl rfl (by decide)) (.cons (.tmp rfl) (.nil))
    refine K_eq ?_ hK
    rw [formatL_yes (by omega)]; rfl

/-- quillwork/styling.changed -/
theorem styling_changed_ok  :
    ∀ (f : FuncId) (cps : List AV) (s : Q.St) (ch : List Line → Q.Pos → Q.Pos → RD), SS s → entersOf Tryz.prog f = true → (∀ a b, PI TQ Tryz.prog f (linesAV s.lines :: posAV a :: posAV b :: cps) (rdAV (ch s.lines a b))) → PI TQ Tryz.prog 156 [stAV s, .fn (.func f) [] cps] (rsAV (changedS s ch)) := by
  intro f cps s ch hs hen hch H K hT hK
  refine AC_of Tryz.func156 rfl (rs := [.cell 4 26, .tmp 5]) rfl Tryz.ntmps156 rfl ?_
  refine AW_norm TP ?_
  refine GC2 ?_
  refine GF ?_
  refine AL_alloc FZe.h (.agg (.own (.v (.v (.v (.v (.v (.v .nil)))))))) rfl FSz.h rfl ?_
  intro b2 hb2
  have hn2 : H b2 = none := SubH.none SU hb2
  refine GO1 ?_
  refine GC5 ?_
  refine GO1 ?_
  refine AL_callpi FEn.h XA HS (typing_May_ok s hs) ?_
  refine GO1 ?_
  refine GC2 ?_
  refine GI rfl (fun hc1 => ?_) (fun hc1 => ?_)
  ·
    refine GC2 ?_
    refine AL_build_struct (zs := [_, _, _, _, _, _, _]) (pl := [(0, 1), (1, 2), (3, 2), (5, 1), (6, 1)]) Tryz.underlying26 FZe.h (.sl (e := 60) (.v (.v (.v (.v (.v (.v .nil))))))) (by kernel_rfl) (.nil) rfl ?_
    refine GW ?_
    refine AL_norm TN ?_
    refine GO1 ?_
    refine GC4 ?_
    refine' retQ_g (H' := H) (.inr rfl) ?rv1 SU ?_
    case rv1 => exact .cons (.cell rfl LK FSz.h rfl FAg.h FSz.h rfl rfl (by decide)) (.cons (.tmp rfl) (.nil))
    refine K_eq ?_ hK
    rw [changed_no hc1]; rfl
  ·
    refine GC4 ?_
    refine GO1 ?_
    refine AL_callp FEn.h XA (typing_Span_ok _) ?_
    refine GO3 ?_
    refine AL_alloc FZe.h (.agg (.v (.v .nil))) rfl FSz.h rfl ?_
    intro b3 hb3
    have hn3 : H b3 = none := SubH.none SU hb3
    have hd3_2 : b3 ≠ b2 := AH.fresh_ne hb3 LK
    have hd2_3 : b2 ≠ b3 := Ne.symm hd3_2
    refine AL_alloc FZe.h (.agg (.v (.v .nil))) rfl FSz.h rfl ?_
    intro b4 hb4
    have hn4 : H b4 = none := SubH.none SU hb4
    have hd4_2 : b4 ≠ b2 := AH.fresh_ne hb4 LK
    have hd2_4 : b2 ≠ b4 := Ne.symm hd4_2
    have hd4_3 : b4 ≠ b3 := AH.fresh_ne hb4 LK
    have hd3_4 : b3 ≠ b4 := Ne.symm hd4_3
    refine AL_norm TN ?_
    refine GW ?_
    refine GW ?_
    refine AL_norm TN ?_
    refine GC4 ?_
    refine GO5 ?_
    refine AL_callv rfl hen (.cons (.ev rfl) (.cons (.ev rfl) (.cons (.ev rfl) (.nil)))) (PI.toAC (hch _ _) (Holds.sub hT (by repeat (first | exact SubH.refl _ | assumption | refine SubH.upd ?_ (by assumption))))) ?_
    rintro _ _ ⟨rfl, rfl⟩
    refine AL_norm TN ?_
    refine GO5 ?_
    refine GC5 ?_
    refine GO2 ?_
    refine GC2 ?_
    refine GI rfl (fun hc2 => ?_) (fun hc2 => ?_)
    ·
      refine GC2 ?_
      refine AL_build_struct (zs := [_, _, _, _, _, _, _]) (pl := [(0, 1), (1, 2), (3, 2), (5, 1), (6, 1)]) Tryz.underlying26 FZe.h (.sl (e := 60) (.v (.v (.v (.v (.v (.v .nil))))))) (by kernel_rfl) (.nil) rfl ?_
      refine AL_norm TN ?_
      refine GO1 ?_
      refine GW ?_
      refine GO1 ?_
      refine GC4 ?_
      refine' retQ_g (H' := H) (.inr rfl) ?rv2 SU ?_
      case rv2 => exact .cons (.cell rfl LK FSz.h rfl FAg.h FSz.h rfl rfl (by decide)) (.cons (.tmp rfl) (.nil))
      refine K_eq ?_ hK
      rw [changed_err hc1 hc2]; rfl
    ·
      refine GC4 ?_
      refine GO5 ?_
      refine AL_build_struct (zs := [_, _, _, _, _, _, _]) (pl := [(0, 1), (1, 2), (3, 2), (5, 1), (6, 1)]) Tryz.underlying26 FZe.h (.sl (e := 60) (.v (.v (.v (.v (.v (.v .nil))))))) (by kernel_rfl) (.cons (.ev rfl) rfl (.cons (.ev rfl) rfl (.cons (.ev rfl) rfl (.nil)))) rfl ?_
      refine GW ?_
      refine GO1 ?_
      refine GC3 ?_
      refine' retQ_g (H' := H) (.inr rfl) ?rv3 SU ?_
      case rv3 => exact .cons (.cell rfl LK FSz.h rfl FAg.h FSz.h rfl rfl (by decide)) (.cons (.tmp rfl) (.nil))
      refine K_eq ?_ hK
      rw [changed_yes hc1 hc2]; rfl

/-- quillwork/styling.Toggle$1 -/
theorem styling_Toggle_1_ok (d : List Line) (a b : Q.Pos) (bit : Int) (hd : DS d) :
    PI TQ Tryz.prog 242 [linesAV d, posAV a, posAV b, .rp 3 (.v (.int .i64 bit))] (rdAV (if allD d a b bit = true then setR d a b 0 bit else setR d a b bit 0)) := by
  intro H K hT hK
  refine AC_of Tryz.func242 rfl (rs := [.tmp 7, .tmp 8]) rfl Tryz.ntmps242 rfl ?_
  refine AW_norm TP ?_
  refine GC2 ?_
  refine GF ?_
  refine GF ?_
  refine GO2 ?_
  refine GC5 ?_
  refine GO4 ?_
  refine AL_callpi FEn.h XA HS (doc_All_ok d a b bit hd) ?_
  refine AL_norm TN ?_
  refine GC2 ?_
  refine GI rfl (fun hc1 => ?_) (fun hc1 => ?_)
  ·
    refine GC2 ?_
    refine GO4 ?_
    refine AL_callpi FEn.h XA HS (doc_Set_ok d a b 0 bit hd) ?_
    refine AL_norm TN ?_
    refine GO4 ?_
    refine GC4 ?_
    refine retQ_2 (H' := H) (.inr rfl) rfl rfl SU ?_
    refine K_eq ?_ hK
    rw [if_pos hc1]; rfl
  ·
    refine GC4 ?_
    refine GO4 ?_
    refine AL_callpi FEn.h XA HS (doc_Set_ok d a b bit 0 hd) ?_
    refine AL_norm TN ?_
    refine GO4 ?_
    refine GC3 ?_
    refine retQ_2 (H' := H) (.inr rfl) rfl rfl SU ?_
    refine K_eq ?_ hK
    rw [if_neg (by rw [hc1]; exact Bool.false_ne_true)]; rfl

/-- quillwork/styling.Mixed -/
theorem styling_Mixed_ok (s : Q.St) (bit : Int) (hs : SS s) :
    PI TQ Tryz.prog 54 [stAV s, .v (.int .i64 bit)] (.v (.bool (mixedS s bit))) := by
  intro H K hT hK
  refine AC_of Tryz.func54 rfl (rs := [.tmp 4]) rfl Tryz.ntmps54 rfl ?_
  refine AW_norm TP ?_
  refine GC2 ?_
  refine GF ?_
  refine GO1 ?_
  refine GC4 ?_
  refine GO1 ?_
  refine AL_callp FEn.h XA (typing_Span_ok _) ?_
  refine AL_norm TN ?_
  refine GO3 ?_
  refine AL_alloc FZe.h (.agg (.v (.v .nil))) rfl FSz.h rfl ?_
  intro b2 hb2
  have hn2 : H b2 = none := SubH.none SU hb2
  refine AL_norm TN ?_
  refine AL_alloc FZe.h (.agg (.v (.v .nil))) rfl FSz.h rfl ?_
  intro b3 hb3
  have hn3 : H b3 = none := SubH.none SU hb3
  have hd3_2 : b3 ≠ b2 := AH.fresh_ne hb3 LK
  have hd2_3 : b2 ≠ b3 := Ne.symm hd3_2
  refine GW ?_
  refine GW ?_
  refine AL_norm TN ?_
  refine GC4 ?_
  refine GO1 ?_
  refine AL_callpi FEn.h XA HS (typing_May_ok s hs) ?_
  refine GO1 ?_
  refine AL_and (j := 2) (n := 2) (c := 14) (t := 16) (r := 17) (v := ?v1) [15, 16] rfl rfl rfl rfl rfl rfl rfl (fun hg1 => ?_) ?_; rotate_left
  · refine GS ?_
    (try simp only [Bool.or_eq_true, Bool.and_eq_true, Bool.or_eq_false_iff, Bool.and_eq_false_iff, decide_eq_true_eq, decide_eq_false_iff_not, Bool.not_eq_true', Bool.not_eq_false', beq_iff_eq, ne_eq, Decidable.not_not, List.length_map] at hg1)
    refine GO1 ?_
    refine AL_callp FEn.h XA (styling_open_ok _) ?_
    refine AL_nil (grpQ_mk ?_)
    exact WK
  refine AL_norm TN ?_
  refine GO1 ?_
  refine AL_and (j := 6) (n := 6) (c := 18) (t := 24) (r := 25) (v := ?v2) [19, 20, 21, 22, 23, 24] rfl rfl rfl rfl rfl rfl rfl (fun hg2 => ?_) ?_; rotate_left
  · refine GS ?_
    (try simp only [Bool.or_eq_true, Bool.and_eq_true, Bool.or_eq_false_iff, Bool.and_eq_false_iff, decide_eq_true_eq, decide_eq_false_iff_not, Bool.not_eq_true', Bool.not_eq_false', beq_iff_eq, ne_eq, Decidable.not_not, List.length_map] at hg2)
    refine GO5 ?_
    refine AL_callpi FEn.h XA HS (doc_Some_ok s.lines _ _ bit hs.1) ?_
    refine AL_nil (grpQ_mk ?_)
    exact WK
  refine AL_norm TN ?_
  refine GO1 ?_
  refine AL_and (j := 14) (n := 7) (c := 26) (t := 33) (r := 34) (v := ?v3) [27, 28, 29, 30, 31, 32, 33] rfl rfl rfl rfl rfl rfl rfl (fun hg3 => ?_) ?_; rotate_left
  · refine GS ?_
    (try simp only [Bool.or_eq_true, Bool.and_eq_true, Bool.or_eq_false_iff, Bool.and_eq_false_iff, decide_eq_true_eq, decide_eq_false_iff_not, Bool.not_eq_true', Bool.not_eq_false', beq_iff_eq, ne_eq, Decidable.not_not, List.length_map] at hg3)
    refine GO5 ?_
    refine AL_callpi FEn.h XA HS (doc_All_ok s.lines _ _ bit hs.1) ?_
    refine GO1 ?_
    refine AL_nil (grpQ_mk ?_)
    exact WK
  refine AL_norm TN ?_
  refine GO1 ?_
  refine GC3 ?_
  refine retQ_1 (H' := H) (.inr rfl) rfl SU ?_
  refine K_eq ?_ hK
  rfl


end Go.Proofs
