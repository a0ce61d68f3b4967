/- The given statement of the law: for every input the law answers true. No conditions of our own. -/
import Derived.Test.YtcmijcfmldaiaaaGreatDoorQX
import Derived.Test.YtcmijcfmldaiaaaGreatDoorQY0
import Derived.Test.YtcmijcfmldaiaaaGreatDoorProg
set_option autoImplicit false
set_option linter.unusedVariables false
set_option linter.unusedSimpArgs false
set_option maxRecDepth 100000
set_option maxHeartbeats 4000000
namespace Go.Proofs
open Go Go.RowKit Go.AL Go.Q Go.IntWalk
attribute [local irreducible] AW AL seqQ blockQ retQ loopQ roundQ asgQ grpQ mQ qpost qpostL retQN retQM
instance en48 : FEn Tryz.prog 48 := ⟨by kernel_rfl⟩
instance en50 : FEn Tryz.prog 50 := ⟨by kernel_rfl⟩
instance en54 : FEn Tryz.prog 54 := ⟨by kernel_rfl⟩
instance en53 : FEn Tryz.prog 53 := ⟨by kernel_rfl⟩
instance en58 : FEn Tryz.prog 58 := ⟨by kernel_rfl⟩
instance en59 : FEn Tryz.prog 59 := ⟨by kernel_rfl⟩
instance fl43_2 : FFl Tryz.prog 43 2 3 2 := ⟨by kernel_rfl⟩
instance un40 : FUn Tryz.prog 40 (.slice 43) := ⟨by kernel_rfl⟩
instance inf43 : FIn Tryz.prog 43 (.agg #[.string ⟨#[]⟩, .string ⟨#[]⟩, .int .i64 0]) 3 40 := ⟨by kernel_rfl⟩

/-- quillwork/query.Indeterm -/
theorem query_Indeterm5_ok (s : Q.St) (name : ByteArray) (hs : SS s) (hn : name.size ≤ 1000000) (hk : idxQ name = ((5 : Nat) : Int)) :
    PI TQ Tryz.prog 19 [stAV s, strAV name] (.v (.bool (mixedS s 1))) := by
  intro H K hT hK
  refine AC_of Tryz.func19 rfl (rs := [.tmp 4]) rfl Tryz.ntmps19 rfl ?_
  refine AW_norm TP ?_
  refine GC2 ?_
  refine GF ?_
  refine GO1 ?_
  refine GC4 ?_
  refine GO2 ?_
  refine AL_callpi FEn.h XA HS (query_listedN_ok s name hn 5 hk (by decide)) ?_
  refine GO5 ?_
  refine GC4 ?_
  refine GO1 ?_
  refine AL_callpi FEn.h XA HS (query_Find_is name hn hk) ?_
  refine AL_norm TN ?_
  refine GO5 ?_
  refine GC5 ?_
  refine GO2 ?_
  refine AL_and (j := 1) (n := 2) (c := 23) (t := 25) (r := 26) (v := ?v1) [24, 25] rfl rfl rfl rfl rfl rfl rfl (fun hg1 => ?_) ?_; rotate_left
  · refine GS ?_
    (try simp only [Bool.or_eq_true, Bool.and_eq_true, Bool.or_eq_false_iff, Bool.and_eq_false_iff, decide_eq_true_eq, decide_eq_false_iff_not, Bool.not_eq_true', Bool.not_eq_false', beq_iff_eq, ne_eq, Decidable.not_not, List.length_map] at hg1)
    refine GO2 ?_
    refine AL_nil (grpQ_mk ?_)
    exact WK
  refine AL_norm TN ?_
  refine AL_norm TN ?_
  refine GC2 ?_
  refine AW_cond rfl (fun hc2 => ?_) (fun hc2 => ?_)
  · exfalso; simp_all
  · (try simp only [Bool.or_eq_true, Bool.and_eq_true, Bool.or_eq_false_iff, Bool.and_eq_false_iff, decide_eq_true_eq, decide_eq_false_iff_not, Bool.not_eq_true', Bool.not_eq_false', beq_iff_eq, ne_eq, Decidable.not_not, List.length_map] at hc2)
    refine GC3 ?_
    skip
    ·
      refine' AW_drawl (xs := [_, _, _, _, _, _, _, _, _, _, _, _]) (by kernel_rfl) ?hops1 ?_
      case hops1 =>
        refine GH2 ?_
        refine Hops_cons (fun T hl hr => ?_) ?_
        · skip
          refine AL_leave rfl ((hr 39 rfl).trans rfl) (by decide) ?_
          refine AL_nil ?_
          refine qpost_mk ?_
          exact Weak.refl _
        refine Hops_norm TO ?_
        refine Hops_cons (fun T hl hr => ?_) ?_
        · skip
          refine AL_leave rfl ((hr 39 rfl).trans rfl) (by decide) ?_
          refine AL_nil ?_
          refine qpost_mk ?_
          exact Weak.refl _
        refine Hops_norm TO ?_
        refine Hops_cons (fun T hl hr => ?_) ?_
        · skip
          first | refine AL_pick_t ((hr 39 (by kernel_rfl)).trans rfl) ((hr 41 (by kernel_rfl)).trans rfl) ?_ | refine AL_pick_f ((hr 39 (by kernel_rfl)).trans rfl) rfl ?_
          refine AL_nil ?_
          refine qpost_mk ?_
          exact Weak.refl _
        refine Hops_norm TO ?_
        refine GH1 ?_
        refine Hops_cons (fun T hl hr => ?_) ?_
        · skip
          refine AL_take rfl ((hr 43 rfl).trans rfl) ?_
          first | refine AL_load_rp FSz.h ((hr 2 (by kernel_rfl)).trans rfl) FAg.h ?_ | refine AL_loadw FSz.h ((hr 2 (by kernel_rfl)).trans rfl) LK (by exact FAg.h) rfl ?_ | refine AL_load_pt FAg.h FSz.h (by decide) ((hr 2 (by kernel_rfl)).trans rfl) LK FSz.h (by exact rfl) (by exact rfl) (by exact rfl) ?_
          refine AL_nil ?_
          refine qpost_mk ?_
          exact Weak.refl _
        refine Hops_norm TO ?_
        refine Hops_cons (fun T hl hr => ?_) ?_
        · skip
          refine AL_take rfl ((hr 43 rfl).trans rfl) ?_
          refine AL_move ((hr 1 (by kernel_rfl)).trans rfl) ?_
          refine AL_nil ?_
          refine qpost_mk ?_
          exact Weak.refl _
        refine Hops_norm TO ?_
        refine Hops_cons (fun T hl hr => ?_) ?_
        · skip
          refine AL_take rfl ((hr 43 rfl).trans rfl) ?_
          refine AL_callpi FEn.h (.cons (.ev ((hr 45 (by kernel_rfl)).trans rfl)) (.nil)) HS (query_bit5_ok name hn hk) ?_
          refine AL_nil ?_
          refine qpost_mk ?_
          exact Weak.refl _
        refine Hops_norm TO ?_
        refine Hops_cons (fun T hl hr => ?_) ?_
        · skip
          refine AL_take rfl ((hr 43 rfl).trans rfl) ?_
          refine AL_callpi FEn.h (.cons (.ev ((hr 44 (by kernel_rfl)).trans rfl)) (.cons (.ev ((hr 46 (by kernel_rfl)).trans rfl)) (.nil))) HS (styling_Mixed_ok s 1 hs) ?_
          refine AL_nil ?_
          refine qpost_mk ?_
          exact Weak.refl _
        refine Hops_norm TO ?_
        refine Hops_cons (fun T hl hr => ?_) ?_
        · skip
          first | refine AL_pick_t ((hr 43 (by kernel_rfl)).trans rfl) rfl ?_ | refine AL_pick_f ((hr 43 (by kernel_rfl)).trans rfl) ((hr 47 (by kernel_rfl)).trans rfl) ?_
          refine AL_nil ?_
          refine qpost_mk ?_
          exact Weak.refl _
        refine Hops_norm TO ?_
        refine GH1 ?_
        exact Hops_nil
      refine Q_norm (by first | (simp only [Tfin, tput, anyAt, setAll, List.foldl_cons, List.foldl_nil, List.set_cons_zero, List.set_cons_succ]; rfl) | rfl) ?_
      refine GC2 ?_
      refine retQ_1 (H' := H) (.inr rfl) rfl SU ?_
      refine K_eq ?_ hK
      rfl

/-- quillwork/query.Value -/
theorem query_Value12_ok (s : Q.St) (name : ByteArray) (hs : SS s) (hn : name.size ≤ 1000000) (hk : idxQ name = ((12 : Nat) : Int)) (h1 : kindS s = (0, true)) :
    PI TQ Tryz.prog 21 [stAV s, strAV name] (.v (.string (Tags.nameOf 2))) := by
  intro H K hT hK
  refine AC_of Tryz.func21 rfl (rs := [.tmp 4]) rfl Tryz.ntmps21 rfl ?_
  refine AW_norm TP ?_
  refine GC2 ?_
  refine GF ?_
  refine GO1 ?_
  refine GC4 ?_
  refine GO1 ?_
  refine AL_callpi FEn.h XA HS (query_Find_is name hn hk) ?_
  refine AL_norm TN ?_
  refine GO5 ?_
  refine GC3 ?_
  refine AW_block ?_
  refine GC2 ?_
  refine GO3 ?_
  refine GC2 ?_
  refine AW_cond rfl (fun hc1 => ?_) (fun hc1 => ?_)
  · exfalso; simp_all
  · (try simp only [Bool.or_eq_true, Bool.and_eq_true, Bool.or_eq_false_iff, Bool.and_eq_false_iff, decide_eq_true_eq, decide_eq_false_iff_not, Bool.not_eq_true', Bool.not_eq_false', beq_iff_eq, ne_eq, Decidable.not_not, List.length_map] at hc1)
    refine GC2 ?_
    refine GO3 ?_
    refine GC2 ?_
    refine AW_cond rfl (fun hc2 => ?_) (fun hc2 => ?_)
    · (try simp only [Bool.or_eq_true, Bool.and_eq_true, Bool.or_eq_false_iff, Bool.and_eq_false_iff, decide_eq_true_eq, decide_eq_false_iff_not, Bool.not_eq_true', Bool.not_eq_false', beq_iff_eq, ne_eq, Decidable.not_not, List.length_map] at hc2)
      refine GC2 ?_
      refine GO1 ?_
      refine AL_callpi FEn.h XA HS ((by rw [show (AV.tup [.v (.int .i64 0), .v (.bool true)]) = AV.tup [.v (.int .i64 (kindS s).1), .v (.bool (kindS s).2)] from by rw [h1]]; exact blocks_Kind_ok s hs : PI TQ Tryz.prog 53 [stAV s] (AV.tup [.v (.int .i64 0), .v (.bool true)]))) ?_
      refine AL_norm TN ?_
      refine GO5 ?_
      refine GC4 ?_
      refine GO1 ?_
      refine GC2 ?_
      refine AW_cond rfl (fun hc3 => ?_) (fun hc3 => ?_)
      · (try simp only [Bool.or_eq_true, Bool.and_eq_true, Bool.or_eq_false_iff, Bool.and_eq_false_iff, decide_eq_true_eq, decide_eq_false_iff_not, Bool.not_eq_true', Bool.not_eq_false', beq_iff_eq, ne_eq, Decidable.not_not, List.length_map] at hc3)
        refine GC2 ?_
        refine GO1 ?_
        refine AL_callp FEn.h XA (tags_Line_ok _) ?_
        refine AL_norm TN ?_
        refine GO5 ?_
        refine GC4 ?_
        refine GO1 ?_
        refine AL_callp FEn.h XA (tags_Name_ok _) ?_
        refine GO1 ?_
        refine GC5 ?_
        refine retQ_1 (H' := H) (.inr rfl) rfl SU ?_
        refine K_eq ?_ hK
        rfl
      · exfalso; simp_all
    · exfalso; simp_all

/-- quillwork/query.Data -/
theorem query_Data_ok (name arg : ByteArray) (hn : name.size ≤ 1000000) :
    PI TQ Tryz.prog 28 [strAV name, strAV arg] (.tup [.v (.string (dataR name arg).1), .v (.bool (dataR name arg).2)]) := by
  intro H K hT hK
  have hlt := idxQ_lt name
  refine AC_of Tryz.func28 rfl (rs := [.tmp 4, .tmp 5]) rfl Tryz.ntmps28 rfl ?_
  refine AW_norm TP ?_
  refine GC2 ?_
  refine GO2 ?_
  refine GC4 ?_
  refine GO1 ?_
  refine AL_callpi FEn.h XA HS (query_Find_ok name hn) ?_
  refine AL_norm TN ?_
  refine GO5 ?_
  refine GC5 ?_
  refine GO2 ?_
  refine AL_and (j := 1) (n := 6) (c := 14) (t := 20) (r := 21) (v := ?v1) [15, 16, 17, 18, 19, 20] rfl rfl rfl rfl rfl rfl rfl (fun hg1 => ?_) ?_; rotate_left
  · refine GS ?_
    (try simp only [Bool.or_eq_true, Bool.and_eq_true, Bool.or_eq_false_iff, Bool.and_eq_false_iff, decide_eq_true_eq, decide_eq_false_iff_not, Bool.not_eq_true', Bool.not_eq_false', beq_iff_eq, ne_eq, Decidable.not_not, List.length_map] at hg1)
    refine AL_callp FEn.h XA (query_table_ok) ?_
    refine AL_norm TN ?_
    refine GO1 ?_
    refine AL_index_arr (y := rowAV (max (idxQ name) 0).toNat) FUn.h FAg.h FSz.h rfl rfl ?_ ?_ ?_ ?_
    · omega
    · omega
    · exact table_at (max (idxQ name) 0).toNat (by omega)
    refine GO3 ?_
    refine AL_nil (grpQ_mk ?_)
    exact WK
  refine AL_norm TN ?_
  refine AL_norm TN ?_
  refine GC2 ?_
  refine GI rfl (fun hc2 => ?_) (fun hc2 => ?_)
  ·
    refine GC2 ?_
    refine GO3 ?_
    refine GC4 ?_
    refine retQ_2 (H' := H) (.inr rfl) rfl rfl SU ?_
    refine K_eq ?_ hK
    rw [data_yes hc2]; rfl
  ·
    refine GC4 ?_
    refine GO3 ?_
    refine GC3 ?_
    refine retQ_2 (H' := H) (.inr rfl) rfl rfl SU ?_
    refine K_eq ?_ hK
    rw [data_no hc2]

/-- quillwork/query.All -/
theorem query_All_ok  :
    PF Tryz.prog 24 [] (.sl 43 ((List.range 17).map cmdAV)) := by
  intro H K hK
  refine AC_frzS 43 ((List.range 17).map cmdAV) ?_
  refine AC_of Tryz.func24 rfl (rs := [.tmp 0]) rfl Tryz.ntmps24 rfl ?_
  refine AW_norm TP ?_
  refine GC2 ?_
  refine GO1 ?_
  refine GC4 ?_
  refine GO1 ?_
  refine GC5 ?_
  refine AL_callp FEn.h XA (query_table_ok) ?_
  refine GO1 ?_
  refine GC2 ?_
  refine AW_block ?_
  refine AW_loops (α := Nat × Option Nat × Nat) [1, 3, 5, 6, 7, 8, 9, 10, 11, 12, 13] (fun z => [(5, .v (.int .i64 (z.1 : Int))), (1, .own z.2.1 z.2.2 z.1)]) (fun z => H.put z.2.1 43 z.2.2 ((List.range z.1).map cmdAV)) (fun z => z.1 ≤ 17 ∧ Fresh H z.2.1 z.2.2 ((List.range z.1).map cmdAV)) (fun z => 17 - z.1) ((0, none, 0)) ?_ ?_ ?_ ?_
  · exact ⟨by decide, rfl, rfl⟩
  · exact SubH.refl _
  · skip
    exact WK
  · rintro ⟨i, A, c⟩ hI; dsimp only at hI ⊢
    refine AW_norm TN ?_
    refine GC2 ?_
    refine GO1 ?_
    refine GC3 ?_
    refine GI rfl (fun hc1 => ?_) (fun hc1 => ?_)
    ·
      refine GC3 ?_
      refine AW_block ?_
      refine GC2 ?_
      refine AL_index_arr (y := rowAV i) FUn.h FAg.h FSz.h rfl rfl ?_ ?_ ?_ ?_
      · omega
      · omega
      · exact table_at i (by omega)
      refine AL_norm TN ?_
      refine AL_alloc FZe.h (.agg (.v (.v (.v (.v .nil))))) rfl FSz.h rfl ?_
      intro b1 hb1
      have hn1 : H b1 = none := SubH.none (by repeat (first | exact SubH.refl _ | exact hI.2.subH | refine SubH.upd ?_ (by assumption))) hb1
      first | refine AL_store_w FSz.h rfl XV (rowAV_mem i) LK rfl (by exact rfl) ?_ | refine AL_store rfl XV (rowAV_mem i) LK FSz.h (by exact rfl) FSz.h rfl (by decide) (fun h => by first | (cases h; done) | exact ⟨rfl, rfl, rfl⟩) ?_
      refine AL_heap (by first | (simp only [AH.upd_upd]; rfl) | rfl) ?_
      refine AL_norm TN ?_
      refine GC3 ?_
      refine GO3 ?_
      refine AL_sub' (H' := H.put A 43 c ((List.range i).map cmdAV)) (SubH.new (SubH.refl _) hb1) ?_
      refine AL_append1p FUn.h FIn.h rfl (by decide) (by decide) (by decide) rfl rfl (fun h => by cases h) rfl rfl rfl hI.2 (by rw [List.length_map, List.length_range]) (by omega) ?_
      intro ba ca hba
      refine AL_norm TN ?_
      refine GO1 ?_
      refine GC4 ?_
      refine AL_addz rfl rfl (((i + 1 : Nat) : Int)) (by exact inc64 (by omega)) ?_
      refine GO1 ?_
      refine GC1 ?_
      refine loopQ_n ((i + 1, some ba, ca)) ?_ ?_ ?_ ?_
      · exact ⟨by omega, hba⟩
      · (show 17 - (i + 1) < 17 - i; omega)
      · (show SubH (H.put (some ba) 43 ca ((List.range (i + 1)).map cmdAV)) _); rw [← range_next]; exact SubH.refl _
      · skip
        exact WK
    · obtain rfl : i = 17 := by omega
      refine GC2 ?_
      refine loopQ_x ?_
      refine GC4 ?_
      refine GO2 ?_
      refine GC3 ?_
      refine retQ_1 (H' := H.put A 43 c ((List.range 17).map cmdAV)) (.inr rfl) rfl (SubH.refl _) ?_
      exact ⟨A, c, hI.2, by rw [List.length_map, List.length_range], rfl, hK⟩


end Go.Proofs
