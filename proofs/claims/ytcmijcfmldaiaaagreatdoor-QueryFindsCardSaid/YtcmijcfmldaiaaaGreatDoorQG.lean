/- The given statement of the law: for every input the law answers true. No conditions of our own. -/
import Derived.Test.YtcmijcfmldaiaaaGreatDoorQF
import Derived.Test.YtcmijcfmldaiaaaGreatDoorProg
set_option autoImplicit false
set_option linter.unusedVariables false
set_option linter.unusedSimpArgs false
set_option maxRecDepth 100000
set_option maxHeartbeats 4000000
namespace Go.Proofs
open Go Go.RowKit Go.AL Go.Q Go.IntWalk
attribute [local irreducible] AW AL seqQ blockQ retQ loopQ roundQ asgQ grpQ mQ qpost qpostL retQN retQM
instance en198 : FEn Tryz.prog 198 := ⟨by kernel_rfl⟩
instance en250 : FEn Tryz.prog 250 := ⟨by kernel_rfl⟩
instance en248 : FEn Tryz.prog 248 := ⟨by kernel_rfl⟩
instance sz213 : FSz Tryz.prog 213 1 := ⟨by kernel_rfl⟩
instance en286 : FEn Tryz.prog 286 := ⟨by kernel_rfl⟩
instance ze22 : FZe Tryz.prog 22 (.slice none 0 0) := ⟨by kernel_rfl⟩
instance ag213 : FAg Tryz.prog 213 false := ⟨by kernel_rfl⟩
instance en246 : FEn Tryz.prog 246 := ⟨by kernel_rfl⟩

/-- quillwork/doc.All -/
theorem doc_All_ok (d : List Line) (a b : Pos) (x : Int) (hd : DS d) :
    PI TQ Tryz.prog 117 [linesAV d, posAV a, posAV b, .v (.int .i64 x)] (.v (.bool (allD d a b x))) := by
  intro H K hT hK
  refine AC_of Tryz.func117 rfl (rs := [.tmp 8]) rfl Tryz.ntmps117 rfl ?_
  refine AW_norm TP ?_
  refine GC2 ?_
  refine GF ?_
  refine GF ?_
  refine GF ?_
  refine GO1 ?_
  refine GC4 ?_
  refine GO3 ?_
  refine AL_makeFunc (.nil) (.cons (.ev rfl) (.nil)) ?_
  refine AL_callpi FEn.h XA HS (doc_tells_ok (isAll x) 200 [.rp 3 (.v (.int .i64 x))] d a b hd FEn.h (fun c => PF.pi (doc_All_1_ok c x))) ?_
  refine AL_norm TN ?_
  refine GO5 ?_
  refine GC4 ?_
  refine GO3 ?_
  refine AL_and (j := 2) (n := 3) (c := 21) (t := 24) (r := 25) (v := ?v1) [22, 23, 24] rfl rfl rfl rfl rfl rfl rfl (fun hg1 => ?_) ?_; rotate_left
  · refine GS ?_
    (try simp only [Bool.or_eq_true, Bool.and_eq_true, Bool.or_eq_false_iff, Bool.and_eq_false_iff, decide_eq_true_eq, decide_eq_false_iff_not, Bool.not_eq_true', Bool.not_eq_false', beq_iff_eq, ne_eq, Decidable.not_not, List.length_map] at hg1)
    refine GO3 ?_
    refine AL_nil (grpQ_mk ?_)
    exact WK
  refine AL_norm TN ?_
  refine GO1 ?_
  refine GC3 ?_
  refine retQ_1 (H' := H) (.inr rfl) rfl SU ?_
  refine K_eq ?_ hK
  exact congrArg (fun b => AV.v (.bool b)) (all_mk d a b x)

/-- quillwork/doc.Some -/
theorem doc_Some_ok (d : List Line) (a b : Pos) (x : Int) (hd : DS d) :
    PI TQ Tryz.prog 116 [linesAV d, posAV a, posAV b, .v (.int .i64 x)] (.v (.bool (someD d a b x))) := by
  intro H K hT hK
  refine AC_of Tryz.func116 rfl (rs := [.tmp 8]) rfl Tryz.ntmps116 rfl ?_
  refine AW_norm TP ?_
  refine GC2 ?_
  refine GF ?_
  refine GF ?_
  refine GF ?_
  refine GO1 ?_
  refine GC4 ?_
  refine GO3 ?_
  refine AL_makeFunc (.nil) (.cons (.ev rfl) (.nil)) ?_
  refine AL_callpi FEn.h XA HS (doc_tells_ok (isSome x) 199 [.rp 3 (.v (.int .i64 x))] d a b hd FEn.h (fun c => PF.pi (doc_Some_1_ok c x))) ?_
  refine AL_norm TN ?_
  refine GO5 ?_
  refine GC4 ?_
  refine GO3 ?_
  refine GC3 ?_
  refine retQ_1 (H' := H) (.inr rfl) rfl SU ?_
  refine K_eq ?_ hK
  exact congrArg (fun b => AV.v (.bool b)) (some_mk d a b x)

/-- quillwork/doc.Count -/
theorem doc_Count_ok (d : List Line) (a b : Pos) (hd : DS d) :
    PI TQ Tryz.prog 286 [linesAV d, posAV a, posAV b] (.v (.int .i64 (tellN d a b : Int))) := by
  intro H K hT hK
  refine AC_of Tryz.func286 rfl (rs := [.tmp 6]) rfl Tryz.ntmps286 rfl ?_
  refine AW_norm TP ?_
  refine GC2 ?_
  refine GF ?_
  refine GF ?_
  refine GO1 ?_
  refine GC4 ?_
  refine GO3 ?_
  refine AL_callpi FEn.h XA HS (doc_tells_ok (fun _ => false) 304 [] d a b hd FEn.h (fun c => PF.pi (doc_Count_1_ok c))) ?_
  refine GO5 ?_
  refine GC4 ?_
  refine GO2 ?_
  refine GC3 ?_
  refine retQ_1 (H' := H) (.inr rfl) rfl SU ?_
  refine K_eq ?_ hK
  rfl

/-- quillwork/doc.Set$1 -/
theorem doc_Set_1_ok (l : List Cell) (i j s c : Int) (hl : l.length ≤ 20000) :
    PF Tryz.prog 249 [cellsAV l, .v (.int .i64 i), .v (.int .i64 j), .rp 3 (.v (.int .i64 s)), .rp 3 (.v (.int .i64 c))] (rcAV (eachC (setF (bitAnd s 15) (bitAnd c 15)) l i j)) := by
  intro H K hK
  refine AC_of Tryz.func249 rfl (rs := [.tmp 8, .tmp 9]) rfl Tryz.ntmps249 rfl ?_
  refine AW_norm TP ?_
  refine GC2 ?_
  refine GO2 ?_
  refine GC4 ?_
  refine GO5 ?_
  refine AL_callp FEn.h XA (cells_Set_ok l i j s c hl) ?_
  refine AL_norm TN ?_
  refine GO4 ?_
  refine GC3 ?_
  refine retQ_2 (H' := H) (.inr rfl) rfl rfl SU ?_
  refine K_eq ?_ hK
  rfl

/-- quillwork/doc.Link$1 -/
theorem doc_Link_1_ok (l : List Cell) (i j : Int) (h : ByteArray) (hl : l.length ≤ 20000) (hh : h.size ≤ 200000) (ho : linkOK h = true) :
    PI TQ Tryz.prog 247 [cellsAV l, .v (.int .i64 i), .v (.int .i64 j), .rp 9 (.v (.string h))] (rcAV (eachC (linkF h) l i j)) := by
  intro H K hT hK
  refine AC_of Tryz.func247 rfl (rs := [.tmp 7, .tmp 8]) rfl Tryz.ntmps247 rfl ?_
  refine AW_norm TP ?_
  refine GC2 ?_
  refine GO2 ?_
  refine GC4 ?_
  refine GO4 ?_
  refine AL_callpi FEn.h XA HS (cells_Link_ok l i j h hl hh) ?_
  refine GO4 ?_
  refine GC3 ?_
  refine retQ_2 (H' := H) (.inr rfl) rfl rfl SU ?_
  refine K_eq ?_ hK
  rw [if_pos ho]; rfl

/-- quillwork/doc.each -/
theorem doc_each_ok  :
    ∀ (g : Cell → Cell) (f : FuncId) (cps : List AV) (d : List Line) (a b : Pos), DS d → entersOf Tryz.prog f = true → (∀ (l : List Cell) (i j : Int), l.length ≤ 20000 → PI TQ Tryz.prog f (cellsAV l :: .v (.int .i64 i) :: .v (.int .i64 j) :: cps) (rcAV (eachC g l i j))) → PI TQ Tryz.prog 246 [linesAV d, posAV a, posAV b, .fn (.func f) [] cps] (rdAV (eachR d a b g)) := by
  intro g f cps d a b hd hen hch H K hT hK
  refine AC_tup0 60 ?_
  have hdl := hd.1
  refine AC_ofN Tryz.func246 rfl (rs := [.tmp 8, .tmp 9]) rfl Tryz.ntmps246 rfl ?_
  refine AW_norm TP ?_
  refine GC2 ?_
  refine GF ?_
  refine GF ?_
  refine GF ?_
  refine GO2 ?_
  refine GC3 ?_
  refine AW_block ?_
  refine GC2 ?_
  refine GO3 ?_
  refine AL_callpi FEn.h XA HS (doc_span_ok d a b hd) ?_
  refine GO2 ?_
  refine GC2 ?_
  refine GI rfl (fun hc1 => ?_) (fun hc1 => ?_)
  ·
    refine GC2 ?_
    refine GO2 ?_
    refine GC5 ?_
    refine retQN_l ?_
    refine retQ_2 (H' := H) (.inr rfl) rfl rfl (SubH.refl _) ?_
    exact .inr ⟨none, 0, [], _, ⟨rfl, rfl⟩, rfl, rfl, by rw [eachR_no1 hc1] at hK; exact hK⟩
  · obtain ⟨_, ha0, hb0, hab0⟩ := (spanD_iff d a b).1 hc1; have ha := (isPos_iff d a).1 ha0; have hb := (isPos_iff d b).1 hb0; have hab := cmpP_le hab0
    refine GC2 ?_
    refine GO3 ?_
    refine AL_callpi FEn.h XA HS (doc_Count_ok d a b hd) ?_
    refine GO2 ?_
    refine GC2 ?_
    refine GI rfl (fun hc2 => ?_) (fun hc2 => ?_)
    ·
      refine GC2 ?_
      refine GO2 ?_
      refine GC5 ?_
      refine retQN_l ?_
      refine retQ_2 (H' := H) (.inr rfl) rfl rfl (SubH.refl _) ?_
      exact .inr ⟨none, 0, [], _, ⟨rfl, rfl⟩, rfl, rfl, by rw [eachR_no2 hc1 hc2] at hK; exact hK⟩
    ·
      refine GC5 ?_
      refine GO1 ?_
      refine AL_callk FEn.h XA (doc_Own_ok d hd H (fun x H1 => ∃ A c, Fresh H A c (d.map lineAV) ∧ x = .own A c d.length ∧ H1 = H.put A 60 c (d.map lineAV)) (fun A c h => ⟨A, c, h, rfl, rfl⟩)) ?_
      rintro _ _ ⟨A, c, hF, rfl, rfl⟩; obtain ⟨b9, rfl⟩ : ∃ bo, A = some bo := hF.some (by rw [List.length_map]; omega); have hb9 : H b9 = none := hF; have hn9 := hb9; refine AL_heap (show _ = H.upd b9 (some (.row 60 c (d.map lineAV))) from rfl) ?_
      refine AL_alloc FZe.h .own rfl FSz.h rfl ?_
      intro b4 hb4
      have hn4 : H b4 = none := SubH.none SU hb4
      have hd4_9 : b4 ≠ b9 := AH.fresh_ne hb4 LK
      have hd9_4 : b9 ≠ b4 := Ne.symm hd4_9
      refine AL_norm TN ?_
      refine GW ?_
      refine AL_norm TN ?_
      refine GC5 ?_
      refine GO3 ?_
      refine AL_callp FEn.h XA (doc_between_ok _ _ _) ?_
      refine AL_norm TN ?_
      refine GC2 ?_
      refine AW_block ?_
      refine AW_rangeFunc (α := Nat) (gf := 296) (caps := [.rp 24 (posAV a), .rp 24 (posAV b), .rp 22 (linesAV d)]) (xs := betL d a b) (IT := fun _ => True) rfl FEn.h (doc_between_1_ok d a b _ hd (by omega) (by omega)) (betL_two d a b) ?_
      intro D hD
      have hnD : H D = none := SubH.none SU hD
      have hdD_9 : D ≠ b9 := AH.fresh_ne hD LK
      have hd9_D : b9 ≠ D := Ne.symm hdD_9
      have hdD_4 : D ≠ b4 := AH.fresh_ne hD LK
      have hd4_D : b4 ≠ D := Ne.symm hdD_4
      refine ⟨⟨fun k => ((H.upd b9 (some (.row 60 c ((mapDk g d a b k).map lineAV)))).upd b4 (some (.row 22 1 [.own (some b9) c d.length]))).upd D (some (.raw (.deferred (some [])))), fun k s => s = k, fun _ _ => False, 0, ?_, ?_, ?_, ?_, ?_, ?_⟩⟩
      · rw [mapDk_zero]; exact SubH.refl _
      · rfl
      · intros; trivial
      · intro l k y k2 hy hI
        obtain rfl : k = k2 := Eq.symm hI
        obtain ⟨hle, rfl⟩ := betL_at hy
        have hft := fromTo_ok hc1 (show a.line ≤ a.line + (k : Int) by omega) hle
        obtain ⟨f1, f2, f3, f4, f5⟩ := hft
        have hsp : spanC (lineAt d (a.line + (k : Int))).cells (fromTo d a b (a.line + (k : Int))).1 (fromTo d a b (a.line + (k : Int))).2 = true := decide_eq_true ⟨f3, f4, f5⟩
        have hll := (hd.line (a.line + (k : Int))).2.1
        refine AW_norm (by simp only [setP, tput, List.set_cons_zero, List.set_cons_succ]; rfl) ?_
        refine GC2 ?_
        refine GO1 ?_
        refine GC3 ?_
        refine AL_alloc FZe.h (.agg (.v (.v .nil))) rfl FSz.h rfl ?_
        intro b5 hb5
        have hn5 : H b5 = none := SubH.none SU hb5
        have hd5_9 : b5 ≠ b9 := AH.fresh_ne hb5 LK
        have hd9_5 : b9 ≠ b5 := Ne.symm hd5_9
        have hd5_4 : b5 ≠ b4 := AH.fresh_ne hb5 LK
        have hd4_5 : b4 ≠ b5 := Ne.symm hd5_4
        have hd5_D : b5 ≠ D := AH.fresh_ne hb5 LK
        have hdD_5 : D ≠ b5 := Ne.symm hd5_D
        refine GW ?_
        refine AL_norm TN ?_
        refine GC1 ?_
        refine asgQ_n ?_
        refine AW_block ?_
        refine' AW_drawL (xs := [_, _, _, _, _, _, _, _, _, _, _, _, _, _, _, _, _, _, _]) [18] [0, 0, 0, 0, 0, 1, 2, 3, 0, 1, 0, 1, 4, 5, 6, 10, 7, 8, 9] (fun m => match m with | 0 => (((H.upd b9 (some (.row 60 c ((mapDk g d a b k).map lineAV)))).upd b4 (some (.row 22 1 [.own (some b9) c d.length]))).upd D (some (.raw (.deferred (some []))))).upd b5 (some (.row 223 1 [.ag [.v (.int .i64 (fromTo d a b (a.line + (k : Int))).1), .v (.int .i64 (fromTo d a b (a.line + (k : Int))).2)]])) | _ => (((H.upd b9 (some (.row 60 c ((mapDk g d a b (k + 1)).map lineAV)))).upd b4 (some (.row 22 1 [.own (some b9) c d.length]))).upd D (some (.raw (.deferred (some []))))).upd b5 (some (.row 223 1 [.ag [.v (.int .i64 (fromTo d a b (a.line + (k : Int))).1), .v (.int .i64 (fromTo d a b (a.line + (k : Int))).2)]]))) rfl (by kernel_rfl) ?hops1 ?_
        case hops1 =>
          refine HopsL_cons (fun m T hl hr hm hm2 => ?_) ?_
          · skip
            replace hm : 0 ≤ m := hm
            replace hm2 : m ≤ 0 := hm2
            obtain rfl : m = 0 := by omega
            refine AL_heap (by rfl : _ = (((H.upd b9 (some (.row 60 c ((mapDk g d a b k).map lineAV)))).upd b4 (some (.row 22 1 [.own (some b9) c d.length]))).upd D (some (.raw (.deferred (some []))))).upd b5 (some (.row 223 1 [.ag [.v (.int .i64 (fromTo d a b (a.line + (k : Int))).1), .v (.int .i64 (fromTo d a b (a.line + (k : Int))).2)]]))) ?_
            first | refine AL_load_rp FSz.h ((hr 10 (by kernel_rfl)).trans rfl) FAg.h ?_ | refine AL_loadw FSz.h ((hr 10 (by kernel_rfl)).trans rfl) LK (by exact FAg.h) rfl ?_ | refine AL_load_pt FAg.h FSz.h (by decide) ((hr 10 (by kernel_rfl)).trans rfl) LK FSz.h (by exact rfl) (by exact rfl) (by exact rfl) ?_
            refine AL_nil ?_
            refine qpostL_mk ?_ ?_
            rotate_left
            exact Weak.refl _
            show SubH ((((H.upd b9 (some (.row 60 c ((mapDk g d a b k).map lineAV)))).upd b4 (some (.row 22 1 [.own (some b9) c d.length]))).upd D (some (.raw (.deferred (some []))))).upd b5 (some (.row 223 1 [.ag [.v (.int .i64 (fromTo d a b (a.line + (k : Int))).1), .v (.int .i64 (fromTo d a b (a.line + (k : Int))).2)]]))) _
            exact SubH.refl _
          refine HopsL_norm TO ?_
          refine HopsL_cons (fun m T hl hr hm hm2 => ?_) ?_
          · skip
            replace hm : 0 ≤ m := hm
            replace hm2 : m ≤ 0 := hm2
            obtain rfl : m = 0 := by omega
            refine AL_heap (by rfl : _ = (((H.upd b9 (some (.row 60 c ((mapDk g d a b k).map lineAV)))).upd b4 (some (.row 22 1 [.own (some b9) c d.length]))).upd D (some (.raw (.deferred (some []))))).upd b5 (some (.row 223 1 [.ag [.v (.int .i64 (fromTo d a b (a.line + (k : Int))).1), .v (.int .i64 (fromTo d a b (a.line + (k : Int))).2)]]))) ?_
            refine AL_move ((hr 11 (by kernel_rfl)).trans rfl) ?_
            refine AL_nil ?_
            refine qpostL_mk ?_ ?_
            rotate_left
            exact Weak.refl _
            show SubH ((((H.upd b9 (some (.row 60 c ((mapDk g d a b k).map lineAV)))).upd b4 (some (.row 22 1 [.own (some b9) c d.length]))).upd D (some (.raw (.deferred (some []))))).upd b5 (some (.row 223 1 [.ag [.v (.int .i64 (fromTo d a b (a.line + (k : Int))).1), .v (.int .i64 (fromTo d a b (a.line + (k : Int))).2)]]))) _
            exact SubH.refl _
          refine HopsL_norm TO ?_
          refine HopsL_cons (fun m T hl hr hm hm2 => ?_) ?_
          · skip
            replace hm : 0 ≤ m := hm
            replace hm2 : m ≤ 0 := hm2
            obtain rfl : m = 0 := by omega
            refine AL_heap (by rfl : _ = (((H.upd b9 (some (.row 60 c ((mapDk g d a b k).map lineAV)))).upd b4 (some (.row 22 1 [.own (some b9) c d.length]))).upd D (some (.raw (.deferred (some []))))).upd b5 (some (.row 223 1 [.ag [.v (.int .i64 (fromTo d a b (a.line + (k : Int))).1), .v (.int .i64 (fromTo d a b (a.line + (k : Int))).2)]]))) ?_
            first | refine AL_load_rp FSz.h ((hr 7 (by kernel_rfl)).trans rfl) FAg.h ?_ | refine AL_loadw FSz.h ((hr 7 (by kernel_rfl)).trans rfl) LK (by exact FAg.h) rfl ?_ | refine AL_load_pt FAg.h FSz.h (by decide) ((hr 7 (by kernel_rfl)).trans rfl) LK FSz.h (by exact rfl) (by exact rfl) (by exact rfl) ?_
            refine AL_nil ?_
            refine qpostL_mk ?_ ?_
            rotate_left
            exact Weak.refl _
            show SubH ((((H.upd b9 (some (.row 60 c ((mapDk g d a b k).map lineAV)))).upd b4 (some (.row 22 1 [.own (some b9) c d.length]))).upd D (some (.raw (.deferred (some []))))).upd b5 (some (.row 223 1 [.ag [.v (.int .i64 (fromTo d a b (a.line + (k : Int))).1), .v (.int .i64 (fromTo d a b (a.line + (k : Int))).2)]]))) _
            exact SubH.refl _
          refine HopsL_norm TO ?_
          refine HopsL_cons (fun m T hl hr hm hm2 => ?_) ?_
          · skip
            replace hm : 0 ≤ m := hm
            replace hm2 : m ≤ 0 := hm2
            obtain rfl : m = 0 := by omega
            refine AL_heap (by rfl : _ = (((H.upd b9 (some (.row 60 c ((mapDk g d a b k).map lineAV)))).upd b4 (some (.row 22 1 [.own (some b9) c d.length]))).upd D (some (.raw (.deferred (some []))))).upd b5 (some (.row 223 1 [.ag [.v (.int .i64 (fromTo d a b (a.line + (k : Int))).1), .v (.int .i64 (fromTo d a b (a.line + (k : Int))).2)]]))) ?_
            first | refine AL_load_rp FSz.h ((hr 10 (by kernel_rfl)).trans rfl) FAg.h ?_ | refine AL_loadw FSz.h ((hr 10 (by kernel_rfl)).trans rfl) LK (by exact FAg.h) rfl ?_ | refine AL_load_pt FAg.h FSz.h (by decide) ((hr 10 (by kernel_rfl)).trans rfl) LK FSz.h (by exact rfl) (by exact rfl) (by exact rfl) ?_
            refine AL_nil ?_
            refine qpostL_mk ?_ ?_
            rotate_left
            exact Weak.refl _
            show SubH ((((H.upd b9 (some (.row 60 c ((mapDk g d a b k).map lineAV)))).upd b4 (some (.row 22 1 [.own (some b9) c d.length]))).upd D (some (.raw (.deferred (some []))))).upd b5 (some (.row 223 1 [.ag [.v (.int .i64 (fromTo d a b (a.line + (k : Int))).1), .v (.int .i64 (fromTo d a b (a.line + (k : Int))).2)]]))) _
            exact SubH.refl _
          refine HopsL_norm TO ?_
          refine HopsL_cons (fun m T hl hr hm hm2 => ?_) ?_
          · skip
            replace hm : 0 ≤ m := hm
            replace hm2 : m ≤ 0 := hm2
            obtain rfl : m = 0 := by omega
            refine AL_heap (by rfl : _ = (((H.upd b9 (some (.row 60 c ((mapDk g d a b k).map lineAV)))).upd b4 (some (.row 22 1 [.own (some b9) c d.length]))).upd D (some (.raw (.deferred (some []))))).upd b5 (some (.row 223 1 [.ag [.v (.int .i64 (fromTo d a b (a.line + (k : Int))).1), .v (.int .i64 (fromTo d a b (a.line + (k : Int))).2)]]))) ?_
            refine AL_move ((hr 11 (by kernel_rfl)).trans rfl) ?_
            refine AL_nil ?_
            refine qpostL_mk ?_ ?_
            rotate_left
            exact Weak.refl _
            show SubH ((((H.upd b9 (some (.row 60 c ((mapDk g d a b k).map lineAV)))).upd b4 (some (.row 22 1 [.own (some b9) c d.length]))).upd D (some (.raw (.deferred (some []))))).upd b5 (some (.row 223 1 [.ag [.v (.int .i64 (fromTo d a b (a.line + (k : Int))).1), .v (.int .i64 (fromTo d a b (a.line + (k : Int))).2)]]))) _
            exact SubH.refl _
          refine HopsL_norm TO ?_
          refine HopsL_cons (fun m T hl hr hm hm2 => ?_) ?_
          · skip
            replace hm : 0 ≤ m := hm
            replace hm2 : m ≤ 0 := hm2
            obtain rfl : m = 0 := by omega
            refine AL_heap (by rfl : _ = (((H.upd b9 (some (.row 60 c ((mapDk g d a b k).map lineAV)))).upd b4 (some (.row 22 1 [.own (some b9) c d.length]))).upd D (some (.raw (.deferred (some []))))).upd b5 (some (.row 223 1 [.ag [.v (.int .i64 (fromTo d a b (a.line + (k : Int))).1), .v (.int .i64 (fromTo d a b (a.line + (k : Int))).2)]]))) ?_
            first | refine AL_indexAddr_sl FUn.h FSz.h (by decide) ((hr 37 (by kernel_rfl)).trans rfl) ((hr 38 (by kernel_rfl)).trans rfl) ?_ ?_ ?_ ?_ | refine AL_indexAddr_own FUn.h FSz.h ((hr 37 (by kernel_rfl)).trans rfl) ((hr 38 (by kernel_rfl)).trans rfl) ?_ ?_ ?_
            · omega
            · omega
            refine AL_nil ?_
            refine qpostL_mk ?_ ?_
            rotate_left
            exact Weak.refl _
            show SubH ((((H.upd b9 (some (.row 60 c ((mapDk g d a b k).map lineAV)))).upd b4 (some (.row 22 1 [.own (some b9) c d.length]))).upd D (some (.raw (.deferred (some []))))).upd b5 (some (.row 223 1 [.ag [.v (.int .i64 (fromTo d a b (a.line + (k : Int))).1), .v (.int .i64 (fromTo d a b (a.line + (k : Int))).2)]]))) _
            exact SubH.refl _
          refine HopsL_norm TO ?_
          refine HopsL_cons (fun m T hl hr hm hm2 => ?_) ?_
          · skip
            replace hm : 0 ≤ m := hm
            replace hm2 : m ≤ 0 := hm2
            obtain rfl : m = 0 := by omega
            refine AL_heap (by rfl : _ = (((H.upd b9 (some (.row 60 c ((mapDk g d a b k).map lineAV)))).upd b4 (some (.row 22 1 [.own (some b9) c d.length]))).upd D (some (.raw (.deferred (some []))))).upd b5 (some (.row 223 1 [.ag [.v (.int .i64 (fromTo d a b (a.line + (k : Int))).1), .v (.int .i64 (fromTo d a b (a.line + (k : Int))).2)]]))) ?_
            first | refine AL_fieldAddr_pt FFl.h FSz.h (by decide) ((hr 39 (by kernel_rfl)).trans rfl) ?_ | refine AL_fieldAddr_rp FFl.h FAg.h FSz.h (by decide) (by decide) ((hr 39 (by kernel_rfl)).trans rfl) rfl (fun h => by first | rfl | cases h) ?_
            refine AL_nil ?_
            refine qpostL_mk ?_ ?_
            rotate_left
            exact Weak.refl _
            show SubH ((((H.upd b9 (some (.row 60 c ((mapDk g d a b k).map lineAV)))).upd b4 (some (.row 22 1 [.own (some b9) c d.length]))).upd D (some (.raw (.deferred (some []))))).upd b5 (some (.row 223 1 [.ag [.v (.int .i64 (fromTo d a b (a.line + (k : Int))).1), .v (.int .i64 (fromTo d a b (a.line + (k : Int))).2)]]))) _
            exact SubH.refl _
          refine HopsL_norm TO ?_
          refine HopsL_cons (fun m T hl hr hm hm2 => ?_) ?_
          · skip
            replace hm : 0 ≤ m := hm
            replace hm2 : m ≤ 0 := hm2
            obtain rfl : m = 0 := by omega
            refine AL_heap (by rfl : _ = (((H.upd b9 (some (.row 60 c ((mapDk g d a b k).map lineAV)))).upd b4 (some (.row 22 1 [.own (some b9) c d.length]))).upd D (some (.raw (.deferred (some []))))).upd b5 (some (.row 223 1 [.ag [.v (.int .i64 (fromTo d a b (a.line + (k : Int))).1), .v (.int .i64 (fromTo d a b (a.line + (k : Int))).2)]]))) ?_
            refine AL_load_pt (x := lineAV (lineAt d (a.line + (k : Int)))) FAg.h FSz.h (by decide) ((hr 40 (by kernel_rfl)).trans rfl) LK FSz.h (mapDk_at g d a b k (by omega) f2) (by exact rfl) (by exact rfl) ?_
            refine AL_nil ?_
            refine qpostL_mk ?_ ?_
            rotate_left
            exact Weak.refl _
            show SubH ((((H.upd b9 (some (.row 60 c ((mapDk g d a b k).map lineAV)))).upd b4 (some (.row 22 1 [.own (some b9) c d.length]))).upd D (some (.raw (.deferred (some []))))).upd b5 (some (.row 223 1 [.ag [.v (.int .i64 (fromTo d a b (a.line + (k : Int))).1), .v (.int .i64 (fromTo d a b (a.line + (k : Int))).2)]]))) _
            exact SubH.refl _
          refine HopsL_norm TO ?_
          refine HopsL_cons (fun m T hl hr hm hm2 => ?_) ?_
          · skip
            replace hm : 0 ≤ m := hm
            replace hm2 : m ≤ 0 := hm2
            obtain rfl : m = 0 := by omega
            refine AL_heap (by rfl : _ = (((H.upd b9 (some (.row 60 c ((mapDk g d a b k).map lineAV)))).upd b4 (some (.row 22 1 [.own (some b9) c d.length]))).upd D (some (.raw (.deferred (some []))))).upd b5 (some (.row 223 1 [.ag [.v (.int .i64 (fromTo d a b (a.line + (k : Int))).1), .v (.int .i64 (fromTo d a b (a.line + (k : Int))).2)]]))) ?_
            refine AL_indexAddr_pa FUn.h FSz.h ((hr 12 (by kernel_rfl)).trans rfl) rfl ?_ ?_ ?_
            · omega
            · omega
            refine AL_nil ?_
            refine qpostL_mk ?_ ?_
            rotate_left
            exact Weak.refl _
            show SubH ((((H.upd b9 (some (.row 60 c ((mapDk g d a b k).map lineAV)))).upd b4 (some (.row 22 1 [.own (some b9) c d.length]))).upd D (some (.raw (.deferred (some []))))).upd b5 (some (.row 223 1 [.ag [.v (.int .i64 (fromTo d a b (a.line + (k : Int))).1), .v (.int .i64 (fromTo d a b (a.line + (k : Int))).2)]]))) _
            exact SubH.refl _
          refine HopsL_norm TO ?_
          refine HopsL_cons (fun m T hl hr hm hm2 => ?_) ?_
          · skip
            replace hm : 0 ≤ m := hm
            replace hm2 : m ≤ 0 := hm2
            obtain rfl : m = 0 := by omega
            refine AL_heap (by rfl : _ = (((H.upd b9 (some (.row 60 c ((mapDk g d a b k).map lineAV)))).upd b4 (some (.row 22 1 [.own (some b9) c d.length]))).upd D (some (.raw (.deferred (some []))))).upd b5 (some (.row 223 1 [.ag [.v (.int .i64 (fromTo d a b (a.line + (k : Int))).1), .v (.int .i64 (fromTo d a b (a.line + (k : Int))).2)]]))) ?_
            first | refine AL_load_rp FSz.h ((hr 42 (by kernel_rfl)).trans rfl) FAg.h ?_ | refine AL_loadw FSz.h ((hr 42 (by kernel_rfl)).trans rfl) LK (by exact FAg.h) rfl ?_ | refine AL_load_pt FAg.h FSz.h (by decide) ((hr 42 (by kernel_rfl)).trans rfl) LK FSz.h (by exact rfl) (by exact rfl) (by exact rfl) ?_
            refine AL_nil ?_
            refine qpostL_mk ?_ ?_
            rotate_left
            exact Weak.refl _
            show SubH ((((H.upd b9 (some (.row 60 c ((mapDk g d a b k).map lineAV)))).upd b4 (some (.row 22 1 [.own (some b9) c d.length]))).upd D (some (.raw (.deferred (some []))))).upd b5 (some (.row 223 1 [.ag [.v (.int .i64 (fromTo d a b (a.line + (k : Int))).1), .v (.int .i64 (fromTo d a b (a.line + (k : Int))).2)]]))) _
            exact SubH.refl _
          refine HopsL_norm TO ?_
          refine HopsL_cons (fun m T hl hr hm hm2 => ?_) ?_
          · skip
            replace hm : 0 ≤ m := hm
            replace hm2 : m ≤ 0 := hm2
            obtain rfl : m = 0 := by omega
            refine AL_heap (by rfl : _ = (((H.upd b9 (some (.row 60 c ((mapDk g d a b k).map lineAV)))).upd b4 (some (.row 22 1 [.own (some b9) c d.length]))).upd D (some (.raw (.deferred (some []))))).upd b5 (some (.row 223 1 [.ag [.v (.int .i64 (fromTo d a b (a.line + (k : Int))).1), .v (.int .i64 (fromTo d a b (a.line + (k : Int))).2)]]))) ?_
            refine AL_indexAddr_pa FUn.h FSz.h ((hr 12 (by kernel_rfl)).trans rfl) rfl ?_ ?_ ?_
            · omega
            · omega
            refine AL_nil ?_
            refine qpostL_mk ?_ ?_
            rotate_left
            exact Weak.refl _
            show SubH ((((H.upd b9 (some (.row 60 c ((mapDk g d a b k).map lineAV)))).upd b4 (some (.row 22 1 [.own (some b9) c d.length]))).upd D (some (.raw (.deferred (some []))))).upd b5 (some (.row 223 1 [.ag [.v (.int .i64 (fromTo d a b (a.line + (k : Int))).1), .v (.int .i64 (fromTo d a b (a.line + (k : Int))).2)]]))) _
            exact SubH.refl _
          refine HopsL_norm TO ?_
          refine HopsL_cons (fun m T hl hr hm hm2 => ?_) ?_
          · skip
            replace hm : 0 ≤ m := hm
            replace hm2 : m ≤ 0 := hm2
            obtain rfl : m = 0 := by omega
            refine AL_heap (by rfl : _ = (((H.upd b9 (some (.row 60 c ((mapDk g d a b k).map lineAV)))).upd b4 (some (.row 22 1 [.own (some b9) c d.length]))).upd D (some (.raw (.deferred (some []))))).upd b5 (some (.row 223 1 [.ag [.v (.int .i64 (fromTo d a b (a.line + (k : Int))).1), .v (.int .i64 (fromTo d a b (a.line + (k : Int))).2)]]))) ?_
            first | refine AL_load_rp FSz.h ((hr 44 (by kernel_rfl)).trans rfl) FAg.h ?_ | refine AL_loadw FSz.h ((hr 44 (by kernel_rfl)).trans rfl) LK (by exact FAg.h) rfl ?_ | refine AL_load_pt FAg.h FSz.h (by decide) ((hr 44 (by kernel_rfl)).trans rfl) LK FSz.h (by exact rfl) (by exact rfl) (by exact rfl) ?_
            refine AL_nil ?_
            refine qpostL_mk ?_ ?_
            rotate_left
            exact Weak.refl _
            show SubH ((((H.upd b9 (some (.row 60 c ((mapDk g d a b k).map lineAV)))).upd b4 (some (.row 22 1 [.own (some b9) c d.length]))).upd D (some (.raw (.deferred (some []))))).upd b5 (some (.row 223 1 [.ag [.v (.int .i64 (fromTo d a b (a.line + (k : Int))).1), .v (.int .i64 (fromTo d a b (a.line + (k : Int))).2)]]))) _
            exact SubH.refl _
          refine HopsL_norm TO ?_
          refine HopsL_cons (fun m T hl hr hm hm2 => ?_) ?_
          · skip
            replace hm : 0 ≤ m := hm
            replace hm2 : m ≤ 0 := hm2
            obtain rfl : m = 0 := by omega
            refine AL_heap (by rfl : _ = (((H.upd b9 (some (.row 60 c ((mapDk g d a b k).map lineAV)))).upd b4 (some (.row 22 1 [.own (some b9) c d.length]))).upd D (some (.raw (.deferred (some []))))).upd b5 (some (.row 223 1 [.ag [.v (.int .i64 (fromTo d a b (a.line + (k : Int))).1), .v (.int .i64 (fromTo d a b (a.line + (k : Int))).2)]]))) ?_
            refine AL_callv ((hr 36 (by kernel_rfl)).trans rfl) hen (.cons (.ev ((hr 41 (by kernel_rfl)).trans rfl)) (.cons (.ev ((hr 43 (by kernel_rfl)).trans rfl)) (.cons (.ev ((hr 45 (by kernel_rfl)).trans rfl)) (.nil)))) (PI.toAC (hch (lineAt d (a.line + (k : Int))).cells _ _ hll) (Holds.sub hT (by repeat (first | exact SubH.refl _ | assumption | refine SubH.upd ?_ (by assumption))))) ?_
            rintro _ _ ⟨rfl, rfl⟩
            refine AL_nil ?_
            refine qpostL_mk ?_ ?_
            rotate_left
            exact Weak.refl _
            show SubH ((((H.upd b9 (some (.row 60 c ((mapDk g d a b k).map lineAV)))).upd b4 (some (.row 22 1 [.own (some b9) c d.length]))).upd D (some (.raw (.deferred (some []))))).upd b5 (some (.row 223 1 [.ag [.v (.int .i64 (fromTo d a b (a.line + (k : Int))).1), .v (.int .i64 (fromTo d a b (a.line + (k : Int))).2)]]))) _
            exact SubH.refl _
          refine HopsL_norm TO ?_
          refine HopsL_cons (fun m T hl hr hm hm2 => ?_) ?_
          · skip
            replace hm : 0 ≤ m := hm
            replace hm2 : m ≤ 0 := hm2
            obtain rfl : m = 0 := by omega
            refine AL_heap (by rfl : _ = (((H.upd b9 (some (.row 60 c ((mapDk g d a b k).map lineAV)))).upd b4 (some (.row 22 1 [.own (some b9) c d.length]))).upd D (some (.raw (.deferred (some []))))).upd b5 (some (.row 223 1 [.ag [.v (.int .i64 (fromTo d a b (a.line + (k : Int))).1), .v (.int .i64 (fromTo d a b (a.line + (k : Int))).2)]]))) ?_
            refine AL_move ((hr 46 (by kernel_rfl)).trans rfl) ?_
            refine AL_nil ?_
            refine qpostL_mk ?_ ?_
            rotate_left
            exact Weak.refl _
            show SubH ((((H.upd b9 (some (.row 60 c ((mapDk g d a b k).map lineAV)))).upd b4 (some (.row 22 1 [.own (some b9) c d.length]))).upd D (some (.raw (.deferred (some []))))).upd b5 (some (.row 223 1 [.ag [.v (.int .i64 (fromTo d a b (a.line + (k : Int))).1), .v (.int .i64 (fromTo d a b (a.line + (k : Int))).2)]]))) _
            exact SubH.refl _
          refine HopsL_norm TO ?_
          refine HopsL_cons (fun m T hl hr hm hm2 => ?_) ?_
          · skip
            replace hm : 0 ≤ m := hm
            replace hm2 : m ≤ 0 := hm2
            obtain rfl : m = 0 := by omega
            refine AL_heap (by rfl : _ = (((H.upd b9 (some (.row 60 c ((mapDk g d a b k).map lineAV)))).upd b4 (some (.row 22 1 [.own (some b9) c d.length]))).upd D (some (.raw (.deferred (some []))))).upd b5 (some (.row 223 1 [.ag [.v (.int .i64 (fromTo d a b (a.line + (k : Int))).1), .v (.int .i64 (fromTo d a b (a.line + (k : Int))).2)]]))) ?_
            refine AL_extract ((hr 33 (by kernel_rfl)).trans rfl) rfl ?_
            refine AL_nil ?_
            refine qpostL_mk ?_ ?_
            rotate_left
            exact Weak.refl _
            show SubH ((((H.upd b9 (some (.row 60 c ((mapDk g d a b k).map lineAV)))).upd b4 (some (.row 22 1 [.own (some b9) c d.length]))).upd D (some (.raw (.deferred (some []))))).upd b5 (some (.row 223 1 [.ag [.v (.int .i64 (fromTo d a b (a.line + (k : Int))).1), .v (.int .i64 (fromTo d a b (a.line + (k : Int))).2)]]))) _
            exact SubH.refl _
          refine HopsL_norm TO ?_
          refine HopsL_cons (fun m T hl hr hm hm2 => ?_) ?_
          · skip
            replace hm : 0 ≤ m := hm
            replace hm2 : m ≤ 1 := hm2
            obtain rfl | rfl : m = 0 ∨ m = 1 := by omega
            ·
              refine AL_heap (by rfl : _ = (((H.upd b9 (some (.row 60 c ((mapDk g d a b k).map lineAV)))).upd b4 (some (.row 22 1 [.own (some b9) c d.length]))).upd D (some (.raw (.deferred (some []))))).upd b5 (some (.row 223 1 [.ag [.v (.int .i64 (fromTo d a b (a.line + (k : Int))).1), .v (.int .i64 (fromTo d a b (a.line + (k : Int))).2)]]))) ?_
              refine AL_extract ((hr 33 (by kernel_rfl)).trans rfl) rfl ?_
              refine AL_nil ?_
              refine qpostL_mk ?_ ?_
              rotate_left
              exact Weak.refl _
              show SubH ((((H.upd b9 (some (.row 60 c ((mapDk g d a b k).map lineAV)))).upd b4 (some (.row 22 1 [.own (some b9) c d.length]))).upd D (some (.raw (.deferred (some []))))).upd b5 (some (.row 223 1 [.ag [.v (.int .i64 (fromTo d a b (a.line + (k : Int))).1), .v (.int .i64 (fromTo d a b (a.line + (k : Int))).2)]]))) _
              exact SubH.refl _
            ·
              refine AL_heap (by rfl : _ = (((H.upd b9 (some (.row 60 c ((mapDk g d a b (k + 1)).map lineAV)))).upd b4 (some (.row 22 1 [.own (some b9) c d.length]))).upd D (some (.raw (.deferred (some []))))).upd b5 (some (.row 223 1 [.ag [.v (.int .i64 (fromTo d a b (a.line + (k : Int))).1), .v (.int .i64 (fromTo d a b (a.line + (k : Int))).2)]]))) ?_
              refine AL_extract ((hr 33 (by kernel_rfl)).trans rfl) rfl ?_
              refine AL_nil ?_
              refine qpostL_mk ?_ ?_
              rotate_left
              exact Weak.refl _
              show SubH ((((H.upd b9 (some (.row 60 c ((mapDk g d a b (k + 1)).map lineAV)))).upd b4 (some (.row 22 1 [.own (some b9) c d.length]))).upd D (some (.raw (.deferred (some []))))).upd b5 (some (.row 223 1 [.ag [.v (.int .i64 (fromTo d a b (a.line + (k : Int))).1), .v (.int .i64 (fromTo d a b (a.line + (k : Int))).2)]]))) _
              exact SubH.refl _
          refine HopsL_norm TO ?_
          refine HopsL_cons (fun m T hl hr hm hm2 => ?_) ?_
          · skip
            replace hm : 0 ≤ m := hm
            replace hm2 : m ≤ 1 := hm2
            obtain rfl | rfl : m = 0 ∨ m = 1 := by omega
            ·
              refine AL_heap (by rfl : _ = (((H.upd b9 (some (.row 60 c ((mapDk g d a b k).map lineAV)))).upd b4 (some (.row 22 1 [.own (some b9) c d.length]))).upd D (some (.raw (.deferred (some []))))).upd b5 (some (.row 223 1 [.ag [.v (.int .i64 (fromTo d a b (a.line + (k : Int))).1), .v (.int .i64 (fromTo d a b (a.line + (k : Int))).2)]]))) ?_
              first | refine AL_indexAddr_sl FUn.h FSz.h (by decide) ((hr 34 (by kernel_rfl)).trans rfl) ((hr 35 (by kernel_rfl)).trans rfl) ?_ ?_ ?_ ?_ | refine AL_indexAddr_own FUn.h FSz.h ((hr 34 (by kernel_rfl)).trans rfl) ((hr 35 (by kernel_rfl)).trans rfl) ?_ ?_ ?_
              · omega
              · omega
              refine AL_nil ?_
              refine qpostL_mk ?_ ?_
              rotate_left
              exact Weak.refl _
              show SubH ((((H.upd b9 (some (.row 60 c ((mapDk g d a b k).map lineAV)))).upd b4 (some (.row 22 1 [.own (some b9) c d.length]))).upd D (some (.raw (.deferred (some []))))).upd b5 (some (.row 223 1 [.ag [.v (.int .i64 (fromTo d a b (a.line + (k : Int))).1), .v (.int .i64 (fromTo d a b (a.line + (k : Int))).2)]]))) _
              exact SubH.refl _
            ·
              refine AL_heap (by rfl : _ = (((H.upd b9 (some (.row 60 c ((mapDk g d a b (k + 1)).map lineAV)))).upd b4 (some (.row 22 1 [.own (some b9) c d.length]))).upd D (some (.raw (.deferred (some []))))).upd b5 (some (.row 223 1 [.ag [.v (.int .i64 (fromTo d a b (a.line + (k : Int))).1), .v (.int .i64 (fromTo d a b (a.line + (k : Int))).2)]]))) ?_
              first | refine AL_indexAddr_sl FUn.h FSz.h (by decide) ((hr 34 (by kernel_rfl)).trans rfl) ((hr 35 (by kernel_rfl)).trans rfl) ?_ ?_ ?_ ?_ | refine AL_indexAddr_own FUn.h FSz.h ((hr 34 (by kernel_rfl)).trans rfl) ((hr 35 (by kernel_rfl)).trans rfl) ?_ ?_ ?_
              · omega
              · omega
              refine AL_nil ?_
              refine qpostL_mk ?_ ?_
              rotate_left
              exact Weak.refl _
              show SubH ((((H.upd b9 (some (.row 60 c ((mapDk g d a b (k + 1)).map lineAV)))).upd b4 (some (.row 22 1 [.own (some b9) c d.length]))).upd D (some (.raw (.deferred (some []))))).upd b5 (some (.row 223 1 [.ag [.v (.int .i64 (fromTo d a b (a.line + (k : Int))).1), .v (.int .i64 (fromTo d a b (a.line + (k : Int))).2)]]))) _
              exact SubH.refl _
          refine HopsL_norm TO ?_
          refine HopsL_cons (fun m T hl hr hm hm2 => ?_) ?_
          · skip
            replace hm : 0 ≤ m := hm
            replace hm2 : m ≤ 0 := hm2
            obtain rfl : m = 0 := by omega
            refine AL_heap (by rfl : _ = (((H.upd b9 (some (.row 60 c ((mapDk g d a b k).map lineAV)))).upd b4 (some (.row 22 1 [.own (some b9) c d.length]))).upd D (some (.raw (.deferred (some []))))).upd b5 (some (.row 223 1 [.ag [.v (.int .i64 (fromTo d a b (a.line + (k : Int))).1), .v (.int .i64 (fromTo d a b (a.line + (k : Int))).2)]]))) ?_
            first | refine AL_fieldAddr_pt FFl.h FSz.h (by decide) ((hr 49 (by kernel_rfl)).trans rfl) ?_ | refine AL_fieldAddr_rp FFl.h FAg.h FSz.h (by decide) (by decide) ((hr 49 (by kernel_rfl)).trans rfl) rfl (fun h => by first | rfl | cases h) ?_
            refine AL_nil ?_
            refine qpostL_mk ?_ ?_
            rotate_left
            exact Weak.refl _
            show SubH ((((H.upd b9 (some (.row 60 c ((mapDk g d a b k).map lineAV)))).upd b4 (some (.row 22 1 [.own (some b9) c d.length]))).upd D (some (.raw (.deferred (some []))))).upd b5 (some (.row 223 1 [.ag [.v (.int .i64 (fromTo d a b (a.line + (k : Int))).1), .v (.int .i64 (fromTo d a b (a.line + (k : Int))).2)]]))) _
            exact SubH.refl _
          refine HopsL_norm TO ?_
          refine HopsL_cons (fun m T hl hr hm hm2 => ?_) ?_
          · skip
            replace hm : 0 ≤ m := hm
            replace hm2 : m ≤ 0 := hm2
            obtain rfl : m = 0 := by omega
            refine AL_heap (by rfl : _ = (((H.upd b9 (some (.row 60 c ((mapDk g d a b k).map lineAV)))).upd b4 (some (.row 22 1 [.own (some b9) c d.length]))).upd D (some (.raw (.deferred (some []))))).upd b5 (some (.row 223 1 [.ag [.v (.int .i64 (fromTo d a b (a.line + (k : Int))).1), .v (.int .i64 (fromTo d a b (a.line + (k : Int))).2)]]))) ?_
            first | refine AL_store_w FSz.h ((hr 50 (by kernel_rfl)).trans rfl) (.ev ((hr 47 (by kernel_rfl)).trans rfl)) rfl LK rfl (by exact rfl) ?_ | refine AL_store ((hr 50 (by kernel_rfl)).trans rfl) (.ev ((hr 47 (by kernel_rfl)).trans rfl)) rfl LK FSz.h (by exact mapDk_at g d a b k (by omega) f2) FSz.h rfl (by decide) (fun h => by first | (cases h; done) | exact ⟨rfl, rfl, rfl⟩) ?_
            refine AL_heap (by first | (simp only [AH.upd_upd]; rfl) | rfl) ?_
            refine AL_nil ?_
            refine qpostL_mk ?_ ?_
            rotate_left
            exact Weak.refl _
            show SubH ((((H.upd b9 (some (.row 60 c ((mapDk g d a b (k + 1)).map lineAV)))).upd b4 (some (.row 22 1 [.own (some b9) c d.length]))).upd D (some (.raw (.deferred (some []))))).upd b5 (some (.row 223 1 [.ag [.v (.int .i64 (fromTo d a b (a.line + (k : Int))).1), .v (.int .i64 (fromTo d a b (a.line + (k : Int))).2)]]))) _
            rw [← mapDk_next g d a b k (by omega) f2, List.map_set, show lineAV { lineAt d (a.line + (k : Int)) with cells := mapC g (lineAt d (a.line + (k : Int))).cells (fromTo d a b (a.line + (k : Int))).1 (fromTo d a b (a.line + (k : Int))).2 } = putAV (lineAV (lineAt d (a.line + (k : Int)))) 3 (cellsAV (eachC g (lineAt d (a.line + (k : Int))).cells (fromTo d a b (a.line + (k : Int))).1 (fromTo d a b (a.line + (k : Int))).2).1) from by rw [eachC_yes hsp]; rfl]; first | exact SubH.refl _ | (refine SubH.of_eq (funext fun j => ?_); simp only [AH.upd]; (repeat' split) <;> first | rfl | omega)
          refine HopsL_norm TO ?_
          exact HopsL_nil
        refine Q_norm (by first | (simp only [Tfin, tput, anyAt, setAll, List.foldl_cons, List.foldl_nil, List.set_cons_zero, List.set_cons_succ]; rfl) | rfl) ?_
        refine GC1 ?_
        refine roundQ_n ⟨k + 1, ?_, ?_⟩
        · rfl
        · (show SubH (((H.upd b9 (some (.row 60 c ((mapDk g d a b (k + 1)).map lineAV)))).upd b4 (some (.row 22 1 [.own (some b9) c d.length]))).upd D (some (.raw (.deferred (some []))))) ((((H.upd b9 (some (.row 60 c ((mapDk g d a b (k + 1)).map lineAV)))).upd b4 (some (.row 22 1 [.own (some b9) c d.length]))).upd D (some (.raw (.deferred (some []))))).upd b5 (some (.row 223 1 [.ag [.v (.int .i64 (fromTo d a b (a.line + (k : Int))).1), .v (.int .i64 (fromTo d a b (a.line + (k : Int))).2)]])))); intro qq o hq; simp only [AH.upd] at hq ⊢; (repeat' split at hq) <;> (repeat' split) <;> first | exact hq | (exfalso; omega) | simp_all
      · intro k hI; obtain rfl : k = _ := hI
        refine GC4 ?_
        refine GO3 ?_
        refine GC3 ?_
        refine retQN_r ?_
        refine retQM_mk (D := D) (H1 := (H.upd b9 (some (.row 60 c ((mapDk g d a b (betL d a b).length).map lineAV)))).upd b4 (some (.row 22 1 [.own (some b9) c d.length]))) (H' := H.put (some b9) 60 c ((mapD g d a b).map lineAV)) (.inr rfl) LK (.cons (.tmp rfl) (.cons (.tmp rfl) (.nil))) (by intro qq o hq; simp only [AH.upd] at hq ⊢; (repeat' split at hq) <;> (repeat' split) <;> first | exact hq | (exfalso; omega) | simp_all) (by rw [AH.upd_ne _ _ hdD_4, AH.upd_ne _ _ hdD_9]; exact hnD) (by rw [← mapDk_all g d a b hab.1]; (show SubH (H.upd b9 _) _); intro qq o hq; simp only [AH.upd] at hq ⊢; (repeat' split at hq) <;> (repeat' split) <;> first | exact hq | omega | simp_all) ?_
        exact .inr ⟨some b9, c, (mapD g d a b).map lineAV, _, hn9, by rw [List.length_map, ← mapDk_all g d a b hab.1, mapDk_len]; rfl, rfl, by rw [eachR_yes hc1 hc2] at hK; exact hK⟩
      · rintro _ _ ⟨⟩

/-- quillwork/doc.Set -/
theorem doc_Set_ok (d : List Line) (a b : Pos) (s c : Int) (hd : DS d) :
    PI TQ Tryz.prog 162 [linesAV d, posAV a, posAV b, .v (.int .i64 s), .v (.int .i64 c)] (rdAV (setR d a b s c)) := by
  intro H K hT hK
  refine AC_of Tryz.func162 rfl (rs := [.tmp 10, .tmp 11]) rfl Tryz.ntmps162 rfl ?_
  refine AW_norm TP ?_
  refine GC2 ?_
  refine GF ?_
  refine GF ?_
  refine GF ?_
  refine GF ?_
  refine AL_norm TN ?_
  refine GO2 ?_
  refine GC4 ?_
  refine GO3 ?_
  refine AL_makeFunc (.nil) (.cons (.ev rfl) (.cons (.ev rfl) (.nil))) ?_
  refine AL_callpi FEn.h XA HS (doc_each_ok (setF (bitAnd s 15) (bitAnd c 15)) 249 _ d a b hd FEn.h (fun l i j hl => PF.pi (doc_Set_1_ok l i j s c hl))) ?_
  refine GO4 ?_
  refine GC3 ?_
  refine retQ_2 (H' := H) (.inr rfl) rfl rfl SU ?_
  refine K_eq ?_ hK
  rfl

/-- quillwork/doc.Link -/
theorem doc_Link_ok (d : List Line) (a b : Pos) (h : ByteArray) (hd : DS d) (hh : h.size ≤ 200000) :
    PI TQ Tryz.prog 159 [linesAV d, posAV a, posAV b, strAV h] (rdAV (linkR d a b h)) := by
  intro H K hT hK
  refine AC_tup0 60 ?_
  refine AC_of Tryz.func159 rfl (rs := [.tmp 8, .tmp 9]) rfl Tryz.ntmps159 rfl ?_
  refine AW_norm TP ?_
  refine GC2 ?_
  refine GF ?_
  refine GF ?_
  refine GF ?_
  refine GO2 ?_
  refine GC5 ?_
  refine GO3 ?_
  refine AL_and (j := 2) (n := 3) (c := 12) (t := 15) (r := 16) (v := ?v1) [13, 14, 15] rfl rfl rfl rfl rfl rfl rfl (fun hg1 => ?_) ?_; rotate_left
  · refine GS ?_
    (try simp only [Bool.or_eq_true, Bool.and_eq_true, Bool.or_eq_false_iff, Bool.and_eq_false_iff, decide_eq_true_eq, decide_eq_false_iff_not, Bool.not_eq_true', Bool.not_eq_false', beq_iff_eq, ne_eq, Decidable.not_not, List.length_map] at hg1)
    refine GO1 ?_
    refine AL_callpi FEn.h XA HS (attrs_Target_ok h hh) ?_
    refine GO1 ?_
    refine AL_nil (grpQ_mk ?_)
    exact WK
  refine AL_norm TN ?_
  refine AL_norm TN ?_
  refine GC2 ?_
  refine GI rfl (fun hc2 => ?_) (fun hc2 => ?_)
  ·
    refine GC2 ?_
    refine GO2 ?_
    refine GC4 ?_
    refine retQ_2 (H' := H) (.inr rfl) rfl rfl SU ?_
    exact .inr ⟨none, 0, [], _, ⟨rfl, rfl⟩, rfl, rfl, by rw [linkR_no hc2] at hK; exact hK⟩
  ·
    refine GC4 ?_
    refine GO3 ?_
    refine AL_makeFunc (.nil) (.cons (.ev rfl) (.nil)) ?_
    refine AL_callpi FEn.h XA HS (doc_each_ok (linkF h) 247 _ d a b hd FEn.h (fun l i j hl => doc_Link_1_ok l i j h hl hh (link_yes hc2))) ?_
    refine GO4 ?_
    refine GC3 ?_
    refine retQ_2 (H' := H) (.inr rfl) rfl rfl SU ?_
    rw [linkR_yes hc2] at hK; exact .inl hK


end Go.Proofs
