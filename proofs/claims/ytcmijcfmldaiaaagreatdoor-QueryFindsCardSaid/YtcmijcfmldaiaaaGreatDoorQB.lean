/- The given statement of the law: for every input the law answers true. No conditions of our own. -/
import Derived.Test.YtcmijcfmldaiaaaGreatDoorQMa
import Derived.Test.YtcmijcfmldaiaaaGreatDoorTD
import Derived.Test.YtcmijcfmldaiaaaGreatDoorProg
set_option autoImplicit false
set_option linter.unusedVariables false
set_option linter.unusedSimpArgs false
set_option maxRecDepth 100000
set_option maxHeartbeats 4000000
namespace Go.Proofs
open Go Go.RowKit Go.AL Go.Q Go.IntWalk
attribute [local irreducible] AW AL seqQ blockQ retQ loopQ roundQ asgQ grpQ mQ qpost qpostL retQN retQM
instance en268 : FEn Tryz.prog 268 := ⟨by kernel_rfl⟩
instance en209 : FEn Tryz.prog 209 := ⟨by kernel_rfl⟩
instance en130 : FEn Tryz.prog 130 := ⟨by kernel_rfl⟩
instance en289 : FEn Tryz.prog 289 := ⟨by kernel_rfl⟩
instance en288 : FEn Tryz.prog 288 := ⟨by kernel_rfl⟩
instance en200 : FEn Tryz.prog 200 := ⟨by kernel_rfl⟩
instance en199 : FEn Tryz.prog 199 := ⟨by kernel_rfl⟩
instance en304 : FEn Tryz.prog 304 := ⟨by kernel_rfl⟩
instance en249 : FEn Tryz.prog 249 := ⟨by kernel_rfl⟩
instance en247 : FEn Tryz.prog 247 := ⟨by kernel_rfl⟩
instance en296 : FEn Tryz.prog 296 := ⟨by kernel_rfl⟩
instance en292 : FEn Tryz.prog 292 := ⟨by kernel_rfl⟩
instance en242 : FEn Tryz.prog 242 := ⟨by kernel_rfl⟩
instance en196 : FEn Tryz.prog 196 := ⟨by kernel_rfl⟩
instance en253 : FEn Tryz.prog 253 := ⟨by kernel_rfl⟩
instance en145 : FEn Tryz.prog 145 := ⟨by kernel_rfl⟩
instance en154 : FEn Tryz.prog 154 := ⟨by kernel_rfl⟩
instance en168 : FEn Tryz.prog 168 := ⟨by kernel_rfl⟩
instance en66 : FEn Tryz.prog 66 := ⟨by kernel_rfl⟩
instance en82 : FEn Tryz.prog 82 := ⟨by kernel_rfl⟩
instance en300 : FEn Tryz.prog 300 := ⟨by kernel_rfl⟩
instance en276 : FEn Tryz.prog 276 := ⟨by kernel_rfl⟩
instance un52 : FUn Tryz.prog 52 (.slice 3) := ⟨by kernel_rfl⟩
instance sz3 : FSz Tryz.prog 3 1 := ⟨by kernel_rfl⟩
instance ze3 : FZe Tryz.prog 3 (.int .i64 0) := ⟨by kernel_rfl⟩
instance inf3 : FIn Tryz.prog 3 (.int .i64 0) 1 8 := ⟨by kernel_rfl⟩
instance un58 : FUn Tryz.prog 58 (.slice 57) := ⟨by kernel_rfl⟩
instance sz57 : FSz Tryz.prog 57 3 := ⟨by kernel_rfl⟩
instance ze57 : FZe Tryz.prog 57 (.agg #[.int .i32 0, .int .i64 0, .string ⟨#[]⟩]) := ⟨by kernel_rfl⟩
instance inf57 : FIn Tryz.prog 57 (.agg #[.int .i32 0, .int .i64 0, .string ⟨#[]⟩]) 3 32 := ⟨by kernel_rfl⟩
instance ag3 : FAg Tryz.prog 3 false := ⟨by kernel_rfl⟩
instance ag57 : FAg Tryz.prog 57 true := ⟨by kernel_rfl⟩
instance un22 : FUn Tryz.prog 22 (.slice 60) := ⟨by kernel_rfl⟩
instance sz60 : FSz Tryz.prog 60 4 := ⟨by kernel_rfl⟩
instance ag60 : FAg Tryz.prog 60 true := ⟨by kernel_rfl⟩
instance en267 : FEn Tryz.prog 267 := ⟨by kernel_rfl⟩
instance en206 : FEn Tryz.prog 206 := ⟨by kernel_rfl⟩
instance en207 : FEn Tryz.prog 207 := ⟨by kernel_rfl⟩

/-- unicode/utf8.ValidRune -/
theorem unicode_utf8_ValidRune_ok (r : Int) :
    PF Tryz.prog 300 [.v (.int .i32 r)] (.v (.bool (validR r))) := by
  intro H K hK
  refine AC_of Tryz.func300 rfl (rs := [.tmp 2]) rfl Tryz.ntmps300 rfl ?_
  refine AW_norm TP ?_
  refine GC2 ?_
  refine GO1 ?_
  refine GC3 ?_
  refine AW_block ?_
  refine GC2 ?_
  refine GO3 ?_
  refine AL_and (j := 2) (n := 2) (c := 6) (t := 8) (r := 9) (v := ?v1) [7, 8] rfl rfl rfl rfl rfl rfl rfl (fun hg1 => ?_) ?_; rotate_left
  · refine GS ?_
    (try simp only [Bool.or_eq_true, Bool.and_eq_true, Bool.or_eq_false_iff, Bool.and_eq_false_iff, decide_eq_true_eq, decide_eq_false_iff_not, Bool.not_eq_true', Bool.not_eq_false', beq_iff_eq, ne_eq, Decidable.not_not, List.length_map] at hg1)
    refine GO2 ?_
    refine AL_nil (grpQ_mk ?_)
    exact WK
  refine AL_norm TN ?_
  refine GO1 ?_
  refine GC2 ?_
  refine GI rfl (fun hc2 => ?_) (fun hc2 => ?_)
  ·
    refine GC2 ?_
    refine GO1 ?_
    refine GC5 ?_
    refine retQ_1 (H' := H) (.inr rfl) rfl SU ?_
    refine K_eq ?_ hK
    exact congrArg (fun b => AV.v (.bool b)) (by unfold validR; first | (exact (decide_eq_true (by omega)).symm) | (exact (decide_eq_false (by omega)).symm) | (exact decide_eq_decide.2 (by omega)))
  ·
    refine GC2 ?_
    refine GO3 ?_
    refine AL_and (j := 2) (n := 2) (c := 13) (t := 15) (r := 16) (v := ?v3) [14, 15] rfl rfl rfl rfl rfl rfl rfl (fun hg3 => ?_) ?_; rotate_left
    · refine GS ?_
      (try simp only [Bool.or_eq_true, Bool.and_eq_true, Bool.or_eq_false_iff, Bool.and_eq_false_iff, decide_eq_true_eq, decide_eq_false_iff_not, Bool.not_eq_true', Bool.not_eq_false', beq_iff_eq, ne_eq, Decidable.not_not, List.length_map] at hg3)
      refine GO2 ?_
      refine AL_nil (grpQ_mk ?_)
      exact WK
    refine AL_norm TN ?_
    refine GO1 ?_
    refine GC2 ?_
    refine GI rfl (fun hc4 => ?_) (fun hc4 => ?_)
    ·
      refine GC2 ?_
      refine GO1 ?_
      refine GC5 ?_
      refine retQ_1 (H' := H) (.inr rfl) rfl SU ?_
      refine K_eq ?_ hK
      exact congrArg (fun b => AV.v (.bool b)) (by unfold validR; first | (exact (decide_eq_true (by omega)).symm) | (exact (decide_eq_false (by omega)).symm) | (exact decide_eq_decide.2 (by omega)))
    ·
      refine GC5 ?_
      refine GO1 ?_
      refine GC3 ?_
      refine retQ_1 (H' := H) (.inr rfl) rfl SU ?_
      refine K_eq ?_ hK
      exact congrArg (fun b => AV.v (.bool b)) (by unfold validR; first | (exact (decide_eq_true (by omega)).symm) | (exact (decide_eq_false (by omega)).symm) | (exact decide_eq_decide.2 (by omega)))

/-- quillwork/chars.Class -/
theorem chars_Class_ok (r : Int) :
    PF Tryz.prog 276 [.v (.int .i32 r)] (.v (.int .i64 (classI r))) := by
  intro H K hK
  refine AC_of Tryz.func276 rfl (rs := [.tmp 2]) rfl Tryz.ntmps276 rfl ?_
  refine AW_norm TP ?_
  refine GC2 ?_
  refine GO1 ?_
  refine GC3 ?_
  refine AW_block ?_
  refine GC1 ?_
  refine AW_block ?_
  refine GC1 ?_
  refine AW_block ?_
  refine AW_block ?_
  refine AW_block ?_
  refine GC1 ?_
  refine AW_block ?_
  refine GC1 ?_
  refine AW_block ?_
  refine GC1 ?_
  refine AW_block ?_
  refine AW_block ?_
  refine GC1 ?_
  refine AW_block ?_
  refine GC4 ?_
  refine GO1 ?_
  refine AL_callp FEn.h XA (unicode_utf8_ValidRune_ok _) ?_
  refine GO2 ?_
  refine GC2 ?_
  refine GI rfl (fun hc1 => ?_) (fun hc1 => ?_)
  · try simp only [validR, decide_eq_true_eq, decide_eq_false_iff_not] at hc1
    refine GC8 ?_
    refine GO1 ?_
    refine GC19 ?_
    refine retQ_1 (H' := H) (.inr rfl) rfl SU ?_
    refine K_eq ?_ hK
    exact congrArg (fun z => AV.v (.int .i64 z)) (by unfold classI; (repeat' split) <;> first | rfl | (exfalso; omega))
  · try simp only [validR, decide_eq_true_eq, decide_eq_false_iff_not] at hc1
    refine GC5 ?_
    refine GO3 ?_
    refine GC2 ?_
    refine GI rfl (fun hc2 => ?_) (fun hc2 => ?_)
    · try simp only [validR, decide_eq_true_eq, decide_eq_false_iff_not] at hc2
      refine GC11 ?_
      refine GO1 ?_
      refine GC16 ?_
      refine retQ_1 (H' := H) (.inr rfl) rfl SU ?_
      refine K_eq ?_ hK
      exact congrArg (fun z => AV.v (.int .i64 z)) (by unfold classI; (repeat' split) <;> first | rfl | (exfalso; omega))
    · try simp only [validR, decide_eq_true_eq, decide_eq_false_iff_not] at hc2
      refine GC5 ?_
      refine GO3 ?_
      refine GC2 ?_
      refine GI rfl (fun hc3 => ?_) (fun hc3 => ?_)
      · try simp only [validR, decide_eq_true_eq, decide_eq_false_iff_not] at hc3
        refine GC11 ?_
        refine GO1 ?_
        refine GC16 ?_
        refine retQ_1 (H' := H) (.inr rfl) rfl SU ?_
        refine K_eq ?_ hK
        exact congrArg (fun z => AV.v (.int .i64 z)) (by unfold classI; (repeat' split) <;> first | rfl | (exfalso; omega))
      · try simp only [validR, decide_eq_true_eq, decide_eq_false_iff_not] at hc3
        refine GC6 ?_
        refine GO3 ?_
        refine GC2 ?_
        refine GI rfl (fun hc4 => ?_) (fun hc4 => ?_)
        · try simp only [validR, decide_eq_true_eq, decide_eq_false_iff_not] at hc4
          refine GC2 ?_
          refine GI rfl (fun hc5 => ?_) (fun hc5 => ?_)
          · try simp only [validR, decide_eq_true_eq, decide_eq_false_iff_not] at hc5
            refine GC13 ?_
            refine GO1 ?_
            refine GC14 ?_
            refine retQ_1 (H' := H) (.inr rfl) rfl SU ?_
            refine K_eq ?_ hK
            exact congrArg (fun z => AV.v (.int .i64 z)) (by unfold classI; (repeat' split) <;> first | rfl | (exfalso; omega))
          · try simp only [validR, decide_eq_true_eq, decide_eq_false_iff_not] at hc5
            refine GC5 ?_
            refine GO3 ?_
            refine GC2 ?_
            refine GI rfl (fun hc6 => ?_) (fun hc6 => ?_)
            · try simp only [validR, decide_eq_true_eq, decide_eq_false_iff_not] at hc6
              refine GC15 ?_
              refine GO1 ?_
              refine GC12 ?_
              refine retQ_1 (H' := H) (.inr rfl) rfl SU ?_
              refine K_eq ?_ hK
              exact congrArg (fun z => AV.v (.int .i64 z)) (by unfold classI; (repeat' split) <;> first | rfl | (exfalso; omega))
            · try simp only [validR, decide_eq_true_eq, decide_eq_false_iff_not] at hc6
              refine GC5 ?_
              refine GO3 ?_
              refine AL_and (j := 2) (n := 2) (c := 24) (t := 26) (r := 27) (v := ?v7) [25, 26] rfl rfl rfl rfl rfl rfl rfl (fun hg7 => ?_) ?_; rotate_left
              · refine GS ?_
                (try simp only [Bool.or_eq_true, Bool.and_eq_true, Bool.or_eq_false_iff, Bool.and_eq_false_iff, decide_eq_true_eq, decide_eq_false_iff_not, Bool.not_eq_true', Bool.not_eq_false', beq_iff_eq, ne_eq, Decidable.not_not, List.length_map] at hg7)
                refine GO2 ?_
                refine AL_nil (grpQ_mk ?_)
                exact WK
              refine AL_norm TN ?_
              refine GO1 ?_
              refine GC2 ?_
              refine GI rfl (fun hc8 => ?_) (fun hc8 => ?_)
              · try simp only [validR, decide_eq_true_eq, decide_eq_false_iff_not] at hc8
                refine GC19 ?_
                refine GO1 ?_
                refine GC8 ?_
                refine retQ_1 (H' := H) (.inr rfl) rfl SU ?_
                refine K_eq ?_ hK
                exact congrArg (fun z => AV.v (.int .i64 z)) (by unfold classI; (repeat' split) <;> first | rfl | (exfalso; omega))
              · try simp only [validR, decide_eq_true_eq, decide_eq_false_iff_not] at hc8
                refine GC5 ?_
                refine GO3 ?_
                refine AL_and (j := 2) (n := 2) (c := 31) (t := 33) (r := 34) (v := ?v9) [32, 33] rfl rfl rfl rfl rfl rfl rfl (fun hg9 => ?_) ?_; rotate_left
                · refine GS ?_
                  (try simp only [Bool.or_eq_true, Bool.and_eq_true, Bool.or_eq_false_iff, Bool.and_eq_false_iff, decide_eq_true_eq, decide_eq_false_iff_not, Bool.not_eq_true', Bool.not_eq_false', beq_iff_eq, ne_eq, Decidable.not_not, List.length_map] at hg9)
                  refine GO2 ?_
                  refine AL_nil (grpQ_mk ?_)
                  exact WK
                refine AL_norm TN ?_
                refine GO1 ?_
                refine GC2 ?_
                refine GI rfl (fun hc10 => ?_) (fun hc10 => ?_)
                · try simp only [validR, decide_eq_true_eq, decide_eq_false_iff_not] at hc10
                  refine GC19 ?_
                  refine GO1 ?_
                  refine GC8 ?_
                  refine retQ_1 (H' := H) (.inr rfl) rfl SU ?_
                  refine K_eq ?_ hK
                  exact congrArg (fun z => AV.v (.int .i64 z)) (by unfold classI; (repeat' split) <;> first | rfl | (exfalso; omega))
                · try simp only [validR, decide_eq_true_eq, decide_eq_false_iff_not] at hc10
                  refine GC5 ?_
                  refine GO3 ?_
                  refine GC2 ?_
                  refine GI rfl (fun hc11 => ?_) (fun hc11 => ?_)
                  · try simp only [validR, decide_eq_true_eq, decide_eq_false_iff_not] at hc11
                    refine GC19 ?_
                    refine GO1 ?_
                    refine GC8 ?_
                    refine retQ_1 (H' := H) (.inr rfl) rfl SU ?_
                    refine K_eq ?_ hK
                    exact congrArg (fun z => AV.v (.int .i64 z)) (by unfold classI; (repeat' split) <;> first | rfl | (exfalso; omega))
                  · try simp only [validR, decide_eq_true_eq, decide_eq_false_iff_not] at hc11
                    refine GC4 ?_
                    refine GO3 ?_
                    refine AL_and (j := 2) (n := 2) (c := 41) (t := 43) (r := 44) (v := ?v12) [42, 43] rfl rfl rfl rfl rfl rfl rfl (fun hg12 => ?_) ?_; rotate_left
                    · refine GS ?_
                      (try simp only [Bool.or_eq_true, Bool.and_eq_true, Bool.or_eq_false_iff, Bool.and_eq_false_iff, decide_eq_true_eq, decide_eq_false_iff_not, Bool.not_eq_true', Bool.not_eq_false', beq_iff_eq, ne_eq, Decidable.not_not, List.length_map] at hg12)
                      refine GO2 ?_
                      refine AL_nil (grpQ_mk ?_)
                      exact WK
                    refine AL_norm TN ?_
                    refine GO1 ?_
                    refine GC2 ?_
                    refine GI rfl (fun hc13 => ?_) (fun hc13 => ?_)
                    · try simp only [validR, decide_eq_true_eq, decide_eq_false_iff_not] at hc13
                      refine GC20 ?_
                      refine GO1 ?_
                      refine GC6 ?_
                      refine retQ_1 (H' := H) (.inr rfl) rfl SU ?_
                      refine K_eq ?_ hK
                      exact congrArg (fun z => AV.v (.int .i64 z)) (by unfold classI; (repeat' split) <;> first | rfl | (exfalso; omega))
                    · try simp only [validR, decide_eq_true_eq, decide_eq_false_iff_not] at hc13
                      refine GC22 ?_
                      refine GO1 ?_
                      refine GC3 ?_
                      refine retQ_1 (H' := H) (.inr rfl) rfl SU ?_
                      refine K_eq ?_ hK
                      exact congrArg (fun z => AV.v (.int .i64 z)) (by unfold classI; (repeat' split) <;> first | rfl | (exfalso; omega))
        · try simp only [validR, decide_eq_true_eq, decide_eq_false_iff_not] at hc4
          refine GC1 ?_
          refine GO3 ?_
          refine GC2 ?_
          refine GI rfl (fun hc14 => ?_) (fun hc14 => ?_)
          · try simp only [validR, decide_eq_true_eq, decide_eq_false_iff_not] at hc14
            refine GC13 ?_
            refine GO1 ?_
            refine GC14 ?_
            refine retQ_1 (H' := H) (.inr rfl) rfl SU ?_
            refine K_eq ?_ hK
            exact congrArg (fun z => AV.v (.int .i64 z)) (by unfold classI; (repeat' split) <;> first | rfl | (exfalso; omega))
          · try simp only [validR, decide_eq_true_eq, decide_eq_false_iff_not] at hc14
            refine GC5 ?_
            refine GO3 ?_
            refine GC2 ?_
            refine GI rfl (fun hc15 => ?_) (fun hc15 => ?_)
            · try simp only [validR, decide_eq_true_eq, decide_eq_false_iff_not] at hc15
              refine GC15 ?_
              refine GO1 ?_
              refine GC12 ?_
              refine retQ_1 (H' := H) (.inr rfl) rfl SU ?_
              refine K_eq ?_ hK
              exact congrArg (fun z => AV.v (.int .i64 z)) (by unfold classI; (repeat' split) <;> first | rfl | (exfalso; omega))
            · try simp only [validR, decide_eq_true_eq, decide_eq_false_iff_not] at hc15
              refine GC5 ?_
              refine GO3 ?_
              refine AL_and (j := 2) (n := 2) (c := 24) (t := 26) (r := 27) (v := ?v16) [25, 26] rfl rfl rfl rfl rfl rfl rfl (fun hg16 => ?_) ?_; rotate_left
              · refine GS ?_
                (try simp only [Bool.or_eq_true, Bool.and_eq_true, Bool.or_eq_false_iff, Bool.and_eq_false_iff, decide_eq_true_eq, decide_eq_false_iff_not, Bool.not_eq_true', Bool.not_eq_false', beq_iff_eq, ne_eq, Decidable.not_not, List.length_map] at hg16)
                refine GO2 ?_
                refine AL_nil (grpQ_mk ?_)
                exact WK
              refine AL_norm TN ?_
              refine GO1 ?_
              refine GC2 ?_
              refine GI rfl (fun hc17 => ?_) (fun hc17 => ?_)
              · try simp only [validR, decide_eq_true_eq, decide_eq_false_iff_not] at hc17
                refine GC19 ?_
                refine GO1 ?_
                refine GC8 ?_
                refine retQ_1 (H' := H) (.inr rfl) rfl SU ?_
                refine K_eq ?_ hK
                exact congrArg (fun z => AV.v (.int .i64 z)) (by unfold classI; (repeat' split) <;> first | rfl | (exfalso; omega))
              · try simp only [validR, decide_eq_true_eq, decide_eq_false_iff_not] at hc17
                refine GC5 ?_
                refine GO3 ?_
                refine AL_and (j := 2) (n := 2) (c := 31) (t := 33) (r := 34) (v := ?v18) [32, 33] rfl rfl rfl rfl rfl rfl rfl (fun hg18 => ?_) ?_; rotate_left
                · refine GS ?_
                  (try simp only [Bool.or_eq_true, Bool.and_eq_true, Bool.or_eq_false_iff, Bool.and_eq_false_iff, decide_eq_true_eq, decide_eq_false_iff_not, Bool.not_eq_true', Bool.not_eq_false', beq_iff_eq, ne_eq, Decidable.not_not, List.length_map] at hg18)
                  refine GO2 ?_
                  refine AL_nil (grpQ_mk ?_)
                  exact WK
                refine AL_norm TN ?_
                refine GO1 ?_
                refine GC2 ?_
                refine GI rfl (fun hc19 => ?_) (fun hc19 => ?_)
                · try simp only [validR, decide_eq_true_eq, decide_eq_false_iff_not] at hc19
                  refine GC19 ?_
                  refine GO1 ?_
                  refine GC8 ?_
                  refine retQ_1 (H' := H) (.inr rfl) rfl SU ?_
                  refine K_eq ?_ hK
                  exact congrArg (fun z => AV.v (.int .i64 z)) (by unfold classI; (repeat' split) <;> first | rfl | (exfalso; omega))
                · try simp only [validR, decide_eq_true_eq, decide_eq_false_iff_not] at hc19
                  refine GC5 ?_
                  refine GO3 ?_
                  refine GC2 ?_
                  refine GI rfl (fun hc20 => ?_) (fun hc20 => ?_)
                  · try simp only [validR, decide_eq_true_eq, decide_eq_false_iff_not] at hc20
                    refine GC19 ?_
                    refine GO1 ?_
                    refine GC8 ?_
                    refine retQ_1 (H' := H) (.inr rfl) rfl SU ?_
                    refine K_eq ?_ hK
                    exact congrArg (fun z => AV.v (.int .i64 z)) (by unfold classI; (repeat' split) <;> first | rfl | (exfalso; omega))
                  · try simp only [validR, decide_eq_true_eq, decide_eq_false_iff_not] at hc20
                    refine GC4 ?_
                    refine GO3 ?_
                    refine AL_and (j := 2) (n := 2) (c := 41) (t := 43) (r := 44) (v := ?v21) [42, 43] rfl rfl rfl rfl rfl rfl rfl (fun hg21 => ?_) ?_; rotate_left
                    · refine GS ?_
                      (try simp only [Bool.or_eq_true, Bool.and_eq_true, Bool.or_eq_false_iff, Bool.and_eq_false_iff, decide_eq_true_eq, decide_eq_false_iff_not, Bool.not_eq_true', Bool.not_eq_false', beq_iff_eq, ne_eq, Decidable.not_not, List.length_map] at hg21)
                      refine GO2 ?_
                      refine AL_nil (grpQ_mk ?_)
                      exact WK
                    refine AL_norm TN ?_
                    refine GO1 ?_
                    refine GC2 ?_
                    refine GI rfl (fun hc22 => ?_) (fun hc22 => ?_)
                    · try simp only [validR, decide_eq_true_eq, decide_eq_false_iff_not] at hc22
                      refine GC20 ?_
                      refine GO1 ?_
                      refine GC6 ?_
                      refine retQ_1 (H' := H) (.inr rfl) rfl SU ?_
                      refine K_eq ?_ hK
                      exact congrArg (fun z => AV.v (.int .i64 z)) (by unfold classI; (repeat' split) <;> first | rfl | (exfalso; omega))
                    · try simp only [validR, decide_eq_true_eq, decide_eq_false_iff_not] at hc22
                      refine GC22 ?_
                      refine GO1 ?_
                      refine GC3 ?_
                      refine retQ_1 (H' := H) (.inr rfl) rfl SU ?_
                      refine K_eq ?_ hK
                      exact congrArg (fun z => AV.v (.int .i64 z)) (by unfold classI; (repeat' split) <;> first | rfl | (exfalso; omega))

/-- quillwork/chars.May -/
theorem chars_May_ok (r : Int) :
    PF Tryz.prog 269 [.v (.int .i32 r)] (.v (.bool (charOK r))) := by
  intro H K hK
  refine AC_of Tryz.func269 rfl (rs := [.tmp 2]) rfl Tryz.ntmps269 rfl ?_
  refine AW_norm TP ?_
  refine GC2 ?_
  refine GO1 ?_
  refine GC4 ?_
  refine GO1 ?_
  refine AL_callp FEn.h XA (chars_Class_ok _) ?_
  refine GO2 ?_
  refine GC3 ?_
  refine retQ_1 (H' := H) (.inr rfl) rfl SU ?_
  refine K_eq ?_ hK
  exact congrArg (fun b => AV.v (.bool b)) ((class_ok r).symm)

/-- quillwork/attrs.Target$1 -/
theorem attrs_Target_1_ok (r : Int) :
    PF Tryz.prog 244 [.v (.int .i32 r)] (.v (.int .i32 (Tags.lowR r))) := by
  intro H K hK
  refine AC_of Tryz.func244 rfl (rs := [.tmp 2]) rfl Tryz.ntmps244 rfl ?_
  refine AW_norm TP ?_
  refine GC2 ?_
  refine GO1 ?_
  refine GC5 ?_
  refine GO3 ?_
  refine AL_and (j := 2) (n := 2) (c := 5) (t := 7) (r := 8) (v := ?v1) [6, 7] rfl rfl rfl rfl rfl rfl rfl (fun hg1 => ?_) ?_; rotate_left
  · refine GS ?_
    (try simp only [Bool.or_eq_true, Bool.and_eq_true, Bool.or_eq_false_iff, Bool.and_eq_false_iff, decide_eq_true_eq, decide_eq_false_iff_not, Bool.not_eq_true', Bool.not_eq_false', beq_iff_eq, ne_eq, Decidable.not_not, List.length_map] at hg1)
    refine GO2 ?_
    refine AL_nil (grpQ_mk ?_)
    exact WK
  refine AL_norm TN ?_
  refine AL_norm TN ?_
  refine GC2 ?_
  refine GI rfl (fun hc2 => ?_) (fun hc2 => ?_)
  ·
    refine GC2 ?_
    refine GO1 ?_
    refine AL_addz rfl rfl (r + 32) (by exact i32_in _ (by omega)) ?_
    refine AL_norm TN ?_
    refine GO1 ?_
    refine GC4 ?_
    refine retQ_1 (H' := H) (.inr rfl) rfl SU ?_
    refine K_eq ?_ hK
    rw [Tags.lowR, if_pos (by omega)]
  ·
    refine GC4 ?_
    refine GO2 ?_
    refine GC3 ?_
    refine retQ_1 (H' := H) (.inr rfl) rfl SU ?_
    refine K_eq ?_ hK
    rw [Tags.lowR, if_neg (by omega)]

/-- quillwork/query.low$1 -/
theorem query_low_1_ok (r : Int) :
    PF Tryz.prog 133 [.v (.int .i32 r)] (.v (.int .i32 (Tags.lowR r))) := by
  intro H K hK
  refine AC_of Tryz.func133 rfl (rs := [.tmp 2]) rfl Tryz.ntmps133 rfl ?_
  refine AW_norm TP ?_
  refine GC2 ?_
  refine GO1 ?_
  refine GC5 ?_
  refine GO3 ?_
  refine AL_and (j := 2) (n := 2) (c := 5) (t := 7) (r := 8) (v := ?v1) [6, 7] rfl rfl rfl rfl rfl rfl rfl (fun hg1 => ?_) ?_; rotate_left
  · refine GS ?_
    (try simp only [Bool.or_eq_true, Bool.and_eq_true, Bool.or_eq_false_iff, Bool.and_eq_false_iff, decide_eq_true_eq, decide_eq_false_iff_not, Bool.not_eq_true', Bool.not_eq_false', beq_iff_eq, ne_eq, Decidable.not_not, List.length_map] at hg1)
    refine GO2 ?_
    refine AL_nil (grpQ_mk ?_)
    exact WK
  refine AL_norm TN ?_
  refine AL_norm TN ?_
  refine GC2 ?_
  refine GI rfl (fun hc2 => ?_) (fun hc2 => ?_)
  ·
    refine GC2 ?_
    refine GO1 ?_
    refine AL_addz rfl rfl (r + 32) (by exact i32_in _ (by omega)) ?_
    refine AL_norm TN ?_
    refine GO1 ?_
    refine GC4 ?_
    refine retQ_1 (H' := H) (.inr rfl) rfl SU ?_
    refine K_eq ?_ hK
    rw [Tags.lowR, if_pos (by omega)]
  ·
    refine GC4 ?_
    refine GO2 ?_
    refine GC3 ?_
    refine retQ_1 (H' := H) (.inr rfl) rfl SU ?_
    refine K_eq ?_ hK
    rw [Tags.lowR, if_neg (by omega)]

/-- quillwork/tags.low$1 -/
theorem tags_low_1_ok (r : Int) :
    PF Tryz.prog 291 [.v (.int .i32 r)] (.v (.int .i32 (Tags.lowR r))) := by
  intro H K hK
  refine AC_of Tryz.func291 rfl (rs := [.tmp 2]) rfl Tryz.ntmps291 rfl ?_
  refine AW_norm TP ?_
  refine GC2 ?_
  refine GO1 ?_
  refine GC5 ?_
  refine GO3 ?_
  refine AL_and (j := 2) (n := 2) (c := 5) (t := 7) (r := 8) (v := ?v1) [6, 7] rfl rfl rfl rfl rfl rfl rfl (fun hg1 => ?_) ?_; rotate_left
  · refine GS ?_
    (try simp only [Bool.or_eq_true, Bool.and_eq_true, Bool.or_eq_false_iff, Bool.and_eq_false_iff, decide_eq_true_eq, decide_eq_false_iff_not, Bool.not_eq_true', Bool.not_eq_false', beq_iff_eq, ne_eq, Decidable.not_not, List.length_map] at hg1)
    refine GO2 ?_
    refine AL_nil (grpQ_mk ?_)
    exact WK
  refine AL_norm TN ?_
  refine AL_norm TN ?_
  refine GC2 ?_
  refine GI rfl (fun hc2 => ?_) (fun hc2 => ?_)
  ·
    refine GC2 ?_
    refine GO1 ?_
    refine AL_addz rfl rfl (r + 97) (by exact i32_in _ (by omega)) ?_
    refine AL_norm TN ?_
    refine AL_subz rfl rfl (r + 32) (by rw [show r + 97 - 65 = r + 32 by omega]; exact i32_in _ (by omega)) ?_
    refine GO1 ?_
    refine GC4 ?_
    refine retQ_1 (H' := H) (.inr rfl) rfl SU ?_
    refine K_eq ?_ hK
    rw [Tags.lowR, if_pos (by omega)]
  ·
    refine GC4 ?_
    refine GO2 ?_
    refine GC3 ?_
    refine retQ_1 (H' := H) (.inr rfl) rfl SU ?_
    refine K_eq ?_ hK
    rw [Tags.lowR, if_neg (by omega)]

/-- slices.Clone[[]int,int] -/
theorem slices_Clone_int_int_ok  :
    ∀ (zs : List Int), zs.length ≤ 1000000 → ∀ (H : AH) (K : AV → AH → Prop), (∀ A c, Fresh H A c (zs.map intAV) → K (.own A c zs.length) (H.put A 3 c (zs.map intAV))) → AC Tryz.prog 219 [.sl 3 (zs.map intAV)] H K := by
  intro zs hz H K hK
  refine AC_of Tryz.func219 rfl (rs := [.tmp 2]) rfl Tryz.ntmps219 rfl ?_
  refine AW_norm TP ?_
  refine GC2 ?_
  refine GO1 ?_
  refine GC5 ?_
  refine GO1 ?_
  refine AL_eqnil FUn.h FSz.h (by decide) rfl rfl rfl ?_
  intro bq1 hbq1
  refine AL_norm TN ?_
  refine GC2 ?_
  refine GI rfl (fun hc1 => ?_) (fun hc1 => ?_)
  ·
    refine GC2 ?_
    refine GO1 ?_
    refine GC4 ?_
    refine retQ_1 (H' := H) (.inr rfl) rfl (SubH.refl _) ?_
    obtain rfl : zs = [] := List.map_eq_nil_iff.1 (hbq1 hc1); exact hK none 0 ⟨rfl, rfl⟩
  ·
    refine GC4 ?_
    refine AL_buildSlice FUn.h FSz.h FZe.h rfl (by decide) (by decide) (.nil) rfl rfl ?_
    intro b1 hb1
    have hn1 : H b1 = none := SubH.none SU hb1
    refine AL_norm TN ?_
    refine GO1 ?_
    refine AL_append (xs := []) (ys := zs.map intAV) FUn.h FIn.h rfl (by decide) (by decide) rfl rfl (.sl _) (AH.upd_same _ _ _) (by simp) (mem_map_all zs (fun _ => rfl)) (by simp only [List.length_map]; omega) ?_
    intro ba ca hba hra
    rw [AH.rem_upd hn1] at hba ⊢
    simp only [List.take_nil, List.nil_append] at hba ⊢
    refine GO1 ?_
    refine GC3 ?_
    refine retQ_1 (H' := H.put ba 3 ca (zs.map intAV)) (.inr rfl) rfl (SubH.refl _) ?_
    have e : 0 + (zs.map intAV).length = zs.length := (by simp); rw [e]; exact hK _ _ hba

/-- slices.Clone[[]quillwork/api.Cell,quillwork/api.Cell] -/
theorem slices_Clone_api_Cell_api_Cell_ok  :
    ∀ (zs : List Cell), zs.length ≤ 1000000 → ∀ (H : AH) (K : AV → AH → Prop), (∀ A c, Fresh H A c (zs.map cellAV) → K (.own A c zs.length) (H.put A 57 c (zs.map cellAV))) → AC Tryz.prog 220 [.sl 57 (zs.map cellAV)] H K := by
  intro zs hz H K hK
  refine AC_of Tryz.func220 rfl (rs := [.tmp 2]) rfl Tryz.ntmps220 rfl ?_
  refine AW_norm TP ?_
  refine GC2 ?_
  refine GO1 ?_
  refine GC5 ?_
  refine GO1 ?_
  refine AL_eqnil FUn.h FSz.h (by decide) rfl rfl rfl ?_
  intro bq1 hbq1
  refine AL_norm TN ?_
  refine GC2 ?_
  refine GI rfl (fun hc1 => ?_) (fun hc1 => ?_)
  ·
    refine GC2 ?_
    refine GO1 ?_
    refine GC4 ?_
    refine retQ_1 (H' := H) (.inr rfl) rfl (SubH.refl _) ?_
    obtain rfl : zs = [] := List.map_eq_nil_iff.1 (hbq1 hc1); exact hK none 0 ⟨rfl, rfl⟩
  ·
    refine GC4 ?_
    refine AL_buildSlice FUn.h FSz.h FZe.h rfl (by decide) (by decide) (.nil) rfl rfl ?_
    intro b1 hb1
    have hn1 : H b1 = none := SubH.none SU hb1
    refine AL_norm TN ?_
    refine GO1 ?_
    refine AL_append (xs := []) (ys := zs.map cellAV) FUn.h FIn.h rfl (by decide) (by decide) rfl rfl (.sl _) (AH.upd_same _ _ _) (by simp) (mem_map_all zs (fun _ => rfl)) (by simp only [List.length_map]; omega) ?_
    intro ba ca hba hra
    rw [AH.rem_upd hn1] at hba ⊢
    simp only [List.take_nil, List.nil_append] at hba ⊢
    refine GO1 ?_
    refine GC3 ?_
    refine retQ_1 (H' := H.put ba 57 ca (zs.map cellAV)) (.inr rfl) rfl (SubH.refl _) ?_
    have e : 0 + (zs.map cellAV).length = zs.length := (by simp); rw [e]; exact hK _ _ hba

/-- slices.IndexFunc[[]int,int] -/
theorem slices_IndexFunc_int_int_ok  :
    ∀ (I : AH → Prop) (p : Int → Bool) (zs : List Int) (f : FuncId) (cps : List AV), zs.length ≤ 1000000 → entersOf Tryz.prog f = true → (∀ c ∈ zs, PI I Tryz.prog f (intAV c :: cps) (.v (.bool (p c)))) → PI I Tryz.prog 267 [.sl 3 (zs.map intAV), .fn (.func f) [] cps] (.v (.int .i64 (idxI p zs))) := by
  intro I p zs f cps hlen hen hf H K hT hK
  refine AC_of Tryz.func267 rfl (rs := [.tmp 4]) rfl Tryz.ntmps267 rfl ?_
  refine AW_norm TP ?_
  refine GC2 ?_
  refine GO1 ?_
  refine GC5 ?_
  refine GO3 ?_
  refine GC2 ?_
  refine AW_block ?_
  refine AW_loops (α := Nat) [4, 5, 8, 9, 10, 11, 12, 13, 14, 15, 16, 17, 18] (fun i => [(8, .v (.int .i64 (i : Int)))]) (fun i => H) (fun i => i ≤ zs.length ∧ ∀ j, j < i → p (zs.getD j 0) = false) (fun i => zs.length - i) (0) ?_ ?_ ?_ ?_
  · exact ⟨Nat.zero_le _, fun j hj => absurd hj (Nat.not_lt_zero j)⟩
  · repeat (first | exact SubH.refl _ | assumption | refine SubH.new ?_ (by assumption))
  · skip
    exact WK
  · intro i hI
    refine AW_norm TN ?_
    refine GC2 ?_
    refine GO1 ?_
    refine GC3 ?_
    refine GI rfl (fun hc1 => ?_) (fun hc1 => ?_)
    ·
      refine GC3 ?_
      refine AW_block ?_
      refine GC2 ?_
      refine GO2 ?_
      refine GC4 ?_
      refine GO3 ?_
      first | refine AL_indexAddr_sl (y := intAV (zs.getD i 0)) FUn.h FSz.h (by decide) rfl rfl ?_ ?_ ?_ ?_ | refine AL_indexAddr_own FUn.h FSz.h rfl rfl ?_ ?_ ?_
      · omega
      · simp only [List.length_map]; omega
      · exact map_getD 0 (i := i) (by omega)
      refine GO1 ?_
      refine AL_callv rfl hen (.cons (.ev rfl) .nil) (hf _ (getD_mem 0 (i := i) (by omega)) H (fun x H1 => x = .v (.bool (p (zs.getD i 0))) ∧ H = H1) hT ⟨rfl, rfl⟩) ?_; rintro _ _ ⟨rfl, rfl⟩
      refine AL_norm TN ?_
      refine GC2 ?_
      refine GI rfl (fun hc2 => ?_) (fun hc2 => ?_)
      ·
        refine GC2 ?_
        refine GO2 ?_
        refine GC5 ?_
        refine loopQ_r ?_
        refine GC2 ?_
        refine retQ_1 (H' := H) (.inr rfl) rfl SU ?_
        refine K_eq ?_ hK
        exact congrArg (fun z => AV.v (.int .i64 z)) (idxI_some (d := 0) (by omega) hc2 hI.2).symm
      ·
        refine GC4 ?_
        refine AL_addz rfl rfl (((i + 1 : Nat) : Int)) (by exact inc64 (by omega)) ?_
        refine GO1 ?_
        refine GC1 ?_
        refine loopQ_n (i + 1) ?_ ?_ ?_ ?_
        · exact ⟨by omega, upto_no2 hI.2 hc2⟩
        · omega
        · repeat (first | exact SubH.refl _ | assumption | refine SubH.new ?_ (by assumption))
        · skip
          exact WK
    ·
      refine GC2 ?_
      refine loopQ_x ?_
      refine GC4 ?_
      refine GO1 ?_
      refine GC3 ?_
      refine retQ_1 (H' := H) (.inr rfl) rfl SU ?_
      refine K_eq ?_ hK
      exact congrArg (fun z => AV.v (.int .i64 z)) (idxI_none (d := 0) (i := i) (by omega) hI.2).symm

/-- slices.IndexFunc[[]quillwork/api.Cell,quillwork/api.Cell] -/
theorem slices_IndexFunc_api_Cell_api_Cell_ok  :
    ∀ (I : AH → Prop) (p : Cell → Bool) (zs : List Cell) (f : FuncId) (cps : List AV), zs.length ≤ 1000000 → entersOf Tryz.prog f = true → (∀ c ∈ zs, PI I Tryz.prog f (cellAV c :: cps) (.v (.bool (p c)))) → PI I Tryz.prog 206 [.sl 57 (zs.map cellAV), .fn (.func f) [] cps] (.v (.int .i64 (idxI p zs))) := by
  intro I p zs f cps hlen hen hf H K hT hK
  refine AC_of Tryz.func206 rfl (rs := [.tmp 4]) rfl Tryz.ntmps206 rfl ?_
  refine AW_norm TP ?_
  refine GC2 ?_
  refine GO1 ?_
  refine GC5 ?_
  refine GO3 ?_
  refine GC2 ?_
  refine AW_block ?_
  refine AW_loops (α := Nat) [4, 5, 8, 9, 10, 11, 12, 13, 14, 15, 16, 17, 18] (fun i => [(8, .v (.int .i64 (i : Int)))]) (fun i => H) (fun i => i ≤ zs.length ∧ ∀ j, j < i → p (zs.getD j c0) = false) (fun i => zs.length - i) (0) ?_ ?_ ?_ ?_
  · exact ⟨Nat.zero_le _, fun j hj => absurd hj (Nat.not_lt_zero j)⟩
  · repeat (first | exact SubH.refl _ | assumption | refine SubH.new ?_ (by assumption))
  · skip
    exact WK
  · intro i hI
    refine AW_norm TN ?_
    refine GC2 ?_
    refine GO1 ?_
    refine GC3 ?_
    refine GI rfl (fun hc1 => ?_) (fun hc1 => ?_)
    ·
      refine GC3 ?_
      refine AW_block ?_
      refine GC2 ?_
      refine GO2 ?_
      refine GC4 ?_
      refine GO3 ?_
      first | refine AL_indexAddr_sl (y := cellAV (zs.getD i c0)) FUn.h FSz.h (by decide) rfl rfl ?_ ?_ ?_ ?_ | refine AL_indexAddr_own FUn.h FSz.h rfl rfl ?_ ?_ ?_
      · omega
      · simp only [List.length_map]; omega
      · exact map_getD c0 (i := i) (by omega)
      refine GO1 ?_
      refine AL_callv rfl hen (.cons (.ev rfl) .nil) (hf _ (getD_mem c0 (i := i) (by omega)) H (fun x H1 => x = .v (.bool (p (zs.getD i c0))) ∧ H = H1) hT ⟨rfl, rfl⟩) ?_; rintro _ _ ⟨rfl, rfl⟩
      refine AL_norm TN ?_
      refine GC2 ?_
      refine GI rfl (fun hc2 => ?_) (fun hc2 => ?_)
      ·
        refine GC2 ?_
        refine GO2 ?_
        refine GC5 ?_
        refine loopQ_r ?_
        refine GC2 ?_
        refine retQ_1 (H' := H) (.inr rfl) rfl SU ?_
        refine K_eq ?_ hK
        exact congrArg (fun z => AV.v (.int .i64 z)) (idxI_some (d := c0) (by omega) hc2 hI.2).symm
      ·
        refine GC4 ?_
        refine AL_addz rfl rfl (((i + 1 : Nat) : Int)) (by exact inc64 (by omega)) ?_
        refine GO1 ?_
        refine GC1 ?_
        refine loopQ_n (i + 1) ?_ ?_ ?_ ?_
        · exact ⟨by omega, upto_no2 hI.2 hc2⟩
        · omega
        · repeat (first | exact SubH.refl _ | assumption | refine SubH.new ?_ (by assumption))
        · skip
          exact WK
    ·
      refine GC2 ?_
      refine loopQ_x ?_
      refine GC4 ?_
      refine GO1 ?_
      refine GC3 ?_
      refine retQ_1 (H' := H) (.inr rfl) rfl SU ?_
      refine K_eq ?_ hK
      exact congrArg (fun z => AV.v (.int .i64 z)) (idxI_none (d := c0) (i := i) (by omega) hI.2).symm

/-- slices.IndexFunc[[]quillwork/api.Line,quillwork/api.Line] -/
theorem slices_IndexFunc_api_Line_api_Line_ok  :
    ∀ (I : AH → Prop) (p : Line → Bool) (zs : List Line) (f : FuncId) (cps : List AV), zs.length ≤ 1000000 → entersOf Tryz.prog f = true → (∀ c ∈ zs, PI I Tryz.prog f (lineAV c :: cps) (.v (.bool (p c)))) → PI I Tryz.prog 207 [.sl 60 (zs.map lineAV), .fn (.func f) [] cps] (.v (.int .i64 (idxI p zs))) := by
  intro I p zs f cps hlen hen hf H K hT hK
  refine AC_of Tryz.func207 rfl (rs := [.tmp 4]) rfl Tryz.ntmps207 rfl ?_
  refine AW_norm TP ?_
  refine GC2 ?_
  refine GO1 ?_
  refine GC5 ?_
  refine GO3 ?_
  refine GC2 ?_
  refine AW_block ?_
  refine AW_loops (α := Nat) [4, 5, 8, 9, 10, 11, 12, 13, 14, 15, 16, 17, 18] (fun i => [(8, .v (.int .i64 (i : Int)))]) (fun i => H) (fun i => i ≤ zs.length ∧ ∀ j, j < i → p (zs.getD j l0) = false) (fun i => zs.length - i) (0) ?_ ?_ ?_ ?_
  · exact ⟨Nat.zero_le _, fun j hj => absurd hj (Nat.not_lt_zero j)⟩
  · repeat (first | exact SubH.refl _ | assumption | refine SubH.new ?_ (by assumption))
  · skip
    exact WK
  · intro i hI
    refine AW_norm TN ?_
    refine GC2 ?_
    refine GO1 ?_
    refine GC3 ?_
    refine GI rfl (fun hc1 => ?_) (fun hc1 => ?_)
    ·
      refine GC3 ?_
      refine AW_block ?_
      refine GC2 ?_
      refine GO2 ?_
      refine GC4 ?_
      refine GO3 ?_
      first | refine AL_indexAddr_sl (y := lineAV (zs.getD i l0)) FUn.h FSz.h (by decide) rfl rfl ?_ ?_ ?_ ?_ | refine AL_indexAddr_own FUn.h FSz.h rfl rfl ?_ ?_ ?_
      · omega
      · simp only [List.length_map]; omega
      · exact map_getD l0 (i := i) (by omega)
      refine GO1 ?_
      refine AL_callv rfl hen (.cons (.ev rfl) .nil) (hf _ (getD_mem l0 (i := i) (by omega)) H (fun x H1 => x = .v (.bool (p (zs.getD i l0))) ∧ H = H1) hT ⟨rfl, rfl⟩) ?_; rintro _ _ ⟨rfl, rfl⟩
      refine AL_norm TN ?_
      refine GC2 ?_
      refine GI rfl (fun hc2 => ?_) (fun hc2 => ?_)
      ·
        refine GC2 ?_
        refine GO2 ?_
        refine GC5 ?_
        refine loopQ_r ?_
        refine GC2 ?_
        refine retQ_1 (H' := H) (.inr rfl) rfl SU ?_
        refine K_eq ?_ hK
        exact congrArg (fun z => AV.v (.int .i64 z)) (idxI_some (d := l0) (by omega) hc2 hI.2).symm
      ·
        refine GC4 ?_
        refine AL_addz rfl rfl (((i + 1 : Nat) : Int)) (by exact inc64 (by omega)) ?_
        refine GO1 ?_
        refine GC1 ?_
        refine loopQ_n (i + 1) ?_ ?_ ?_ ?_
        · exact ⟨by omega, upto_no2 hI.2 hc2⟩
        · omega
        · repeat (first | exact SubH.refl _ | assumption | refine SubH.new ?_ (by assumption))
        · skip
          exact WK
    ·
      refine GC2 ?_
      refine loopQ_x ?_
      refine GC4 ?_
      refine GO1 ?_
      refine GC3 ?_
      refine retQ_1 (H' := H) (.inr rfl) rfl SU ?_
      refine K_eq ?_ hK
      exact congrArg (fun z => AV.v (.int .i64 z)) (idxI_none (d := l0) (i := i) (by omega) hI.2).symm

/-- slices.ContainsFunc[[]int,int] -/
theorem slices_ContainsFunc_int_int_ok  :
    ∀ (I : AH → Prop) (p : Int → Bool) (zs : List Int) (f : FuncId) (cps : List AV), zs.length ≤ 1000000 → entersOf Tryz.prog f = true → (∀ c ∈ zs, PI I Tryz.prog f (intAV c :: cps) (.v (.bool (p c)))) → PI I Tryz.prog 208 [.sl 3 (zs.map intAV), .fn (.func f) [] cps] (.v (.bool (zs.any p))) := by
  intro I p zs f cps hlen hen hf H K hT hK
  refine AC_of Tryz.func208 rfl (rs := [.tmp 4]) rfl Tryz.ntmps208 rfl ?_
  refine AW_norm TP ?_
  refine GC2 ?_
  refine GO1 ?_
  refine GC4 ?_
  refine GO2 ?_
  refine AL_callpi FEn.h XA HS (slices_IndexFunc_int_int_ok I p zs f cps hlen hen hf) ?_
  refine AL_norm TN ?_
  refine GO2 ?_
  refine GC3 ?_
  refine retQ_1 (H' := H) (.inr rfl) rfl SU ?_
  refine K_eq ?_ hK
  exact congrArg (fun b => AV.v (.bool b)) (idxI_any p zs)

/-- slices.ContainsFunc[[]quillwork/api.Cell,quillwork/api.Cell] -/
theorem slices_ContainsFunc_api_Cell_api_Cell_ok  :
    ∀ (I : AH → Prop) (p : Cell → Bool) (zs : List Cell) (f : FuncId) (cps : List AV), zs.length ≤ 1000000 → entersOf Tryz.prog f = true → (∀ c ∈ zs, PI I Tryz.prog f (cellAV c :: cps) (.v (.bool (p c)))) → PI I Tryz.prog 125 [.sl 57 (zs.map cellAV), .fn (.func f) [] cps] (.v (.bool (zs.any p))) := by
  intro I p zs f cps hlen hen hf H K hT hK
  refine AC_of Tryz.func125 rfl (rs := [.tmp 4]) rfl Tryz.ntmps125 rfl ?_
  refine AW_norm TP ?_
  refine GC2 ?_
  refine GO1 ?_
  refine GC4 ?_
  refine GO2 ?_
  refine AL_callpi FEn.h XA HS (slices_IndexFunc_api_Cell_api_Cell_ok I p zs f cps hlen hen hf) ?_
  refine AL_norm TN ?_
  refine GO2 ?_
  refine GC3 ?_
  refine retQ_1 (H' := H) (.inr rfl) rfl SU ?_
  refine K_eq ?_ hK
  exact congrArg (fun b => AV.v (.bool b)) (idxI_any p zs)

/-- slices.ContainsFunc[[]quillwork/api.Line,quillwork/api.Line] -/
theorem slices_ContainsFunc_api_Line_api_Line_ok  :
    ∀ (I : AH → Prop) (p : Line → Bool) (zs : List Line) (f : FuncId) (cps : List AV), zs.length ≤ 1000000 → entersOf Tryz.prog f = true → (∀ c ∈ zs, PI I Tryz.prog f (lineAV c :: cps) (.v (.bool (p c)))) → PI I Tryz.prog 129 [.sl 60 (zs.map lineAV), .fn (.func f) [] cps] (.v (.bool (zs.any p))) := by
  intro I p zs f cps hlen hen hf H K hT hK
  refine AC_of Tryz.func129 rfl (rs := [.tmp 4]) rfl Tryz.ntmps129 rfl ?_
  refine AW_norm TP ?_
  refine GC2 ?_
  refine GO1 ?_
  refine GC4 ?_
  refine GO2 ?_
  refine AL_callpi FEn.h XA HS (slices_IndexFunc_api_Line_api_Line_ok I p zs f cps hlen hen hf) ?_
  refine AL_norm TN ?_
  refine GO2 ?_
  refine GC3 ?_
  refine retQ_1 (H' := H) (.inr rfl) rfl SU ?_
  refine K_eq ?_ hK
  exact congrArg (fun b => AV.v (.bool b)) (idxI_any p zs)


end Go.Proofs
