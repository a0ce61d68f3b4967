/- The walks of the functions, each said of plain values: no conditions but those in each statement. -/
import Derived.Test.YtcnjcjhdcloniaaDoorCZ
import Derived.Test.YtcnjcjhdcloniaaDoorCG
import Derived.Test.YtcnjcjhdcloniaaDoorProg
set_option autoImplicit false
set_option linter.unusedVariables false
set_option linter.unusedSimpArgs false
set_option maxRecDepth 100000
set_option maxHeartbeats 1000000
namespace Go.Css.Walk
open Go Go.RowKit Go.AL Go.Css Go.IntWalk Go.Proofs
theorem en49 : entersOf Tryd.prog 49 = true := by kernel_rfl
theorem en48 : entersOf Tryd.prog 48 = true := by kernel_rfl
theorem en52 : entersOf Tryd.prog 52 = true := by kernel_rfl
theorem sz48 : szOf Tryd.prog 48 = some 1 := by kernel_rfl
theorem ag48 : aggOf Tryd.prog 48 = some false := by kernel_rfl
theorem ze48 : zeroOf Tryd.prog 48 = some (.slice none 0 0) := by kernel_rfl
theorem en50 : entersOf Tryd.prog 50 = true := by kernel_rfl
theorem en51 : entersOf Tryd.prog 51 = true := by kernel_rfl

/-- quillwork/quillworkref04.Parse -/
theorem quillworkref04_Parse_ok (s : ByteArray) (hs : s.size < 2147483648) :
    PF Tryd.prog 33 [strAV s] (duoAV (parseS s)) := by
  have hsl := splitS_len s 59
  intro H K hK
  refine AC_of Tryd.func33 rfl (rs := [.tmp 2, .tmp 3]) rfl Tryd.ntmps33 rfl ?_
  refine AW_norm (by simp only [List.length_cons, List.length_nil, Nat.reduceAdd, Nat.reduceSub, List.replicate, List.cons_append, List.nil_append]; rfl) ?_
  refine AW_seq ?_
  refine AW_region ?_
  refine AL_assign rfl ?_
  refine AL_assign rfl ?_
  refine AL_norm (by first | (simp only [tput, anyAt, setAll, List.foldl_cons, List.foldl_nil, List.set_cons_zero, List.set_cons_succ]; rfl) | rfl) ?_
  refine AL_nil ?_
  refine seqQ_n ?_
  refine AW_seq ?_
  refine AW_region ?_
  refine AL_move rfl ?_
  refine AL_callp en47 (.cons (.ev rfl) (.cons (.ev rfl) (.nil))) (quillworkref04_split_ok s 59 hs) ?_
  refine AL_norm (by first | (simp only [tput, anyAt, setAll, List.foldl_cons, List.foldl_nil, List.set_cons_zero, List.set_cons_succ]; rfl) | rfl) ?_
  refine AL_assign rfl ?_
  refine AL_norm (by first | (simp only [tput, anyAt, setAll, List.foldl_cons, List.foldl_nil, List.set_cons_zero, List.set_cons_succ]; rfl) | rfl) ?_
  refine AL_nil ?_
  refine seqQ_n ?_
  refine AW_seq ?_
  refine AW_region ?_
  refine AL_assign rfl ?_
  refine AL_assign rfl ?_
  refine AL_norm (by first | (simp only [tput, anyAt, setAll, List.foldl_cons, List.foldl_nil, List.set_cons_zero, List.set_cons_succ]; rfl) | rfl) ?_
  refine AL_nil ?_
  refine seqQ_n ?_
  refine AW_seq ?_
  refine AW_seq ?_
  refine AW_region ?_
  refine AL_assign rfl ?_
  refine AL_norm (by first | (simp only [tput, anyAt, setAll, List.foldl_cons, List.foldl_nil, List.set_cons_zero, List.set_cons_succ]; rfl) | rfl) ?_
  refine AL_nil ?_
  refine seqQ_n ?_
  refine AW_block ?_
  refine AW_loops (α := Nat × (B4 × B4)) [5, 6, 7, 8, 9, 10, 11, 14, 15, 16, 17, 18, 19, 20, 21, 22, 23, 24, 25, 26, 27, 28, 29, 30, 31, 32, 33, 34, 35, 36, 37, 38, 39, 40, 41, 42, 43, 44, 45, 46, 47, 48, 49, 50, 51, 52, 53, 54, 55, 56, 57, 58, 59, 60, 61, 62, 63, 64, 65, 66, 67, 68, 69, 70, 71, 72, 73, 74, 75] (fun z => [(7, .v (.int .i64 (z.1 : Int))), (5, bAV z.2.1), (6, bAV z.2.2)]) (fun z => H) (fun z => z.1 ≤ (splitS s 59).length ∧ restR s z.1 z.2 = parseS s) (fun z => (splitS s 59).length - z.1) ((0, (0, 0))) ?_ ?_ ?_ ?_
  · exact ⟨Nat.zero_le _, restR_zero s⟩
  · repeat (first | exact SubH.refl _ | assumption | refine SubH.new ?_ (by assumption))
  · skip
    try simp only [tput, anyAt, setAll, List.foldl_cons, List.foldl_nil, List.set_cons_zero, List.set_cons_succ]
    repeat (first | exact Weak.nil | refine Weak.cons ?_ | refine Weak.consAny ?_)
  · rintro ⟨i, st⟩ hI; dsimp only at hI ⊢; have hpl := pieceD_len s i; have hsz := ofL_size (pieceD s i)
    refine AW_norm (by first | (simp only [tput, anyAt, setAll, List.foldl_cons, List.foldl_nil, List.set_cons_zero, List.set_cons_succ]; rfl) | rfl) ?_
    refine AW_seq ?_
    refine AW_seq ?_
    refine AW_region ?_
    refine AL_move rfl ?_
    refine AL_norm (by first | (simp only [tput, anyAt, setAll, List.foldl_cons, List.foldl_nil, List.set_cons_zero, List.set_cons_succ]; rfl) | rfl) ?_
    refine AL_move rfl ?_
    first | refine AL_len_sl un48 rfl ?_ | refine AL_len_own un48 rfl ?_
    refine AL_lss rfl rfl ?_
    refine AL_norm (by first | (simp only [tput, anyAt, setAll, List.foldl_cons, List.foldl_nil, List.set_cons_zero, List.set_cons_succ]; rfl) | rfl) ?_
    refine AL_nil ?_
    refine seqQ_n ?_
    refine AW_cond rfl (fun hc1 => ?_) (fun hc1 => ?_)
    · try simp only [Bool.or_eq_true, Bool.and_eq_true, Bool.or_eq_false_iff, Bool.and_eq_false_iff, decide_eq_true_eq, decide_eq_false_iff_not, Bool.not_eq_true', Bool.not_eq_false', beq_iff_eq, ne_eq, Decidable.not_not, List.length_map] at hc1
      refine AW_skip ?_
      refine seqQ_n ?_
      refine AW_seq ?_
      refine AW_block ?_
      refine AW_seq ?_
      refine AW_region ?_
      refine AL_assign rfl ?_
      refine AL_norm (by first | (simp only [tput, anyAt, setAll, List.foldl_cons, List.foldl_nil, List.set_cons_zero, List.set_cons_succ]; rfl) | rfl) ?_
      refine AL_nil ?_
      refine seqQ_n ?_
      refine AW_seq ?_
      refine AW_block ?_
      refine AW_loops (α := Nat) [8, 20, 21, 22, 23, 24, 25, 26, 27, 28, 29, 30, 31, 32, 33, 34, 35, 36, 37] (fun k => [(8, .v (.int .i64 (k : Int)))]) (fun k => H) (fun k => k ≤ (pieceD s i).length ∧ ∀ j, j < k → ¬ (pieceD s i).getD j 0 = 58) (fun k => (pieceD s i).length - k) (0) ?_ ?_ ?_ ?_
      · exact ⟨Nat.zero_le _, fun j hj => absurd hj (Nat.not_lt_zero j)⟩
      · repeat (first | exact SubH.refl _ | assumption | refine SubH.new ?_ (by assumption))
      · skip
        try simp only [tput, anyAt, setAll, List.foldl_cons, List.foldl_nil, List.set_cons_zero, List.set_cons_succ]
        repeat (first | exact Weak.nil | refine Weak.cons ?_ | refine Weak.consAny ?_)
      · intro k hJ
        refine AW_norm (by first | (simp only [tput, anyAt, setAll, List.foldl_cons, List.foldl_nil, List.set_cons_zero, List.set_cons_succ]; rfl) | rfl) ?_
        refine AW_seq ?_
        refine AW_seq ?_
        refine AW_region ?_
        refine AL_move rfl ?_
        refine AL_norm (by first | (simp only [tput, anyAt, setAll, List.foldl_cons, List.foldl_nil, List.set_cons_zero, List.set_cons_succ]; rfl) | rfl) ?_
        refine AL_move rfl ?_
        refine AL_move rfl ?_
        first | refine AL_indexAddr_sl (y := strAV (ofL (pieceD s i))) un48 sz9 (by decide) rfl rfl ?_ ?_ ?_ ?_ | refine AL_indexAddr_own un48 sz9 rfl rfl ?_ ?_ ?_
        · omega
        · simp only [List.length_map]; omega
        · exact splitS_get (by omega)
        first | refine AL_load_rp sz9 rfl ag9 ?_ | refine AL_loadw sz9 rfl (by repeat (first | exact AH.upd_same _ _ _ | exact hH | assumption | refine AH.look_other (by assumption) ?_)) (by exact ag9) (by exact rfl) ?_ | refine AL_load_pt ag9 sz9 (by decide) rfl (by repeat (first | exact AH.upd_same _ _ _ | exact hH | assumption | refine AH.look_other (by assumption) ?_)) (by first | assumption | exact sz3 | exact sz9 | exact sz5 | exact sz57 | exact sz48) (by exact rfl) (by exact rfl) (by exact rfl) ?_
        refine AL_norm (by first | (simp only [tput, anyAt, setAll, List.foldl_cons, List.foldl_nil, List.set_cons_zero, List.set_cons_succ]; rfl) | rfl) ?_
        refine AL_len_str un9 rfl ?_
        refine AL_lss rfl rfl ?_
        refine AL_move rfl ?_
        refine AL_and (j := 7) (n := 7) (c := 27) (t := 34) (r := 35) (v := ?v2) [28, 29, 30, 31, 32, 33, 34] rfl rfl rfl rfl rfl rfl rfl (fun hg2 => ?_) ?_; rotate_left
        · simp only [List.take_succ_cons, List.take_zero, List.map_cons, List.map_nil, strip, Nat.reduceBEq, beq_self_eq_true, Bool.and_self, Bool.true_and, Bool.false_and, cond_true, cond_false]
          try simp only [Bool.or_eq_true, Bool.and_eq_true, Bool.or_eq_false_iff, Bool.and_eq_false_iff, decide_eq_true_eq, decide_eq_false_iff_not, Bool.not_eq_true', Bool.not_eq_false', beq_iff_eq, ne_eq, Decidable.not_not, List.length_map] at hg2
          refine AL_move rfl ?_
          refine AL_norm (by first | (simp only [tput, anyAt, setAll, List.foldl_cons, List.foldl_nil, List.set_cons_zero, List.set_cons_succ]; rfl) | rfl) ?_
          refine AL_move rfl ?_
          first | refine AL_indexAddr_sl (y := strAV (ofL (pieceD s i))) un48 sz9 (by decide) rfl rfl ?_ ?_ ?_ ?_ | refine AL_indexAddr_own un48 sz9 rfl rfl ?_ ?_ ?_
          · omega
          · simp only [List.length_map]; omega
          · exact splitS_get (by omega)
          first | refine AL_load_rp sz9 rfl ag9 ?_ | refine AL_loadw sz9 rfl (by repeat (first | exact AH.upd_same _ _ _ | exact hH | assumption | refine AH.look_other (by assumption) ?_)) (by exact ag9) (by exact rfl) ?_ | refine AL_load_pt ag9 sz9 (by decide) rfl (by repeat (first | exact AH.upd_same _ _ _ | exact hH | assumption | refine AH.look_other (by assumption) ?_)) (by first | assumption | exact sz3 | exact sz9 | exact sz5 | exact sz57 | exact sz48) (by exact rfl) (by exact rfl) (by exact rfl) ?_
          refine AL_move rfl ?_
          refine AL_norm (by first | (simp only [tput, anyAt, setAll, List.foldl_cons, List.foldl_nil, List.set_cons_zero, List.set_cons_succ]; rfl) | rfl) ?_
          first | refine AL_index_strn un9 rfl rfl ?_ ?_ ?_ | refine AL_index_strb un9 rfl rfl ?_ ?_ ?_
          · omega
          · omega
          refine AL_neq rfl rfl ?_
          refine AL_nil (grpQ_mk ?_)
          try simp only [tput, anyAt, setAll, List.foldl_cons, List.foldl_nil, List.set_cons_zero, List.set_cons_succ]
          repeat (first | exact Weak.nil | refine Weak.cons ?_ | refine Weak.consAny ?_)
        refine AL_norm (by first | (simp only [tput, anyAt, setAll, List.foldl_cons, List.foldl_nil, List.set_cons_zero, List.set_cons_succ]; rfl) | rfl) ?_
        refine AL_norm (by first | (simp only [tput, anyAt, setAll, List.foldl_cons, List.foldl_nil, List.set_cons_zero, List.set_cons_succ]; rfl) | rfl) ?_
        refine AL_nil ?_
        refine seqQ_n ?_
        refine AW_cond rfl (fun hc3 => ?_) (fun hc3 => ?_)
        · try simp only [Bool.or_eq_true, Bool.and_eq_true, Bool.or_eq_false_iff, Bool.and_eq_false_iff, decide_eq_true_eq, decide_eq_false_iff_not, Bool.not_eq_true', Bool.not_eq_false', beq_iff_eq, ne_eq, Decidable.not_not, List.length_map] at hc3
          refine AW_skip ?_
          refine seqQ_n ?_
          refine AW_block ?_
          refine AW_region ?_
          refine AL_move rfl ?_
          refine AL_addz rfl rfl (((k + 1 : Nat) : Int)) (by exact inc64 (by omega)) ?_
          refine AL_norm (by first | (simp only [tput, anyAt, setAll, List.foldl_cons, List.foldl_nil, List.set_cons_zero, List.set_cons_succ]; rfl) | rfl) ?_
          refine AL_assign rfl ?_
          refine AL_norm (by first | (simp only [tput, anyAt, setAll, List.foldl_cons, List.foldl_nil, List.set_cons_zero, List.set_cons_succ]; rfl) | rfl) ?_
          refine AL_nil ?_
          refine blockQ_n ?_
          refine loopQ_n (k + 1) ?_ ?_ ?_ ?_
          · exact ⟨by omega, notall hJ.2 hc3.2⟩
          · omega
          · repeat (first | exact SubH.refl _ | assumption | refine SubH.new ?_ (by assumption))
          · skip
            try simp only [tput, anyAt, setAll, List.foldl_cons, List.foldl_nil, List.set_cons_zero, List.set_cons_succ]
            repeat (first | exact Weak.nil | refine Weak.cons ?_ | refine Weak.consAny ?_)
        · try simp only [Bool.or_eq_true, Bool.and_eq_true, Bool.or_eq_false_iff, Bool.and_eq_false_iff, decide_eq_true_eq, decide_eq_false_iff_not, Bool.not_eq_true', Bool.not_eq_false', beq_iff_eq, ne_eq, Decidable.not_not, List.length_map] at hc3
          refine AW_exit ?_
          refine seqQ_x ?_
          refine loopQ_x ?_
          refine blockQ_hit ?_
          refine seqQ_n ?_
          refine AW_seq ?_
          refine AW_seq ?_
          refine AW_region ?_
          refine AL_move rfl ?_
          refine AL_move rfl ?_
          refine AL_move rfl ?_
          refine AL_norm (by first | (simp only [tput, anyAt, setAll, List.foldl_cons, List.foldl_nil, List.set_cons_zero, List.set_cons_succ]; rfl) | rfl) ?_
          first | refine AL_indexAddr_sl (y := strAV (ofL (pieceD s i))) un48 sz9 (by decide) rfl rfl ?_ ?_ ?_ ?_ | refine AL_indexAddr_own un48 sz9 rfl rfl ?_ ?_ ?_
          · omega
          · simp only [List.length_map]; omega
          · exact splitS_get (by omega)
          first | refine AL_load_rp sz9 rfl ag9 ?_ | refine AL_loadw sz9 rfl (by repeat (first | exact AH.upd_same _ _ _ | exact hH | assumption | refine AH.look_other (by assumption) ?_)) (by exact ag9) (by exact rfl) ?_ | refine AL_load_pt ag9 sz9 (by decide) rfl (by repeat (first | exact AH.upd_same _ _ _ | exact hH | assumption | refine AH.look_other (by assumption) ?_)) (by first | assumption | exact sz3 | exact sz9 | exact sz5 | exact sz57 | exact sz48) (by exact rfl) (by exact rfl) (by exact rfl) ?_
          refine AL_len_str un9 rfl ?_
          refine AL_eql rfl rfl ?_
          refine AL_norm (by first | (simp only [tput, anyAt, setAll, List.foldl_cons, List.foldl_nil, List.set_cons_zero, List.set_cons_succ]; rfl) | rfl) ?_
          refine AL_nil ?_
          refine seqQ_n ?_
          refine AW_cond rfl (fun hc4 => ?_) (fun hc4 => ?_)
          · try simp only [Bool.or_eq_true, Bool.and_eq_true, Bool.or_eq_false_iff, Bool.and_eq_false_iff, decide_eq_true_eq, decide_eq_false_iff_not, Bool.not_eq_true', Bool.not_eq_false', beq_iff_eq, ne_eq, Decidable.not_not, List.length_map] at hc4
            refine AW_exit ?_
            refine seqQ_x ?_
            refine blockQ_hit ?_
            refine seqQ_n ?_
            refine AW_region ?_
            refine AL_move rfl ?_
            refine AL_norm (by first | (simp only [tput, anyAt, setAll, List.foldl_cons, List.foldl_nil, List.set_cons_zero, List.set_cons_succ]; rfl) | rfl) ?_
            refine AL_addz rfl rfl (((i + 1 : Nat) : Int)) (by exact inc64 (by omega)) ?_
            refine AL_assign rfl ?_
            refine AL_norm (by first | (simp only [tput, anyAt, setAll, List.foldl_cons, List.foldl_nil, List.set_cons_zero, List.set_cons_succ]; rfl) | rfl) ?_
            refine AL_nil ?_
            refine loopQ_n ((i + 1, st)) ?_ ?_ ?_ ?_
            · exact ⟨by omega, (restR_none (k := k) (by omega) (by omega) hJ.2).trans hI.2⟩
            · (show (splitS s 59).length - (i + 1) < (splitS s 59).length - i; omega)
            · repeat (first | exact SubH.refl _ | assumption | refine SubH.new ?_ (by assumption))
            · skip
              try simp only [tput, anyAt, setAll, List.foldl_cons, List.foldl_nil, List.set_cons_zero, List.set_cons_succ]
              repeat (first | exact Weak.nil | refine Weak.cons ?_ | refine Weak.consAny ?_)
          · try simp only [Bool.or_eq_true, Bool.and_eq_true, Bool.or_eq_false_iff, Bool.and_eq_false_iff, decide_eq_true_eq, decide_eq_false_iff_not, Bool.not_eq_true', Bool.not_eq_false', beq_iff_eq, ne_eq, Decidable.not_not, List.length_map] at hc4
            refine AW_skip ?_
            refine seqQ_n ?_
            refine AW_seq ?_
            refine' AW_drawL (xs := [_, _, _, _, _, _, _, _, _, _, _, _, _, _, _, _, _, _, _, _, _, _, _]) [] [0, 0, 1, 2, 0, 3, 4, 0, 0, 1, 2, 0, 1, 3, 5, 6, 7, 8, 10, 12, 9, 11, 13] (fun _ => _) rfl (by kernel_rfl) ?hops1 ?_
            case hops1 =>
              refine HopsL_cons (fun m T hl hr hm hm2 => ?_) ?_
              · skip
                replace hm : 0 ≤ m := hm
                replace hm2 : m ≤ 0 := hm2
                obtain rfl : m = 0 := by omega
                refine AL_move ((hr 4 (by kernel_rfl)).trans rfl) ?_
                refine AL_nil ?_
                refine qpostL_mk ?_ ?_
                rotate_left
                exact Weak.refl _
                exact SubH.refl _
              refine HopsL_norm (by first | (simp only [tput, List.set_cons_zero, List.set_cons_succ]; rfl) | rfl) ?_
              refine HopsL_cons (fun m T hl hr hm hm2 => ?_) ?_
              · skip
                replace hm : 0 ≤ m := hm
                replace hm2 : m ≤ 0 := hm2
                obtain rfl : m = 0 := by omega
                refine AL_move ((hr 7 (by kernel_rfl)).trans rfl) ?_
                refine AL_nil ?_
                refine qpostL_mk ?_ ?_
                rotate_left
                exact Weak.refl _
                exact SubH.refl _
              refine HopsL_norm (by first | (simp only [tput, List.set_cons_zero, List.set_cons_succ]; rfl) | rfl) ?_
              refine HopsL_cons (fun m T hl hr hm hm2 => ?_) ?_
              · skip
                replace hm : 0 ≤ m := hm
                replace hm2 : m ≤ 0 := hm2
                obtain rfl : m = 0 := by omega
                first | refine AL_indexAddr_sl (y := strAV (ofL (pieceD s i))) un48 sz9 (by decide) ((hr 46 (by kernel_rfl)).trans rfl) ((hr 47 (by kernel_rfl)).trans rfl) ?_ ?_ ?_ ?_ | refine AL_indexAddr_own un48 sz9 ((hr 46 (by kernel_rfl)).trans rfl) ((hr 47 (by kernel_rfl)).trans rfl) ?_ ?_ ?_
                · omega
                · simp only [List.length_map]; omega
                · exact splitS_get (by omega)
                refine AL_nil ?_
                refine qpostL_mk ?_ ?_
                rotate_left
                exact Weak.refl _
                exact SubH.refl _
              refine HopsL_norm (by first | (simp only [tput, List.set_cons_zero, List.set_cons_succ]; rfl) | rfl) ?_
              refine HopsL_cons (fun m T hl hr hm hm2 => ?_) ?_
              · skip
                replace hm : 0 ≤ m := hm
                replace hm2 : m ≤ 0 := hm2
                obtain rfl : m = 0 := by omega
                first | refine AL_load_rp sz9 ((hr 48 (by kernel_rfl)).trans rfl) ag9 ?_ | refine AL_loadw sz9 ((hr 48 (by kernel_rfl)).trans rfl) (by repeat (first | exact AH.upd_same _ _ _ | exact hH | assumption | refine AH.look_other (by assumption) ?_)) (by exact ag9) (by exact rfl) ?_ | refine AL_load_pt ag9 sz9 (by decide) ((hr 48 (by kernel_rfl)).trans rfl) (by repeat (first | exact AH.upd_same _ _ _ | exact hH | assumption | refine AH.look_other (by assumption) ?_)) (by first | assumption | exact sz3 | exact sz9 | exact sz5 | exact sz57 | exact sz48) (by exact rfl) (by exact rfl) (by exact rfl) ?_
                refine AL_nil ?_
                refine qpostL_mk ?_ ?_
                rotate_left
                exact Weak.refl _
                exact SubH.refl _
              refine HopsL_norm (by first | (simp only [tput, List.set_cons_zero, List.set_cons_succ]; rfl) | rfl) ?_
              refine HopsL_cons (fun m T hl hr hm hm2 => ?_) ?_
              · skip
                replace hm : 0 ≤ m := hm
                replace hm2 : m ≤ 0 := hm2
                obtain rfl : m = 0 := by omega
                refine AL_move ((hr 8 (by kernel_rfl)).trans rfl) ?_
                refine AL_nil ?_
                refine qpostL_mk ?_ ?_
                rotate_left
                exact Weak.refl _
                exact SubH.refl _
              refine HopsL_norm (by first | (simp only [tput, List.set_cons_zero, List.set_cons_succ]; rfl) | rfl) ?_
              refine HopsL_cons (fun m T hl hr hm hm2 => ?_) ?_
              · skip
                replace hm : 0 ≤ m := hm
                replace hm2 : m ≤ 0 := hm2
                obtain rfl : m = 0 := by omega
                first | refine AL_slice_strN un9 ((hr 49 (by kernel_rfl)).trans rfl) ⟨_, ((hr 50 (by kernel_rfl)).trans rfl)⟩ rfl ?_ ?_ ?_ | refine AL_slice_str un9 ((hr 49 (by kernel_rfl)).trans rfl) ⟨_, _, ((hr 50 (by kernel_rfl)).trans rfl), by omega, rfl⟩ rfl ?_ ?_ ?_
                · omega
                · omega
                refine AL_nil ?_
                refine qpostL_mk ?_ ?_
                rotate_left
                exact Weak.refl _
                exact SubH.refl _
              refine HopsL_norm (by first | (simp only [tput, List.set_cons_zero, List.set_cons_succ]; rfl) | rfl) ?_
              refine HopsL_cons (fun m T hl hr hm hm2 => ?_) ?_
              · skip
                replace hm : 0 ≤ m := hm
                replace hm2 : m ≤ 0 := hm2
                obtain rfl : m = 0 := by omega
                refine AL_callp en49 (.cons (.ev ((hr 51 (by kernel_rfl)).trans rfl)) (.nil)) (quillworkref04_trim_ok _ (by rw [ByteArray.size_extract]; omega)) ?_
                refine AL_nil ?_
                refine qpostL_mk ?_ ?_
                rotate_left
                exact Weak.refl _
                exact SubH.refl _
              refine HopsL_norm (by first | (simp only [tput, List.set_cons_zero, List.set_cons_succ]; rfl) | rfl) ?_
              refine HopsL_cons (fun m T hl hr hm hm2 => ?_) ?_
              · skip
                replace hm : 0 ≤ m := hm
                replace hm2 : m ≤ 0 := hm2
                obtain rfl : m = 0 := by omega
                refine AL_move ((hr 4 (by kernel_rfl)).trans rfl) ?_
                refine AL_nil ?_
                refine qpostL_mk ?_ ?_
                rotate_left
                exact Weak.refl _
                exact SubH.refl _
              refine HopsL_norm (by first | (simp only [tput, List.set_cons_zero, List.set_cons_succ]; rfl) | rfl) ?_
              refine HopsL_cons (fun m T hl hr hm hm2 => ?_) ?_
              · skip
                replace hm : 0 ≤ m := hm
                replace hm2 : m ≤ 0 := hm2
                obtain rfl : m = 0 := by omega
                refine AL_move ((hr 7 (by kernel_rfl)).trans rfl) ?_
                refine AL_nil ?_
                refine qpostL_mk ?_ ?_
                rotate_left
                exact Weak.refl _
                exact SubH.refl _
              refine HopsL_norm (by first | (simp only [tput, List.set_cons_zero, List.set_cons_succ]; rfl) | rfl) ?_
              refine HopsL_cons (fun m T hl hr hm hm2 => ?_) ?_
              · skip
                replace hm : 0 ≤ m := hm
                replace hm2 : m ≤ 0 := hm2
                obtain rfl : m = 0 := by omega
                first | refine AL_indexAddr_sl (y := strAV (ofL (pieceD s i))) un48 sz9 (by decide) ((hr 53 (by kernel_rfl)).trans rfl) ((hr 54 (by kernel_rfl)).trans rfl) ?_ ?_ ?_ ?_ | refine AL_indexAddr_own un48 sz9 ((hr 53 (by kernel_rfl)).trans rfl) ((hr 54 (by kernel_rfl)).trans rfl) ?_ ?_ ?_
                · omega
                · simp only [List.length_map]; omega
                · exact splitS_get (by omega)
                refine AL_nil ?_
                refine qpostL_mk ?_ ?_
                rotate_left
                exact Weak.refl _
                exact SubH.refl _
              refine HopsL_norm (by first | (simp only [tput, List.set_cons_zero, List.set_cons_succ]; rfl) | rfl) ?_
              refine HopsL_cons (fun m T hl hr hm hm2 => ?_) ?_
              · skip
                replace hm : 0 ≤ m := hm
                replace hm2 : m ≤ 0 := hm2
                obtain rfl : m = 0 := by omega
                first | refine AL_load_rp sz9 ((hr 55 (by kernel_rfl)).trans rfl) ag9 ?_ | refine AL_loadw sz9 ((hr 55 (by kernel_rfl)).trans rfl) (by repeat (first | exact AH.upd_same _ _ _ | exact hH | assumption | refine AH.look_other (by assumption) ?_)) (by exact ag9) (by exact rfl) ?_ | refine AL_load_pt ag9 sz9 (by decide) ((hr 55 (by kernel_rfl)).trans rfl) (by repeat (first | exact AH.upd_same _ _ _ | exact hH | assumption | refine AH.look_other (by assumption) ?_)) (by first | assumption | exact sz3 | exact sz9 | exact sz5 | exact sz57 | exact sz48) (by exact rfl) (by exact rfl) (by exact rfl) ?_
                refine AL_nil ?_
                refine qpostL_mk ?_ ?_
                rotate_left
                exact Weak.refl _
                exact SubH.refl _
              refine HopsL_norm (by first | (simp only [tput, List.set_cons_zero, List.set_cons_succ]; rfl) | rfl) ?_
              refine HopsL_cons (fun m T hl hr hm hm2 => ?_) ?_
              · skip
                replace hm : 0 ≤ m := hm
                replace hm2 : m ≤ 0 := hm2
                obtain rfl : m = 0 := by omega
                refine AL_move ((hr 8 (by kernel_rfl)).trans rfl) ?_
                refine AL_nil ?_
                refine qpostL_mk ?_ ?_
                rotate_left
                exact Weak.refl _
                exact SubH.refl _
              refine HopsL_norm (by first | (simp only [tput, List.set_cons_zero, List.set_cons_succ]; rfl) | rfl) ?_
              refine HopsL_cons (fun m T hl hr hm hm2 => ?_) ?_
              · skip
                replace hm : 0 ≤ m := hm
                replace hm2 : m ≤ 0 := hm2
                obtain rfl : m = 0 := by omega
                refine AL_addz ((hr 57 (by kernel_rfl)).trans rfl) rfl (((k + 1 : Nat) : Int)) (by exact inc64 (by omega)) ?_
                refine AL_nil ?_
                refine qpostL_mk ?_ ?_
                rotate_left
                exact Weak.refl _
                exact SubH.refl _
              refine HopsL_norm (by first | (simp only [tput, List.set_cons_zero, List.set_cons_succ]; rfl) | rfl) ?_
              refine HopsL_cons (fun m T hl hr hm hm2 => ?_) ?_
              · skip
                replace hm : 0 ≤ m := hm
                replace hm2 : m ≤ 0 := hm2
                obtain rfl : m = 0 := by omega
                first | refine AL_slice_strN un9 ((hr 56 (by kernel_rfl)).trans rfl) rfl ⟨_, ((hr 58 (by kernel_rfl)).trans rfl)⟩ ?_ ?_ ?_ | refine AL_slice_str un9 ((hr 56 (by kernel_rfl)).trans rfl) rfl ⟨_, _, ((hr 58 (by kernel_rfl)).trans rfl), by omega, rfl⟩ ?_ ?_ ?_
                · omega
                · omega
                refine AL_nil ?_
                refine qpostL_mk ?_ ?_
                rotate_left
                exact Weak.refl _
                exact SubH.refl _
              refine HopsL_norm (by first | (simp only [tput, List.set_cons_zero, List.set_cons_succ]; rfl) | rfl) ?_
              refine HopsL_cons (fun m T hl hr hm hm2 => ?_) ?_
              · skip
                replace hm : 0 ≤ m := hm
                replace hm2 : m ≤ 0 := hm2
                obtain rfl : m = 0 := by omega
                refine AL_callp en49 (.cons (.ev ((hr 59 (by kernel_rfl)).trans rfl)) (.nil)) (quillworkref04_trim_ok _ (by rw [ByteArray.size_extract]; omega)) ?_
                refine AL_nil ?_
                refine qpostL_mk ?_ ?_
                rotate_left
                exact Weak.refl _
                exact SubH.refl _
              refine HopsL_norm (by first | (simp only [tput, List.set_cons_zero, List.set_cons_succ]; rfl) | rfl) ?_
              refine HopsL_cons (fun m T hl hr hm hm2 => ?_) ?_
              · skip
                replace hm : 0 ≤ m := hm
                replace hm2 : m ≤ 0 := hm2
                obtain rfl : m = 0 := by omega
                refine AL_callp en48 (.cons (.ev ((hr 52 (by kernel_rfl)).trans rfl)) (.cons (.ev ((hr 60 (by kernel_rfl)).trans rfl)) (.nil))) (quillworkref04_says_ok _ _ (by refine Nat.lt_of_le_of_lt (lt_size _) ?_; rw [toL_len, ByteArray.size_extract]; omega)) ?_
                refine AL_nil ?_
                refine qpostL_mk ?_ ?_
                rotate_left
                exact Weak.refl _
                exact SubH.refl _
              refine HopsL_norm (by first | (simp only [tput, List.set_cons_zero, List.set_cons_succ]; rfl) | rfl) ?_
              refine HopsL_cons (fun m T hl hr hm hm2 => ?_) ?_
              · skip
                replace hm : 0 ≤ m := hm
                replace hm2 : m ≤ 0 := hm2
                obtain rfl : m = 0 := by omega
                refine AL_move ((hr 61 (by kernel_rfl)).trans rfl) ?_
                refine AL_nil ?_
                refine qpostL_mk ?_ ?_
                rotate_left
                exact Weak.refl _
                exact SubH.refl _
              refine HopsL_norm (by first | (simp only [tput, List.set_cons_zero, List.set_cons_succ]; rfl) | rfl) ?_
              refine HopsL_cons (fun m T hl hr hm hm2 => ?_) ?_
              · skip
                replace hm : 0 ≤ m := hm
                replace hm2 : m ≤ 0 := hm2
                obtain rfl : m = 0 := by omega
                refine AL_extract ((hr 45 (by kernel_rfl)).trans rfl) rfl ?_
                refine AL_nil ?_
                refine qpostL_mk ?_ ?_
                rotate_left
                exact Weak.refl _
                exact SubH.refl _
              refine HopsL_norm (by first | (simp only [tput, List.set_cons_zero, List.set_cons_succ]; rfl) | rfl) ?_
              refine HopsL_cons (fun m T hl hr hm hm2 => ?_) ?_
              · skip
                replace hm : 0 ≤ m := hm
                replace hm2 : m ≤ 0 := hm2
                obtain rfl : m = 0 := by omega
                refine AL_extract ((hr 45 (by kernel_rfl)).trans rfl) rfl ?_
                refine AL_nil ?_
                refine qpostL_mk ?_ ?_
                rotate_left
                exact Weak.refl _
                exact SubH.refl _
              refine HopsL_norm (by first | (simp only [tput, List.set_cons_zero, List.set_cons_succ]; rfl) | rfl) ?_
              refine HopsL_cons (fun m T hl hr hm hm2 => ?_) ?_
              · skip
                replace hm : 0 ≤ m := hm
                replace hm2 : m ≤ 0 := hm2
                obtain rfl : m = 0 := by omega
                refine AL_extract ((hr 45 (by kernel_rfl)).trans rfl) rfl ?_
                refine AL_nil ?_
                refine qpostL_mk ?_ ?_
                rotate_left
                exact Weak.refl _
                exact SubH.refl _
              refine HopsL_norm (by first | (simp only [tput, List.set_cons_zero, List.set_cons_succ]; rfl) | rfl) ?_
              refine HopsL_cons (fun m T hl hr hm hm2 => ?_) ?_
              · skip
                replace hm : 0 ≤ m := hm
                replace hm2 : m ≤ 0 := hm2
                obtain rfl : m = 0 := by omega
                refine AL_assign ((hr 62 (by kernel_rfl)).trans rfl) ?_
                refine AL_nil ?_
                refine qpostL_mk ?_ ?_
                rotate_left
                exact Weak.refl _
                exact SubH.refl _
              refine HopsL_norm (by first | (simp only [tput, List.set_cons_zero, List.set_cons_succ]; rfl) | rfl) ?_
              refine HopsL_cons (fun m T hl hr hm hm2 => ?_) ?_
              · skip
                replace hm : 0 ≤ m := hm
                replace hm2 : m ≤ 0 := hm2
                obtain rfl : m = 0 := by omega
                refine AL_assign ((hr 63 (by kernel_rfl)).trans rfl) ?_
                refine AL_nil ?_
                refine qpostL_mk ?_ ?_
                rotate_left
                exact Weak.refl _
                exact SubH.refl _
              refine HopsL_norm (by first | (simp only [tput, List.set_cons_zero, List.set_cons_succ]; rfl) | rfl) ?_
              refine HopsL_cons (fun m T hl hr hm hm2 => ?_) ?_
              · skip
                replace hm : 0 ≤ m := hm
                replace hm2 : m ≤ 0 := hm2
                obtain rfl : m = 0 := by omega
                refine AL_assign ((hr 64 (by kernel_rfl)).trans rfl) ?_
                refine AL_nil ?_
                refine qpostL_mk ?_ ?_
                rotate_left
                exact Weak.refl _
                exact SubH.refl _
              refine HopsL_norm (by first | (simp only [tput, List.set_cons_zero, List.set_cons_succ]; rfl) | rfl) ?_
              exact HopsL_nil
            refine Q_norm (by first | (simp only [Tfin, tput, anyAt, setAll, List.foldl_cons, List.foldl_nil, List.set_cons_zero, List.set_cons_succ]; rfl) | rfl) ?_
            refine seqQ_n ?_
            refine AW_seq ?_
            refine AW_region ?_
            refine AL_move rfl ?_
            refine AL_norm (by first | (simp only [tput, anyAt, setAll, List.foldl_cons, List.foldl_nil, List.set_cons_zero, List.set_cons_succ]; rfl) | rfl) ?_
            refine AL_nil ?_
            refine seqQ_n ?_
            refine AW_cond rfl (fun hc5 => ?_) (fun hc5 => ?_)
            · try simp only [Bool.or_eq_true, Bool.and_eq_true, Bool.or_eq_false_iff, Bool.and_eq_false_iff, decide_eq_true_eq, decide_eq_false_iff_not, Bool.not_eq_true', Bool.not_eq_false', beq_iff_eq, ne_eq, Decidable.not_not, List.length_map] at hc5
              refine AW_seq ?_
              refine AW_region ?_
              refine AL_move rfl ?_
              refine AL_norm (by first | (simp only [tput, anyAt, setAll, List.foldl_cons, List.foldl_nil, List.set_cons_zero, List.set_cons_succ]; rfl) | rfl) ?_
              refine AL_move rfl ?_
              refine AL_bitsz (((st.1 &&& ~~~(sayR (lt (toL ((ofL (pieceD s i)).extract 0 k))) (lt (toL ((ofL (pieceD s i)).extract (k + 1) (ofL (pieceD s i)).size)))).2.1).toNat : Int)) rfl rfl (by decide) (b4_andNot _ _) ?_
              refine AL_move rfl ?_
              refine AL_bitsz (((st.1 &&& ~~~(sayR (lt (toL ((ofL (pieceD s i)).extract 0 k))) (lt (toL ((ofL (pieceD s i)).extract (k + 1) (ofL (pieceD s i)).size)))).2.1 ||| (sayR (lt (toL ((ofL (pieceD s i)).extract 0 k))) (lt (toL ((ofL (pieceD s i)).extract (k + 1) (ofL (pieceD s i)).size)))).1).toNat : Int)) rfl rfl (by decide) (b4_or _ _) ?_
              refine AL_norm (by first | (simp only [tput, anyAt, setAll, List.foldl_cons, List.foldl_nil, List.set_cons_zero, List.set_cons_succ]; rfl) | rfl) ?_
              refine AL_assign rfl ?_
              refine AL_norm (by first | (simp only [tput, anyAt, setAll, List.foldl_cons, List.foldl_nil, List.set_cons_zero, List.set_cons_succ]; rfl) | rfl) ?_
              refine AL_nil ?_
              refine seqQ_n ?_
              refine AW_region ?_
              refine AL_move rfl ?_
              refine AL_move rfl ?_
              refine AL_bitsz (((st.2 &&& ~~~(sayR (lt (toL ((ofL (pieceD s i)).extract 0 k))) (lt (toL ((ofL (pieceD s i)).extract (k + 1) (ofL (pieceD s i)).size)))).1).toNat : Int)) rfl rfl (by decide) (b4_andNot _ _) ?_
              refine AL_norm (by first | (simp only [tput, anyAt, setAll, List.foldl_cons, List.foldl_nil, List.set_cons_zero, List.set_cons_succ]; rfl) | rfl) ?_
              refine AL_move rfl ?_
              refine AL_bitsz (((st.2 &&& ~~~(sayR (lt (toL ((ofL (pieceD s i)).extract 0 k))) (lt (toL ((ofL (pieceD s i)).extract (k + 1) (ofL (pieceD s i)).size)))).1 ||| (sayR (lt (toL ((ofL (pieceD s i)).extract 0 k))) (lt (toL ((ofL (pieceD s i)).extract (k + 1) (ofL (pieceD s i)).size)))).2.1).toNat : Int)) rfl rfl (by decide) (b4_or _ _) ?_
              refine AL_assign rfl ?_
              refine AL_norm (by first | (simp only [tput, anyAt, setAll, List.foldl_cons, List.foldl_nil, List.set_cons_zero, List.set_cons_succ]; rfl) | rfl) ?_
              refine AL_nil ?_
              refine blockQ_n ?_
              refine seqQ_n ?_
              refine AW_region ?_
              refine AL_move rfl ?_
              refine AL_norm (by first | (simp only [tput, anyAt, setAll, List.foldl_cons, List.foldl_nil, List.set_cons_zero, List.set_cons_succ]; rfl) | rfl) ?_
              refine AL_addz rfl rfl (((i + 1 : Nat) : Int)) (by exact inc64 (by omega)) ?_
              refine AL_assign rfl ?_
              refine AL_norm (by first | (simp only [tput, anyAt, setAll, List.foldl_cons, List.foldl_nil, List.set_cons_zero, List.set_cons_succ]; rfl) | rfl) ?_
              refine AL_nil ?_
              refine loopQ_n ((i + 1, (st.1 &&& ~~~(sayR (lt (toL ((ofL (pieceD s i)).extract 0 k))) (lt (toL ((ofL (pieceD s i)).extract (k + 1) (ofL (pieceD s i)).size)))).2.1 ||| (sayR (lt (toL ((ofL (pieceD s i)).extract 0 k))) (lt (toL ((ofL (pieceD s i)).extract (k + 1) (ofL (pieceD s i)).size)))).1, st.2 &&& ~~~(sayR (lt (toL ((ofL (pieceD s i)).extract 0 k))) (lt (toL ((ofL (pieceD s i)).extract (k + 1) (ofL (pieceD s i)).size)))).1 ||| (sayR (lt (toL ((ofL (pieceD s i)).extract 0 k))) (lt (toL ((ofL (pieceD s i)).extract (k + 1) (ofL (pieceD s i)).size)))).2.1))) ?_ ?_ ?_ ?_
              · exact ⟨by omega, by rw [← ap_yes hc5]; exact (ref_step (by omega) (by omega) hJ.2 (is58 (hc3.resolve_left (fun h => h (by omega))))).trans hI.2⟩
              · (show (splitS s 59).length - (i + 1) < (splitS s 59).length - i; omega)
              · repeat (first | exact SubH.refl _ | assumption | refine SubH.new ?_ (by assumption))
              · skip
                try simp only [tput, anyAt, setAll, List.foldl_cons, List.foldl_nil, List.set_cons_zero, List.set_cons_succ]
                repeat (first | exact Weak.nil | refine Weak.cons ?_ | refine Weak.consAny ?_)
            · try simp only [Bool.or_eq_true, Bool.and_eq_true, Bool.or_eq_false_iff, Bool.and_eq_false_iff, decide_eq_true_eq, decide_eq_false_iff_not, Bool.not_eq_true', Bool.not_eq_false', beq_iff_eq, ne_eq, Decidable.not_not, List.length_map] at hc5
              refine AW_skip ?_
              refine blockQ_n ?_
              refine seqQ_n ?_
              refine AW_region ?_
              refine AL_move rfl ?_
              refine AL_addz rfl rfl (((i + 1 : Nat) : Int)) (by exact inc64 (by omega)) ?_
              refine AL_norm (by first | (simp only [tput, anyAt, setAll, List.foldl_cons, List.foldl_nil, List.set_cons_zero, List.set_cons_succ]; rfl) | rfl) ?_
              refine AL_assign rfl ?_
              refine AL_norm (by first | (simp only [tput, anyAt, setAll, List.foldl_cons, List.foldl_nil, List.set_cons_zero, List.set_cons_succ]; rfl) | rfl) ?_
              refine AL_nil ?_
              refine loopQ_n ((i + 1, st)) ?_ ?_ ?_ ?_
              · exact ⟨by omega, by rw [← ap_not (st := st) hc5]; exact (ref_step (by omega) (by omega) hJ.2 (is58 (hc3.resolve_left (fun h => h (by omega))))).trans hI.2⟩
              · (show (splitS s 59).length - (i + 1) < (splitS s 59).length - i; omega)
              · repeat (first | exact SubH.refl _ | assumption | refine SubH.new ?_ (by assumption))
              · skip
                try simp only [tput, anyAt, setAll, List.foldl_cons, List.foldl_nil, List.set_cons_zero, List.set_cons_succ]
                repeat (first | exact Weak.nil | refine Weak.cons ?_ | refine Weak.consAny ?_)
    · try simp only [Bool.or_eq_true, Bool.and_eq_true, Bool.or_eq_false_iff, Bool.and_eq_false_iff, decide_eq_true_eq, decide_eq_false_iff_not, Bool.not_eq_true', Bool.not_eq_false', beq_iff_eq, ne_eq, Decidable.not_not, List.length_map] at hc1
      refine AW_exit ?_
      refine seqQ_x ?_
      refine loopQ_x ?_
      refine blockQ_hit ?_
      refine seqQ_n ?_
      refine AW_seq ?_
      refine AW_region ?_
      refine AL_move rfl ?_
      refine AL_move rfl ?_
      refine AL_assign rfl ?_
      refine AL_norm (by first | (simp only [tput, anyAt, setAll, List.foldl_cons, List.foldl_nil, List.set_cons_zero, List.set_cons_succ]; rfl) | rfl) ?_
      refine AL_assign rfl ?_
      refine AL_norm (by first | (simp only [tput, anyAt, setAll, List.foldl_cons, List.foldl_nil, List.set_cons_zero, List.set_cons_succ]; rfl) | rfl) ?_
      refine AL_nil ?_
      refine seqQ_n ?_
      refine AW_ret ?_
      refine retQ_2 (H' := H) (.inr rfl) rfl rfl (by repeat (first | exact SubH.refl _ | refine SubH.upd ?_ (by assumption))) ?_
      refine K_eq ?_ hK
      show duoAV _ = _; rw [← hI.2, restR_end (by omega)]

/-- quillwork/quillworkref04.join -/
theorem quillworkref04_join_ok (a b : ByteArray) (ha : a.size ≤ 3000) (hb : b.size ≤ 3000) :
    PF Tryd.prog 52 [strAV a, strAV b] (strAV (joinR a b)) := by
  intro H K hK
  refine AC_of Tryd.func52 rfl (rs := [.tmp 4]) rfl Tryd.ntmps52 rfl ?_
  refine AW_norm (by simp only [List.length_cons, List.length_nil, Nat.reduceAdd, Nat.reduceSub, List.replicate, List.cons_append, List.nil_append]; rfl) ?_
  refine AW_seq ?_
  refine AW_region ?_
  refine AL_assign rfl ?_
  refine AL_norm (by first | (simp only [tput, anyAt, setAll, List.foldl_cons, List.foldl_nil, List.set_cons_zero, List.set_cons_succ]; rfl) | rfl) ?_
  refine AL_nil ?_
  refine seqQ_n ?_
  refine AW_seq ?_
  refine AW_seq ?_
  refine AW_region ?_
  refine AL_move rfl ?_
  refine AL_seql rfl rfl ?_
  refine AL_move rfl ?_
  refine AL_norm (by first | (simp only [tput, anyAt, setAll, List.foldl_cons, List.foldl_nil, List.set_cons_zero, List.set_cons_succ]; rfl) | rfl) ?_
  refine AL_or (j := 2) (n := 2) (c := 7) (t := 9) (r := 10) (v := ?v1) [8, 9] rfl rfl rfl rfl rfl rfl rfl (fun hg1 => ?_) ?_; rotate_left
  · simp only [List.take_succ_cons, List.take_zero, List.map_cons, List.map_nil, strip, Nat.reduceBEq, beq_self_eq_true, Bool.and_self, Bool.true_and, Bool.false_and, cond_true, cond_false]
    try simp only [Bool.or_eq_true, Bool.and_eq_true, Bool.or_eq_false_iff, Bool.and_eq_false_iff, decide_eq_true_eq, decide_eq_false_iff_not, Bool.not_eq_true', Bool.not_eq_false', beq_iff_eq, ne_eq, Decidable.not_not, List.length_map] at hg1
    refine AL_move rfl ?_
    refine AL_seql rfl rfl ?_
    refine AL_nil (grpQ_mk ?_)
    try simp only [tput, anyAt, setAll, List.foldl_cons, List.foldl_nil, List.set_cons_zero, List.set_cons_succ]
    repeat (first | exact Weak.nil | refine Weak.cons ?_ | refine Weak.consAny ?_)
  refine AL_norm (by first | (simp only [tput, anyAt, setAll, List.foldl_cons, List.foldl_nil, List.set_cons_zero, List.set_cons_succ]; rfl) | rfl) ?_
  refine AL_norm (by first | (simp only [tput, anyAt, setAll, List.foldl_cons, List.foldl_nil, List.set_cons_zero, List.set_cons_succ]; rfl) | rfl) ?_
  refine AL_nil ?_
  refine seqQ_n ?_
  refine AW_cond rfl (fun hc2 => ?_) (fun hc2 => ?_)
  · try simp only [Bool.or_eq_true, Bool.and_eq_true, Bool.or_eq_false_iff, Bool.and_eq_false_iff, decide_eq_true_eq, decide_eq_false_iff_not, Bool.not_eq_true', Bool.not_eq_false', beq_iff_eq, ne_eq, Decidable.not_not, List.length_map] at hc2
    refine AW_seq ?_
    refine AW_region ?_
    refine AL_move rfl ?_
    refine AL_move rfl ?_
    refine AL_norm (by first | (simp only [tput, anyAt, setAll, List.foldl_cons, List.foldl_nil, List.set_cons_zero, List.set_cons_succ]; rfl) | rfl) ?_
    refine AL_sadd rfl rfl ?_ ?_
    · first | (rw [ByteArray.size_append]; (show a.size + 2 + _ ≤ _); omega) | ((show a.size + 2 ≤ _); omega) | omega
    refine AL_assign rfl ?_
    refine AL_norm (by first | (simp only [tput, anyAt, setAll, List.foldl_cons, List.foldl_nil, List.set_cons_zero, List.set_cons_succ]; rfl) | rfl) ?_
    refine AL_nil ?_
    refine seqQ_n ?_
    refine AW_ret ?_
    refine seqQ_r ?_
    refine retQ_1 (H' := H) (.inr rfl) rfl (by repeat (first | exact SubH.refl _ | refine SubH.upd ?_ (by assumption))) ?_
    refine K_eq ?_ hK
    unfold joinR; rw [if_pos hc2]; rfl
  · try simp only [Bool.or_eq_true, Bool.and_eq_true, Bool.or_eq_false_iff, Bool.and_eq_false_iff, decide_eq_true_eq, decide_eq_false_iff_not, Bool.not_eq_true', Bool.not_eq_false', beq_iff_eq, ne_eq, Decidable.not_not, List.length_map] at hc2
    refine AW_skip ?_
    refine seqQ_n ?_
    refine AW_seq ?_
    refine AW_region ?_
    refine AL_move rfl ?_
    refine AL_sadd rfl rfl ?_ ?_
    · first | (rw [ByteArray.size_append]; (show a.size + 2 + _ ≤ _); omega) | ((show a.size + 2 ≤ _); omega) | omega
    refine AL_norm (by first | (simp only [tput, anyAt, setAll, List.foldl_cons, List.foldl_nil, List.set_cons_zero, List.set_cons_succ]; rfl) | rfl) ?_
    refine AL_move rfl ?_
    refine AL_sadd rfl rfl ?_ ?_
    · first | (rw [ByteArray.size_append]; (show a.size + 2 + _ ≤ _); omega) | ((show a.size + 2 ≤ _); omega) | omega
    refine AL_assign rfl ?_
    refine AL_norm (by first | (simp only [tput, anyAt, setAll, List.foldl_cons, List.foldl_nil, List.set_cons_zero, List.set_cons_succ]; rfl) | rfl) ?_
    refine AL_nil ?_
    refine seqQ_n ?_
    refine AW_ret ?_
    refine retQ_1 (H' := H) (.inr rfl) rfl (by repeat (first | exact SubH.refl _ | refine SubH.upd ?_ (by assumption))) ?_
    refine K_eq ?_ hK
    unfold joinR; rw [if_neg (fun h => h.elim hc2.1 hc2.2)]; rfl

/-- quillwork/quillworkref04.Print -/
theorem quillworkref04_Print_ok (s c : Int) :
    PF Tryd.prog 35 [.v (.int .i64 s), .v (.int .i64 c)] (strAV (printR (bitB s 1) (bitB c 1) (bitB s 2) (bitB c 2) (bitB s 4) (bitB s 8) (bitB c 12))) := by
  intro H K hK
  refine AC_of Tryd.func35 rfl (rs := [.tmp 4]) rfl Tryd.ntmps35 rfl ?_
  refine AW_norm (by simp only [List.length_cons, List.length_nil, Nat.reduceAdd, Nat.reduceSub, List.replicate, List.cons_append, List.nil_append]; rfl) ?_
  refine AW_seq ?_
  refine AW_region ?_
  refine AL_assign rfl ?_
  refine AL_norm (by first | (simp only [tput, anyAt, setAll, List.foldl_cons, List.foldl_nil, List.set_cons_zero, List.set_cons_succ]; rfl) | rfl) ?_
  refine AL_nil ?_
  refine seqQ_n ?_
  refine AW_seq ?_
  refine AW_region ?_
  refine AL_assign rfl ?_
  refine AL_norm (by first | (simp only [tput, anyAt, setAll, List.foldl_cons, List.foldl_nil, List.set_cons_zero, List.set_cons_succ]; rfl) | rfl) ?_
  refine AL_nil ?_
  refine seqQ_n ?_
  refine AW_seq ?_
  refine AW_seq ?_
  refine AW_region ?_
  refine AL_move rfl ?_
  refine AL_bits rfl rfl (by decide) ?_
  refine AL_norm (by first | (simp only [tput, anyAt, setAll, List.foldl_cons, List.foldl_nil, List.set_cons_zero, List.set_cons_succ]; rfl) | rfl) ?_
  refine AL_eql rfl rfl ?_
  refine AL_norm (by first | (simp only [tput, anyAt, setAll, List.foldl_cons, List.foldl_nil, List.set_cons_zero, List.set_cons_succ]; rfl) | rfl) ?_
  refine AL_nil ?_
  refine seqQ_n ?_
  refine AW_join [5, 11, 12, 13] ([(5, strAV (p1S (bitB s 1) (bitB c 1)))]) (H) ?_ ?_
  · skip
    refine AW_cond rfl (fun hc1 => ?_) (fun hc1 => ?_)
    · try simp only [Bool.or_eq_true, Bool.and_eq_true, Bool.or_eq_false_iff, Bool.and_eq_false_iff, decide_eq_true_eq, decide_eq_false_iff_not, Bool.not_eq_true', Bool.not_eq_false', beq_iff_eq, ne_eq, Decidable.not_not, List.length_map] at hc1
      refine AW_region ?_
      refine AL_assign rfl ?_
      refine AL_norm (by first | (simp only [tput, anyAt, setAll, List.foldl_cons, List.foldl_nil, List.set_cons_zero, List.set_cons_succ]; rfl) | rfl) ?_
      refine AL_nil ?_
      refine mQ_mk ?_ ?_
      · exact SubH.refl _
      · rw [show p1S (bitB s 1) (bitB c 1) = pFWb from if_pos ((bit1 s).1 hc1)]
        try simp only [tput, anyAt, setAll, List.foldl_cons, List.foldl_nil, List.set_cons_zero, List.set_cons_succ]
        repeat (first | exact Weak.nil | refine Weak.cons ?_ | refine Weak.consAny ?_)
    · try simp only [Bool.or_eq_true, Bool.and_eq_true, Bool.or_eq_false_iff, Bool.and_eq_false_iff, decide_eq_true_eq, decide_eq_false_iff_not, Bool.not_eq_true', Bool.not_eq_false', beq_iff_eq, ne_eq, Decidable.not_not, List.length_map] at hc1
      refine AW_seq ?_
      refine AW_region ?_
      refine AL_move rfl ?_
      refine AL_bits rfl rfl (by decide) ?_
      refine AL_norm (by first | (simp only [tput, anyAt, setAll, List.foldl_cons, List.foldl_nil, List.set_cons_zero, List.set_cons_succ]; rfl) | rfl) ?_
      refine AL_eql rfl rfl ?_
      refine AL_norm (by first | (simp only [tput, anyAt, setAll, List.foldl_cons, List.foldl_nil, List.set_cons_zero, List.set_cons_succ]; rfl) | rfl) ?_
      refine AL_nil ?_
      refine seqQ_n ?_
      refine AW_cond rfl (fun hc2 => ?_) (fun hc2 => ?_)
      · try simp only [Bool.or_eq_true, Bool.and_eq_true, Bool.or_eq_false_iff, Bool.and_eq_false_iff, decide_eq_true_eq, decide_eq_false_iff_not, Bool.not_eq_true', Bool.not_eq_false', beq_iff_eq, ne_eq, Decidable.not_not, List.length_map] at hc2
        refine AW_region ?_
        refine AL_assign rfl ?_
        refine AL_norm (by first | (simp only [tput, anyAt, setAll, List.foldl_cons, List.foldl_nil, List.set_cons_zero, List.set_cons_succ]; rfl) | rfl) ?_
        refine AL_nil ?_
        refine mQ_mk ?_ ?_
        · exact SubH.refl _
        · rw [show p1S (bitB s 1) (bitB c 1) = pFWn from (if_neg (fun h => hc1 ((bit1 s).2 h))).trans (if_pos ((bit1 c).1 hc2))]
          try simp only [tput, anyAt, setAll, List.foldl_cons, List.foldl_nil, List.set_cons_zero, List.set_cons_succ]
          repeat (first | exact Weak.nil | refine Weak.cons ?_ | refine Weak.consAny ?_)
      · try simp only [Bool.or_eq_true, Bool.and_eq_true, Bool.or_eq_false_iff, Bool.and_eq_false_iff, decide_eq_true_eq, decide_eq_false_iff_not, Bool.not_eq_true', Bool.not_eq_false', beq_iff_eq, ne_eq, Decidable.not_not, List.length_map] at hc2
        refine AW_skip ?_
        refine mQ_mk ?_ ?_
        · exact SubH.refl _
        · rw [show p1S (bitB s 1) (bitB c 1) = sEmp from (if_neg (fun h => hc1 ((bit1 s).2 h))).trans (if_neg (fun h => hc2 ((bit1 c).2 h)))]
          try simp only [tput, anyAt, setAll, List.foldl_cons, List.foldl_nil, List.set_cons_zero, List.set_cons_succ]
          repeat (first | exact Weak.nil | refine Weak.cons ?_ | refine Weak.consAny ?_)
  · skip
    refine AW_norm (by first | (simp only [tput, anyAt, setAll, List.foldl_cons, List.foldl_nil, List.set_cons_zero, List.set_cons_succ]; rfl) | rfl) ?_
    refine AW_seq ?_
    refine AW_region ?_
    refine AL_assign rfl ?_
    refine AL_norm (by first | (simp only [tput, anyAt, setAll, List.foldl_cons, List.foldl_nil, List.set_cons_zero, List.set_cons_succ]; rfl) | rfl) ?_
    refine AL_nil ?_
    refine seqQ_n ?_
    refine AW_seq ?_
    refine AW_seq ?_
    refine AW_region ?_
    refine AL_move rfl ?_
    refine AL_norm (by first | (simp only [tput, anyAt, setAll, List.foldl_cons, List.foldl_nil, List.set_cons_zero, List.set_cons_succ]; rfl) | rfl) ?_
    refine AL_bits rfl rfl (by decide) ?_
    refine AL_eql rfl rfl ?_
    refine AL_norm (by first | (simp only [tput, anyAt, setAll, List.foldl_cons, List.foldl_nil, List.set_cons_zero, List.set_cons_succ]; rfl) | rfl) ?_
    refine AL_nil ?_
    refine seqQ_n ?_
    refine AW_join [6, 17, 18, 19] ([(6, strAV (p2S (bitB s 2) (bitB c 2)))]) (H) ?_ ?_
    · skip
      refine AW_cond rfl (fun hc3 => ?_) (fun hc3 => ?_)
      · try simp only [Bool.or_eq_true, Bool.and_eq_true, Bool.or_eq_false_iff, Bool.and_eq_false_iff, decide_eq_true_eq, decide_eq_false_iff_not, Bool.not_eq_true', Bool.not_eq_false', beq_iff_eq, ne_eq, Decidable.not_not, List.length_map] at hc3
        refine AW_region ?_
        refine AL_assign rfl ?_
        refine AL_norm (by first | (simp only [tput, anyAt, setAll, List.foldl_cons, List.foldl_nil, List.set_cons_zero, List.set_cons_succ]; rfl) | rfl) ?_
        refine AL_nil ?_
        refine mQ_mk ?_ ?_
        · exact SubH.refl _
        · rw [show p2S (bitB s 2) (bitB c 2) = pFSi from if_pos ((bit2 s).1 hc3)]
          try simp only [tput, anyAt, setAll, List.foldl_cons, List.foldl_nil, List.set_cons_zero, List.set_cons_succ]
          repeat (first | exact Weak.nil | refine Weak.cons ?_ | refine Weak.consAny ?_)
      · try simp only [Bool.or_eq_true, Bool.and_eq_true, Bool.or_eq_false_iff, Bool.and_eq_false_iff, decide_eq_true_eq, decide_eq_false_iff_not, Bool.not_eq_true', Bool.not_eq_false', beq_iff_eq, ne_eq, Decidable.not_not, List.length_map] at hc3
        refine AW_seq ?_
        refine AW_region ?_
        refine AL_move rfl ?_
        refine AL_norm (by first | (simp only [tput, anyAt, setAll, List.foldl_cons, List.foldl_nil, List.set_cons_zero, List.set_cons_succ]; rfl) | rfl) ?_
        refine AL_bits rfl rfl (by decide) ?_
        refine AL_eql rfl rfl ?_
        refine AL_norm (by first | (simp only [tput, anyAt, setAll, List.foldl_cons, List.foldl_nil, List.set_cons_zero, List.set_cons_succ]; rfl) | rfl) ?_
        refine AL_nil ?_
        refine seqQ_n ?_
        refine AW_cond rfl (fun hc4 => ?_) (fun hc4 => ?_)
        · try simp only [Bool.or_eq_true, Bool.and_eq_true, Bool.or_eq_false_iff, Bool.and_eq_false_iff, decide_eq_true_eq, decide_eq_false_iff_not, Bool.not_eq_true', Bool.not_eq_false', beq_iff_eq, ne_eq, Decidable.not_not, List.length_map] at hc4
          refine AW_region ?_
          refine AL_assign rfl ?_
          refine AL_norm (by first | (simp only [tput, anyAt, setAll, List.foldl_cons, List.foldl_nil, List.set_cons_zero, List.set_cons_succ]; rfl) | rfl) ?_
          refine AL_nil ?_
          refine mQ_mk ?_ ?_
          · exact SubH.refl _
          · rw [show p2S (bitB s 2) (bitB c 2) = pFSn from (if_neg (fun h => hc3 ((bit2 s).2 h))).trans (if_pos ((bit2 c).1 hc4))]
            try simp only [tput, anyAt, setAll, List.foldl_cons, List.foldl_nil, List.set_cons_zero, List.set_cons_succ]
            repeat (first | exact Weak.nil | refine Weak.cons ?_ | refine Weak.consAny ?_)
        · try simp only [Bool.or_eq_true, Bool.and_eq_true, Bool.or_eq_false_iff, Bool.and_eq_false_iff, decide_eq_true_eq, decide_eq_false_iff_not, Bool.not_eq_true', Bool.not_eq_false', beq_iff_eq, ne_eq, Decidable.not_not, List.length_map] at hc4
          refine AW_skip ?_
          refine mQ_mk ?_ ?_
          · exact SubH.refl _
          · rw [show p2S (bitB s 2) (bitB c 2) = sEmp from (if_neg (fun h => hc3 ((bit2 s).2 h))).trans (if_neg (fun h => hc4 ((bit2 c).2 h)))]
            try simp only [tput, anyAt, setAll, List.foldl_cons, List.foldl_nil, List.set_cons_zero, List.set_cons_succ]
            repeat (first | exact Weak.nil | refine Weak.cons ?_ | refine Weak.consAny ?_)
    · skip
      refine AW_norm (by first | (simp only [tput, anyAt, setAll, List.foldl_cons, List.foldl_nil, List.set_cons_zero, List.set_cons_succ]; rfl) | rfl) ?_
      refine AW_seq ?_
      refine AW_region ?_
      refine AL_assign rfl ?_
      refine AL_norm (by first | (simp only [tput, anyAt, setAll, List.foldl_cons, List.foldl_nil, List.set_cons_zero, List.set_cons_succ]; rfl) | rfl) ?_
      refine AL_nil ?_
      refine seqQ_n ?_
      refine AW_seq ?_
      refine AW_seq ?_
      refine AW_region ?_
      refine AL_move rfl ?_
      refine AL_norm (by first | (simp only [tput, anyAt, setAll, List.foldl_cons, List.foldl_nil, List.set_cons_zero, List.set_cons_succ]; rfl) | rfl) ?_
      refine AL_bits rfl rfl (by decide) ?_
      refine AL_norm (by first | (simp only [tput, anyAt, setAll, List.foldl_cons, List.foldl_nil, List.set_cons_zero, List.set_cons_succ]; rfl) | rfl) ?_
      refine AL_nil ?_
      refine seqQ_n ?_
      refine AW_join [7, 22, 23, 24, 25, 26, 27, 28, 29, 30] ([(7, strAV (uS (bitB s 4) (bitB s 8) (bitB c 12)))]) (H) ?_ ?_
      · skip
        refine AW_block ?_
        refine AW_seq ?_
        refine AW_region ?_
        refine AL_eql rfl rfl ?_
        refine AL_assign rfl ?_
        refine AL_norm (by first | (simp only [tput, anyAt, setAll, List.foldl_cons, List.foldl_nil, List.set_cons_zero, List.set_cons_succ]; rfl) | rfl) ?_
        refine AL_nil ?_
        refine seqQ_n ?_
        refine AW_cond rfl (fun hc5 => ?_) (fun hc5 => ?_)
        · try simp only [Bool.or_eq_true, Bool.and_eq_true, Bool.or_eq_false_iff, Bool.and_eq_false_iff, decide_eq_true_eq, decide_eq_false_iff_not, Bool.not_eq_true', Bool.not_eq_false', beq_iff_eq, ne_eq, Decidable.not_not, List.length_map] at hc5
          refine AW_region ?_
          refine AL_assign rfl ?_
          refine AL_norm (by first | (simp only [tput, anyAt, setAll, List.foldl_cons, List.foldl_nil, List.set_cons_zero, List.set_cons_succ]; rfl) | rfl) ?_
          refine AL_nil ?_
          refine blockQ_n ?_
          refine mQ_mk ?_ ?_
          · exact SubH.refl _
          · rw [← uS_4 hc5]
            try simp only [tput, anyAt, setAll, List.foldl_cons, List.foldl_nil, List.set_cons_zero, List.set_cons_succ]
            repeat (first | exact Weak.nil | refine Weak.cons ?_ | refine Weak.consAny ?_)
        · try simp only [Bool.or_eq_true, Bool.and_eq_true, Bool.or_eq_false_iff, Bool.and_eq_false_iff, decide_eq_true_eq, decide_eq_false_iff_not, Bool.not_eq_true', Bool.not_eq_false', beq_iff_eq, ne_eq, Decidable.not_not, List.length_map] at hc5
          refine AW_seq ?_
          refine AW_region ?_
          refine AL_eql rfl rfl ?_
          refine AL_norm (by first | (simp only [tput, anyAt, setAll, List.foldl_cons, List.foldl_nil, List.set_cons_zero, List.set_cons_succ]; rfl) | rfl) ?_
          refine AL_assign rfl ?_
          refine AL_norm (by first | (simp only [tput, anyAt, setAll, List.foldl_cons, List.foldl_nil, List.set_cons_zero, List.set_cons_succ]; rfl) | rfl) ?_
          refine AL_nil ?_
          refine seqQ_n ?_
          refine AW_cond rfl (fun hc6 => ?_) (fun hc6 => ?_)
          · try simp only [Bool.or_eq_true, Bool.and_eq_true, Bool.or_eq_false_iff, Bool.and_eq_false_iff, decide_eq_true_eq, decide_eq_false_iff_not, Bool.not_eq_true', Bool.not_eq_false', beq_iff_eq, ne_eq, Decidable.not_not, List.length_map] at hc6
            refine AW_region ?_
            refine AL_assign rfl ?_
            refine AL_norm (by first | (simp only [tput, anyAt, setAll, List.foldl_cons, List.foldl_nil, List.set_cons_zero, List.set_cons_succ]; rfl) | rfl) ?_
            refine AL_nil ?_
            refine blockQ_n ?_
            refine mQ_mk ?_ ?_
            · exact SubH.refl _
            · rw [← uS_8 hc6]
              try simp only [tput, anyAt, setAll, List.foldl_cons, List.foldl_nil, List.set_cons_zero, List.set_cons_succ]
              repeat (first | exact Weak.nil | refine Weak.cons ?_ | refine Weak.consAny ?_)
          · try simp only [Bool.or_eq_true, Bool.and_eq_true, Bool.or_eq_false_iff, Bool.and_eq_false_iff, decide_eq_true_eq, decide_eq_false_iff_not, Bool.not_eq_true', Bool.not_eq_false', beq_iff_eq, ne_eq, Decidable.not_not, List.length_map] at hc6
            refine AW_seq ?_
            refine AW_region ?_
            refine AL_eql rfl rfl ?_
            refine AL_assign rfl ?_
            refine AL_norm (by first | (simp only [tput, anyAt, setAll, List.foldl_cons, List.foldl_nil, List.set_cons_zero, List.set_cons_succ]; rfl) | rfl) ?_
            refine AL_nil ?_
            refine seqQ_n ?_
            refine AW_cond rfl (fun hc7 => ?_) (fun hc7 => ?_)
            · try simp only [Bool.or_eq_true, Bool.and_eq_true, Bool.or_eq_false_iff, Bool.and_eq_false_iff, decide_eq_true_eq, decide_eq_false_iff_not, Bool.not_eq_true', Bool.not_eq_false', beq_iff_eq, ne_eq, Decidable.not_not, List.length_map] at hc7
              refine AW_region ?_
              refine AL_assign rfl ?_
              refine AL_norm (by first | (simp only [tput, anyAt, setAll, List.foldl_cons, List.foldl_nil, List.set_cons_zero, List.set_cons_succ]; rfl) | rfl) ?_
              refine AL_nil ?_
              refine blockQ_n ?_
              refine mQ_mk ?_ ?_
              · exact SubH.refl _
              · rw [← uS_12 hc7]
                try simp only [tput, anyAt, setAll, List.foldl_cons, List.foldl_nil, List.set_cons_zero, List.set_cons_succ]
                repeat (first | exact Weak.nil | refine Weak.cons ?_ | refine Weak.consAny ?_)
            · try simp only [Bool.or_eq_true, Bool.and_eq_true, Bool.or_eq_false_iff, Bool.and_eq_false_iff, decide_eq_true_eq, decide_eq_false_iff_not, Bool.not_eq_true', Bool.not_eq_false', beq_iff_eq, ne_eq, Decidable.not_not, List.length_map] at hc7
              refine AW_seq ?_
              refine AW_region ?_
              refine AL_move rfl ?_
              refine AL_norm (by first | (simp only [tput, anyAt, setAll, List.foldl_cons, List.foldl_nil, List.set_cons_zero, List.set_cons_succ]; rfl) | rfl) ?_
              refine AL_bits rfl rfl (by decide) ?_
              refine AL_neq rfl rfl ?_
              refine AL_norm (by first | (simp only [tput, anyAt, setAll, List.foldl_cons, List.foldl_nil, List.set_cons_zero, List.set_cons_succ]; rfl) | rfl) ?_
              refine AL_nil ?_
              refine seqQ_n ?_
              refine AW_cond rfl (fun hc8 => ?_) (fun hc8 => ?_)
              · try simp only [Bool.or_eq_true, Bool.and_eq_true, Bool.or_eq_false_iff, Bool.and_eq_false_iff, decide_eq_true_eq, decide_eq_false_iff_not, Bool.not_eq_true', Bool.not_eq_false', beq_iff_eq, ne_eq, Decidable.not_not, List.length_map] at hc8
                refine AW_region ?_
                refine AL_assign rfl ?_
                refine AL_norm (by first | (simp only [tput, anyAt, setAll, List.foldl_cons, List.foldl_nil, List.set_cons_zero, List.set_cons_succ]; rfl) | rfl) ?_
                refine AL_nil ?_
                refine blockQ_n ?_
                refine mQ_mk ?_ ?_
                · exact SubH.refl _
                · rw [← uS_0 hc5 hc6 hc7, if_pos (show bitB c 12 = true from decide_eq_true hc8)]
                  try simp only [tput, anyAt, setAll, List.foldl_cons, List.foldl_nil, List.set_cons_zero, List.set_cons_succ]
                  repeat (first | exact Weak.nil | refine Weak.cons ?_ | refine Weak.consAny ?_)
              · try simp only [Bool.or_eq_true, Bool.and_eq_true, Bool.or_eq_false_iff, Bool.and_eq_false_iff, decide_eq_true_eq, decide_eq_false_iff_not, Bool.not_eq_true', Bool.not_eq_false', beq_iff_eq, ne_eq, Decidable.not_not, List.length_map] at hc8
                refine AW_skip ?_
                refine blockQ_n ?_
                refine mQ_mk ?_ ?_
                · exact SubH.refl _
                · rw [← uS_0 hc5 hc6 hc7, if_neg (show ¬ bitB c 12 = true from fun h => of_decide_eq_true h hc8)]
                  try simp only [tput, anyAt, setAll, List.foldl_cons, List.foldl_nil, List.set_cons_zero, List.set_cons_succ]
                  repeat (first | exact Weak.nil | refine Weak.cons ?_ | refine Weak.consAny ?_)
      · skip
        refine AW_norm (by first | (simp only [tput, anyAt, setAll, List.foldl_cons, List.foldl_nil, List.set_cons_zero, List.set_cons_succ]; rfl) | rfl) ?_
        refine AW_seq ?_
        refine AW_region ?_
        refine AL_move rfl ?_
        refine AL_norm (by first | (simp only [tput, anyAt, setAll, List.foldl_cons, List.foldl_nil, List.set_cons_zero, List.set_cons_succ]; rfl) | rfl) ?_
        refine AL_move rfl ?_
        refine AL_callp en52 (.cons (.ev rfl) (.cons (.ev rfl) (.nil))) (quillworkref04_join_ok _ _ (by have := p1S_size (bitB s 1) (bitB c 1); omega) (by have := p2S_size (bitB s 2) (bitB c 2); omega)) ?_
        refine AL_move rfl ?_
        refine AL_callp en52 (.cons (.ev rfl) (.cons (.ev rfl) (.nil))) (quillworkref04_join_ok _ _ (by have := joinR_size (p1S (bitB s 1) (bitB c 1)) (p2S (bitB s 2) (bitB c 2)); have := p1S_size (bitB s 1) (bitB c 1); have := p2S_size (bitB s 2) (bitB c 2); omega) (by have := uS_size (bitB s 4) (bitB s 8) (bitB c 12); omega)) ?_
        refine AL_norm (by first | (simp only [tput, anyAt, setAll, List.foldl_cons, List.foldl_nil, List.set_cons_zero, List.set_cons_succ]; rfl) | rfl) ?_
        refine AL_assign rfl ?_
        refine AL_norm (by first | (simp only [tput, anyAt, setAll, List.foldl_cons, List.foldl_nil, List.set_cons_zero, List.set_cons_succ]; rfl) | rfl) ?_
        refine AL_nil ?_
        refine seqQ_n ?_
        refine AW_ret ?_
        refine retQ_1 (H' := H) (.inr rfl) rfl (by repeat (first | exact SubH.refl _ | refine SubH.upd ?_ (by assumption))) ?_
        refine K_eq ?_ hK
        rfl

/-- quillwork/css.Print$1 -/
theorem css_Print_1_ok  :
    ∀ (b2 b5 b3 : Nat) (st cl bits : Int) (n on off : ByteArray) (A : Option Nat) (c : Nat) (xs : List ByteArray) (H : AH) (K : AV → AH → Prop), H b2 = some (.row 3 1 [.v (.int .i64 st)]) → H b3 = some (.row 3 1 [.v (.int .i64 cl)]) → H b5 = some (.row 48 1 [.own A c xs.length]) → Fresh H A c (xs.map strAV) → xs.length ≤ 10 → n.size ≤ 1000 → on.size ≤ 1000 → off.size ≤ 1000 → (∀ A2 c2, Fresh (H.upd b5 (some (.row 48 1 [.own A2 c2 (put xs (bitB st bits) (bitB cl bits) n on off).length]))) A2 c2 ((put xs (bitB st bits) (bitB cl bits) n on off).map strAV) → K (.tup []) ((H.upd b5 (some (.row 48 1 [.own A2 c2 (put xs (bitB st bits) (bitB cl bits) n on off).length]))).put A2 9 c2 ((put xs (bitB st bits) (bitB cl bits) n on off).map strAV))) → AC Tryd.prog 50 [.v (.int .i64 bits), strAV n, strAV on, strAV off, .pt b2 0 1 0, .pt b5 0 1 0, .pt b3 0 1 0] (H.put A 9 c (xs.map strAV)) K := by
  intro b2 b5 b3 st cl bits n on off A c xs H K h2 h3 h5 hF hx hn hon hoff hK
  have hP2 := hF.look (e := 9) h2
  have hP3 := hF.look (e := 9) h3
  have hP5 := hF.look (e := 9) h5
  refine AC_of Tryd.func50 rfl (rs := []) rfl Tryd.ntmps50 rfl ?_
  refine AW_norm (by simp only [List.length_cons, List.length_nil, Nat.reduceAdd, Nat.reduceSub, List.replicate, List.cons_append, List.nil_append]; rfl) ?_
  refine AW_block ?_
  refine AW_seq ?_
  refine AW_region ?_
  first | refine AL_load_rp sz3 rfl ag3 ?_ | refine AL_loadw sz3 rfl (by repeat (first | exact Fresh.look (A := some ba) hba h5 | exact AH.upd_same _ _ _ | exact hH | assumption | refine AH.look_other (by assumption) ?_)) (by exact ag3) (by exact rfl) ?_ | refine AL_load_pt ag3 sz3 (by decide) rfl (by repeat (first | exact Fresh.look (A := some ba) hba h5 | exact AH.upd_same _ _ _ | exact hH | assumption | refine AH.look_other (by assumption) ?_)) (by first | assumption | exact sz3 | exact sz9 | exact sz5 | exact sz57 | exact sz48) (by exact rfl) (by exact rfl) (by exact rfl) ?_
  refine AL_move rfl ?_
  refine AL_bits rfl rfl (by decide) ?_
  refine AL_neq rfl rfl ?_
  refine AL_norm (by first | (simp only [tput, anyAt, setAll, List.foldl_cons, List.foldl_nil, List.set_cons_zero, List.set_cons_succ]; rfl) | rfl) ?_
  refine AL_assign rfl ?_
  refine AL_norm (by first | (simp only [tput, anyAt, setAll, List.foldl_cons, List.foldl_nil, List.set_cons_zero, List.set_cons_succ]; rfl) | rfl) ?_
  refine AL_nil ?_
  refine seqQ_n ?_
  refine AW_cond rfl (fun hc1 => ?_) (fun hc1 => ?_)
  · try simp only [Bool.or_eq_true, Bool.and_eq_true, Bool.or_eq_false_iff, Bool.and_eq_false_iff, decide_eq_true_eq, decide_eq_false_iff_not, Bool.not_eq_true', Bool.not_eq_false', beq_iff_eq, ne_eq, Decidable.not_not, List.length_map] at hc1
    refine AW_region ?_
    first | refine AL_load_rp sz48 rfl ag48 ?_ | refine AL_loadw sz48 rfl (by repeat (first | exact Fresh.look (A := some ba) hba h5 | exact AH.upd_same _ _ _ | exact hH | assumption | refine AH.look_other (by assumption) ?_)) (by exact ag48) (by exact rfl) ?_ | refine AL_load_pt ag48 sz48 (by decide) rfl (by repeat (first | exact Fresh.look (A := some ba) hba h5 | exact AH.upd_same _ _ _ | exact hH | assumption | refine AH.look_other (by assumption) ?_)) (by first | assumption | exact sz3 | exact sz9 | exact sz5 | exact sz57 | exact sz48) (by exact rfl) (by exact rfl) (by exact rfl) ?_
    refine AL_move rfl ?_
    refine AL_sadd rfl rfl ?_ ?_
    · first | (rw [ByteArray.size_append]; (show n.size + 2 + _ ≤ _); omega) | ((show n.size + 2 ≤ _); omega)
    refine AL_norm (by first | (simp only [tput, anyAt, setAll, List.foldl_cons, List.foldl_nil, List.set_cons_zero, List.set_cons_succ]; rfl) | rfl) ?_
    refine AL_move rfl ?_
    refine AL_sadd rfl rfl ?_ ?_
    · first | (rw [ByteArray.size_append]; (show n.size + 2 + _ ≤ _); omega) | ((show n.size + 2 ≤ _); omega)
    refine AL_append1p un48 inf9 rfl (by decide) (by decide) (by decide) rfl rfl (fun h => by cases h) rfl rfl rfl hF (by rw [List.length_map]) (by omega) ?_
    intro ba ca hba
    refine AL_norm (by first | (simp only [tput, anyAt, setAll, List.foldl_cons, List.foldl_nil, List.set_cons_zero, List.set_cons_succ]; rfl) | rfl) ?_
    first | refine AL_store_w sz48 rfl (.ev rfl) rfl (by repeat (first | exact Fresh.look (A := some ba) hba h5 | exact AH.upd_same _ _ _ | exact hH | assumption | refine AH.look_other (by assumption) ?_)) rfl (by exact rfl) ?_ | refine AL_store rfl (.ev rfl) rfl (by repeat (first | exact Fresh.look (A := some ba) hba h5 | exact AH.upd_same _ _ _ | exact hH | assumption | refine AH.look_other (by assumption) ?_)) (by first | assumption | exact sz3 | exact sz9 | exact sz5 | exact sz57 | exact sz48) (by exact rfl) sz48 rfl (by decide) (fun h => by first | (cases h; done) | exact ⟨rfl, rfl, rfl⟩) ?_
    refine AL_heap (by first | (simp only [AH.upd_upd]; rfl) | rfl) ?_
    refine AL_norm (by first | (simp only [tput, anyAt, setAll, List.foldl_cons, List.foldl_nil, List.set_cons_zero, List.set_cons_succ]; rfl) | rfl) ?_
    refine AL_nil ?_
    refine blockQ_n ?_
    refine retQ_0 (H' := (H.upd b5 (some (.row 48 1 [.own (some ba) ca (xs ++ [n ++ sCS ++ on]).length]))).put (some ba) 9 ca ((xs ++ [n ++ sCS ++ on]).map strAV)) (.inl rfl) (by rw [List.length_append, List.map_append]; exact SubH.of_eq (AH.put_upd (A := some ba) hba h5).symm) ?_
    have e : (put xs (bitB st bits) (bitB cl bits) n on off) = xs ++ [n ++ sCS ++ on] := if_pos (show bitB st bits = true from decide_eq_true hc1); rw [e] at hK; exact hK _ _ (Fresh.up (A := some ba) hba h5)
  · try simp only [Bool.or_eq_true, Bool.and_eq_true, Bool.or_eq_false_iff, Bool.and_eq_false_iff, decide_eq_true_eq, decide_eq_false_iff_not, Bool.not_eq_true', Bool.not_eq_false', beq_iff_eq, ne_eq, Decidable.not_not, List.length_map] at hc1
    refine AW_seq ?_
    refine AW_region ?_
    first | refine AL_load_rp sz3 rfl ag3 ?_ | refine AL_loadw sz3 rfl (by repeat (first | exact Fresh.look (A := some ba) hba h5 | exact AH.upd_same _ _ _ | exact hH | assumption | refine AH.look_other (by assumption) ?_)) (by exact ag3) (by exact rfl) ?_ | refine AL_load_pt ag3 sz3 (by decide) rfl (by repeat (first | exact Fresh.look (A := some ba) hba h5 | exact AH.upd_same _ _ _ | exact hH | assumption | refine AH.look_other (by assumption) ?_)) (by first | assumption | exact sz3 | exact sz9 | exact sz5 | exact sz57 | exact sz48) (by exact rfl) (by exact rfl) (by exact rfl) ?_
    refine AL_move rfl ?_
    refine AL_bits rfl rfl (by decide) ?_
    refine AL_norm (by first | (simp only [tput, anyAt, setAll, List.foldl_cons, List.foldl_nil, List.set_cons_zero, List.set_cons_succ]; rfl) | rfl) ?_
    refine AL_neq rfl rfl ?_
    refine AL_assign rfl ?_
    refine AL_norm (by first | (simp only [tput, anyAt, setAll, List.foldl_cons, List.foldl_nil, List.set_cons_zero, List.set_cons_succ]; rfl) | rfl) ?_
    refine AL_nil ?_
    refine seqQ_n ?_
    refine AW_cond rfl (fun hc2 => ?_) (fun hc2 => ?_)
    · try simp only [Bool.or_eq_true, Bool.and_eq_true, Bool.or_eq_false_iff, Bool.and_eq_false_iff, decide_eq_true_eq, decide_eq_false_iff_not, Bool.not_eq_true', Bool.not_eq_false', beq_iff_eq, ne_eq, Decidable.not_not, List.length_map] at hc2
      refine AW_region ?_
      first | refine AL_load_rp sz48 rfl ag48 ?_ | refine AL_loadw sz48 rfl (by repeat (first | exact Fresh.look (A := some ba) hba h5 | exact AH.upd_same _ _ _ | exact hH | assumption | refine AH.look_other (by assumption) ?_)) (by exact ag48) (by exact rfl) ?_ | refine AL_load_pt ag48 sz48 (by decide) rfl (by repeat (first | exact Fresh.look (A := some ba) hba h5 | exact AH.upd_same _ _ _ | exact hH | assumption | refine AH.look_other (by assumption) ?_)) (by first | assumption | exact sz3 | exact sz9 | exact sz5 | exact sz57 | exact sz48) (by exact rfl) (by exact rfl) (by exact rfl) ?_
      refine AL_move rfl ?_
      refine AL_norm (by first | (simp only [tput, anyAt, setAll, List.foldl_cons, List.foldl_nil, List.set_cons_zero, List.set_cons_succ]; rfl) | rfl) ?_
      refine AL_sadd rfl rfl ?_ ?_
      · first | (rw [ByteArray.size_append]; (show n.size + 2 + _ ≤ _); omega) | ((show n.size + 2 ≤ _); omega)
      refine AL_move rfl ?_
      refine AL_sadd rfl rfl ?_ ?_
      · first | (rw [ByteArray.size_append]; (show n.size + 2 + _ ≤ _); omega) | ((show n.size + 2 ≤ _); omega)
      refine AL_append1p un48 inf9 rfl (by decide) (by decide) (by decide) rfl rfl (fun h => by cases h) rfl rfl rfl hF (by rw [List.length_map]) (by omega) ?_
      intro ba ca hba
      refine AL_norm (by first | (simp only [tput, anyAt, setAll, List.foldl_cons, List.foldl_nil, List.set_cons_zero, List.set_cons_succ]; rfl) | rfl) ?_
      first | refine AL_store_w sz48 rfl (.ev rfl) rfl (by repeat (first | exact Fresh.look (A := some ba) hba h5 | exact AH.upd_same _ _ _ | exact hH | assumption | refine AH.look_other (by assumption) ?_)) rfl (by exact rfl) ?_ | refine AL_store rfl (.ev rfl) rfl (by repeat (first | exact Fresh.look (A := some ba) hba h5 | exact AH.upd_same _ _ _ | exact hH | assumption | refine AH.look_other (by assumption) ?_)) (by first | assumption | exact sz3 | exact sz9 | exact sz5 | exact sz57 | exact sz48) (by exact rfl) sz48 rfl (by decide) (fun h => by first | (cases h; done) | exact ⟨rfl, rfl, rfl⟩) ?_
      refine AL_heap (by first | (simp only [AH.upd_upd]; rfl) | rfl) ?_
      refine AL_norm (by first | (simp only [tput, anyAt, setAll, List.foldl_cons, List.foldl_nil, List.set_cons_zero, List.set_cons_succ]; rfl) | rfl) ?_
      refine AL_nil ?_
      refine blockQ_n ?_
      refine retQ_0 (H' := (H.upd b5 (some (.row 48 1 [.own (some ba) ca (xs ++ [n ++ sCS ++ off]).length]))).put (some ba) 9 ca ((xs ++ [n ++ sCS ++ off]).map strAV)) (.inl rfl) (by rw [List.length_append, List.map_append]; exact SubH.of_eq (AH.put_upd (A := some ba) hba h5).symm) ?_
      have e : (put xs (bitB st bits) (bitB cl bits) n on off) = xs ++ [n ++ sCS ++ off] := (if_neg (show ¬ bitB st bits = true from fun h => of_decide_eq_true h hc1)).trans (if_pos (show bitB cl bits = true from decide_eq_true hc2)); rw [e] at hK; exact hK _ _ (Fresh.up (A := some ba) hba h5)
    · try simp only [Bool.or_eq_true, Bool.and_eq_true, Bool.or_eq_false_iff, Bool.and_eq_false_iff, decide_eq_true_eq, decide_eq_false_iff_not, Bool.not_eq_true', Bool.not_eq_false', beq_iff_eq, ne_eq, Decidable.not_not, List.length_map] at hc2
      refine AW_skip ?_
      refine blockQ_n ?_
      refine retQ_0 (H' := (H.upd b5 (some (.row 48 1 [.own A c xs.length]))).put A 9 c (xs.map strAV)) (.inl rfl) (by rw [← h5, AH.upd_self]; exact SubH.refl _) ?_
      have e : (put xs (bitB st bits) (bitB cl bits) n on off) = xs := (if_neg (show ¬ bitB st bits = true from fun h => of_decide_eq_true h hc1)).trans (if_neg (show ¬ bitB cl bits = true from fun h => of_decide_eq_true h hc2)); rw [e] at hK; exact hK _ _ (hF.up h5)

/-- quillwork/css.Print -/
theorem css_Print_ok (s c : Int) :
    PF Tryd.prog 34 [.v (.int .i64 s), .v (.int .i64 c)] (strAV (printI s c)) := by
  intro H K hK
  refine AC_of Tryd.func34 rfl (rs := [.tmp 4]) rfl Tryd.ntmps34 rfl ?_
  refine AW_norm (by simp only [List.length_cons, List.length_nil, Nat.reduceAdd, Nat.reduceSub, List.replicate, List.cons_append, List.nil_append]; rfl) ?_
  refine AW_seq ?_
  refine AW_region ?_
  refine AL_box rfl rfl sz3 rfl ?_
  intro b1 hb1
  have hn1 : H b1 = none := SubH.none (by repeat (first | exact SubH.refl _ | exact SubH.trans (by repeat (first | exact SubH.refl _ | refine SubH.upd ?_ (by assumption))) hF2.subH | refine SubH.upd ?_ (by assumption))) hb1
  refine AL_box rfl rfl sz3 rfl ?_
  intro b2 hb2
  have hn2 : H b2 = none := SubH.none (by repeat (first | exact SubH.refl _ | exact SubH.trans (by repeat (first | exact SubH.refl _ | refine SubH.upd ?_ (by assumption))) hF2.subH | refine SubH.upd ?_ (by assumption))) hb2
  have hd2_1 : b2 ≠ b1 := fun e => by subst e; simp [AH.upd, *] at hb2
  have hd1_2 : b1 ≠ b2 := Ne.symm hd2_1
  refine AL_assign rfl ?_
  refine AL_norm (by first | (simp only [tput, anyAt, setAll, List.foldl_cons, List.foldl_nil, List.set_cons_zero, List.set_cons_succ]; rfl) | rfl) ?_
  refine AL_nil ?_
  refine seqQ_n ?_
  refine AW_seq ?_
  refine AW_region ?_
  refine AL_alloc ze48 .own rfl sz48 rfl ?_
  intro b3 hb3
  have hn3 : H b3 = none := SubH.none (by repeat (first | exact SubH.refl _ | exact SubH.trans (by repeat (first | exact SubH.refl _ | refine SubH.upd ?_ (by assumption))) hF2.subH | refine SubH.upd ?_ (by assumption))) hb3
  have hd3_1 : b3 ≠ b1 := fun e => by subst e; simp [AH.upd, *] at hb3
  have hd1_3 : b1 ≠ b3 := Ne.symm hd3_1
  have hd3_2 : b3 ≠ b2 := fun e => by subst e; simp [AH.upd, *] at hb3
  have hd2_3 : b2 ≠ b3 := Ne.symm hd3_2
  refine AL_norm (by first | (simp only [tput, anyAt, setAll, List.foldl_cons, List.foldl_nil, List.set_cons_zero, List.set_cons_succ]; rfl) | rfl) ?_
  refine AL_nil ?_
  refine seqQ_n ?_
  refine AW_seq ?_
  refine AW_region ?_
  refine AL_makeFunc (.nil) (.cons (.ev rfl) (.cons (.ev rfl) (.cons (.ev rfl) (.nil)))) ?_
  refine AL_norm (by first | (simp only [tput, anyAt, setAll, List.foldl_cons, List.foldl_nil, List.set_cons_zero, List.set_cons_succ]; rfl) | rfl) ?_
  refine AL_assign rfl ?_
  refine AL_norm (by first | (simp only [tput, anyAt, setAll, List.foldl_cons, List.foldl_nil, List.set_cons_zero, List.set_cons_succ]; rfl) | rfl) ?_
  refine AL_nil ?_
  refine seqQ_n ?_
  refine AW_seq ?_
  refine AW_region ?_
  refine AL_move rfl ?_
  refine AL_callv rfl en50 (.cons (.ev rfl) (.cons (.ev rfl) (.cons (.ev rfl) (.cons (.ev rfl) (.nil))))) (css_Print_1_ok b1 b3 b2 s c 1 sFW sBold sNormal none 0 [] (((H.upd b1 (some (.row 3 1 [.v (.int .i64 s)]))).upd b2 (some (.row 3 1 [.v (.int .i64 c)]))).upd b3 (some (.row 48 1 [.own none 0 0]))) (fun x H1 => ∃ A9 c9, Fresh ((((H.upd b1 (some (.row 3 1 [.v (.int .i64 s)]))).upd b2 (some (.row 3 1 [.v (.int .i64 c)]))).upd b3 (some (.row 48 1 [.own none 0 0]))).upd b3 (some (.row 48 1 [.own A9 c9 (put [] (bitB s 1) (bitB c 1) sFW sBold sNormal).length]))) A9 c9 ((put [] (bitB s 1) (bitB c 1) sFW sBold sNormal).map strAV) ∧ x = .tup [] ∧ H1 = AH.put ((((H.upd b1 (some (.row 3 1 [.v (.int .i64 s)]))).upd b2 (some (.row 3 1 [.v (.int .i64 c)]))).upd b3 (some (.row 48 1 [.own none 0 0]))).upd b3 (some (.row 48 1 [.own A9 c9 (put [] (bitB s 1) (bitB c 1) sFW sBold sNormal).length]))) A9 9 c9 ((put [] (bitB s 1) (bitB c 1) sFW sBold sNormal).map strAV)) (by repeat (first | exact AH.upd_same _ _ _ | assumption | refine AH.look_other (by assumption) ?_)) (by repeat (first | exact AH.upd_same _ _ _ | assumption | refine AH.look_other (by assumption) ?_)) (by repeat (first | exact AH.upd_same _ _ _ | assumption | refine AH.look_other (by assumption) ?_)) ⟨rfl, rfl⟩ (by decide) (by decide) (by decide) (by decide) (fun A2 c2 h => ⟨A2, c2, h, rfl, rfl⟩)) ?_
  rintro _ _ ⟨A1, c1, hF1, rfl, rfl⟩
  refine AL_norm (by first | (simp only [tput, anyAt, setAll, List.foldl_cons, List.foldl_nil, List.set_cons_zero, List.set_cons_succ]; rfl) | rfl) ?_
  refine AL_nil ?_
  refine seqQ_n ?_
  refine AW_seq ?_
  refine AW_region ?_
  refine AL_move rfl ?_
  refine AL_norm (by first | (simp only [tput, anyAt, setAll, List.foldl_cons, List.foldl_nil, List.set_cons_zero, List.set_cons_succ]; rfl) | rfl) ?_
  refine AL_callv rfl en50 (.cons (.ev rfl) (.cons (.ev rfl) (.cons (.ev rfl) (.cons (.ev rfl) (.nil))))) (css_Print_1_ok b1 b3 b2 s c 2 sFS sItalic sNormal A1 c1 (put [] (bitB s 1) (bitB c 1) sFW sBold sNormal) ((((H.upd b1 (some (.row 3 1 [.v (.int .i64 s)]))).upd b2 (some (.row 3 1 [.v (.int .i64 c)]))).upd b3 (some (.row 48 1 [.own none 0 0]))).upd b3 (some (.row 48 1 [.own A1 c1 (put [] (bitB s 1) (bitB c 1) sFW sBold sNormal).length]))) (fun x H1 => ∃ A9 c9, Fresh (((((H.upd b1 (some (.row 3 1 [.v (.int .i64 s)]))).upd b2 (some (.row 3 1 [.v (.int .i64 c)]))).upd b3 (some (.row 48 1 [.own none 0 0]))).upd b3 (some (.row 48 1 [.own A1 c1 (put [] (bitB s 1) (bitB c 1) sFW sBold sNormal).length]))).upd b3 (some (.row 48 1 [.own A9 c9 (put (put [] (bitB s 1) (bitB c 1) sFW sBold sNormal) (bitB s 2) (bitB c 2) sFS sItalic sNormal).length]))) A9 c9 ((put (put [] (bitB s 1) (bitB c 1) sFW sBold sNormal) (bitB s 2) (bitB c 2) sFS sItalic sNormal).map strAV) ∧ x = .tup [] ∧ H1 = AH.put (((((H.upd b1 (some (.row 3 1 [.v (.int .i64 s)]))).upd b2 (some (.row 3 1 [.v (.int .i64 c)]))).upd b3 (some (.row 48 1 [.own none 0 0]))).upd b3 (some (.row 48 1 [.own A1 c1 (put [] (bitB s 1) (bitB c 1) sFW sBold sNormal).length]))).upd b3 (some (.row 48 1 [.own A9 c9 (put (put [] (bitB s 1) (bitB c 1) sFW sBold sNormal) (bitB s 2) (bitB c 2) sFS sItalic sNormal).length]))) A9 9 c9 ((put (put [] (bitB s 1) (bitB c 1) sFW sBold sNormal) (bitB s 2) (bitB c 2) sFS sItalic sNormal).map strAV)) (by repeat (first | exact AH.upd_same _ _ _ | assumption | refine AH.look_other (by assumption) ?_)) (by repeat (first | exact AH.upd_same _ _ _ | assumption | refine AH.look_other (by assumption) ?_)) (by repeat (first | exact AH.upd_same _ _ _ | assumption | refine AH.look_other (by assumption) ?_)) hF1 (by have := put_len [] (bitB s 1) (bitB c 1) sFW sBold sNormal; simp at this; omega) (by decide) (by decide) (by decide) (fun A2 c2 h => ⟨A2, c2, h, rfl, rfl⟩)) ?_
  rintro _ _ ⟨A2, c2, hF2, rfl, rfl⟩
  refine AL_norm (by first | (simp only [tput, anyAt, setAll, List.foldl_cons, List.foldl_nil, List.set_cons_zero, List.set_cons_succ]; rfl) | rfl) ?_
  refine AL_nil ?_
  refine seqQ_n ?_
  refine AW_seq ?_
  refine AW_region ?_
  refine AL_buildSlice un48 sz9 ze9 rfl (by decide) (by decide) (.nil) rfl rfl ?_
  intro b4 hb4
  have hb4o := hb4; replace hb4 := SubH.none hF2.subH hb4
  have hn4 : H b4 = none := SubH.none (by repeat (first | exact SubH.refl _ | exact SubH.trans (by repeat (first | exact SubH.refl _ | refine SubH.upd ?_ (by assumption))) hF2.subH | refine SubH.upd ?_ (by assumption))) hb4
  have hd4_1 : b4 ≠ b1 := fun e => by subst e; simp [AH.upd, *] at hb4
  have hd1_4 : b1 ≠ b4 := Ne.symm hd4_1
  have hd4_2 : b4 ≠ b2 := fun e => by subst e; simp [AH.upd, *] at hb4
  have hd2_4 : b2 ≠ b4 := Ne.symm hd4_2
  have hd4_3 : b4 ≠ b3 := fun e => by subst e; simp [AH.upd, *] at hb4
  have hd3_4 : b3 ≠ b4 := Ne.symm hd4_3
  refine AL_assign rfl ?_
  refine AL_norm (by first | (simp only [tput, anyAt, setAll, List.foldl_cons, List.foldl_nil, List.set_cons_zero, List.set_cons_succ]; rfl) | rfl) ?_
  refine AL_nil ?_
  refine seqQ_n ?_
  refine AW_seq ?_
  refine AW_seq ?_
  refine AW_region ?_
  first | refine AL_load_rp sz3 rfl ag3 ?_ | refine AL_loadw sz3 rfl (by repeat (first | refine Fresh.look hF3 ?_ | refine Fresh.look (A := some ba) hba ?_ | refine Fresh.look hF2 ?_ | exact AH.upd_same _ _ _ | exact hH | assumption | refine AH.look_other (by assumption) ?_)) (by exact ag3) (by exact rfl) ?_ | refine AL_load_pt ag3 sz3 (by decide) rfl (by repeat (first | refine Fresh.look hF3 ?_ | refine Fresh.look (A := some ba) hba ?_ | refine Fresh.look hF2 ?_ | exact AH.upd_same _ _ _ | exact hH | assumption | refine AH.look_other (by assumption) ?_)) (by first | assumption | exact sz3 | exact sz9 | exact sz5 | exact sz57 | exact sz48) (by exact rfl) (by exact rfl) (by exact rfl) ?_
  refine AL_norm (by first | (simp only [tput, anyAt, setAll, List.foldl_cons, List.foldl_nil, List.set_cons_zero, List.set_cons_succ]; rfl) | rfl) ?_
  refine AL_bits rfl rfl (by decide) ?_
  refine AL_neq rfl rfl ?_
  refine AL_norm (by first | (simp only [tput, anyAt, setAll, List.foldl_cons, List.foldl_nil, List.set_cons_zero, List.set_cons_succ]; rfl) | rfl) ?_
  refine AL_nil ?_
  refine seqQ_n ?_
  refine AW_cond rfl (fun hc1 => ?_) (fun hc1 => ?_)
  · try simp only [Bool.or_eq_true, Bool.and_eq_true, Bool.or_eq_false_iff, Bool.and_eq_false_iff, decide_eq_true_eq, decide_eq_false_iff_not, Bool.not_eq_true', Bool.not_eq_false', beq_iff_eq, ne_eq, Decidable.not_not, List.length_map] at hc1
    refine AW_region ?_
    refine AL_move rfl ?_
    refine AL_heap (show _ = AH.put (AH.put (((((H.upd b1 (some (.row 3 1 [.v (.int .i64 s)]))).upd b2 (some (.row 3 1 [.v (.int .i64 c)]))).upd b3 (some (.row 48 1 [.own none 0 0]))).upd b3 (some (.row 48 1 [.own A1 c1 (put [] (bitB s 1) (bitB c 1) sFW sBold sNormal).length]))).upd b3 (some (.row 48 1 [.own A2 c2 (put (put [] (bitB s 1) (bitB c 1) sFW sBold sNormal) (bitB s 2) (bitB c 2) sFS sItalic sNormal).length]))) A2 9 c2 (List.map strAV (put (put [] (bitB s 1) (bitB c 1) sFW sBold sNormal) (bitB s 2) (bitB c 2) sFS sItalic sNormal))) (some b4) 9 0 [] from rfl) ?_
    refine AL_append1p un48 inf9 rfl (by decide) (by decide) (by decide) rfl rfl (fun h => by cases h) rfl rfl rfl (show Fresh (AH.put (((((H.upd b1 (some (.row 3 1 [.v (.int .i64 s)]))).upd b2 (some (.row 3 1 [.v (.int .i64 c)]))).upd b3 (some (.row 48 1 [.own none 0 0]))).upd b3 (some (.row 48 1 [.own A1 c1 (put [] (bitB s 1) (bitB c 1) sFW sBold sNormal).length]))).upd b3 (some (.row 48 1 [.own A2 c2 (put (put [] (bitB s 1) (bitB c 1) sFW sBold sNormal) (bitB s 2) (bitB c 2) sFS sItalic sNormal).length]))) A2 9 c2 (List.map strAV (put (put [] (bitB s 1) (bitB c 1) sFW sBold sNormal) (bitB s 2) (bitB c 2) sFS sItalic sNormal))) (some b4) 0 [] from hb4o) (by rfl) (by omega) ?_
    intro ba ca hba
    refine AL_norm (by first | (simp only [tput, anyAt, setAll, List.foldl_cons, List.foldl_nil, List.set_cons_zero, List.set_cons_succ]; rfl) | rfl) ?_
    refine AL_assign rfl ?_
    refine AL_norm (by first | (simp only [tput, anyAt, setAll, List.foldl_cons, List.foldl_nil, List.set_cons_zero, List.set_cons_succ]; rfl) | rfl) ?_
    refine AL_nil ?_
    refine seqQ_n ?_
    refine AW_seq ?_
    refine AW_seq ?_
    refine AW_region ?_
    first | refine AL_load_rp sz3 rfl ag3 ?_ | refine AL_loadw sz3 rfl (by repeat (first | refine Fresh.look hF3 ?_ | refine Fresh.look (A := some ba) hba ?_ | refine Fresh.look hF2 ?_ | exact AH.upd_same _ _ _ | exact hH | assumption | refine AH.look_other (by assumption) ?_)) (by exact ag3) (by exact rfl) ?_ | refine AL_load_pt ag3 sz3 (by decide) rfl (by repeat (first | refine Fresh.look hF3 ?_ | refine Fresh.look (A := some ba) hba ?_ | refine Fresh.look hF2 ?_ | exact AH.upd_same _ _ _ | exact hH | assumption | refine AH.look_other (by assumption) ?_)) (by first | assumption | exact sz3 | exact sz9 | exact sz5 | exact sz57 | exact sz48) (by exact rfl) (by exact rfl) (by exact rfl) ?_
    refine AL_bits rfl rfl (by decide) ?_
    refine AL_neq rfl rfl ?_
    refine AL_norm (by first | (simp only [tput, anyAt, setAll, List.foldl_cons, List.foldl_nil, List.set_cons_zero, List.set_cons_succ]; rfl) | rfl) ?_
    refine AL_nil ?_
    refine seqQ_n ?_
    refine AW_cond rfl (fun hc2 => ?_) (fun hc2 => ?_)
    · try simp only [Bool.or_eq_true, Bool.and_eq_true, Bool.or_eq_false_iff, Bool.and_eq_false_iff, decide_eq_true_eq, decide_eq_false_iff_not, Bool.not_eq_true', Bool.not_eq_false', beq_iff_eq, ne_eq, Decidable.not_not, List.length_map] at hc2
      refine AW_region ?_
      refine AL_move rfl ?_
      refine AL_norm (by first | (simp only [tput, anyAt, setAll, List.foldl_cons, List.foldl_nil, List.set_cons_zero, List.set_cons_succ]; rfl) | rfl) ?_
      refine AL_append1p un48 inf9 rfl (by decide) (by decide) (by decide) rfl rfl (fun h => by cases h) rfl rfl rfl (show Fresh (AH.put (((((H.upd b1 (some (.row 3 1 [.v (.int .i64 s)]))).upd b2 (some (.row 3 1 [.v (.int .i64 c)]))).upd b3 (some (.row 48 1 [.own none 0 0]))).upd b3 (some (.row 48 1 [.own A1 c1 (put [] (bitB s 1) (bitB c 1) sFW sBold sNormal).length]))).upd b3 (some (.row 48 1 [.own A2 c2 (put (put [] (bitB s 1) (bitB c 1) sFW sBold sNormal) (bitB s 2) (bitB c 2) sFS sItalic sNormal).length]))) A2 9 c2 (List.map strAV (put (put [] (bitB s 1) (bitB c 1) sFW sBold sNormal) (bitB s 2) (bitB c 2) sFS sItalic sNormal))) (some ba) ca ([] ++ [strAV sUnd]) from hba) (by rfl) (by omega) ?_
      intro ba ca hba
      refine AL_norm (by first | (simp only [tput, anyAt, setAll, List.foldl_cons, List.foldl_nil, List.set_cons_zero, List.set_cons_succ]; rfl) | rfl) ?_
      refine AL_assign rfl ?_
      refine AL_norm (by first | (simp only [tput, anyAt, setAll, List.foldl_cons, List.foldl_nil, List.set_cons_zero, List.set_cons_succ]; rfl) | rfl) ?_
      refine AL_nil ?_
      refine seqQ_n ?_
      refine AW_seq ?_
      refine AW_region ?_
      refine AL_move rfl ?_
      refine AL_move rfl ?_
      refine AL_norm (by first | (simp only [tput, anyAt, setAll, List.foldl_cons, List.foldl_nil, List.set_cons_zero, List.set_cons_succ]; rfl) | rfl) ?_
      refine AL_heap (show _ = AH.put (AH.put (((((H.upd b1 (some (.row 3 1 [.v (.int .i64 s)]))).upd b2 (some (.row 3 1 [.v (.int .i64 c)]))).upd b3 (some (.row 48 1 [.own none 0 0]))).upd b3 (some (.row 48 1 [.own A1 c1 (put [] (bitB s 1) (bitB c 1) sFW sBold sNormal).length]))).upd b3 (some (.row 48 1 [.own A2 c2 (put (put [] (bitB s 1) (bitB c 1) sFW sBold sNormal) (bitB s 2) (bitB c 2) sFS sItalic sNormal).length]))) A2 9 c2 (List.map strAV (put (put [] (bitB s 1) (bitB c 1) sFW sBold sNormal) (bitB s 2) (bitB c 2) sFS sItalic sNormal))) (some ba) 9 ca (([] ++ [strAV sUnd]) ++ [strAV sThr]) from rfl) ?_; refine AL_freezeP 27 rfl (show Fresh (AH.put (((((H.upd b1 (some (.row 3 1 [.v (.int .i64 s)]))).upd b2 (some (.row 3 1 [.v (.int .i64 c)]))).upd b3 (some (.row 48 1 [.own none 0 0]))).upd b3 (some (.row 48 1 [.own A1 c1 (put [] (bitB s 1) (bitB c 1) sFW sBold sNormal).length]))).upd b3 (some (.row 48 1 [.own A2 c2 (put (put [] (bitB s 1) (bitB c 1) sFW sBold sNormal) (bitB s 2) (bitB c 2) sFS sItalic sNormal).length]))) A2 9 c2 (List.map strAV (put (put [] (bitB s 1) (bitB c 1) sFW sBold sNormal) (bitB s 2) (bitB c 2) sFS sItalic sNormal))) (some ba) ca (([] ++ [strAV sUnd]) ++ [strAV sThr]) from hba) rfl ?_
      refine AL_norm (by first | (simp only [tput, anyAt, setAll, List.foldl_cons, List.foldl_nil, List.set_cons_zero, List.set_cons_succ]; rfl) | rfl) ?_
      refine AL_callp en51 (.cons (.ev rfl) (.cons (.ev rfl) (.nil))) (Join_ok (rowS true true) sSp (by decide) (Nat.le_trans (row_bound _ _) (by decide))) ?_
      refine AL_callv rfl en50 (.cons (.ev rfl) (.cons (.ev rfl) (.cons (.ev rfl) (.cons (.ev rfl) (.nil))))) (css_Print_1_ok b1 b3 b2 s c 12 sTD (joinB (rowS true true) sSp) sNone A2 c2 (put (put [] (bitB s 1) (bitB c 1) sFW sBold sNormal) (bitB s 2) (bitB c 2) sFS sItalic sNormal) (((((H.upd b1 (some (.row 3 1 [.v (.int .i64 s)]))).upd b2 (some (.row 3 1 [.v (.int .i64 c)]))).upd b3 (some (.row 48 1 [.own none 0 0]))).upd b3 (some (.row 48 1 [.own A1 c1 (put [] (bitB s 1) (bitB c 1) sFW sBold sNormal).length]))).upd b3 (some (.row 48 1 [.own A2 c2 (put (put [] (bitB s 1) (bitB c 1) sFW sBold sNormal) (bitB s 2) (bitB c 2) sFS sItalic sNormal).length]))) (fun x H1 => ∃ A9 c9, Fresh ((((((H.upd b1 (some (.row 3 1 [.v (.int .i64 s)]))).upd b2 (some (.row 3 1 [.v (.int .i64 c)]))).upd b3 (some (.row 48 1 [.own none 0 0]))).upd b3 (some (.row 48 1 [.own A1 c1 (put [] (bitB s 1) (bitB c 1) sFW sBold sNormal).length]))).upd b3 (some (.row 48 1 [.own A2 c2 (put (put [] (bitB s 1) (bitB c 1) sFW sBold sNormal) (bitB s 2) (bitB c 2) sFS sItalic sNormal).length]))).upd b3 (some (.row 48 1 [.own A9 c9 (put (put (put [] (bitB s 1) (bitB c 1) sFW sBold sNormal) (bitB s 2) (bitB c 2) sFS sItalic sNormal) (bitB s 12) (bitB c 12) sTD (joinB (rowS true true) sSp) sNone).length]))) A9 c9 ((put (put (put [] (bitB s 1) (bitB c 1) sFW sBold sNormal) (bitB s 2) (bitB c 2) sFS sItalic sNormal) (bitB s 12) (bitB c 12) sTD (joinB (rowS true true) sSp) sNone).map strAV) ∧ x = .tup [] ∧ H1 = AH.put ((((((H.upd b1 (some (.row 3 1 [.v (.int .i64 s)]))).upd b2 (some (.row 3 1 [.v (.int .i64 c)]))).upd b3 (some (.row 48 1 [.own none 0 0]))).upd b3 (some (.row 48 1 [.own A1 c1 (put [] (bitB s 1) (bitB c 1) sFW sBold sNormal).length]))).upd b3 (some (.row 48 1 [.own A2 c2 (put (put [] (bitB s 1) (bitB c 1) sFW sBold sNormal) (bitB s 2) (bitB c 2) sFS sItalic sNormal).length]))).upd b3 (some (.row 48 1 [.own A9 c9 (put (put (put [] (bitB s 1) (bitB c 1) sFW sBold sNormal) (bitB s 2) (bitB c 2) sFS sItalic sNormal) (bitB s 12) (bitB c 12) sTD (joinB (rowS true true) sSp) sNone).length]))) A9 9 c9 ((put (put (put [] (bitB s 1) (bitB c 1) sFW sBold sNormal) (bitB s 2) (bitB c 2) sFS sItalic sNormal) (bitB s 12) (bitB c 12) sTD (joinB (rowS true true) sSp) sNone).map strAV)) (by repeat (first | exact AH.upd_same _ _ _ | assumption | refine AH.look_other (by assumption) ?_)) (by repeat (first | exact AH.upd_same _ _ _ | assumption | refine AH.look_other (by assumption) ?_)) (by repeat (first | exact AH.upd_same _ _ _ | assumption | refine AH.look_other (by assumption) ?_)) hF2 (by have := put_len [] (bitB s 1) (bitB c 1) sFW sBold sNormal; have := put_len (put [] (bitB s 1) (bitB c 1) sFW sBold sNormal) (bitB s 2) (bitB c 2) sFS sItalic sNormal; simp only [List.length_nil] at *; omega) (by decide) (row_size _ _) (by decide) (fun A2 c2 h => ⟨A2, c2, h, rfl, rfl⟩)) ?_
      rintro _ _ ⟨A3, c3, hF3, rfl, rfl⟩
      refine AL_norm (by first | (simp only [tput, anyAt, setAll, List.foldl_cons, List.foldl_nil, List.set_cons_zero, List.set_cons_succ]; rfl) | rfl) ?_
      refine AL_nil ?_
      refine seqQ_n ?_
      refine AW_seq ?_
      refine AW_region ?_
      first | refine AL_load_rp sz48 rfl ag48 ?_ | refine AL_loadw sz48 rfl (by repeat (first | refine Fresh.look hF3 ?_ | refine Fresh.look (A := some ba) hba ?_ | refine Fresh.look hF2 ?_ | exact AH.upd_same _ _ _ | exact hH | assumption | refine AH.look_other (by assumption) ?_)) (by exact ag48) (by exact rfl) ?_ | refine AL_load_pt ag48 sz48 (by decide) rfl (by repeat (first | refine Fresh.look hF3 ?_ | refine Fresh.look (A := some ba) hba ?_ | refine Fresh.look hF2 ?_ | exact AH.upd_same _ _ _ | exact hH | assumption | refine AH.look_other (by assumption) ?_)) (by first | assumption | exact sz3 | exact sz9 | exact sz5 | exact sz57 | exact sz48) (by exact rfl) (by exact rfl) (by exact rfl) ?_
      refine AL_norm (by first | (simp only [tput, anyAt, setAll, List.foldl_cons, List.foldl_nil, List.set_cons_zero, List.set_cons_succ]; rfl) | rfl) ?_
      refine AL_freezeP 30 rfl hF3 (List.length_map _).symm ?_
      refine AL_norm (by first | (simp only [tput, anyAt, setAll, List.foldl_cons, List.foldl_nil, List.set_cons_zero, List.set_cons_succ]; rfl) | rfl) ?_
      refine AL_callp en51 (.cons (.ev rfl) (.cons (.ev rfl) (.nil))) (Join_ok (put (put (put [] (bitB s 1) (bitB c 1) sFW sBold sNormal) (bitB s 2) (bitB c 2) sFS sItalic sNormal) (bitB s 12) (bitB c 12) sTD (joinB (rowS true true) sSp) sNone) sSC (by have := put_len [] (bitB s 1) (bitB c 1) sFW sBold sNormal; have := put_len (put [] (bitB s 1) (bitB c 1) sFW sBold sNormal) (bitB s 2) (bitB c 2) sFS sItalic sNormal; have := put_len (put (put [] (bitB s 1) (bitB c 1) sFW sBold sNormal) (bitB s 2) (bitB c 2) sFS sItalic sNormal) (bitB s 12) (bitB c 12) sTD (joinB (rowS true true) sSp) sNone; simp only [List.length_nil] at *; omega) (Nat.le_trans (print_bound _ _ _ _ _ _ _ _) (by decide))) ?_
      refine AL_assign rfl ?_
      refine AL_norm (by first | (simp only [tput, anyAt, setAll, List.foldl_cons, List.foldl_nil, List.set_cons_zero, List.set_cons_succ]; rfl) | rfl) ?_
      refine AL_nil ?_
      refine seqQ_n ?_
      refine AW_ret ?_
      refine retQ_1 (H' := H) (.inr rfl) rfl (by repeat (first | exact SubH.refl _ | refine SubH.upd ?_ (by assumption))) ?_
      refine K_eq ?_ hK
      show strAV (joinB (put (put (put [] (bitB s 1) (bitB c 1) sFW sBold sNormal) (bitB s 2) (bitB c 2) sFS sItalic sNormal) (bitB s 12) (bitB c 12) sTD (joinB (rowS true true) sSp) sNone) sSC) = strAV (printI s c); unfold printI printP; rw [show bitB s 4 = true from decide_eq_true hc1, show bitB s 8 = true from decide_eq_true hc2]
    · try simp only [Bool.or_eq_true, Bool.and_eq_true, Bool.or_eq_false_iff, Bool.and_eq_false_iff, decide_eq_true_eq, decide_eq_false_iff_not, Bool.not_eq_true', Bool.not_eq_false', beq_iff_eq, ne_eq, Decidable.not_not, List.length_map] at hc2
      refine AW_skip ?_
      refine seqQ_n ?_
      refine AW_seq ?_
      refine AW_region ?_
      refine AL_move rfl ?_
      refine AL_norm (by first | (simp only [tput, anyAt, setAll, List.foldl_cons, List.foldl_nil, List.set_cons_zero, List.set_cons_succ]; rfl) | rfl) ?_
      refine AL_move rfl ?_
      refine AL_norm (by first | (simp only [tput, anyAt, setAll, List.foldl_cons, List.foldl_nil, List.set_cons_zero, List.set_cons_succ]; rfl) | rfl) ?_
      refine AL_heap (show _ = AH.put (AH.put (((((H.upd b1 (some (.row 3 1 [.v (.int .i64 s)]))).upd b2 (some (.row 3 1 [.v (.int .i64 c)]))).upd b3 (some (.row 48 1 [.own none 0 0]))).upd b3 (some (.row 48 1 [.own A1 c1 (put [] (bitB s 1) (bitB c 1) sFW sBold sNormal).length]))).upd b3 (some (.row 48 1 [.own A2 c2 (put (put [] (bitB s 1) (bitB c 1) sFW sBold sNormal) (bitB s 2) (bitB c 2) sFS sItalic sNormal).length]))) A2 9 c2 (List.map strAV (put (put [] (bitB s 1) (bitB c 1) sFW sBold sNormal) (bitB s 2) (bitB c 2) sFS sItalic sNormal))) (some ba) 9 ca ([] ++ [strAV sUnd]) from rfl) ?_; refine AL_freezeP 27 rfl (show Fresh (AH.put (((((H.upd b1 (some (.row 3 1 [.v (.int .i64 s)]))).upd b2 (some (.row 3 1 [.v (.int .i64 c)]))).upd b3 (some (.row 48 1 [.own none 0 0]))).upd b3 (some (.row 48 1 [.own A1 c1 (put [] (bitB s 1) (bitB c 1) sFW sBold sNormal).length]))).upd b3 (some (.row 48 1 [.own A2 c2 (put (put [] (bitB s 1) (bitB c 1) sFW sBold sNormal) (bitB s 2) (bitB c 2) sFS sItalic sNormal).length]))) A2 9 c2 (List.map strAV (put (put [] (bitB s 1) (bitB c 1) sFW sBold sNormal) (bitB s 2) (bitB c 2) sFS sItalic sNormal))) (some ba) ca ([] ++ [strAV sUnd]) from hba) rfl ?_
      refine AL_norm (by first | (simp only [tput, anyAt, setAll, List.foldl_cons, List.foldl_nil, List.set_cons_zero, List.set_cons_succ]; rfl) | rfl) ?_
      refine AL_callp en51 (.cons (.ev rfl) (.cons (.ev rfl) (.nil))) (Join_ok (rowS true false) sSp (by decide) (Nat.le_trans (row_bound _ _) (by decide))) ?_
      refine AL_callv rfl en50 (.cons (.ev rfl) (.cons (.ev rfl) (.cons (.ev rfl) (.cons (.ev rfl) (.nil))))) (css_Print_1_ok b1 b3 b2 s c 12 sTD (joinB (rowS true false) sSp) sNone A2 c2 (put (put [] (bitB s 1) (bitB c 1) sFW sBold sNormal) (bitB s 2) (bitB c 2) sFS sItalic sNormal) (((((H.upd b1 (some (.row 3 1 [.v (.int .i64 s)]))).upd b2 (some (.row 3 1 [.v (.int .i64 c)]))).upd b3 (some (.row 48 1 [.own none 0 0]))).upd b3 (some (.row 48 1 [.own A1 c1 (put [] (bitB s 1) (bitB c 1) sFW sBold sNormal).length]))).upd b3 (some (.row 48 1 [.own A2 c2 (put (put [] (bitB s 1) (bitB c 1) sFW sBold sNormal) (bitB s 2) (bitB c 2) sFS sItalic sNormal).length]))) (fun x H1 => ∃ A9 c9, Fresh ((((((H.upd b1 (some (.row 3 1 [.v (.int .i64 s)]))).upd b2 (some (.row 3 1 [.v (.int .i64 c)]))).upd b3 (some (.row 48 1 [.own none 0 0]))).upd b3 (some (.row 48 1 [.own A1 c1 (put [] (bitB s 1) (bitB c 1) sFW sBold sNormal).length]))).upd b3 (some (.row 48 1 [.own A2 c2 (put (put [] (bitB s 1) (bitB c 1) sFW sBold sNormal) (bitB s 2) (bitB c 2) sFS sItalic sNormal).length]))).upd b3 (some (.row 48 1 [.own A9 c9 (put (put (put [] (bitB s 1) (bitB c 1) sFW sBold sNormal) (bitB s 2) (bitB c 2) sFS sItalic sNormal) (bitB s 12) (bitB c 12) sTD (joinB (rowS true false) sSp) sNone).length]))) A9 c9 ((put (put (put [] (bitB s 1) (bitB c 1) sFW sBold sNormal) (bitB s 2) (bitB c 2) sFS sItalic sNormal) (bitB s 12) (bitB c 12) sTD (joinB (rowS true false) sSp) sNone).map strAV) ∧ x = .tup [] ∧ H1 = AH.put ((((((H.upd b1 (some (.row 3 1 [.v (.int .i64 s)]))).upd b2 (some (.row 3 1 [.v (.int .i64 c)]))).upd b3 (some (.row 48 1 [.own none 0 0]))).upd b3 (some (.row 48 1 [.own A1 c1 (put [] (bitB s 1) (bitB c 1) sFW sBold sNormal).length]))).upd b3 (some (.row 48 1 [.own A2 c2 (put (put [] (bitB s 1) (bitB c 1) sFW sBold sNormal) (bitB s 2) (bitB c 2) sFS sItalic sNormal).length]))).upd b3 (some (.row 48 1 [.own A9 c9 (put (put (put [] (bitB s 1) (bitB c 1) sFW sBold sNormal) (bitB s 2) (bitB c 2) sFS sItalic sNormal) (bitB s 12) (bitB c 12) sTD (joinB (rowS true false) sSp) sNone).length]))) A9 9 c9 ((put (put (put [] (bitB s 1) (bitB c 1) sFW sBold sNormal) (bitB s 2) (bitB c 2) sFS sItalic sNormal) (bitB s 12) (bitB c 12) sTD (joinB (rowS true false) sSp) sNone).map strAV)) (by repeat (first | exact AH.upd_same _ _ _ | assumption | refine AH.look_other (by assumption) ?_)) (by repeat (first | exact AH.upd_same _ _ _ | assumption | refine AH.look_other (by assumption) ?_)) (by repeat (first | exact AH.upd_same _ _ _ | assumption | refine AH.look_other (by assumption) ?_)) hF2 (by have := put_len [] (bitB s 1) (bitB c 1) sFW sBold sNormal; have := put_len (put [] (bitB s 1) (bitB c 1) sFW sBold sNormal) (bitB s 2) (bitB c 2) sFS sItalic sNormal; simp only [List.length_nil] at *; omega) (by decide) (row_size _ _) (by decide) (fun A2 c2 h => ⟨A2, c2, h, rfl, rfl⟩)) ?_
      rintro _ _ ⟨A3, c3, hF3, rfl, rfl⟩
      refine AL_norm (by first | (simp only [tput, anyAt, setAll, List.foldl_cons, List.foldl_nil, List.set_cons_zero, List.set_cons_succ]; rfl) | rfl) ?_
      refine AL_nil ?_
      refine seqQ_n ?_
      refine AW_seq ?_
      refine AW_region ?_
      first | refine AL_load_rp sz48 rfl ag48 ?_ | refine AL_loadw sz48 rfl (by repeat (first | refine Fresh.look hF3 ?_ | refine Fresh.look (A := some ba) hba ?_ | refine Fresh.look hF2 ?_ | exact AH.upd_same _ _ _ | exact hH | assumption | refine AH.look_other (by assumption) ?_)) (by exact ag48) (by exact rfl) ?_ | refine AL_load_pt ag48 sz48 (by decide) rfl (by repeat (first | refine Fresh.look hF3 ?_ | refine Fresh.look (A := some ba) hba ?_ | refine Fresh.look hF2 ?_ | exact AH.upd_same _ _ _ | exact hH | assumption | refine AH.look_other (by assumption) ?_)) (by first | assumption | exact sz3 | exact sz9 | exact sz5 | exact sz57 | exact sz48) (by exact rfl) (by exact rfl) (by exact rfl) ?_
      refine AL_norm (by first | (simp only [tput, anyAt, setAll, List.foldl_cons, List.foldl_nil, List.set_cons_zero, List.set_cons_succ]; rfl) | rfl) ?_
      refine AL_freezeP 30 rfl hF3 (List.length_map _).symm ?_
      refine AL_norm (by first | (simp only [tput, anyAt, setAll, List.foldl_cons, List.foldl_nil, List.set_cons_zero, List.set_cons_succ]; rfl) | rfl) ?_
      refine AL_callp en51 (.cons (.ev rfl) (.cons (.ev rfl) (.nil))) (Join_ok (put (put (put [] (bitB s 1) (bitB c 1) sFW sBold sNormal) (bitB s 2) (bitB c 2) sFS sItalic sNormal) (bitB s 12) (bitB c 12) sTD (joinB (rowS true false) sSp) sNone) sSC (by have := put_len [] (bitB s 1) (bitB c 1) sFW sBold sNormal; have := put_len (put [] (bitB s 1) (bitB c 1) sFW sBold sNormal) (bitB s 2) (bitB c 2) sFS sItalic sNormal; have := put_len (put (put [] (bitB s 1) (bitB c 1) sFW sBold sNormal) (bitB s 2) (bitB c 2) sFS sItalic sNormal) (bitB s 12) (bitB c 12) sTD (joinB (rowS true false) sSp) sNone; simp only [List.length_nil] at *; omega) (Nat.le_trans (print_bound _ _ _ _ _ _ _ _) (by decide))) ?_
      refine AL_assign rfl ?_
      refine AL_norm (by first | (simp only [tput, anyAt, setAll, List.foldl_cons, List.foldl_nil, List.set_cons_zero, List.set_cons_succ]; rfl) | rfl) ?_
      refine AL_nil ?_
      refine seqQ_n ?_
      refine AW_ret ?_
      refine retQ_1 (H' := H) (.inr rfl) rfl (by repeat (first | exact SubH.refl _ | refine SubH.upd ?_ (by assumption))) ?_
      refine K_eq ?_ hK
      show strAV (joinB (put (put (put [] (bitB s 1) (bitB c 1) sFW sBold sNormal) (bitB s 2) (bitB c 2) sFS sItalic sNormal) (bitB s 12) (bitB c 12) sTD (joinB (rowS true false) sSp) sNone) sSC) = strAV (printI s c); unfold printI printP; rw [show bitB s 4 = true from decide_eq_true hc1, show bitB s 8 = false from decide_eq_false (fun h => h hc2)]
  · try simp only [Bool.or_eq_true, Bool.and_eq_true, Bool.or_eq_false_iff, Bool.and_eq_false_iff, decide_eq_true_eq, decide_eq_false_iff_not, Bool.not_eq_true', Bool.not_eq_false', beq_iff_eq, ne_eq, Decidable.not_not, List.length_map] at hc1
    refine AW_skip ?_
    refine seqQ_n ?_
    refine AW_seq ?_
    refine AW_seq ?_
    refine AW_region ?_
    first | refine AL_load_rp sz3 rfl ag3 ?_ | refine AL_loadw sz3 rfl (by repeat (first | refine Fresh.look hF3 ?_ | refine Fresh.look (A := some ba) hba ?_ | refine Fresh.look hF2 ?_ | exact AH.upd_same _ _ _ | exact hH | assumption | refine AH.look_other (by assumption) ?_)) (by exact ag3) (by exact rfl) ?_ | refine AL_load_pt ag3 sz3 (by decide) rfl (by repeat (first | refine Fresh.look hF3 ?_ | refine Fresh.look (A := some ba) hba ?_ | refine Fresh.look hF2 ?_ | exact AH.upd_same _ _ _ | exact hH | assumption | refine AH.look_other (by assumption) ?_)) (by first | assumption | exact sz3 | exact sz9 | exact sz5 | exact sz57 | exact sz48) (by exact rfl) (by exact rfl) (by exact rfl) ?_
    refine AL_norm (by first | (simp only [tput, anyAt, setAll, List.foldl_cons, List.foldl_nil, List.set_cons_zero, List.set_cons_succ]; rfl) | rfl) ?_
    refine AL_bits rfl rfl (by decide) ?_
    refine AL_neq rfl rfl ?_
    refine AL_norm (by first | (simp only [tput, anyAt, setAll, List.foldl_cons, List.foldl_nil, List.set_cons_zero, List.set_cons_succ]; rfl) | rfl) ?_
    refine AL_nil ?_
    refine seqQ_n ?_
    refine AW_cond rfl (fun hc3 => ?_) (fun hc3 => ?_)
    · try simp only [Bool.or_eq_true, Bool.and_eq_true, Bool.or_eq_false_iff, Bool.and_eq_false_iff, decide_eq_true_eq, decide_eq_false_iff_not, Bool.not_eq_true', Bool.not_eq_false', beq_iff_eq, ne_eq, Decidable.not_not, List.length_map] at hc3
      refine AW_region ?_
      refine AL_move rfl ?_
      refine AL_heap (show _ = AH.put (AH.put (((((H.upd b1 (some (.row 3 1 [.v (.int .i64 s)]))).upd b2 (some (.row 3 1 [.v (.int .i64 c)]))).upd b3 (some (.row 48 1 [.own none 0 0]))).upd b3 (some (.row 48 1 [.own A1 c1 (put [] (bitB s 1) (bitB c 1) sFW sBold sNormal).length]))).upd b3 (some (.row 48 1 [.own A2 c2 (put (put [] (bitB s 1) (bitB c 1) sFW sBold sNormal) (bitB s 2) (bitB c 2) sFS sItalic sNormal).length]))) A2 9 c2 (List.map strAV (put (put [] (bitB s 1) (bitB c 1) sFW sBold sNormal) (bitB s 2) (bitB c 2) sFS sItalic sNormal))) (some b4) 9 0 [] from rfl) ?_
      refine AL_append1p un48 inf9 rfl (by decide) (by decide) (by decide) rfl rfl (fun h => by cases h) rfl rfl rfl (show Fresh (AH.put (((((H.upd b1 (some (.row 3 1 [.v (.int .i64 s)]))).upd b2 (some (.row 3 1 [.v (.int .i64 c)]))).upd b3 (some (.row 48 1 [.own none 0 0]))).upd b3 (some (.row 48 1 [.own A1 c1 (put [] (bitB s 1) (bitB c 1) sFW sBold sNormal).length]))).upd b3 (some (.row 48 1 [.own A2 c2 (put (put [] (bitB s 1) (bitB c 1) sFW sBold sNormal) (bitB s 2) (bitB c 2) sFS sItalic sNormal).length]))) A2 9 c2 (List.map strAV (put (put [] (bitB s 1) (bitB c 1) sFW sBold sNormal) (bitB s 2) (bitB c 2) sFS sItalic sNormal))) (some b4) 0 [] from hb4o) (by rfl) (by omega) ?_
      intro ba ca hba
      refine AL_norm (by first | (simp only [tput, anyAt, setAll, List.foldl_cons, List.foldl_nil, List.set_cons_zero, List.set_cons_succ]; rfl) | rfl) ?_
      refine AL_assign rfl ?_
      refine AL_norm (by first | (simp only [tput, anyAt, setAll, List.foldl_cons, List.foldl_nil, List.set_cons_zero, List.set_cons_succ]; rfl) | rfl) ?_
      refine AL_nil ?_
      refine seqQ_n ?_
      refine AW_seq ?_
      refine AW_region ?_
      refine AL_move rfl ?_
      refine AL_move rfl ?_
      refine AL_norm (by first | (simp only [tput, anyAt, setAll, List.foldl_cons, List.foldl_nil, List.set_cons_zero, List.set_cons_succ]; rfl) | rfl) ?_
      refine AL_heap (show _ = AH.put (AH.put (((((H.upd b1 (some (.row 3 1 [.v (.int .i64 s)]))).upd b2 (some (.row 3 1 [.v (.int .i64 c)]))).upd b3 (some (.row 48 1 [.own none 0 0]))).upd b3 (some (.row 48 1 [.own A1 c1 (put [] (bitB s 1) (bitB c 1) sFW sBold sNormal).length]))).upd b3 (some (.row 48 1 [.own A2 c2 (put (put [] (bitB s 1) (bitB c 1) sFW sBold sNormal) (bitB s 2) (bitB c 2) sFS sItalic sNormal).length]))) A2 9 c2 (List.map strAV (put (put [] (bitB s 1) (bitB c 1) sFW sBold sNormal) (bitB s 2) (bitB c 2) sFS sItalic sNormal))) (some ba) 9 ca ([] ++ [strAV sThr]) from rfl) ?_; refine AL_freezeP 27 rfl (show Fresh (AH.put (((((H.upd b1 (some (.row 3 1 [.v (.int .i64 s)]))).upd b2 (some (.row 3 1 [.v (.int .i64 c)]))).upd b3 (some (.row 48 1 [.own none 0 0]))).upd b3 (some (.row 48 1 [.own A1 c1 (put [] (bitB s 1) (bitB c 1) sFW sBold sNormal).length]))).upd b3 (some (.row 48 1 [.own A2 c2 (put (put [] (bitB s 1) (bitB c 1) sFW sBold sNormal) (bitB s 2) (bitB c 2) sFS sItalic sNormal).length]))) A2 9 c2 (List.map strAV (put (put [] (bitB s 1) (bitB c 1) sFW sBold sNormal) (bitB s 2) (bitB c 2) sFS sItalic sNormal))) (some ba) ca ([] ++ [strAV sThr]) from hba) rfl ?_
      refine AL_norm (by first | (simp only [tput, anyAt, setAll, List.foldl_cons, List.foldl_nil, List.set_cons_zero, List.set_cons_succ]; rfl) | rfl) ?_
      refine AL_callp en51 (.cons (.ev rfl) (.cons (.ev rfl) (.nil))) (Join_ok (rowS false true) sSp (by decide) (Nat.le_trans (row_bound _ _) (by decide))) ?_
      refine AL_callv rfl en50 (.cons (.ev rfl) (.cons (.ev rfl) (.cons (.ev rfl) (.cons (.ev rfl) (.nil))))) (css_Print_1_ok b1 b3 b2 s c 12 sTD (joinB (rowS false true) sSp) sNone A2 c2 (put (put [] (bitB s 1) (bitB c 1) sFW sBold sNormal) (bitB s 2) (bitB c 2) sFS sItalic sNormal) (((((H.upd b1 (some (.row 3 1 [.v (.int .i64 s)]))).upd b2 (some (.row 3 1 [.v (.int .i64 c)]))).upd b3 (some (.row 48 1 [.own none 0 0]))).upd b3 (some (.row 48 1 [.own A1 c1 (put [] (bitB s 1) (bitB c 1) sFW sBold sNormal).length]))).upd b3 (some (.row 48 1 [.own A2 c2 (put (put [] (bitB s 1) (bitB c 1) sFW sBold sNormal) (bitB s 2) (bitB c 2) sFS sItalic sNormal).length]))) (fun x H1 => ∃ A9 c9, Fresh ((((((H.upd b1 (some (.row 3 1 [.v (.int .i64 s)]))).upd b2 (some (.row 3 1 [.v (.int .i64 c)]))).upd b3 (some (.row 48 1 [.own none 0 0]))).upd b3 (some (.row 48 1 [.own A1 c1 (put [] (bitB s 1) (bitB c 1) sFW sBold sNormal).length]))).upd b3 (some (.row 48 1 [.own A2 c2 (put (put [] (bitB s 1) (bitB c 1) sFW sBold sNormal) (bitB s 2) (bitB c 2) sFS sItalic sNormal).length]))).upd b3 (some (.row 48 1 [.own A9 c9 (put (put (put [] (bitB s 1) (bitB c 1) sFW sBold sNormal) (bitB s 2) (bitB c 2) sFS sItalic sNormal) (bitB s 12) (bitB c 12) sTD (joinB (rowS false true) sSp) sNone).length]))) A9 c9 ((put (put (put [] (bitB s 1) (bitB c 1) sFW sBold sNormal) (bitB s 2) (bitB c 2) sFS sItalic sNormal) (bitB s 12) (bitB c 12) sTD (joinB (rowS false true) sSp) sNone).map strAV) ∧ x = .tup [] ∧ H1 = AH.put ((((((H.upd b1 (some (.row 3 1 [.v (.int .i64 s)]))).upd b2 (some (.row 3 1 [.v (.int .i64 c)]))).upd b3 (some (.row 48 1 [.own none 0 0]))).upd b3 (some (.row 48 1 [.own A1 c1 (put [] (bitB s 1) (bitB c 1) sFW sBold sNormal).length]))).upd b3 (some (.row 48 1 [.own A2 c2 (put (put [] (bitB s 1) (bitB c 1) sFW sBold sNormal) (bitB s 2) (bitB c 2) sFS sItalic sNormal).length]))).upd b3 (some (.row 48 1 [.own A9 c9 (put (put (put [] (bitB s 1) (bitB c 1) sFW sBold sNormal) (bitB s 2) (bitB c 2) sFS sItalic sNormal) (bitB s 12) (bitB c 12) sTD (joinB (rowS false true) sSp) sNone).length]))) A9 9 c9 ((put (put (put [] (bitB s 1) (bitB c 1) sFW sBold sNormal) (bitB s 2) (bitB c 2) sFS sItalic sNormal) (bitB s 12) (bitB c 12) sTD (joinB (rowS false true) sSp) sNone).map strAV)) (by repeat (first | exact AH.upd_same _ _ _ | assumption | refine AH.look_other (by assumption) ?_)) (by repeat (first | exact AH.upd_same _ _ _ | assumption | refine AH.look_other (by assumption) ?_)) (by repeat (first | exact AH.upd_same _ _ _ | assumption | refine AH.look_other (by assumption) ?_)) hF2 (by have := put_len [] (bitB s 1) (bitB c 1) sFW sBold sNormal; have := put_len (put [] (bitB s 1) (bitB c 1) sFW sBold sNormal) (bitB s 2) (bitB c 2) sFS sItalic sNormal; simp only [List.length_nil] at *; omega) (by decide) (row_size _ _) (by decide) (fun A2 c2 h => ⟨A2, c2, h, rfl, rfl⟩)) ?_
      rintro _ _ ⟨A3, c3, hF3, rfl, rfl⟩
      refine AL_norm (by first | (simp only [tput, anyAt, setAll, List.foldl_cons, List.foldl_nil, List.set_cons_zero, List.set_cons_succ]; rfl) | rfl) ?_
      refine AL_nil ?_
      refine seqQ_n ?_
      refine AW_seq ?_
      refine AW_region ?_
      first | refine AL_load_rp sz48 rfl ag48 ?_ | refine AL_loadw sz48 rfl (by repeat (first | refine Fresh.look hF3 ?_ | refine Fresh.look (A := some ba) hba ?_ | refine Fresh.look hF2 ?_ | exact AH.upd_same _ _ _ | exact hH | assumption | refine AH.look_other (by assumption) ?_)) (by exact ag48) (by exact rfl) ?_ | refine AL_load_pt ag48 sz48 (by decide) rfl (by repeat (first | refine Fresh.look hF3 ?_ | refine Fresh.look (A := some ba) hba ?_ | refine Fresh.look hF2 ?_ | exact AH.upd_same _ _ _ | exact hH | assumption | refine AH.look_other (by assumption) ?_)) (by first | assumption | exact sz3 | exact sz9 | exact sz5 | exact sz57 | exact sz48) (by exact rfl) (by exact rfl) (by exact rfl) ?_
      refine AL_norm (by first | (simp only [tput, anyAt, setAll, List.foldl_cons, List.foldl_nil, List.set_cons_zero, List.set_cons_succ]; rfl) | rfl) ?_
      refine AL_freezeP 30 rfl hF3 (List.length_map _).symm ?_
      refine AL_norm (by first | (simp only [tput, anyAt, setAll, List.foldl_cons, List.foldl_nil, List.set_cons_zero, List.set_cons_succ]; rfl) | rfl) ?_
      refine AL_callp en51 (.cons (.ev rfl) (.cons (.ev rfl) (.nil))) (Join_ok (put (put (put [] (bitB s 1) (bitB c 1) sFW sBold sNormal) (bitB s 2) (bitB c 2) sFS sItalic sNormal) (bitB s 12) (bitB c 12) sTD (joinB (rowS false true) sSp) sNone) sSC (by have := put_len [] (bitB s 1) (bitB c 1) sFW sBold sNormal; have := put_len (put [] (bitB s 1) (bitB c 1) sFW sBold sNormal) (bitB s 2) (bitB c 2) sFS sItalic sNormal; have := put_len (put (put [] (bitB s 1) (bitB c 1) sFW sBold sNormal) (bitB s 2) (bitB c 2) sFS sItalic sNormal) (bitB s 12) (bitB c 12) sTD (joinB (rowS false true) sSp) sNone; simp only [List.length_nil] at *; omega) (Nat.le_trans (print_bound _ _ _ _ _ _ _ _) (by decide))) ?_
      refine AL_assign rfl ?_
      refine AL_norm (by first | (simp only [tput, anyAt, setAll, List.foldl_cons, List.foldl_nil, List.set_cons_zero, List.set_cons_succ]; rfl) | rfl) ?_
      refine AL_nil ?_
      refine seqQ_n ?_
      refine AW_ret ?_
      refine retQ_1 (H' := H) (.inr rfl) rfl (by repeat (first | exact SubH.refl _ | refine SubH.upd ?_ (by assumption))) ?_
      refine K_eq ?_ hK
      show strAV (joinB (put (put (put [] (bitB s 1) (bitB c 1) sFW sBold sNormal) (bitB s 2) (bitB c 2) sFS sItalic sNormal) (bitB s 12) (bitB c 12) sTD (joinB (rowS false true) sSp) sNone) sSC) = strAV (printI s c); unfold printI printP; rw [show bitB s 4 = false from decide_eq_false (fun h => h hc1), show bitB s 8 = true from decide_eq_true hc3]
    · try simp only [Bool.or_eq_true, Bool.and_eq_true, Bool.or_eq_false_iff, Bool.and_eq_false_iff, decide_eq_true_eq, decide_eq_false_iff_not, Bool.not_eq_true', Bool.not_eq_false', beq_iff_eq, ne_eq, Decidable.not_not, List.length_map] at hc3
      refine AW_skip ?_
      refine seqQ_n ?_
      refine AW_seq ?_
      refine AW_region ?_
      refine AL_move rfl ?_
      refine AL_norm (by first | (simp only [tput, anyAt, setAll, List.foldl_cons, List.foldl_nil, List.set_cons_zero, List.set_cons_succ]; rfl) | rfl) ?_
      refine AL_move rfl ?_
      refine AL_norm (by first | (simp only [tput, anyAt, setAll, List.foldl_cons, List.foldl_nil, List.set_cons_zero, List.set_cons_succ]; rfl) | rfl) ?_
      refine AL_heap (show _ = AH.put (AH.put (((((H.upd b1 (some (.row 3 1 [.v (.int .i64 s)]))).upd b2 (some (.row 3 1 [.v (.int .i64 c)]))).upd b3 (some (.row 48 1 [.own none 0 0]))).upd b3 (some (.row 48 1 [.own A1 c1 (put [] (bitB s 1) (bitB c 1) sFW sBold sNormal).length]))).upd b3 (some (.row 48 1 [.own A2 c2 (put (put [] (bitB s 1) (bitB c 1) sFW sBold sNormal) (bitB s 2) (bitB c 2) sFS sItalic sNormal).length]))) A2 9 c2 (List.map strAV (put (put [] (bitB s 1) (bitB c 1) sFW sBold sNormal) (bitB s 2) (bitB c 2) sFS sItalic sNormal))) (some b4) 9 0 [] from rfl) ?_; refine AL_freezeP 27 rfl (show Fresh (AH.put (((((H.upd b1 (some (.row 3 1 [.v (.int .i64 s)]))).upd b2 (some (.row 3 1 [.v (.int .i64 c)]))).upd b3 (some (.row 48 1 [.own none 0 0]))).upd b3 (some (.row 48 1 [.own A1 c1 (put [] (bitB s 1) (bitB c 1) sFW sBold sNormal).length]))).upd b3 (some (.row 48 1 [.own A2 c2 (put (put [] (bitB s 1) (bitB c 1) sFW sBold sNormal) (bitB s 2) (bitB c 2) sFS sItalic sNormal).length]))) A2 9 c2 (List.map strAV (put (put [] (bitB s 1) (bitB c 1) sFW sBold sNormal) (bitB s 2) (bitB c 2) sFS sItalic sNormal))) (some b4) 0 [] from hb4o) rfl ?_
      refine AL_norm (by first | (simp only [tput, anyAt, setAll, List.foldl_cons, List.foldl_nil, List.set_cons_zero, List.set_cons_succ]; rfl) | rfl) ?_
      refine AL_callp en51 (.cons (.ev rfl) (.cons (.ev rfl) (.nil))) (Join_ok (rowS false false) sSp (by decide) (Nat.le_trans (row_bound _ _) (by decide))) ?_
      refine AL_callv rfl en50 (.cons (.ev rfl) (.cons (.ev rfl) (.cons (.ev rfl) (.cons (.ev rfl) (.nil))))) (css_Print_1_ok b1 b3 b2 s c 12 sTD (joinB (rowS false false) sSp) sNone A2 c2 (put (put [] (bitB s 1) (bitB c 1) sFW sBold sNormal) (bitB s 2) (bitB c 2) sFS sItalic sNormal) (((((H.upd b1 (some (.row 3 1 [.v (.int .i64 s)]))).upd b2 (some (.row 3 1 [.v (.int .i64 c)]))).upd b3 (some (.row 48 1 [.own none 0 0]))).upd b3 (some (.row 48 1 [.own A1 c1 (put [] (bitB s 1) (bitB c 1) sFW sBold sNormal).length]))).upd b3 (some (.row 48 1 [.own A2 c2 (put (put [] (bitB s 1) (bitB c 1) sFW sBold sNormal) (bitB s 2) (bitB c 2) sFS sItalic sNormal).length]))) (fun x H1 => ∃ A9 c9, Fresh ((((((H.upd b1 (some (.row 3 1 [.v (.int .i64 s)]))).upd b2 (some (.row 3 1 [.v (.int .i64 c)]))).upd b3 (some (.row 48 1 [.own none 0 0]))).upd b3 (some (.row 48 1 [.own A1 c1 (put [] (bitB s 1) (bitB c 1) sFW sBold sNormal).length]))).upd b3 (some (.row 48 1 [.own A2 c2 (put (put [] (bitB s 1) (bitB c 1) sFW sBold sNormal) (bitB s 2) (bitB c 2) sFS sItalic sNormal).length]))).upd b3 (some (.row 48 1 [.own A9 c9 (put (put (put [] (bitB s 1) (bitB c 1) sFW sBold sNormal) (bitB s 2) (bitB c 2) sFS sItalic sNormal) (bitB s 12) (bitB c 12) sTD (joinB (rowS false false) sSp) sNone).length]))) A9 c9 ((put (put (put [] (bitB s 1) (bitB c 1) sFW sBold sNormal) (bitB s 2) (bitB c 2) sFS sItalic sNormal) (bitB s 12) (bitB c 12) sTD (joinB (rowS false false) sSp) sNone).map strAV) ∧ x = .tup [] ∧ H1 = AH.put ((((((H.upd b1 (some (.row 3 1 [.v (.int .i64 s)]))).upd b2 (some (.row 3 1 [.v (.int .i64 c)]))).upd b3 (some (.row 48 1 [.own none 0 0]))).upd b3 (some (.row 48 1 [.own A1 c1 (put [] (bitB s 1) (bitB c 1) sFW sBold sNormal).length]))).upd b3 (some (.row 48 1 [.own A2 c2 (put (put [] (bitB s 1) (bitB c 1) sFW sBold sNormal) (bitB s 2) (bitB c 2) sFS sItalic sNormal).length]))).upd b3 (some (.row 48 1 [.own A9 c9 (put (put (put [] (bitB s 1) (bitB c 1) sFW sBold sNormal) (bitB s 2) (bitB c 2) sFS sItalic sNormal) (bitB s 12) (bitB c 12) sTD (joinB (rowS false false) sSp) sNone).length]))) A9 9 c9 ((put (put (put [] (bitB s 1) (bitB c 1) sFW sBold sNormal) (bitB s 2) (bitB c 2) sFS sItalic sNormal) (bitB s 12) (bitB c 12) sTD (joinB (rowS false false) sSp) sNone).map strAV)) (by repeat (first | exact AH.upd_same _ _ _ | assumption | refine AH.look_other (by assumption) ?_)) (by repeat (first | exact AH.upd_same _ _ _ | assumption | refine AH.look_other (by assumption) ?_)) (by repeat (first | exact AH.upd_same _ _ _ | assumption | refine AH.look_other (by assumption) ?_)) hF2 (by have := put_len [] (bitB s 1) (bitB c 1) sFW sBold sNormal; have := put_len (put [] (bitB s 1) (bitB c 1) sFW sBold sNormal) (bitB s 2) (bitB c 2) sFS sItalic sNormal; simp only [List.length_nil] at *; omega) (by decide) (row_size _ _) (by decide) (fun A2 c2 h => ⟨A2, c2, h, rfl, rfl⟩)) ?_
      rintro _ _ ⟨A3, c3, hF3, rfl, rfl⟩
      refine AL_norm (by first | (simp only [tput, anyAt, setAll, List.foldl_cons, List.foldl_nil, List.set_cons_zero, List.set_cons_succ]; rfl) | rfl) ?_
      refine AL_nil ?_
      refine seqQ_n ?_
      refine AW_seq ?_
      refine AW_region ?_
      first | refine AL_load_rp sz48 rfl ag48 ?_ | refine AL_loadw sz48 rfl (by repeat (first | refine Fresh.look hF3 ?_ | refine Fresh.look (A := some ba) hba ?_ | refine Fresh.look hF2 ?_ | exact AH.upd_same _ _ _ | exact hH | assumption | refine AH.look_other (by assumption) ?_)) (by exact ag48) (by exact rfl) ?_ | refine AL_load_pt ag48 sz48 (by decide) rfl (by repeat (first | refine Fresh.look hF3 ?_ | refine Fresh.look (A := some ba) hba ?_ | refine Fresh.look hF2 ?_ | exact AH.upd_same _ _ _ | exact hH | assumption | refine AH.look_other (by assumption) ?_)) (by first | assumption | exact sz3 | exact sz9 | exact sz5 | exact sz57 | exact sz48) (by exact rfl) (by exact rfl) (by exact rfl) ?_
      refine AL_norm (by first | (simp only [tput, anyAt, setAll, List.foldl_cons, List.foldl_nil, List.set_cons_zero, List.set_cons_succ]; rfl) | rfl) ?_
      refine AL_freezeP 30 rfl hF3 (List.length_map _).symm ?_
      refine AL_norm (by first | (simp only [tput, anyAt, setAll, List.foldl_cons, List.foldl_nil, List.set_cons_zero, List.set_cons_succ]; rfl) | rfl) ?_
      refine AL_callp en51 (.cons (.ev rfl) (.cons (.ev rfl) (.nil))) (Join_ok (put (put (put [] (bitB s 1) (bitB c 1) sFW sBold sNormal) (bitB s 2) (bitB c 2) sFS sItalic sNormal) (bitB s 12) (bitB c 12) sTD (joinB (rowS false false) sSp) sNone) sSC (by have := put_len [] (bitB s 1) (bitB c 1) sFW sBold sNormal; have := put_len (put [] (bitB s 1) (bitB c 1) sFW sBold sNormal) (bitB s 2) (bitB c 2) sFS sItalic sNormal; have := put_len (put (put [] (bitB s 1) (bitB c 1) sFW sBold sNormal) (bitB s 2) (bitB c 2) sFS sItalic sNormal) (bitB s 12) (bitB c 12) sTD (joinB (rowS false false) sSp) sNone; simp only [List.length_nil] at *; omega) (Nat.le_trans (print_bound _ _ _ _ _ _ _ _) (by decide))) ?_
      refine AL_assign rfl ?_
      refine AL_norm (by first | (simp only [tput, anyAt, setAll, List.foldl_cons, List.foldl_nil, List.set_cons_zero, List.set_cons_succ]; rfl) | rfl) ?_
      refine AL_nil ?_
      refine seqQ_n ?_
      refine AW_ret ?_
      refine retQ_1 (H' := H) (.inr rfl) rfl (by repeat (first | exact SubH.refl _ | refine SubH.upd ?_ (by assumption))) ?_
      refine K_eq ?_ hK
      show strAV (joinB (put (put (put [] (bitB s 1) (bitB c 1) sFW sBold sNormal) (bitB s 2) (bitB c 2) sFS sItalic sNormal) (bitB s 12) (bitB c 12) sTD (joinB (rowS false false) sSp) sNone) sSC) = strAV (printI s c); unfold printI printP; rw [show bitB s 4 = false from decide_eq_false (fun h => h hc1), show bitB s 8 = false from decide_eq_false (fun h => h hc3)]
end Go.Css.Walk
