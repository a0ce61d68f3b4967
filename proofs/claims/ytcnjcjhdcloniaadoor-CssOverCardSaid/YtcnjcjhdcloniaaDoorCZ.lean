/- The given statement of the law: for every input the law answers true. No conditions of our own. -/
import Derived.Test.YtcnjcjhdcloniaaDoorCY
import Derived.Test.YtcnjcjhdcloniaaDoorCG
import Derived.Test.YtcnjcjhdcloniaaDoorProg
set_option autoImplicit false
set_option linter.unusedVariables false
set_option linter.unusedSimpArgs false
set_option maxRecDepth 100000
set_option maxHeartbeats 1000000
namespace Go.Css.Walk
open Go Go.RowKit Go.AL Go.Css Go.IntWalk Go.Proofs
theorem ze9 : zeroOf Tryd.prog 9 = some (.string ⟨#[]⟩) := by kernel_rfl
theorem inf9 : infoOf Tryd.prog 9 = some (some (.string ⟨#[]⟩), 1, 16) := by kernel_rfl
theorem inf5 : infoOf Tryd.prog 5 = some (some (.int .u8 0), 1, 1) := by kernel_rfl
theorem en47 : entersOf Tryd.prog 47 = true := by kernel_rfl

/-- quillwork/quillworkref04.split -/
theorem quillworkref04_split_ok (s : ByteArray) (c : UInt8) (hs : s.size < 2147483648) :
    PF Tryd.prog 47 [strAV s, byteAV c] (.sl 9 ((splitS s c).map strAV)) := by
  intro H K hK
  refine AC_frzS 9 ((splitS s c).map strAV) ?_
  refine AC_of Tryd.func47 rfl (rs := [.tmp 4]) rfl Tryd.ntmps47 rfl ?_
  refine AW_norm (by simp only [List.length_cons, List.length_nil, Nat.reduceAdd, Nat.reduceSub, List.replicate, List.cons_append, List.nil_append]; rfl) ?_
  refine AW_seq ?_
  refine AW_region ?_
  refine AL_assign rfl ?_
  refine AL_norm (by first | (simp only [tput, anyAt, setAll, List.foldl_cons, List.foldl_nil, List.set_cons_zero, List.set_cons_succ]; rfl) | rfl) ?_
  refine AL_nil ?_
  refine seqQ_n ?_
  refine AW_seq ?_
  refine AW_region ?_
  refine AL_buildSlice un48 sz9 ze9 rfl (by decide) (by decide) (.cons (.ev rfl) rfl (.nil)) rfl rfl ?_
  intro b1 hb1
  have hn1 : H b1 = none := SubH.none (by repeat (first | exact SubH.refl _ | exact (SubH.refl _).upd hI.2 | refine SubH.upd ?_ (by assumption))) hb1
  refine AL_assign rfl ?_
  refine AL_norm (by first | (simp only [tput, anyAt, setAll, List.foldl_cons, List.foldl_nil, List.set_cons_zero, List.set_cons_succ]; rfl) | rfl) ?_
  refine AL_nil ?_
  refine seqQ_n ?_
  refine AW_seq ?_
  refine AW_seq ?_
  refine AW_region ?_
  refine AL_assign rfl ?_
  refine AL_norm (by first | (simp only [tput, anyAt, setAll, List.foldl_cons, List.foldl_nil, List.set_cons_zero, List.set_cons_succ]; rfl) | rfl) ?_
  refine AL_nil ?_
  refine seqQ_n ?_
  refine AW_block ?_
  refine AW_loops (α := Nat × Nat × Nat) [5, 6, 8, 9, 10, 11, 12, 13, 14, 15, 16, 17, 18, 19, 20, 21, 22, 23, 24, 25, 26, 27, 28, 29, 30, 31, 32, 33, 34, 35, 36, 37, 38] (fun z => [(6, .v (.int .i64 (z.1 : Int))), (5, .own (some z.2.1) z.2.2 (pcsL s c z.1).length)]) (fun z => H.put (some z.2.1) 9 z.2.2 (pcs s c z.1)) (fun z => z.1 ≤ s.size ∧ H z.2.1 = none) (fun z => s.size - z.1) ((0, b1, 1)) ?_ ?_ ?_ ?_
  · exact ⟨Nat.zero_le _, hn1⟩
  · exact SubH.refl _
  · skip
    try simp only [tput, anyAt, setAll, List.foldl_cons, List.foldl_nil, List.set_cons_zero, List.set_cons_succ]
    repeat (first | exact Weak.nil | refine Weak.cons ?_ | refine Weak.consAny ?_)
  · rintro ⟨i, bb, cc⟩ hI; dsimp only at hI ⊢; have hp1 := pcsL_pos s c i; have hp2 := pcsL_le s c i
    refine AW_norm (by first | (simp only [tput, anyAt, setAll, List.foldl_cons, List.foldl_nil, List.set_cons_zero, List.set_cons_succ]; rfl) | rfl) ?_
    refine AW_seq ?_
    refine AW_seq ?_
    refine AW_region ?_
    refine AL_move rfl ?_
    refine AL_norm (by first | (simp only [tput, anyAt, setAll, List.foldl_cons, List.foldl_nil, List.set_cons_zero, List.set_cons_succ]; rfl) | rfl) ?_
    refine AL_move rfl ?_
    refine AL_len_str un9 rfl ?_
    refine AL_lss rfl rfl ?_
    refine AL_norm (by first | (simp only [tput, anyAt, setAll, List.foldl_cons, List.foldl_nil, List.set_cons_zero, List.set_cons_succ]; rfl) | rfl) ?_
    refine AL_nil ?_
    refine seqQ_n ?_
    refine AW_cond rfl (fun hc1 => ?_) (fun hc1 => ?_)
    · try simp only [Bool.or_eq_true, Bool.and_eq_true, Bool.or_eq_false_iff, Bool.and_eq_false_iff, decide_eq_true_eq, decide_eq_false_iff_not, Bool.not_eq_true', Bool.not_eq_false', beq_iff_eq, ne_eq, Decidable.not_not, List.length_map] at hc1
      refine AW_skip ?_
      refine seqQ_n ?_
      refine AW_seq ?_
      refine AW_block ?_
      refine AW_seq ?_
      refine AW_region ?_
      refine AL_move rfl ?_
      refine AL_norm (by first | (simp only [tput, anyAt, setAll, List.foldl_cons, List.foldl_nil, List.set_cons_zero, List.set_cons_succ]; rfl) | rfl) ?_
      refine AL_move rfl ?_
      first | refine AL_index_strn un9 rfl rfl ?_ ?_ ?_ | refine AL_index_strb un9 rfl rfl ?_ ?_ ?_
      · omega
      · omega
      refine AL_move rfl ?_
      refine AL_eql rfl rfl ?_
      refine AL_norm (by first | (simp only [tput, anyAt, setAll, List.foldl_cons, List.foldl_nil, List.set_cons_zero, List.set_cons_succ]; rfl) | rfl) ?_
      refine AL_nil ?_
      refine seqQ_n ?_
      refine AW_cond rfl (fun hc2 => ?_) (fun hc2 => ?_)
      · try simp only [Bool.or_eq_true, Bool.and_eq_true, Bool.or_eq_false_iff, Bool.and_eq_false_iff, decide_eq_true_eq, decide_eq_false_iff_not, Bool.not_eq_true', Bool.not_eq_false', beq_iff_eq, ne_eq, Decidable.not_not, List.length_map] at hc2
        refine AW_region ?_
        refine AL_move rfl ?_
        refine AL_norm (by first | (simp only [tput, anyAt, setAll, List.foldl_cons, List.foldl_nil, List.set_cons_zero, List.set_cons_succ]; rfl) | rfl) ?_
        refine AL_append1p un48 inf9 rfl (by decide) (by decide) (by decide) rfl rfl (fun h => by cases h) rfl rfl rfl hI.2 (by rw [pcs_len]) (by omega) ?_
        intro ba ca hba
        refine AL_norm (by first | (simp only [tput, anyAt, setAll, List.foldl_cons, List.foldl_nil, List.set_cons_zero, List.set_cons_succ]; rfl) | rfl) ?_
        refine AL_assign rfl ?_
        refine AL_norm (by first | (simp only [tput, anyAt, setAll, List.foldl_cons, List.foldl_nil, List.set_cons_zero, List.set_cons_succ]; rfl) | rfl) ?_
        refine AL_nil ?_
        refine blockQ_n ?_
        refine seqQ_n ?_
        refine AW_region ?_
        refine AL_move rfl ?_
        refine AL_addz rfl rfl (((i + 1 : Nat) : Int)) (by exact inc64 (by omega)) ?_
        refine AL_assign rfl ?_
        refine AL_norm (by first | (simp only [tput, anyAt, setAll, List.foldl_cons, List.foldl_nil, List.set_cons_zero, List.set_cons_succ]; rfl) | rfl) ?_
        refine AL_nil ?_
        refine loopQ_n ((i + 1, ba, ca)) ?_ ?_ ?_ ?_
        · exact ⟨by omega, hba⟩
        · (show s.size - (i + 1) < s.size - i; omega)
        · (show SubH (H.put (some ba) 9 ca (pcs s c (i + 1))) _); rw [← pcs_yes (by omega) (u8_eq hc2)]; exact SubH.refl _
        · rw [show (pcsL s c (i + 1)).length = (pcsL s c i).length + 1 from pcsL_yes_len (by omega) (u8_eq hc2)]
          try simp only [tput, anyAt, setAll, List.foldl_cons, List.foldl_nil, List.set_cons_zero, List.set_cons_succ]
          repeat (first | exact Weak.nil | refine Weak.cons ?_ | refine Weak.consAny ?_)
      · try simp only [Bool.or_eq_true, Bool.and_eq_true, Bool.or_eq_false_iff, Bool.and_eq_false_iff, decide_eq_true_eq, decide_eq_false_iff_not, Bool.not_eq_true', Bool.not_eq_false', beq_iff_eq, ne_eq, Decidable.not_not, List.length_map] at hc2
        refine' AW_drawL (xs := [_, _, _, _, _, _, _, _, _, _, _, _, _, _, _, _, _, _]) [17] [0, 0, 1, 2, 0, 0, 1, 2, 3, 4, 0, 0, 0, 1, 2, 5, 6, 7] (fun m => match m with | 0 => H.put (some bb) 9 cc (pcs s c i) | _ => H.put (some bb) 9 cc (pcs s c (i + 1))) rfl (by kernel_rfl) ?hops1 ?_
        case hops1 =>
          refine HopsL_cons (fun m T hl hr hm hm2 => ?_) ?_
          · skip
            replace hm : 0 ≤ m := hm
            replace hm2 : m ≤ 0 := hm2
            obtain rfl : m = 0 := by omega
            refine AL_heap (by rfl : _ = H.put (some bb) 9 cc (pcs s c i)) ?_
            refine AL_move ((hr 5 (by kernel_rfl)).trans rfl) ?_
            refine AL_nil ?_
            refine qpostL_mk ?_ ?_
            rotate_left
            exact Weak.refl _
            exact SubH.refl _
          refine HopsL_norm (by first | (simp only [tput, List.set_cons_zero, List.set_cons_succ]; rfl) | rfl) ?_
          refine HopsL_cons (fun m T hl hr hm hm2 => ?_) ?_
          · skip
            replace hm : 0 ≤ m := hm
            replace hm2 : m ≤ 0 := hm2
            obtain rfl : m = 0 := by omega
            refine AL_heap (by rfl : _ = H.put (some bb) 9 cc (pcs s c i)) ?_
            refine AL_move ((hr 5 (by kernel_rfl)).trans rfl) ?_
            refine AL_nil ?_
            refine qpostL_mk ?_ ?_
            rotate_left
            exact Weak.refl _
            exact SubH.refl _
          refine HopsL_norm (by first | (simp only [tput, List.set_cons_zero, List.set_cons_succ]; rfl) | rfl) ?_
          refine HopsL_cons (fun m T hl hr hm hm2 => ?_) ?_
          · skip
            replace hm : 0 ≤ m := hm
            replace hm2 : m ≤ 0 := hm2
            obtain rfl : m = 0 := by omega
            refine AL_heap (by rfl : _ = H.put (some bb) 9 cc (pcs s c i)) ?_
            first | refine AL_len_sl un48 ((hr 23 (by kernel_rfl)).trans rfl) ?_ | refine AL_len_own un48 ((hr 23 (by kernel_rfl)).trans rfl) ?_
            refine AL_nil ?_
            refine qpostL_mk ?_ ?_
            rotate_left
            exact Weak.refl _
            exact SubH.refl _
          refine HopsL_norm (by first | (simp only [tput, List.set_cons_zero, List.set_cons_succ]; rfl) | rfl) ?_
          refine HopsL_cons (fun m T hl hr hm hm2 => ?_) ?_
          · skip
            replace hm : 0 ≤ m := hm
            replace hm2 : m ≤ 0 := hm2
            obtain rfl : m = 0 := by omega
            refine AL_heap (by rfl : _ = H.put (some bb) 9 cc (pcs s c i)) ?_
            refine AL_subz ((hr 24 (by kernel_rfl)).trans rfl) rfl ((((pcsL s c i).length - 1 : Nat) : Int)) (by exact sub64 (by omega) (by omega)) ?_
            refine AL_nil ?_
            refine qpostL_mk ?_ ?_
            rotate_left
            exact Weak.refl _
            exact SubH.refl _
          refine HopsL_norm (by first | (simp only [tput, List.set_cons_zero, List.set_cons_succ]; rfl) | rfl) ?_
          refine HopsL_cons (fun m T hl hr hm hm2 => ?_) ?_
          · skip
            replace hm : 0 ≤ m := hm
            replace hm2 : m ≤ 0 := hm2
            obtain rfl : m = 0 := by omega
            refine AL_heap (by rfl : _ = H.put (some bb) 9 cc (pcs s c i)) ?_
            refine AL_move ((hr 5 (by kernel_rfl)).trans rfl) ?_
            refine AL_nil ?_
            refine qpostL_mk ?_ ?_
            rotate_left
            exact Weak.refl _
            exact SubH.refl _
          refine HopsL_norm (by first | (simp only [tput, List.set_cons_zero, List.set_cons_succ]; rfl) | rfl) ?_
          refine HopsL_cons (fun m T hl hr hm hm2 => ?_) ?_
          · skip
            replace hm : 0 ≤ m := hm
            replace hm2 : m ≤ 0 := hm2
            obtain rfl : m = 0 := by omega
            refine AL_heap (by rfl : _ = H.put (some bb) 9 cc (pcs s c i)) ?_
            refine AL_move ((hr 5 (by kernel_rfl)).trans rfl) ?_
            refine AL_nil ?_
            refine qpostL_mk ?_ ?_
            rotate_left
            exact Weak.refl _
            exact SubH.refl _
          refine HopsL_norm (by first | (simp only [tput, List.set_cons_zero, List.set_cons_succ]; rfl) | rfl) ?_
          refine HopsL_cons (fun m T hl hr hm hm2 => ?_) ?_
          · skip
            replace hm : 0 ≤ m := hm
            replace hm2 : m ≤ 0 := hm2
            obtain rfl : m = 0 := by omega
            refine AL_heap (by rfl : _ = H.put (some bb) 9 cc (pcs s c i)) ?_
            first | refine AL_len_sl un48 ((hr 27 (by kernel_rfl)).trans rfl) ?_ | refine AL_len_own un48 ((hr 27 (by kernel_rfl)).trans rfl) ?_
            refine AL_nil ?_
            refine qpostL_mk ?_ ?_
            rotate_left
            exact Weak.refl _
            exact SubH.refl _
          refine HopsL_norm (by first | (simp only [tput, List.set_cons_zero, List.set_cons_succ]; rfl) | rfl) ?_
          refine HopsL_cons (fun m T hl hr hm hm2 => ?_) ?_
          · skip
            replace hm : 0 ≤ m := hm
            replace hm2 : m ≤ 0 := hm2
            obtain rfl : m = 0 := by omega
            refine AL_heap (by rfl : _ = H.put (some bb) 9 cc (pcs s c i)) ?_
            refine AL_subz ((hr 28 (by kernel_rfl)).trans rfl) rfl ((((pcsL s c i).length - 1 : Nat) : Int)) (by exact sub64 (by omega) (by omega)) ?_
            refine AL_nil ?_
            refine qpostL_mk ?_ ?_
            rotate_left
            exact Weak.refl _
            exact SubH.refl _
          refine HopsL_norm (by first | (simp only [tput, List.set_cons_zero, List.set_cons_succ]; rfl) | rfl) ?_
          refine HopsL_cons (fun m T hl hr hm hm2 => ?_) ?_
          · skip
            replace hm : 0 ≤ m := hm
            replace hm2 : m ≤ 0 := hm2
            obtain rfl : m = 0 := by omega
            refine AL_heap (by rfl : _ = H.put (some bb) 9 cc (pcs s c i)) ?_
            first | refine AL_indexAddr_sl un48 sz9 (by decide) ((hr 26 (by kernel_rfl)).trans rfl) ((hr 29 (by kernel_rfl)).trans rfl) ?_ ?_ ?_ ?_ | refine AL_indexAddr_own un48 sz9 ((hr 26 (by kernel_rfl)).trans rfl) ((hr 29 (by kernel_rfl)).trans rfl) ?_ ?_ ?_
            · omega
            · omega
            refine AL_nil ?_
            refine qpostL_mk ?_ ?_
            rotate_left
            exact Weak.refl _
            exact SubH.refl _
          refine HopsL_norm (by first | (simp only [tput, List.set_cons_zero, List.set_cons_succ]; rfl) | rfl) ?_
          refine HopsL_cons (fun m T hl hr hm hm2 => ?_) ?_
          · skip
            replace hm : 0 ≤ m := hm
            replace hm2 : m ≤ 0 := hm2
            obtain rfl : m = 0 := by omega
            refine AL_heap (by rfl : _ = H.put (some bb) 9 cc (pcs s c i)) ?_
            refine AL_load_pt (x := strAV (ofL ((pcsL s c i).getD ((pcsL s c i).length - 1) []))) ag9 sz9 (by decide) ((hr 30 (by kernel_rfl)).trans rfl) (by repeat (first | exact AH.upd_same _ _ _ | exact hH | assumption | refine AH.look_other (by assumption) ?_)) (by first | assumption | exact sz3 | exact sz9 | exact sz5 | exact sz57) (pcs_at s c i) rfl rfl ?_
            refine AL_nil ?_
            refine qpostL_mk ?_ ?_
            rotate_left
            exact Weak.refl _
            exact SubH.refl _
          refine HopsL_norm (by first | (simp only [tput, List.set_cons_zero, List.set_cons_succ]; rfl) | rfl) ?_
          refine HopsL_cons (fun m T hl hr hm hm2 => ?_) ?_
          · skip
            replace hm : 0 ≤ m := hm
            replace hm2 : m ≤ 0 := hm2
            obtain rfl : m = 0 := by omega
            refine AL_heap (by rfl : _ = H.put (some bb) 9 cc (pcs s c i)) ?_
            refine AL_move ((hr 0 (by kernel_rfl)).trans rfl) ?_
            refine AL_nil ?_
            refine qpostL_mk ?_ ?_
            rotate_left
            exact Weak.refl _
            exact SubH.refl _
          refine HopsL_norm (by first | (simp only [tput, List.set_cons_zero, List.set_cons_succ]; rfl) | rfl) ?_
          refine HopsL_cons (fun m T hl hr hm hm2 => ?_) ?_
          · skip
            replace hm : 0 ≤ m := hm
            replace hm2 : m ≤ 0 := hm2
            obtain rfl : m = 0 := by omega
            refine AL_heap (by rfl : _ = H.put (some bb) 9 cc (pcs s c i)) ?_
            refine AL_move ((hr 6 (by kernel_rfl)).trans rfl) ?_
            refine AL_nil ?_
            refine qpostL_mk ?_ ?_
            rotate_left
            exact Weak.refl _
            exact SubH.refl _
          refine HopsL_norm (by first | (simp only [tput, List.set_cons_zero, List.set_cons_succ]; rfl) | rfl) ?_
          refine HopsL_cons (fun m T hl hr hm hm2 => ?_) ?_
          · skip
            replace hm : 0 ≤ m := hm
            replace hm2 : m ≤ 0 := hm2
            obtain rfl : m = 0 := by omega
            refine AL_heap (by rfl : _ = H.put (some bb) 9 cc (pcs s c i)) ?_
            refine AL_move ((hr 6 (by kernel_rfl)).trans rfl) ?_
            refine AL_nil ?_
            refine qpostL_mk ?_ ?_
            rotate_left
            exact Weak.refl _
            exact SubH.refl _
          refine HopsL_norm (by first | (simp only [tput, List.set_cons_zero, List.set_cons_succ]; rfl) | rfl) ?_
          refine HopsL_cons (fun m T hl hr hm hm2 => ?_) ?_
          · skip
            replace hm : 0 ≤ m := hm
            replace hm2 : m ≤ 0 := hm2
            obtain rfl : m = 0 := by omega
            refine AL_heap (by rfl : _ = H.put (some bb) 9 cc (pcs s c i)) ?_
            refine AL_addz ((hr 34 (by kernel_rfl)).trans rfl) rfl (((i + 1 : Nat) : Int)) (by exact inc64 (by omega)) ?_
            refine AL_nil ?_
            refine qpostL_mk ?_ ?_
            rotate_left
            exact Weak.refl _
            exact SubH.refl _
          refine HopsL_norm (by first | (simp only [tput, List.set_cons_zero, List.set_cons_succ]; rfl) | rfl) ?_
          refine HopsL_cons (fun m T hl hr hm hm2 => ?_) ?_
          · skip
            replace hm : 0 ≤ m := hm
            replace hm2 : m ≤ 0 := hm2
            obtain rfl : m = 0 := by omega
            refine AL_heap (by rfl : _ = H.put (some bb) 9 cc (pcs s c i)) ?_
            first | refine AL_slice_strN un9 ((hr 32 (by kernel_rfl)).trans rfl) ⟨_, ((hr 35 (by kernel_rfl)).trans rfl)⟩ ⟨_, ((hr 33 (by kernel_rfl)).trans rfl)⟩ ?_ ?_ ?_ | refine AL_slice_str un9 ((hr 32 (by kernel_rfl)).trans rfl) ⟨_, _, ((hr 35 (by kernel_rfl)).trans rfl), by omega, rfl⟩ ⟨_, _, ((hr 33 (by kernel_rfl)).trans rfl), by omega, rfl⟩ ?_ ?_ ?_
            · omega
            · omega
            refine AL_nil ?_
            refine qpostL_mk ?_ ?_
            rotate_left
            exact Weak.refl _
            exact SubH.refl _
          refine HopsL_norm (by first | (simp only [tput, List.set_cons_zero, List.set_cons_succ]; rfl) | rfl) ?_
          refine HopsL_cons (fun m T hl hr hm hm2 => ?_) ?_
          · skip
            replace hm : 0 ≤ m := hm
            replace hm2 : m ≤ 0 := hm2
            obtain rfl : m = 0 := by omega
            refine AL_heap (by rfl : _ = H.put (some bb) 9 cc (pcs s c i)) ?_
            refine AL_sadd ((hr 31 (by kernel_rfl)).trans rfl) ((hr 36 (by kernel_rfl)).trans rfl) ?_ ?_
            · have h1 := pcs_size s c i ((pcsL s c i).length - 1); rw [ByteArray.size_extract]; omega
            refine AL_nil ?_
            refine qpostL_mk ?_ ?_
            rotate_left
            exact Weak.refl _
            exact SubH.refl _
          refine HopsL_norm (by first | (simp only [tput, List.set_cons_zero, List.set_cons_succ]; rfl) | rfl) ?_
          refine HopsL_cons (fun m T hl hr hm hm2 => ?_) ?_
          · skip
            replace hm : 0 ≤ m := hm
            replace hm2 : m ≤ 0 := hm2
            obtain rfl : m = 0 := by omega
            refine AL_heap (by rfl : _ = H.put (some bb) 9 cc (pcs s c i)) ?_
            first | refine AL_indexAddr_sl un48 sz9 (by decide) ((hr 22 (by kernel_rfl)).trans rfl) ((hr 25 (by kernel_rfl)).trans rfl) ?_ ?_ ?_ ?_ | refine AL_indexAddr_own un48 sz9 ((hr 22 (by kernel_rfl)).trans rfl) ((hr 25 (by kernel_rfl)).trans rfl) ?_ ?_ ?_
            · omega
            · omega
            refine AL_nil ?_
            refine qpostL_mk ?_ ?_
            rotate_left
            exact Weak.refl _
            exact SubH.refl _
          refine HopsL_norm (by first | (simp only [tput, List.set_cons_zero, List.set_cons_succ]; rfl) | rfl) ?_
          refine HopsL_cons (fun m T hl hr hm hm2 => ?_) ?_
          · skip
            replace hm : 0 ≤ m := hm
            replace hm2 : m ≤ 0 := hm2
            obtain rfl : m = 0 := by omega
            refine AL_heap (by rfl : _ = H.put (some bb) 9 cc (pcs s c i)) ?_
            first | refine AL_store_w sz9 ((hr 38 (by kernel_rfl)).trans rfl) (.ev ((hr 37 (by kernel_rfl)).trans rfl)) rfl (by repeat (first | exact AH.upd_same _ _ _ | exact hH | assumption | refine AH.look_other (by assumption) ?_)) rfl (by exact rfl) ?_ | refine AL_store ((hr 38 (by kernel_rfl)).trans rfl) (.ev ((hr 37 (by kernel_rfl)).trans rfl)) rfl (by repeat (first | exact AH.upd_same _ _ _ | exact hH | assumption | refine AH.look_other (by assumption) ?_)) (by first | assumption | exact sz3 | exact sz9 | exact sz5 | exact sz57) (by exact (pcs_at s c i)) sz9 rfl (by decide) (fun h => by first | (cases h; done) | exact ⟨rfl, rfl, rfl⟩) ?_
            refine AL_heap (by first | (simp only [AH.upd_upd]; rfl) | rfl) ?_
            refine AL_nil ?_
            refine qpostL_mk ?_ ?_
            rotate_left
            exact Weak.refl _
            (show SubH (H.put (some bb) 9 cc (pcs s c (i + 1))) _); rw [← pcs_no (by omega) (u8_ne hc2)]; refine SubH.of_eq ?_; exact (AH.upd_upd _ _ _ _).symm
          refine HopsL_norm (by first | (simp only [tput, List.set_cons_zero, List.set_cons_succ]; rfl) | rfl) ?_
          exact HopsL_nil
        refine Q_norm (by first | (simp only [Tfin, tput, anyAt, setAll, List.foldl_cons, List.foldl_nil, List.set_cons_zero, List.set_cons_succ]; rfl) | rfl) ?_
        refine blockQ_n ?_
        refine seqQ_n ?_
        refine AW_region ?_
        refine AL_move rfl ?_
        refine AL_norm (by first | (simp only [tput, anyAt, setAll, List.foldl_cons, List.foldl_nil, List.set_cons_zero, List.set_cons_succ]; rfl) | rfl) ?_
        refine AL_addz rfl rfl (((i + 1 : Nat) : Int)) (by exact inc64 (by omega)) ?_
        refine AL_assign rfl ?_
        refine AL_norm (by first | (simp only [tput, anyAt, setAll, List.foldl_cons, List.foldl_nil, List.set_cons_zero, List.set_cons_succ]; rfl) | rfl) ?_
        refine AL_nil ?_
        refine loopQ_n ((i + 1, bb, cc)) ?_ ?_ ?_ ?_
        · exact ⟨by omega, hI.2⟩
        · (show s.size - (i + 1) < s.size - i; omega)
        · exact SubH.refl _
        · rw [show (pcsL s c (i + 1)).length = (pcsL s c i).length from pcsL_no_len (by omega) (u8_ne hc2)]
          try simp only [tput, anyAt, setAll, List.foldl_cons, List.foldl_nil, List.set_cons_zero, List.set_cons_succ]
          repeat (first | exact Weak.nil | refine Weak.cons ?_ | refine Weak.consAny ?_)
    · try simp only [Bool.or_eq_true, Bool.and_eq_true, Bool.or_eq_false_iff, Bool.and_eq_false_iff, decide_eq_true_eq, decide_eq_false_iff_not, Bool.not_eq_true', Bool.not_eq_false', beq_iff_eq, ne_eq, Decidable.not_not, List.length_map] at hc1
      refine AW_exit ?_
      refine seqQ_x ?_
      refine loopQ_x ?_
      refine blockQ_hit ?_
      refine seqQ_n ?_
      refine AW_seq ?_
      refine AW_region ?_
      refine AL_move rfl ?_
      refine AL_assign rfl ?_
      refine AL_norm (by first | (simp only [tput, anyAt, setAll, List.foldl_cons, List.foldl_nil, List.set_cons_zero, List.set_cons_succ]; rfl) | rfl) ?_
      refine AL_nil ?_
      refine seqQ_n ?_
      refine AW_ret ?_
      refine retQ_1 (H' := H.put (some bb) 9 cc (pcs s c i)) (.inr rfl) rfl (SubH.refl _) ?_
      exact ⟨some bb, cc, hI.2, by rw [← pcs_all (i := i) (by omega), pcs_len], by rw [← pcs_all (i := i) (by omega)], hK⟩

/-- quillwork/quillworkref04.trim -/
theorem quillworkref04_trim_ok (s : ByteArray) (hs : s.size < 2147483648) :
    PF Tryd.prog 49 [strAV s] (strAV (lt (toL s))) := by
  intro H K hK
  refine AC_of Tryd.func49 rfl (rs := [.tmp 2]) rfl Tryd.ntmps49 rfl ?_
  refine AW_norm (by simp only [List.length_cons, List.length_nil, Nat.reduceAdd, Nat.reduceSub, List.replicate, List.cons_append, List.nil_append]; rfl) ?_
  refine AW_seq ?_
  refine AW_region ?_
  refine AL_assign rfl ?_
  refine AL_norm (by first | (simp only [tput, anyAt, setAll, List.foldl_cons, List.foldl_nil, List.set_cons_zero, List.set_cons_succ]; rfl) | rfl) ?_
  refine AL_nil ?_
  refine seqQ_n ?_
  refine AW_seq ?_
  refine AW_block ?_
  refine AW_loops (α := ByteArray) [0, 6, 7, 8, 9, 10, 11, 12, 13, 14, 15] (fun x => [(0, strAV x)]) (fun x => H) (fun x => x.size ≤ s.size ∧ Lib.trimLeftB (toL x) 32 = Lib.trimLeftB (toL s) 32) (fun x => x.size) (s) ?_ ?_ ?_ ?_
  · exact ⟨Nat.le_refl _, rfl⟩
  · repeat (first | exact SubH.refl _ | assumption | refine SubH.new ?_ (by assumption))
  · skip
    try simp only [tput, anyAt, setAll, List.foldl_cons, List.foldl_nil, List.set_cons_zero, List.set_cons_succ]
    repeat (first | exact Weak.nil | refine Weak.cons ?_ | refine Weak.consAny ?_)
  · intro x hI
    refine AW_norm (by first | (simp only [tput, anyAt, setAll, List.foldl_cons, List.foldl_nil, List.set_cons_zero, List.set_cons_succ]; rfl) | rfl) ?_
    refine AW_seq ?_
    refine AW_seq ?_
    refine AW_region ?_
    refine AL_move rfl ?_
    refine AL_len_str un9 rfl ?_
    refine AL_gtr rfl rfl ?_
    refine AL_norm (by first | (simp only [tput, anyAt, setAll, List.foldl_cons, List.foldl_nil, List.set_cons_zero, List.set_cons_succ]; rfl) | rfl) ?_
    refine AL_move rfl ?_
    refine AL_and (j := 3) (n := 3) (c := 9) (t := 12) (r := 13) (v := ?v1) [10, 11, 12] rfl rfl rfl rfl rfl rfl rfl (fun hg1 => ?_) ?_; rotate_left
    · simp only [List.take_succ_cons, List.take_zero, List.map_cons, List.map_nil, strip, Nat.reduceBEq, beq_self_eq_true, Bool.and_self, Bool.true_and, Bool.false_and, cond_true, cond_false]
      try simp only [Bool.or_eq_true, Bool.and_eq_true, Bool.or_eq_false_iff, Bool.and_eq_false_iff, decide_eq_true_eq, decide_eq_false_iff_not, Bool.not_eq_true', Bool.not_eq_false', beq_iff_eq, ne_eq, Decidable.not_not, List.length_map] at hg1
      refine AL_move rfl ?_
      first | refine AL_index_strn un9 rfl rfl ?_ ?_ ?_ | refine AL_index_strb un9 rfl rfl ?_ ?_ ?_
      · omega
      · (show 0 < _; omega)
      refine AL_eql rfl rfl ?_
      refine AL_nil (grpQ_mk ?_)
      try simp only [tput, anyAt, setAll, List.foldl_cons, List.foldl_nil, List.set_cons_zero, List.set_cons_succ]
      repeat (first | exact Weak.nil | refine Weak.cons ?_ | refine Weak.consAny ?_)
    refine AL_norm (by first | (simp only [tput, anyAt, setAll, List.foldl_cons, List.foldl_nil, List.set_cons_zero, List.set_cons_succ]; rfl) | rfl) ?_
    refine AL_norm (by first | (simp only [tput, anyAt, setAll, List.foldl_cons, List.foldl_nil, List.set_cons_zero, List.set_cons_succ]; rfl) | rfl) ?_
    refine AL_nil ?_
    refine seqQ_n ?_
    refine AW_cond rfl (fun hc2 => ?_) (fun hc2 => ?_)
    · try simp only [Bool.or_eq_true, Bool.and_eq_true, Bool.or_eq_false_iff, Bool.and_eq_false_iff, decide_eq_true_eq, decide_eq_false_iff_not, Bool.not_eq_true', Bool.not_eq_false', beq_iff_eq, ne_eq, Decidable.not_not, List.length_map] at hc2
      refine AW_skip ?_
      refine seqQ_n ?_
      refine AW_block ?_
      refine AW_region ?_
      refine AL_move rfl ?_
      refine AL_norm (by first | (simp only [tput, anyAt, setAll, List.foldl_cons, List.foldl_nil, List.set_cons_zero, List.set_cons_succ]; rfl) | rfl) ?_
      first | refine AL_slice_strN (l := 1) un9 rfl rfl ⟨_, rfl⟩ ?_ ?_ ?_ | refine AL_slice_str un9 rfl rfl ⟨_, _, rfl, by omega, rfl⟩ ?_ ?_ ?_
      · omega
      · omega
      refine AL_assign rfl ?_
      refine AL_norm (by first | (simp only [tput, anyAt, setAll, List.foldl_cons, List.foldl_nil, List.set_cons_zero, List.set_cons_succ]; rfl) | rfl) ?_
      refine AL_nil ?_
      refine blockQ_n ?_
      refine loopQ_n (x.extract 1 x.size) ?_ ?_ ?_ ?_
      · exact ⟨by rw [ByteArray.size_extract]; omega, (trl_step (by omega) hc2.2).trans hI.2⟩
      · rw [ByteArray.size_extract]; omega
      · repeat (first | exact SubH.refl _ | assumption | refine SubH.new ?_ (by assumption))
      · skip
        try simp only [tput, anyAt, setAll, List.foldl_cons, List.foldl_nil, List.set_cons_zero, List.set_cons_succ]
        repeat (first | exact Weak.nil | refine Weak.cons ?_ | refine Weak.consAny ?_)
    · try simp only [Bool.or_eq_true, Bool.and_eq_true, Bool.or_eq_false_iff, Bool.and_eq_false_iff, decide_eq_true_eq, decide_eq_false_iff_not, Bool.not_eq_true', Bool.not_eq_false', beq_iff_eq, ne_eq, Decidable.not_not, List.length_map] at hc2; have h1 : ¬ (0 < x.size ∧ ((bAt x 0).toNat : Int) = 32) := (fun h => (hc2.elim (fun e => e (by omega)) (fun e => e h.2)))
      refine AW_exit ?_
      refine seqQ_x ?_
      refine loopQ_x ?_
      refine blockQ_hit ?_
      refine seqQ_n ?_
      refine AW_seq ?_
      refine AW_block ?_
      refine AW_loops (α := ByteArray) [0, 16, 17, 18, 19, 20, 21, 22, 23, 24, 25, 26, 27, 28, 29, 30, 31] (fun y => [(0, strAV y)]) (fun y => H) (fun y => y.size ≤ s.size ∧ Lib.trimRightB (toL y) 32 = Lib.trimRightB (toL x) 32) (fun y => y.size) (x) ?_ ?_ ?_ ?_
      · exact ⟨hI.1, rfl⟩
      · repeat (first | exact SubH.refl _ | assumption | refine SubH.new ?_ (by assumption))
      · skip
        try simp only [tput, anyAt, setAll, List.foldl_cons, List.foldl_nil, List.set_cons_zero, List.set_cons_succ]
        repeat (first | exact Weak.nil | refine Weak.cons ?_ | refine Weak.consAny ?_)
      · intro y hY
        refine AW_norm (by first | (simp only [tput, anyAt, setAll, List.foldl_cons, List.foldl_nil, List.set_cons_zero, List.set_cons_succ]; rfl) | rfl) ?_
        refine AW_seq ?_
        refine AW_seq ?_
        refine AW_region ?_
        refine AL_move rfl ?_
        refine AL_len_str un9 rfl ?_
        refine AL_norm (by first | (simp only [tput, anyAt, setAll, List.foldl_cons, List.foldl_nil, List.set_cons_zero, List.set_cons_succ]; rfl) | rfl) ?_
        refine AL_gtr rfl rfl ?_
        refine AL_move rfl ?_
        refine AL_and (j := 3) (n := 6) (c := 19) (t := 25) (r := 26) (v := ?v3) [20, 21, 22, 23, 24, 25] rfl rfl rfl rfl rfl rfl rfl (fun hg3 => ?_) ?_; rotate_left
        · simp only [List.take_succ_cons, List.take_zero, List.map_cons, List.map_nil, strip, Nat.reduceBEq, beq_self_eq_true, Bool.and_self, Bool.true_and, Bool.false_and, cond_true, cond_false]
          try simp only [Bool.or_eq_true, Bool.and_eq_true, Bool.or_eq_false_iff, Bool.and_eq_false_iff, decide_eq_true_eq, decide_eq_false_iff_not, Bool.not_eq_true', Bool.not_eq_false', beq_iff_eq, ne_eq, Decidable.not_not, List.length_map] at hg3
          refine AL_move rfl ?_
          refine AL_move rfl ?_
          refine AL_norm (by first | (simp only [tput, anyAt, setAll, List.foldl_cons, List.foldl_nil, List.set_cons_zero, List.set_cons_succ]; rfl) | rfl) ?_
          refine AL_len_str un9 rfl ?_
          refine AL_subz rfl rfl (((y.size - 1 : Nat) : Int)) (by exact sub64 (by omega) (by omega)) ?_
          first | refine AL_index_strn un9 rfl rfl ?_ ?_ ?_ | refine AL_index_strb un9 rfl rfl ?_ ?_ ?_
          · omega
          · omega
          refine AL_eql rfl rfl ?_
          refine AL_nil (grpQ_mk ?_)
          try simp only [tput, anyAt, setAll, List.foldl_cons, List.foldl_nil, List.set_cons_zero, List.set_cons_succ]
          repeat (first | exact Weak.nil | refine Weak.cons ?_ | refine Weak.consAny ?_)
        refine AL_norm (by first | (simp only [tput, anyAt, setAll, List.foldl_cons, List.foldl_nil, List.set_cons_zero, List.set_cons_succ]; rfl) | rfl) ?_
        refine AL_norm (by first | (simp only [tput, anyAt, setAll, List.foldl_cons, List.foldl_nil, List.set_cons_zero, List.set_cons_succ]; rfl) | rfl) ?_
        refine AL_nil ?_
        refine seqQ_n ?_
        refine AW_cond rfl (fun hc4 => ?_) (fun hc4 => ?_)
        · try simp only [Bool.or_eq_true, Bool.and_eq_true, Bool.or_eq_false_iff, Bool.and_eq_false_iff, decide_eq_true_eq, decide_eq_false_iff_not, Bool.not_eq_true', Bool.not_eq_false', beq_iff_eq, ne_eq, Decidable.not_not, List.length_map] at hc4
          refine AW_skip ?_
          refine seqQ_n ?_
          refine AW_block ?_
          refine AW_region ?_
          refine AL_move rfl ?_
          refine AL_norm (by first | (simp only [tput, anyAt, setAll, List.foldl_cons, List.foldl_nil, List.set_cons_zero, List.set_cons_succ]; rfl) | rfl) ?_
          refine AL_move rfl ?_
          refine AL_len_str un9 rfl ?_
          refine AL_subz rfl rfl (((y.size - 1 : Nat) : Int)) (by exact sub64 (by omega) (by omega)) ?_
          first | refine AL_slice_strN un9 rfl ⟨_, rfl⟩ rfl ?_ ?_ ?_ | refine AL_slice_str un9 rfl ⟨_, _, rfl, by omega, rfl⟩ rfl ?_ ?_ ?_
          · omega
          · omega
          refine AL_norm (by first | (simp only [tput, anyAt, setAll, List.foldl_cons, List.foldl_nil, List.set_cons_zero, List.set_cons_succ]; rfl) | rfl) ?_
          refine AL_assign rfl ?_
          refine AL_norm (by first | (simp only [tput, anyAt, setAll, List.foldl_cons, List.foldl_nil, List.set_cons_zero, List.set_cons_succ]; rfl) | rfl) ?_
          refine AL_nil ?_
          refine blockQ_n ?_
          refine loopQ_n (y.extract 0 (y.size - 1)) ?_ ?_ ?_ ?_
          · exact ⟨by rw [ByteArray.size_extract]; omega, (trr_step (by omega) hc4.2).trans hY.2⟩
          · rw [ByteArray.size_extract]; omega
          · repeat (first | exact SubH.refl _ | assumption | refine SubH.new ?_ (by assumption))
          · skip
            try simp only [tput, anyAt, setAll, List.foldl_cons, List.foldl_nil, List.set_cons_zero, List.set_cons_succ]
            repeat (first | exact Weak.nil | refine Weak.cons ?_ | refine Weak.consAny ?_)
        · try simp only [Bool.or_eq_true, Bool.and_eq_true, Bool.or_eq_false_iff, Bool.and_eq_false_iff, decide_eq_true_eq, decide_eq_false_iff_not, Bool.not_eq_true', Bool.not_eq_false', beq_iff_eq, ne_eq, Decidable.not_not, List.length_map] at hc4; have h2 : ¬ (0 < y.size ∧ ((bAt y (y.size - 1)).toNat : Int) = 32) := (fun h => (hc4.elim (fun e => e (by omega)) (fun e => e h.2)))
          refine AW_exit ?_
          refine seqQ_x ?_
          refine loopQ_x ?_
          refine blockQ_hit ?_
          refine seqQ_n ?_
          refine AW_seq ?_
          refine AW_region ?_
          refine AL_assign rfl ?_
          refine AL_norm (by first | (simp only [tput, anyAt, setAll, List.foldl_cons, List.foldl_nil, List.set_cons_zero, List.set_cons_succ]; rfl) | rfl) ?_
          refine AL_nil ?_
          refine seqQ_n ?_
          refine AW_seq ?_
          refine AW_seq ?_
          refine AW_region ?_
          refine AL_assign rfl ?_
          refine AL_norm (by first | (simp only [tput, anyAt, setAll, List.foldl_cons, List.foldl_nil, List.set_cons_zero, List.set_cons_succ]; rfl) | rfl) ?_
          refine AL_nil ?_
          refine seqQ_n ?_
          refine AW_block ?_
          refine AW_loops (α := Nat × Option Nat × Nat) [3, 4, 5, 32, 33, 34, 35, 36, 37, 38, 39, 40, 41, 42, 43, 44, 45, 46, 47, 48, 49, 50, 51, 52] (fun z => [(4, .v (.int .i64 (z.1 : Int))), (3, .own z.2.1 z.2.2 z.1)]) (fun z => H.put z.2.1 5 z.2.2 ((lowL ((toL y).take z.1)).map byteAV)) (fun z => z.1 ≤ y.size ∧ Fresh H z.2.1 z.2.2 ((lowL ((toL y).take z.1)).map byteAV)) (fun z => y.size - z.1) ((0, none, 0)) ?_ ?_ ?_ ?_
          · exact ⟨Nat.zero_le _, rfl, rfl⟩
          · exact SubH.refl _
          · skip
            try simp only [tput, anyAt, setAll, List.foldl_cons, List.foldl_nil, List.set_cons_zero, List.set_cons_succ]
            repeat (first | exact Weak.nil | refine Weak.cons ?_ | refine Weak.consAny ?_)
          · rintro ⟨i, A, c⟩ hJ; dsimp only at hJ ⊢
            refine AW_norm (by first | (simp only [tput, anyAt, setAll, List.foldl_cons, List.foldl_nil, List.set_cons_zero, List.set_cons_succ]; rfl) | rfl) ?_
            refine AW_seq ?_
            refine AW_seq ?_
            refine AW_region ?_
            refine AL_move rfl ?_
            refine AL_norm (by first | (simp only [tput, anyAt, setAll, List.foldl_cons, List.foldl_nil, List.set_cons_zero, List.set_cons_succ]; rfl) | rfl) ?_
            refine AL_move rfl ?_
            refine AL_len_str un9 rfl ?_
            refine AL_lss rfl rfl ?_
            refine AL_norm (by first | (simp only [tput, anyAt, setAll, List.foldl_cons, List.foldl_nil, List.set_cons_zero, List.set_cons_succ]; rfl) | rfl) ?_
            refine AL_nil ?_
            refine seqQ_n ?_
            refine AW_cond rfl (fun hc5 => ?_) (fun hc5 => ?_)
            · try simp only [Bool.or_eq_true, Bool.and_eq_true, Bool.or_eq_false_iff, Bool.and_eq_false_iff, decide_eq_true_eq, decide_eq_false_iff_not, Bool.not_eq_true', Bool.not_eq_false', beq_iff_eq, ne_eq, Decidable.not_not, List.length_map] at hc5
              refine AW_skip ?_
              refine seqQ_n ?_
              refine AW_seq ?_
              refine AW_block ?_
              refine AW_seq ?_
              refine AW_region ?_
              refine AL_move rfl ?_
              refine AL_norm (by first | (simp only [tput, anyAt, setAll, List.foldl_cons, List.foldl_nil, List.set_cons_zero, List.set_cons_succ]; rfl) | rfl) ?_
              refine AL_move rfl ?_
              first | refine AL_index_strn un9 rfl rfl ?_ ?_ ?_ | refine AL_index_strb un9 rfl rfl ?_ ?_ ?_
              · omega
              · omega
              refine AL_assign rfl ?_
              refine AL_norm (by first | (simp only [tput, anyAt, setAll, List.foldl_cons, List.foldl_nil, List.set_cons_zero, List.set_cons_succ]; rfl) | rfl) ?_
              refine AL_nil ?_
              refine seqQ_n ?_
              refine AW_seq ?_
              refine AW_seq ?_
              refine AW_region ?_
              refine AL_move rfl ?_
              refine AL_norm (by first | (simp only [tput, anyAt, setAll, List.foldl_cons, List.foldl_nil, List.set_cons_zero, List.set_cons_succ]; rfl) | rfl) ?_
              refine AL_geq rfl rfl ?_
              refine AL_move rfl ?_
              refine AL_and (j := 2) (n := 2) (c := 43) (t := 45) (r := 46) (v := ?v6) [44, 45] rfl rfl rfl rfl rfl rfl rfl (fun hg6 => ?_) ?_; rotate_left
              · simp only [List.take_succ_cons, List.take_zero, List.map_cons, List.map_nil, strip, Nat.reduceBEq, beq_self_eq_true, Bool.and_self, Bool.true_and, Bool.false_and, cond_true, cond_false]
                try simp only [Bool.or_eq_true, Bool.and_eq_true, Bool.or_eq_false_iff, Bool.and_eq_false_iff, decide_eq_true_eq, decide_eq_false_iff_not, Bool.not_eq_true', Bool.not_eq_false', beq_iff_eq, ne_eq, Decidable.not_not, List.length_map] at hg6
                refine AL_move rfl ?_
                refine AL_leq rfl rfl ?_
                refine AL_nil (grpQ_mk ?_)
                try simp only [tput, anyAt, setAll, List.foldl_cons, List.foldl_nil, List.set_cons_zero, List.set_cons_succ]
                repeat (first | exact Weak.nil | refine Weak.cons ?_ | refine Weak.consAny ?_)
              refine AL_norm (by first | (simp only [tput, anyAt, setAll, List.foldl_cons, List.foldl_nil, List.set_cons_zero, List.set_cons_succ]; rfl) | rfl) ?_
              refine AL_norm (by first | (simp only [tput, anyAt, setAll, List.foldl_cons, List.foldl_nil, List.set_cons_zero, List.set_cons_succ]; rfl) | rfl) ?_
              refine AL_nil ?_
              refine seqQ_n ?_
              refine AW_cond rfl (fun hc7 => ?_) (fun hc7 => ?_)
              · try simp only [Bool.or_eq_true, Bool.and_eq_true, Bool.or_eq_false_iff, Bool.and_eq_false_iff, decide_eq_true_eq, decide_eq_false_iff_not, Bool.not_eq_true', Bool.not_eq_false', beq_iff_eq, ne_eq, Decidable.not_not, List.length_map] at hc7
                refine AW_region ?_
                refine AL_move rfl ?_
                refine AL_norm (by first | (simp only [tput, anyAt, setAll, List.foldl_cons, List.foldl_nil, List.set_cons_zero, List.set_cons_succ]; rfl) | rfl) ?_
                refine AL_addz rfl rfl (((lowB (bAt y i)).toNat : Int)) (by rw [lowB_up hc7]; exact u8_in _ (by omega)) ?_
                refine AL_assign rfl ?_
                refine AL_norm (by first | (simp only [tput, anyAt, setAll, List.foldl_cons, List.foldl_nil, List.set_cons_zero, List.set_cons_succ]; rfl) | rfl) ?_
                refine AL_nil ?_
                refine seqQ_n ?_
                refine AW_region ?_
                refine AL_move rfl ?_
                refine AL_move rfl ?_
                refine AL_norm (by first | (simp only [tput, anyAt, setAll, List.foldl_cons, List.foldl_nil, List.set_cons_zero, List.set_cons_succ]; rfl) | rfl) ?_
                refine AL_append1p un53 inf5 rfl (by decide) (by decide) (by decide) rfl rfl (fun h => by cases h) rfl rfl rfl hJ.2 (by rw [List.length_map, lowL_len, List.length_take, toL_len]; omega) (by omega) ?_
                intro ba ca hba
                refine AL_norm (by first | (simp only [tput, anyAt, setAll, List.foldl_cons, List.foldl_nil, List.set_cons_zero, List.set_cons_succ]; rfl) | rfl) ?_
                refine AL_assign rfl ?_
                refine AL_norm (by first | (simp only [tput, anyAt, setAll, List.foldl_cons, List.foldl_nil, List.set_cons_zero, List.set_cons_succ]; rfl) | rfl) ?_
                refine AL_nil ?_
                refine blockQ_n ?_
                refine seqQ_n ?_
                refine AW_region ?_
                refine AL_move rfl ?_
                refine AL_addz rfl rfl (((i + 1 : Nat) : Int)) (by exact inc64 (by omega)) ?_
                refine AL_assign rfl ?_
                refine AL_norm (by first | (simp only [tput, anyAt, setAll, List.foldl_cons, List.foldl_nil, List.set_cons_zero, List.set_cons_succ]; rfl) | rfl) ?_
                refine AL_nil ?_
                refine loopQ_n ((i + 1, some ba, ca)) ?_ ?_ ?_ ?_
                · exact ⟨by omega, hba⟩
                · (show y.size - (i + 1) < y.size - i; omega)
                · (show SubH (H.put (some ba) 5 ca ((lowL ((toL y).take (i + 1))).map byteAV)) _); rw [← low_nextB (by rw [toL_len]; omega)]; exact SubH.refl _
                · skip
                  try simp only [tput, anyAt, setAll, List.foldl_cons, List.foldl_nil, List.set_cons_zero, List.set_cons_succ]
                  repeat (first | exact Weak.nil | refine Weak.cons ?_ | refine Weak.consAny ?_)
              · try simp only [Bool.or_eq_true, Bool.and_eq_true, Bool.or_eq_false_iff, Bool.and_eq_false_iff, decide_eq_true_eq, decide_eq_false_iff_not, Bool.not_eq_true', Bool.not_eq_false', beq_iff_eq, ne_eq, Decidable.not_not, List.length_map] at hc7
                refine AW_skip ?_
                refine seqQ_n ?_
                refine AW_region ?_
                refine AL_move rfl ?_
                refine AL_norm (by first | (simp only [tput, anyAt, setAll, List.foldl_cons, List.foldl_nil, List.set_cons_zero, List.set_cons_succ]; rfl) | rfl) ?_
                refine AL_move rfl ?_
                refine AL_append1p un53 inf5 rfl (by decide) (by decide) (by decide) rfl rfl (fun h => by cases h) rfl rfl rfl hJ.2 (by rw [List.length_map, lowL_len, List.length_take, toL_len]; omega) (by omega) ?_
                intro ba ca hba
                refine AL_norm (by first | (simp only [tput, anyAt, setAll, List.foldl_cons, List.foldl_nil, List.set_cons_zero, List.set_cons_succ]; rfl) | rfl) ?_
                refine AL_assign rfl ?_
                refine AL_norm (by first | (simp only [tput, anyAt, setAll, List.foldl_cons, List.foldl_nil, List.set_cons_zero, List.set_cons_succ]; rfl) | rfl) ?_
                refine AL_nil ?_
                refine blockQ_n ?_
                refine seqQ_n ?_
                refine AW_region ?_
                refine AL_move rfl ?_
                refine AL_addz rfl rfl (((i + 1 : Nat) : Int)) (by exact inc64 (by omega)) ?_
                refine AL_assign rfl ?_
                refine AL_norm (by first | (simp only [tput, anyAt, setAll, List.foldl_cons, List.foldl_nil, List.set_cons_zero, List.set_cons_succ]; rfl) | rfl) ?_
                refine AL_nil ?_
                refine loopQ_n ((i + 1, some ba, ca)) ?_ ?_ ?_ ?_
                · exact ⟨by omega, hba⟩
                · (show y.size - (i + 1) < y.size - i; omega)
                · (show SubH (H.put (some ba) 5 ca ((lowL ((toL y).take (i + 1))).map byteAV)) _); rw [← low_nextB (by rw [toL_len]; omega), lowB_no hc7]; exact SubH.refl _
                · skip
                  try simp only [tput, anyAt, setAll, List.foldl_cons, List.foldl_nil, List.set_cons_zero, List.set_cons_succ]
                  repeat (first | exact Weak.nil | refine Weak.cons ?_ | refine Weak.consAny ?_)
            · try simp only [Bool.or_eq_true, Bool.and_eq_true, Bool.or_eq_false_iff, Bool.and_eq_false_iff, decide_eq_true_eq, decide_eq_false_iff_not, Bool.not_eq_true', Bool.not_eq_false', beq_iff_eq, ne_eq, Decidable.not_not, List.length_map] at hc5
              refine AW_exit ?_
              refine seqQ_x ?_
              refine loopQ_x ?_
              refine blockQ_hit ?_
              refine seqQ_n ?_
              refine AW_seq ?_
              refine AW_region ?_
              refine AL_move rfl ?_
              refine AL_norm (by first | (simp only [tput, anyAt, setAll, List.foldl_cons, List.foldl_nil, List.set_cons_zero, List.set_cons_succ]; rfl) | rfl) ?_
              refine AL_convBytes un53 un5 un9 sz5 rfl hJ.2.own (by rw [lowL_len, List.length_take, toL_len]; omega) ?_
              refine AL_assign rfl ?_
              refine AL_norm (by first | (simp only [tput, anyAt, setAll, List.foldl_cons, List.foldl_nil, List.set_cons_zero, List.set_cons_succ]; rfl) | rfl) ?_
              refine AL_nil ?_
              refine seqQ_n ?_
              refine AW_ret ?_
              refine retQ_1 (H' := H) (.inr rfl) rfl hJ.2.subH ?_
              refine K_eq ?_ hK
              have e := trim_all (s := s) (x := x) (y := y) h1 hI.2 h2 hY.2; unfold strAV lt; rw [← e, show (toL y).take i = toL y from List.take_of_length_le (by rw [toL_len]; omega)]; rfl

/-- quillwork/quillworkref04.says -/
theorem quillworkref04_says_ok (n v : ByteArray) (hs : v.size < 2147483648) :
    PF Tryd.prog 48 [strAV n, strAV v] (tripAV (sayR n v)) := by
  have hsl := splitS_len v 32
  intro H K hK
  refine AC_of Tryd.func48 rfl (rs := [.tmp 4, .tmp 5, .tmp 6]) rfl Tryd.ntmps48 rfl ?_
  refine AW_norm (by simp only [List.length_cons, List.length_nil, Nat.reduceAdd, Nat.reduceSub, List.replicate, List.cons_append, List.nil_append]; rfl) ?_
  refine AW_seq ?_
  refine AW_region ?_
  refine AL_assign rfl ?_
  refine AL_assign rfl ?_
  refine AL_assign rfl ?_
  refine AL_norm (by first | (simp only [tput, anyAt, setAll, List.foldl_cons, List.foldl_nil, List.set_cons_zero, List.set_cons_succ]; rfl) | rfl) ?_
  refine AL_nil ?_
  refine seqQ_n ?_
  refine AW_seq ?_
  refine AW_seq ?_
  refine AW_region ?_
  refine AL_move rfl ?_
  refine AL_norm (by first | (simp only [tput, anyAt, setAll, List.foldl_cons, List.foldl_nil, List.set_cons_zero, List.set_cons_succ]; rfl) | rfl) ?_
  refine AL_nil ?_
  refine seqQ_n ?_
  refine AW_block ?_
  refine AW_seq ?_
  refine AW_region ?_
  refine AL_seql rfl rfl ?_
  refine AL_norm (by first | (simp only [tput, anyAt, setAll, List.foldl_cons, List.foldl_nil, List.set_cons_zero, List.set_cons_succ]; rfl) | rfl) ?_
  refine AL_assign rfl ?_
  refine AL_norm (by first | (simp only [tput, anyAt, setAll, List.foldl_cons, List.foldl_nil, List.set_cons_zero, List.set_cons_succ]; rfl) | rfl) ?_
  refine AL_nil ?_
  refine seqQ_n ?_
  refine AW_cond rfl (fun hc1 => ?_) (fun hc1 => ?_)
  · try simp only [Bool.or_eq_true, Bool.and_eq_true, Bool.or_eq_false_iff, Bool.and_eq_false_iff, decide_eq_true_eq, decide_eq_false_iff_not, Bool.not_eq_true', Bool.not_eq_false', beq_iff_eq, ne_eq, Decidable.not_not, List.length_map] at hc1
    refine AW_seq ?_
    refine AW_seq ?_
    refine AW_region ?_
    refine AL_move rfl ?_
    refine AL_seql rfl rfl ?_
    refine AL_move rfl ?_
    refine AL_norm (by first | (simp only [tput, anyAt, setAll, List.foldl_cons, List.foldl_nil, List.set_cons_zero, List.set_cons_succ]; rfl) | rfl) ?_
    refine AL_or (j := 2) (n := 2) (c := 15) (t := 17) (r := 18) (v := ?v2) [16, 17] rfl rfl rfl rfl rfl rfl rfl (fun hg2 => ?_) ?_; rotate_left
    · simp only [List.take_succ_cons, List.take_zero, List.map_cons, List.map_nil, strip, Nat.reduceBEq, beq_self_eq_true, Bool.and_self, Bool.true_and, Bool.false_and, cond_true, cond_false]
      try simp only [Bool.or_eq_true, Bool.and_eq_true, Bool.or_eq_false_iff, Bool.and_eq_false_iff, decide_eq_true_eq, decide_eq_false_iff_not, Bool.not_eq_true', Bool.not_eq_false', beq_iff_eq, ne_eq, Decidable.not_not, List.length_map] at hg2
      refine AL_move rfl ?_
      refine AL_seql rfl rfl ?_
      refine AL_nil (grpQ_mk ?_)
      try simp only [tput, anyAt, setAll, List.foldl_cons, List.foldl_nil, List.set_cons_zero, List.set_cons_succ]
      repeat (first | exact Weak.nil | refine Weak.cons ?_ | refine Weak.consAny ?_)
    refine AL_norm (by first | (simp only [tput, anyAt, setAll, List.foldl_cons, List.foldl_nil, List.set_cons_zero, List.set_cons_succ]; rfl) | rfl) ?_
    refine AL_norm (by first | (simp only [tput, anyAt, setAll, List.foldl_cons, List.foldl_nil, List.set_cons_zero, List.set_cons_succ]; rfl) | rfl) ?_
    refine AL_nil ?_
    refine seqQ_n ?_
    refine AW_cond rfl (fun hc3 => ?_) (fun hc3 => ?_)
    · try simp only [Bool.or_eq_true, Bool.and_eq_true, Bool.or_eq_false_iff, Bool.and_eq_false_iff, decide_eq_true_eq, decide_eq_false_iff_not, Bool.not_eq_true', Bool.not_eq_false', beq_iff_eq, ne_eq, Decidable.not_not, List.length_map] at hc3
      refine AW_seq ?_
      refine AW_region ?_
      refine AL_assign rfl ?_
      refine AL_assign rfl ?_
      refine AL_norm (by first | (simp only [tput, anyAt, setAll, List.foldl_cons, List.foldl_nil, List.set_cons_zero, List.set_cons_succ]; rfl) | rfl) ?_
      refine AL_assign rfl ?_
      refine AL_norm (by first | (simp only [tput, anyAt, setAll, List.foldl_cons, List.foldl_nil, List.set_cons_zero, List.set_cons_succ]; rfl) | rfl) ?_
      refine AL_nil ?_
      refine seqQ_n ?_
      refine AW_ret ?_
      refine seqQ_r ?_
      refine blockQ_r ?_
      refine seqQ_r ?_
      refine retQ_3 (H' := H) (.inr rfl) rfl rfl rfl (by repeat (first | exact SubH.refl _ | refine SubH.upd ?_ (by assumption))) ?_
      refine K_eq ?_ hK
      exact trip_mk (a := 1) (b := 0) (c := true) (by rw [sayR, if_pos hc1, if_pos hc3])
    · try simp only [Bool.or_eq_true, Bool.and_eq_true, Bool.or_eq_false_iff, Bool.and_eq_false_iff, decide_eq_true_eq, decide_eq_false_iff_not, Bool.not_eq_true', Bool.not_eq_false', beq_iff_eq, ne_eq, Decidable.not_not, List.length_map] at hc3
      refine AW_skip ?_
      refine seqQ_n ?_
      refine AW_seq ?_
      refine AW_region ?_
      refine AL_move rfl ?_
      refine AL_seql rfl rfl ?_
      refine AL_move rfl ?_
      refine AL_norm (by first | (simp only [tput, anyAt, setAll, List.foldl_cons, List.foldl_nil, List.set_cons_zero, List.set_cons_succ]; rfl) | rfl) ?_
      refine AL_or (j := 2) (n := 2) (c := 21) (t := 23) (r := 24) (v := ?v4) [22, 23] rfl rfl rfl rfl rfl rfl rfl (fun hg4 => ?_) ?_; rotate_left
      · simp only [List.take_succ_cons, List.take_zero, List.map_cons, List.map_nil, strip, Nat.reduceBEq, beq_self_eq_true, Bool.and_self, Bool.true_and, Bool.false_and, cond_true, cond_false]
        try simp only [Bool.or_eq_true, Bool.and_eq_true, Bool.or_eq_false_iff, Bool.and_eq_false_iff, decide_eq_true_eq, decide_eq_false_iff_not, Bool.not_eq_true', Bool.not_eq_false', beq_iff_eq, ne_eq, Decidable.not_not, List.length_map] at hg4
        refine AL_move rfl ?_
        refine AL_seql rfl rfl ?_
        refine AL_nil (grpQ_mk ?_)
        try simp only [tput, anyAt, setAll, List.foldl_cons, List.foldl_nil, List.set_cons_zero, List.set_cons_succ]
        repeat (first | exact Weak.nil | refine Weak.cons ?_ | refine Weak.consAny ?_)
      refine AL_norm (by first | (simp only [tput, anyAt, setAll, List.foldl_cons, List.foldl_nil, List.set_cons_zero, List.set_cons_succ]; rfl) | rfl) ?_
      refine AL_assign rfl ?_
      refine AL_assign rfl ?_
      refine AL_norm (by first | (simp only [tput, anyAt, setAll, List.foldl_cons, List.foldl_nil, List.set_cons_zero, List.set_cons_succ]; rfl) | rfl) ?_
      refine AL_assign rfl ?_
      refine AL_norm (by first | (simp only [tput, anyAt, setAll, List.foldl_cons, List.foldl_nil, List.set_cons_zero, List.set_cons_succ]; rfl) | rfl) ?_
      refine AL_nil ?_
      refine seqQ_n ?_
      refine AW_ret ?_
      refine blockQ_r ?_
      refine seqQ_r ?_
      refine retQ_3 (H' := H) (.inr rfl) rfl rfl rfl (by repeat (first | exact SubH.refl _ | refine SubH.upd ?_ (by assumption))) ?_
      refine K_eq ?_ hK
      exact trip_mk (a := 0) (b := 1) (c := _) (by rw [sayR, if_pos hc1, if_neg (fun h => h.elim hc3.1 hc3.2)]; simp)
  · try simp only [Bool.or_eq_true, Bool.and_eq_true, Bool.or_eq_false_iff, Bool.and_eq_false_iff, decide_eq_true_eq, decide_eq_false_iff_not, Bool.not_eq_true', Bool.not_eq_false', beq_iff_eq, ne_eq, Decidable.not_not, List.length_map] at hc1
    refine AW_seq ?_
    refine AW_region ?_
    refine AL_seql rfl rfl ?_
    refine AL_assign rfl ?_
    refine AL_norm (by first | (simp only [tput, anyAt, setAll, List.foldl_cons, List.foldl_nil, List.set_cons_zero, List.set_cons_succ]; rfl) | rfl) ?_
    refine AL_nil ?_
    refine seqQ_n ?_
    refine AW_cond rfl (fun hc5 => ?_) (fun hc5 => ?_)
    · try simp only [Bool.or_eq_true, Bool.and_eq_true, Bool.or_eq_false_iff, Bool.and_eq_false_iff, decide_eq_true_eq, decide_eq_false_iff_not, Bool.not_eq_true', Bool.not_eq_false', beq_iff_eq, ne_eq, Decidable.not_not, List.length_map] at hc5
      refine AW_seq ?_
      refine AW_seq ?_
      refine AW_region ?_
      refine AL_move rfl ?_
      refine AL_norm (by first | (simp only [tput, anyAt, setAll, List.foldl_cons, List.foldl_nil, List.set_cons_zero, List.set_cons_succ]; rfl) | rfl) ?_
      refine AL_seql rfl rfl ?_
      refine AL_norm (by first | (simp only [tput, anyAt, setAll, List.foldl_cons, List.foldl_nil, List.set_cons_zero, List.set_cons_succ]; rfl) | rfl) ?_
      refine AL_nil ?_
      refine seqQ_n ?_
      refine AW_cond rfl (fun hc6 => ?_) (fun hc6 => ?_)
      · try simp only [Bool.or_eq_true, Bool.and_eq_true, Bool.or_eq_false_iff, Bool.and_eq_false_iff, decide_eq_true_eq, decide_eq_false_iff_not, Bool.not_eq_true', Bool.not_eq_false', beq_iff_eq, ne_eq, Decidable.not_not, List.length_map] at hc6
        refine AW_seq ?_
        refine AW_region ?_
        refine AL_assign rfl ?_
        refine AL_assign rfl ?_
        refine AL_assign rfl ?_
        refine AL_norm (by first | (simp only [tput, anyAt, setAll, List.foldl_cons, List.foldl_nil, List.set_cons_zero, List.set_cons_succ]; rfl) | rfl) ?_
        refine AL_nil ?_
        refine seqQ_n ?_
        refine AW_ret ?_
        refine seqQ_r ?_
        refine blockQ_r ?_
        refine seqQ_r ?_
        refine retQ_3 (H' := H) (.inr rfl) rfl rfl rfl (by repeat (first | exact SubH.refl _ | refine SubH.upd ?_ (by assumption))) ?_
        refine K_eq ?_ hK
        exact trip_mk (a := 2) (b := 0) (c := true) (by rw [sayR, if_neg hc1, if_pos hc5, if_pos hc6])
      · try simp only [Bool.or_eq_true, Bool.and_eq_true, Bool.or_eq_false_iff, Bool.and_eq_false_iff, decide_eq_true_eq, decide_eq_false_iff_not, Bool.not_eq_true', Bool.not_eq_false', beq_iff_eq, ne_eq, Decidable.not_not, List.length_map] at hc6
        refine AW_skip ?_
        refine seqQ_n ?_
        refine AW_seq ?_
        refine AW_region ?_
        refine AL_move rfl ?_
        refine AL_norm (by first | (simp only [tput, anyAt, setAll, List.foldl_cons, List.foldl_nil, List.set_cons_zero, List.set_cons_succ]; rfl) | rfl) ?_
        refine AL_seql rfl rfl ?_
        refine AL_assign rfl ?_
        refine AL_assign rfl ?_
        refine AL_assign rfl ?_
        refine AL_norm (by first | (simp only [tput, anyAt, setAll, List.foldl_cons, List.foldl_nil, List.set_cons_zero, List.set_cons_succ]; rfl) | rfl) ?_
        refine AL_nil ?_
        refine seqQ_n ?_
        refine AW_ret ?_
        refine blockQ_r ?_
        refine seqQ_r ?_
        refine retQ_3 (H' := H) (.inr rfl) rfl rfl rfl (by repeat (first | exact SubH.refl _ | refine SubH.upd ?_ (by assumption))) ?_
        refine K_eq ?_ hK
        exact trip_mk (a := 0) (b := 2) (c := _) (by rw [sayR, if_neg hc1, if_pos hc5, if_neg hc6])
    · try simp only [Bool.or_eq_true, Bool.and_eq_true, Bool.or_eq_false_iff, Bool.and_eq_false_iff, decide_eq_true_eq, decide_eq_false_iff_not, Bool.not_eq_true', Bool.not_eq_false', beq_iff_eq, ne_eq, Decidable.not_not, List.length_map] at hc5
      refine AW_seq ?_
      refine AW_region ?_
      refine AL_seql rfl rfl ?_
      refine AL_norm (by first | (simp only [tput, anyAt, setAll, List.foldl_cons, List.foldl_nil, List.set_cons_zero, List.set_cons_succ]; rfl) | rfl) ?_
      refine AL_assign rfl ?_
      refine AL_norm (by first | (simp only [tput, anyAt, setAll, List.foldl_cons, List.foldl_nil, List.set_cons_zero, List.set_cons_succ]; rfl) | rfl) ?_
      refine AL_nil ?_
      refine seqQ_n ?_
      refine AW_cond rfl (fun hc7 => ?_) (fun hc7 => ?_)
      · try simp only [Bool.or_eq_true, Bool.and_eq_true, Bool.or_eq_false_iff, Bool.and_eq_false_iff, decide_eq_true_eq, decide_eq_false_iff_not, Bool.not_eq_true', Bool.not_eq_false', beq_iff_eq, ne_eq, Decidable.not_not, List.length_map] at hc7
        refine AW_seq ?_
        refine AW_seq ?_
        refine AW_region ?_
        refine AL_move rfl ?_
        refine AL_seql rfl rfl ?_
        refine AL_norm (by first | (simp only [tput, anyAt, setAll, List.foldl_cons, List.foldl_nil, List.set_cons_zero, List.set_cons_succ]; rfl) | rfl) ?_
        refine AL_nil ?_
        refine seqQ_n ?_
        refine AW_cond rfl (fun hc8 => ?_) (fun hc8 => ?_)
        · try simp only [Bool.or_eq_true, Bool.and_eq_true, Bool.or_eq_false_iff, Bool.and_eq_false_iff, decide_eq_true_eq, decide_eq_false_iff_not, Bool.not_eq_true', Bool.not_eq_false', beq_iff_eq, ne_eq, Decidable.not_not, List.length_map] at hc8
          refine AW_seq ?_
          refine AW_region ?_
          refine AL_assign rfl ?_
          refine AL_norm (by first | (simp only [tput, anyAt, setAll, List.foldl_cons, List.foldl_nil, List.set_cons_zero, List.set_cons_succ]; rfl) | rfl) ?_
          refine AL_assign rfl ?_
          refine AL_assign rfl ?_
          refine AL_norm (by first | (simp only [tput, anyAt, setAll, List.foldl_cons, List.foldl_nil, List.set_cons_zero, List.set_cons_succ]; rfl) | rfl) ?_
          refine AL_nil ?_
          refine seqQ_n ?_
          refine AW_ret ?_
          refine seqQ_r ?_
          refine blockQ_r ?_
          refine seqQ_r ?_
          refine retQ_3 (H' := H) (.inr rfl) rfl rfl rfl (by repeat (first | exact SubH.refl _ | refine SubH.upd ?_ (by assumption))) ?_
          refine K_eq ?_ hK
          exact trip_mk (a := 0) (b := 12) (c := true) (by rw [sayR, if_neg hc1, if_neg hc5, if_pos hc7, if_pos hc8])
        · try simp only [Bool.or_eq_true, Bool.and_eq_true, Bool.or_eq_false_iff, Bool.and_eq_false_iff, decide_eq_true_eq, decide_eq_false_iff_not, Bool.not_eq_true', Bool.not_eq_false', beq_iff_eq, ne_eq, Decidable.not_not, List.length_map] at hc8
          refine AW_skip ?_
          refine seqQ_n ?_
          refine AW_seq ?_
          refine AW_region ?_
          refine AL_move rfl ?_
          refine AL_callp en47 (.cons (.ev rfl) (.cons (.ev rfl) (.nil))) (quillworkref04_split_ok v 32 hs) ?_
          refine AL_norm (by first | (simp only [tput, anyAt, setAll, List.foldl_cons, List.foldl_nil, List.set_cons_zero, List.set_cons_succ]; rfl) | rfl) ?_
          refine AL_assign rfl ?_
          refine AL_norm (by first | (simp only [tput, anyAt, setAll, List.foldl_cons, List.foldl_nil, List.set_cons_zero, List.set_cons_succ]; rfl) | rfl) ?_
          refine AL_nil ?_
          refine seqQ_n ?_
          refine AW_seq ?_
          refine AW_region ?_
          refine AL_assign rfl ?_
          refine AL_norm (by first | (simp only [tput, anyAt, setAll, List.foldl_cons, List.foldl_nil, List.set_cons_zero, List.set_cons_succ]; rfl) | rfl) ?_
          refine AL_nil ?_
          refine seqQ_n ?_
          refine AW_seq ?_
          refine AW_seq ?_
          refine AW_region ?_
          refine AL_assign rfl ?_
          refine AL_norm (by first | (simp only [tput, anyAt, setAll, List.foldl_cons, List.foldl_nil, List.set_cons_zero, List.set_cons_succ]; rfl) | rfl) ?_
          refine AL_nil ?_
          refine seqQ_n ?_
          refine AW_block ?_
          refine AW_loops (α := Nat × B4) [4, 5, 6, 8, 9, 37, 38, 39, 40, 41, 42, 43, 44, 45, 46, 47, 48, 49, 50, 51, 52, 53, 54, 55, 56, 57, 58, 59, 60, 61] (fun z => [(9, .v (.int .i64 (z.1 : Int))), (8, bAV z.2)]) (fun z => H) (fun z => z.1 ≤ (splitS v 32).length ∧ wordsR ((splitS v 32).drop z.1) z.2 = wordsR (splitS v 32) 0) (fun z => (splitS v 32).length - z.1) ((0, 0)) ?_ ?_ ?_ ?_
          · exact ⟨Nat.zero_le _, rfl⟩
          · repeat (first | exact SubH.refl _ | assumption | refine SubH.new ?_ (by assumption))
          · skip
            try simp only [tput, anyAt, setAll, List.foldl_cons, List.foldl_nil, List.set_cons_zero, List.set_cons_succ]
            repeat (first | exact Weak.nil | refine Weak.cons ?_ | refine Weak.consAny ?_)
          · rintro ⟨i, b⟩ hI; dsimp only at hI ⊢
            refine AW_norm (by first | (simp only [tput, anyAt, setAll, List.foldl_cons, List.foldl_nil, List.set_cons_zero, List.set_cons_succ]; rfl) | rfl) ?_
            refine AW_seq ?_
            refine AW_seq ?_
            refine AW_region ?_
            refine AL_move rfl ?_
            refine AL_norm (by first | (simp only [tput, anyAt, setAll, List.foldl_cons, List.foldl_nil, List.set_cons_zero, List.set_cons_succ]; rfl) | rfl) ?_
            refine AL_move rfl ?_
            first | refine AL_len_sl un48 rfl ?_ | refine AL_len_own un48 rfl ?_
            refine AL_lss rfl rfl ?_
            refine AL_norm (by first | (simp only [tput, anyAt, setAll, List.foldl_cons, List.foldl_nil, List.set_cons_zero, List.set_cons_succ]; rfl) | rfl) ?_
            refine AL_nil ?_
            refine seqQ_n ?_
            refine AW_cond rfl (fun hc9 => ?_) (fun hc9 => ?_)
            · try simp only [Bool.or_eq_true, Bool.and_eq_true, Bool.or_eq_false_iff, Bool.and_eq_false_iff, decide_eq_true_eq, decide_eq_false_iff_not, Bool.not_eq_true', Bool.not_eq_false', beq_iff_eq, ne_eq, Decidable.not_not, List.length_map] at hc9
              refine AW_skip ?_
              refine seqQ_n ?_
              refine AW_seq ?_
              refine AW_block ?_
              refine AW_seq ?_
              refine AW_region ?_
              refine AL_move rfl ?_
              refine AL_norm (by first | (simp only [tput, anyAt, setAll, List.foldl_cons, List.foldl_nil, List.set_cons_zero, List.set_cons_succ]; rfl) | rfl) ?_
              refine AL_move rfl ?_
              first | refine AL_indexAddr_sl (y := strAV ((splitS v 32).getD i ⟨#[]⟩)) un48 sz9 (by decide) rfl rfl ?_ ?_ ?_ ?_ | refine AL_indexAddr_own un48 sz9 rfl rfl ?_ ?_ ?_
              · omega
              · simp only [List.length_map]; omega
              · exact map_get strAV (i := i) ⟨#[]⟩ (by omega)
              first | refine AL_load_rp sz9 rfl ag9 ?_ | refine AL_loadw sz9 rfl (by repeat (first | exact AH.upd_same _ _ _ | exact hH | assumption | refine AH.look_other (by assumption) ?_)) (by exact ag9) (by exact rfl) ?_ | refine AL_load_pt ag9 sz9 (by decide) rfl (by repeat (first | exact AH.upd_same _ _ _ | exact hH | assumption | refine AH.look_other (by assumption) ?_)) (by first | assumption | exact sz3 | exact sz9 | exact sz5 | exact sz57) (by exact rfl) (by exact rfl) (by exact rfl) ?_
              refine AL_seql rfl rfl ?_
              refine AL_norm (by first | (simp only [tput, anyAt, setAll, List.foldl_cons, List.foldl_nil, List.set_cons_zero, List.set_cons_succ]; rfl) | rfl) ?_
              refine AL_nil ?_
              refine seqQ_n ?_
              refine AW_cond rfl (fun hc10 => ?_) (fun hc10 => ?_)
              · try simp only [Bool.or_eq_true, Bool.and_eq_true, Bool.or_eq_false_iff, Bool.and_eq_false_iff, decide_eq_true_eq, decide_eq_false_iff_not, Bool.not_eq_true', Bool.not_eq_false', beq_iff_eq, ne_eq, Decidable.not_not, List.length_map] at hc10
                refine AW_region ?_
                refine AL_move rfl ?_
                refine AL_norm (by first | (simp only [tput, anyAt, setAll, List.foldl_cons, List.foldl_nil, List.set_cons_zero, List.set_cons_succ]; rfl) | rfl) ?_
                refine AL_bitsz (((b ||| 4).toNat : Int)) rfl rfl (by decide) (b4_or b 4) ?_
                refine AL_assign rfl ?_
                refine AL_norm (by first | (simp only [tput, anyAt, setAll, List.foldl_cons, List.foldl_nil, List.set_cons_zero, List.set_cons_succ]; rfl) | rfl) ?_
                refine AL_nil ?_
                refine blockQ_n ?_
                refine seqQ_n ?_
                refine AW_region ?_
                refine AL_move rfl ?_
                refine AL_addz rfl rfl (((i + 1 : Nat) : Int)) (by exact inc64 (by omega)) ?_
                refine AL_norm (by first | (simp only [tput, anyAt, setAll, List.foldl_cons, List.foldl_nil, List.set_cons_zero, List.set_cons_succ]; rfl) | rfl) ?_
                refine AL_assign rfl ?_
                refine AL_norm (by first | (simp only [tput, anyAt, setAll, List.foldl_cons, List.foldl_nil, List.set_cons_zero, List.set_cons_succ]; rfl) | rfl) ?_
                refine AL_nil ?_
                refine loopQ_n ((i + 1, b ||| 4)) ?_ ?_ ?_ ?_
                · exact ⟨by omega, (wR_und (by omega) hc10).trans hI.2⟩
                · (show (splitS v 32).length - (i + 1) < (splitS v 32).length - i; omega)
                · repeat (first | exact SubH.refl _ | assumption | refine SubH.new ?_ (by assumption))
                · skip
                  try simp only [tput, anyAt, setAll, List.foldl_cons, List.foldl_nil, List.set_cons_zero, List.set_cons_succ]
                  repeat (first | exact Weak.nil | refine Weak.cons ?_ | refine Weak.consAny ?_)
              · try simp only [Bool.or_eq_true, Bool.and_eq_true, Bool.or_eq_false_iff, Bool.and_eq_false_iff, decide_eq_true_eq, decide_eq_false_iff_not, Bool.not_eq_true', Bool.not_eq_false', beq_iff_eq, ne_eq, Decidable.not_not, List.length_map] at hc10
                refine AW_seq ?_
                refine AW_region ?_
                refine AL_move rfl ?_
                refine AL_move rfl ?_
                first | refine AL_indexAddr_sl (y := strAV ((splitS v 32).getD i ⟨#[]⟩)) un48 sz9 (by decide) rfl rfl ?_ ?_ ?_ ?_ | refine AL_indexAddr_own un48 sz9 rfl rfl ?_ ?_ ?_
                · omega
                · simp only [List.length_map]; omega
                · exact map_get strAV (i := i) ⟨#[]⟩ (by omega)
                refine AL_norm (by first | (simp only [tput, anyAt, setAll, List.foldl_cons, List.foldl_nil, List.set_cons_zero, List.set_cons_succ]; rfl) | rfl) ?_
                first | refine AL_load_rp sz9 rfl ag9 ?_ | refine AL_loadw sz9 rfl (by repeat (first | exact AH.upd_same _ _ _ | exact hH | assumption | refine AH.look_other (by assumption) ?_)) (by exact ag9) (by exact rfl) ?_ | refine AL_load_pt ag9 sz9 (by decide) rfl (by repeat (first | exact AH.upd_same _ _ _ | exact hH | assumption | refine AH.look_other (by assumption) ?_)) (by first | assumption | exact sz3 | exact sz9 | exact sz5 | exact sz57) (by exact rfl) (by exact rfl) (by exact rfl) ?_
                refine AL_seql rfl rfl ?_
                refine AL_norm (by first | (simp only [tput, anyAt, setAll, List.foldl_cons, List.foldl_nil, List.set_cons_zero, List.set_cons_succ]; rfl) | rfl) ?_
                refine AL_nil ?_
                refine seqQ_n ?_
                refine AW_cond rfl (fun hc11 => ?_) (fun hc11 => ?_)
                · try simp only [Bool.or_eq_true, Bool.and_eq_true, Bool.or_eq_false_iff, Bool.and_eq_false_iff, decide_eq_true_eq, decide_eq_false_iff_not, Bool.not_eq_true', Bool.not_eq_false', beq_iff_eq, ne_eq, Decidable.not_not, List.length_map] at hc11
                  refine AW_region ?_
                  refine AL_move rfl ?_
                  refine AL_bitsz (((b ||| 8).toNat : Int)) rfl rfl (by decide) (b4_or b 8) ?_
                  refine AL_norm (by first | (simp only [tput, anyAt, setAll, List.foldl_cons, List.foldl_nil, List.set_cons_zero, List.set_cons_succ]; rfl) | rfl) ?_
                  refine AL_assign rfl ?_
                  refine AL_norm (by first | (simp only [tput, anyAt, setAll, List.foldl_cons, List.foldl_nil, List.set_cons_zero, List.set_cons_succ]; rfl) | rfl) ?_
                  refine AL_nil ?_
                  refine blockQ_n ?_
                  refine seqQ_n ?_
                  refine AW_region ?_
                  refine AL_move rfl ?_
                  refine AL_addz rfl rfl (((i + 1 : Nat) : Int)) (by exact inc64 (by omega)) ?_
                  refine AL_assign rfl ?_
                  refine AL_norm (by first | (simp only [tput, anyAt, setAll, List.foldl_cons, List.foldl_nil, List.set_cons_zero, List.set_cons_succ]; rfl) | rfl) ?_
                  refine AL_nil ?_
                  refine loopQ_n ((i + 1, b ||| 8)) ?_ ?_ ?_ ?_
                  · exact ⟨by omega, (wR_thr (by omega) hc10 hc11).trans hI.2⟩
                  · (show (splitS v 32).length - (i + 1) < (splitS v 32).length - i; omega)
                  · repeat (first | exact SubH.refl _ | assumption | refine SubH.new ?_ (by assumption))
                  · skip
                    try simp only [tput, anyAt, setAll, List.foldl_cons, List.foldl_nil, List.set_cons_zero, List.set_cons_succ]
                    repeat (first | exact Weak.nil | refine Weak.cons ?_ | refine Weak.consAny ?_)
                · try simp only [Bool.or_eq_true, Bool.and_eq_true, Bool.or_eq_false_iff, Bool.and_eq_false_iff, decide_eq_true_eq, decide_eq_false_iff_not, Bool.not_eq_true', Bool.not_eq_false', beq_iff_eq, ne_eq, Decidable.not_not, List.length_map] at hc11
                  refine AW_seq ?_
                  refine AW_region ?_
                  refine AL_move rfl ?_
                  refine AL_norm (by first | (simp only [tput, anyAt, setAll, List.foldl_cons, List.foldl_nil, List.set_cons_zero, List.set_cons_succ]; rfl) | rfl) ?_
                  refine AL_move rfl ?_
                  first | refine AL_indexAddr_sl (y := strAV ((splitS v 32).getD i ⟨#[]⟩)) un48 sz9 (by decide) rfl rfl ?_ ?_ ?_ ?_ | refine AL_indexAddr_own un48 sz9 rfl rfl ?_ ?_ ?_
                  · omega
                  · simp only [List.length_map]; omega
                  · exact map_get strAV (i := i) ⟨#[]⟩ (by omega)
                  first | refine AL_load_rp sz9 rfl ag9 ?_ | refine AL_loadw sz9 rfl (by repeat (first | exact AH.upd_same _ _ _ | exact hH | assumption | refine AH.look_other (by assumption) ?_)) (by exact ag9) (by exact rfl) ?_ | refine AL_load_pt ag9 sz9 (by decide) rfl (by repeat (first | exact AH.upd_same _ _ _ | exact hH | assumption | refine AH.look_other (by assumption) ?_)) (by first | assumption | exact sz3 | exact sz9 | exact sz5 | exact sz57) (by exact rfl) (by exact rfl) (by exact rfl) ?_
                  refine AL_sneq rfl rfl ?_
                  refine AL_norm (by first | (simp only [tput, anyAt, setAll, List.foldl_cons, List.foldl_nil, List.set_cons_zero, List.set_cons_succ]; rfl) | rfl) ?_
                  refine AL_nil ?_
                  refine seqQ_n ?_
                  refine AW_cond rfl (fun hc12 => ?_) (fun hc12 => ?_)
                  · try simp only [Bool.or_eq_true, Bool.and_eq_true, Bool.or_eq_false_iff, Bool.and_eq_false_iff, decide_eq_true_eq, decide_eq_false_iff_not, Bool.not_eq_true', Bool.not_eq_false', beq_iff_eq, ne_eq, Decidable.not_not, List.length_map] at hc12
                    refine AW_seq ?_
                    refine AW_region ?_
                    refine AL_assign rfl ?_
                    refine AL_norm (by first | (simp only [tput, anyAt, setAll, List.foldl_cons, List.foldl_nil, List.set_cons_zero, List.set_cons_succ]; rfl) | rfl) ?_
                    refine AL_assign rfl ?_
                    refine AL_assign rfl ?_
                    refine AL_norm (by first | (simp only [tput, anyAt, setAll, List.foldl_cons, List.foldl_nil, List.set_cons_zero, List.set_cons_succ]; rfl) | rfl) ?_
                    refine AL_nil ?_
                    refine seqQ_n ?_
                    refine AW_ret ?_
                    refine blockQ_r ?_
                    refine seqQ_r ?_
                    refine loopQ_r ?_
                    refine blockQ_r ?_
                    refine seqQ_r ?_
                    refine blockQ_r ?_
                    refine seqQ_r ?_
                    refine retQ_3 (H' := H) (.inr rfl) rfl rfl rfl (by repeat (first | exact SubH.refl _ | refine SubH.upd ?_ (by assumption))) ?_
                    refine K_eq ?_ hK
                    exact trip_mk (a := 0) (b := 0) (c := false) (by rw [sayR, if_neg hc1, if_neg hc5, if_pos hc7, if_neg hc8, td_none (hI.2.symm.trans (wR_no (by omega) hc10 hc11 hc12))])
                  · try simp only [Bool.or_eq_true, Bool.and_eq_true, Bool.or_eq_false_iff, Bool.and_eq_false_iff, decide_eq_true_eq, decide_eq_false_iff_not, Bool.not_eq_true', Bool.not_eq_false', beq_iff_eq, ne_eq, Decidable.not_not, List.length_map] at hc12
                    refine AW_skip ?_
                    refine blockQ_n ?_
                    refine seqQ_n ?_
                    refine AW_region ?_
                    refine AL_move rfl ?_
                    refine AL_addz rfl rfl (((i + 1 : Nat) : Int)) (by exact inc64 (by omega)) ?_
                    refine AL_norm (by first | (simp only [tput, anyAt, setAll, List.foldl_cons, List.foldl_nil, List.set_cons_zero, List.set_cons_succ]; rfl) | rfl) ?_
                    refine AL_assign rfl ?_
                    refine AL_norm (by first | (simp only [tput, anyAt, setAll, List.foldl_cons, List.foldl_nil, List.set_cons_zero, List.set_cons_succ]; rfl) | rfl) ?_
                    refine AL_nil ?_
                    refine loopQ_n ((i + 1, b)) ?_ ?_ ?_ ?_
                    · exact ⟨by omega, (wR_emp (by omega) hc10 hc11 (by simpa using hc12)).trans hI.2⟩
                    · (show (splitS v 32).length - (i + 1) < (splitS v 32).length - i; omega)
                    · repeat (first | exact SubH.refl _ | assumption | refine SubH.new ?_ (by assumption))
                    · skip
                      try simp only [tput, anyAt, setAll, List.foldl_cons, List.foldl_nil, List.set_cons_zero, List.set_cons_succ]
                      repeat (first | exact Weak.nil | refine Weak.cons ?_ | refine Weak.consAny ?_)
            · try simp only [Bool.or_eq_true, Bool.and_eq_true, Bool.or_eq_false_iff, Bool.and_eq_false_iff, decide_eq_true_eq, decide_eq_false_iff_not, Bool.not_eq_true', Bool.not_eq_false', beq_iff_eq, ne_eq, Decidable.not_not, List.length_map] at hc9
              refine AW_exit ?_
              refine seqQ_x ?_
              refine loopQ_x ?_
              refine blockQ_hit ?_
              refine seqQ_n ?_
              refine AW_seq ?_
              refine AW_region ?_
              refine AL_move rfl ?_
              refine AL_move rfl ?_
              refine AL_bitsz (((12 &&& ~~~b).toNat : Int)) rfl rfl (by decide) (b4_andNot 12 b) ?_
              refine AL_norm (by first | (simp only [tput, anyAt, setAll, List.foldl_cons, List.foldl_nil, List.set_cons_zero, List.set_cons_succ]; rfl) | rfl) ?_
              refine AL_move rfl ?_
              refine AL_neq rfl rfl ?_
              refine AL_assign rfl ?_
              refine AL_assign rfl ?_
              refine AL_norm (by first | (simp only [tput, anyAt, setAll, List.foldl_cons, List.foldl_nil, List.set_cons_zero, List.set_cons_succ]; rfl) | rfl) ?_
              refine AL_assign rfl ?_
              refine AL_norm (by first | (simp only [tput, anyAt, setAll, List.foldl_cons, List.foldl_nil, List.set_cons_zero, List.set_cons_succ]; rfl) | rfl) ?_
              refine AL_nil ?_
              refine seqQ_n ?_
              refine AW_ret ?_
              refine blockQ_r ?_
              refine seqQ_r ?_
              refine retQ_3 (H' := H) (.inr rfl) rfl rfl rfl (by repeat (first | exact SubH.refl _ | refine SubH.upd ?_ (by assumption))) ?_
              refine K_eq ?_ hK
              rw [b4_ne0]; exact trip_mk (a := b) (b := 12 &&& ~~~b) (c := _) (by rw [sayR, if_neg hc1, if_neg hc5, if_pos hc7, if_neg hc8, td_some (hI.2.symm.trans (wR_end (by omega)))])
      · try simp only [Bool.or_eq_true, Bool.and_eq_true, Bool.or_eq_false_iff, Bool.and_eq_false_iff, decide_eq_true_eq, decide_eq_false_iff_not, Bool.not_eq_true', Bool.not_eq_false', beq_iff_eq, ne_eq, Decidable.not_not, List.length_map] at hc7
        refine AW_skip ?_
        refine blockQ_n ?_
        refine seqQ_n ?_
        refine AW_seq ?_
        refine AW_region ?_
        refine AL_assign rfl ?_
        refine AL_assign rfl ?_
        refine AL_assign rfl ?_
        refine AL_norm (by first | (simp only [tput, anyAt, setAll, List.foldl_cons, List.foldl_nil, List.set_cons_zero, List.set_cons_succ]; rfl) | rfl) ?_
        refine AL_nil ?_
        refine seqQ_n ?_
        refine AW_ret ?_
        refine retQ_3 (H' := H) (.inr rfl) rfl rfl rfl (by repeat (first | exact SubH.refl _ | refine SubH.upd ?_ (by assumption))) ?_
        refine K_eq ?_ hK
        exact trip_mk (a := 0) (b := 0) (c := false) (by rw [sayR, if_neg hc1, if_neg hc5, if_neg hc7])
end Go.Css.Walk
