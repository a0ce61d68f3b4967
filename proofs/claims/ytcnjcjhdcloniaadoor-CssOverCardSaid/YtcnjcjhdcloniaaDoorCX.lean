/- The walks of the functions, each said of plain values: no conditions but those in each statement. -/
import Derived.Test.YtcnjcjhdcloniaaDoorCW
import Derived.Test.YtcnjcjhdcloniaaDoorCF
import Derived.Test.YtcnjcjhdcloniaaDoorProg
set_option autoImplicit false
set_option linter.unusedVariables false
set_option linter.unusedSimpArgs false
set_option maxRecDepth 100000
set_option maxHeartbeats 1000000
namespace Go.Css.Walk
open Go Go.RowKit Go.AL Go.Css Go.IntWalk Go.Proofs
theorem sz3 : szOf Tryd.prog 3 = some 1 := by kernel_rfl
theorem ag3 : aggOf Tryd.prog 3 = some false := by kernel_rfl
theorem sz9 : szOf Tryd.prog 9 = some 1 := by kernel_rfl
theorem un9 : Tryd.prog.underlying 9 = some .string := by kernel_rfl
theorem un53 : Tryd.prog.underlying 53 = some (.slice 5) := by kernel_rfl
theorem un5 : Tryd.prog.underlying 5 = some (.int .u8) := by kernel_rfl
theorem sz5 : szOf Tryd.prog 5 = some 1 := by kernel_rfl
theorem ag5 : aggOf Tryd.prog 5 = some false := by kernel_rfl
theorem en57 : entersOf Tryd.prog 57 = true := by kernel_rfl
theorem un48 : Tryd.prog.underlying 48 = some (.slice 9) := by kernel_rfl
theorem ag9 : aggOf Tryd.prog 9 = some false := by kernel_rfl
theorem en58 : entersOf Tryd.prog 58 = true := by kernel_rfl
theorem en60 : entersOf Tryd.prog 60 = true := by kernel_rfl
theorem en59 : entersOf Tryd.prog 59 = true := by kernel_rfl

/-- quillwork/css.Over -/
theorem css_Over_ok (b s c : Int) :
    PF Tryd.prog 36 [.v (.int .i64 b), .v (.int .i64 s), .v (.int .i64 c)] (.v (.int .i64 (overI b s c))) := by
  intro H K hK
  refine AC_of Tryd.func36 rfl (rs := [.tmp 6]) rfl Tryd.ntmps36 rfl ?_
  refine AW_norm (by simp only [List.length_cons, List.length_nil, Nat.reduceAdd, Nat.reduceSub, List.replicate, List.cons_append, List.nil_append]; rfl) ?_
  refine AW_seq ?_
  refine AW_region ?_
  refine AL_assign rfl ?_
  refine AL_norm (by first | (simp only [tput, anyAt, setAll, List.foldl_cons, List.foldl_nil, List.set_cons_zero, List.set_cons_succ]; rfl) | rfl) ?_
  refine AL_nil ?_
  refine seqQ_n ?_
  refine AW_seq ?_
  refine AW_region ?_
  refine AL_move rfl ?_
  refine AL_move rfl ?_
  refine AL_bits rfl rfl (by decide) ?_
  refine AL_norm (by first | (simp only [tput, anyAt, setAll, List.foldl_cons, List.foldl_nil, List.set_cons_zero, List.set_cons_succ]; rfl) | rfl) ?_
  refine AL_move rfl ?_
  refine AL_bits rfl rfl (by decide) ?_
  refine AL_assign rfl ?_
  refine AL_norm (by first | (simp only [tput, anyAt, setAll, List.foldl_cons, List.foldl_nil, List.set_cons_zero, List.set_cons_succ]; rfl) | rfl) ?_
  refine AL_nil ?_
  refine seqQ_n ?_
  refine AW_ret ?_
  refine retQ_1 (H' := H) (.inr rfl) rfl (by repeat (first | exact SubH.refl _ | refine SubH.upd ?_ (by assumption))) ?_
  refine K_eq ?_ hK
  rfl

/-- quillwork/css.Parse$1 -/
theorem css_Parse_1_ok  :
    ∀ (b1 b2 : Nat) (x y on off : B4) (H : AH) (K : AV → AH → Prop), b1 ≠ b2 → H b1 = some (.row 3 1 [bAV x]) → H b2 = some (.row 3 1 [bAV y]) → K (.tup []) ((H.upd b1 (some (.row 3 1 [bAV (x &&& ~~~off ||| on)]))).upd b2 (some (.row 3 1 [bAV (y &&& ~~~on ||| off)]))) → AC Tryd.prog 44 [bAV on, bAV off, .pt b1 0 1 0, .pt b2 0 1 0] H K := by
  intro b1 b2 x y on off H K h12 hH1 hH2 hK
  have h21 := h12.symm
  refine AC_of Tryd.func44 rfl (rs := []) rfl Tryd.ntmps44 rfl ?_
  refine AW_norm (by simp only [List.length_cons, List.length_nil, Nat.reduceAdd, Nat.reduceSub, List.replicate, List.cons_append, List.nil_append]; rfl) ?_
  refine' AW_drawL (xs := [_, _, _, _, _, _, _, _, _, _, _, _]) [10, 11] [0, 0, 1, 0, 2, 0, 0, 1, 0, 2, 3, 4] (fun m => match m with | 0 => H | 1 => H.upd b1 (some (.row 3 1 [bAV (x &&& ~~~off ||| on)])) | _ => (H.upd b1 (some (.row 3 1 [bAV (x &&& ~~~off ||| on)]))).upd b2 (some (.row 3 1 [bAV (y &&& ~~~on ||| off)]))) rfl (by kernel_rfl) ?hops1 ?_
  case hops1 =>
    refine HopsL_cons (fun m T hl hr hm hm2 => ?_) ?_
    · skip
      replace hm : 0 ≤ m := hm
      replace hm2 : m ≤ 0 := hm2
      obtain rfl : m = 0 := by omega
      refine AL_heap (by rfl : _ = H) ?_
      first | refine AL_load_rp sz3 ((hr 2 (by kernel_rfl)).trans rfl) ag3 ?_ | refine AL_loadw sz3 ((hr 2 (by kernel_rfl)).trans rfl) (by repeat (first | exact AH.upd_same _ _ _ | exact hH | assumption | refine AH.look_other (by assumption) ?_)) (by exact ag3) (by exact rfl) ?_ | refine AL_load_pt ag3 sz3 (by decide) ((hr 2 (by kernel_rfl)).trans rfl) (by repeat (first | exact AH.upd_same _ _ _ | exact hH | assumption | refine AH.look_other (by assumption) ?_)) (by first | assumption | exact sz3 | exact sz9 | exact sz5) (by exact rfl) (by exact rfl) (by exact rfl) ?_
      refine AL_nil ?_
      refine qpostL_mk ?_ ?_
      rotate_left
      exact Weak.refl _
      exact SubH.refl _
    refine HopsL_norm (by first | (simp only [tput, List.set_cons_zero, List.set_cons_succ]; rfl) | rfl) ?_
    refine HopsL_cons (fun m T hl hr hm hm2 => ?_) ?_
    · skip
      replace hm : 0 ≤ m := hm
      replace hm2 : m ≤ 0 := hm2
      obtain rfl : m = 0 := by omega
      refine AL_heap (by rfl : _ = H) ?_
      refine AL_move ((hr 1 (by kernel_rfl)).trans rfl) ?_
      refine AL_nil ?_
      refine qpostL_mk ?_ ?_
      rotate_left
      exact Weak.refl _
      exact SubH.refl _
    refine HopsL_norm (by first | (simp only [tput, List.set_cons_zero, List.set_cons_succ]; rfl) | rfl) ?_
    refine HopsL_cons (fun m T hl hr hm hm2 => ?_) ?_
    · skip
      replace hm : 0 ≤ m := hm
      replace hm2 : m ≤ 0 := hm2
      obtain rfl : m = 0 := by omega
      refine AL_heap (by rfl : _ = H) ?_
      refine AL_bitsz (((x &&& ~~~off).toNat : Int)) ((hr 6 (by kernel_rfl)).trans rfl) ((hr 7 (by kernel_rfl)).trans rfl) (by decide) (b4_andNot _ _) ?_
      refine AL_nil ?_
      refine qpostL_mk ?_ ?_
      rotate_left
      exact Weak.refl _
      exact SubH.refl _
    refine HopsL_norm (by first | (simp only [tput, List.set_cons_zero, List.set_cons_succ]; rfl) | rfl) ?_
    refine HopsL_cons (fun m T hl hr hm hm2 => ?_) ?_
    · skip
      replace hm : 0 ≤ m := hm
      replace hm2 : m ≤ 0 := hm2
      obtain rfl : m = 0 := by omega
      refine AL_heap (by rfl : _ = H) ?_
      refine AL_move ((hr 0 (by kernel_rfl)).trans rfl) ?_
      refine AL_nil ?_
      refine qpostL_mk ?_ ?_
      rotate_left
      exact Weak.refl _
      exact SubH.refl _
    refine HopsL_norm (by first | (simp only [tput, List.set_cons_zero, List.set_cons_succ]; rfl) | rfl) ?_
    refine HopsL_cons (fun m T hl hr hm hm2 => ?_) ?_
    · skip
      replace hm : 0 ≤ m := hm
      replace hm2 : m ≤ 0 := hm2
      obtain rfl : m = 0 := by omega
      refine AL_heap (by rfl : _ = H) ?_
      refine AL_bitsz (((x &&& ~~~off ||| on).toNat : Int)) ((hr 8 (by kernel_rfl)).trans rfl) ((hr 9 (by kernel_rfl)).trans rfl) (by decide) (b4_or _ _) ?_
      refine AL_nil ?_
      refine qpostL_mk ?_ ?_
      rotate_left
      exact Weak.refl _
      exact SubH.refl _
    refine HopsL_norm (by first | (simp only [tput, List.set_cons_zero, List.set_cons_succ]; rfl) | rfl) ?_
    refine HopsL_cons (fun m T hl hr hm hm2 => ?_) ?_
    · skip
      replace hm : 0 ≤ m := hm
      replace hm2 : m ≤ 1 := hm2
      obtain rfl | rfl : m = 0 ∨ m = 1 := by omega
      ·
        refine AL_heap (by rfl : _ = H) ?_
        first | refine AL_load_rp sz3 ((hr 3 (by kernel_rfl)).trans rfl) ag3 ?_ | refine AL_loadw sz3 ((hr 3 (by kernel_rfl)).trans rfl) (by repeat (first | exact AH.upd_same _ _ _ | exact hH | assumption | refine AH.look_other (by assumption) ?_)) (by exact ag3) (by exact rfl) ?_ | refine AL_load_pt ag3 sz3 (by decide) ((hr 3 (by kernel_rfl)).trans rfl) (by repeat (first | exact AH.upd_same _ _ _ | exact hH | assumption | refine AH.look_other (by assumption) ?_)) (by first | assumption | exact sz3 | exact sz9 | exact sz5) (by exact rfl) (by exact rfl) (by exact rfl) ?_
        refine AL_nil ?_
        refine qpostL_mk ?_ ?_
        rotate_left
        exact Weak.refl _
        exact SubH.refl _
      ·
        refine AL_heap (by rfl : _ = H.upd b1 (some (.row 3 1 [bAV (x &&& ~~~off ||| on)]))) ?_
        first | refine AL_load_rp sz3 ((hr 3 (by kernel_rfl)).trans rfl) ag3 ?_ | refine AL_loadw sz3 ((hr 3 (by kernel_rfl)).trans rfl) (by repeat (first | exact AH.upd_same _ _ _ | exact hH | assumption | refine AH.look_other (by assumption) ?_)) (by exact ag3) (by exact rfl) ?_ | refine AL_load_pt ag3 sz3 (by decide) ((hr 3 (by kernel_rfl)).trans rfl) (by repeat (first | exact AH.upd_same _ _ _ | exact hH | assumption | refine AH.look_other (by assumption) ?_)) (by first | assumption | exact sz3 | exact sz9 | exact sz5) (by exact rfl) (by exact rfl) (by exact rfl) ?_
        refine AL_nil ?_
        refine qpostL_mk ?_ ?_
        rotate_left
        exact Weak.refl _
        exact SubH.refl _
    refine HopsL_norm (by first | (simp only [tput, List.set_cons_zero, List.set_cons_succ]; rfl) | rfl) ?_
    refine HopsL_cons (fun m T hl hr hm hm2 => ?_) ?_
    · skip
      replace hm : 0 ≤ m := hm
      replace hm2 : m ≤ 1 := hm2
      obtain rfl | rfl : m = 0 ∨ m = 1 := by omega
      ·
        refine AL_heap (by rfl : _ = H) ?_
        refine AL_move ((hr 0 (by kernel_rfl)).trans rfl) ?_
        refine AL_nil ?_
        refine qpostL_mk ?_ ?_
        rotate_left
        exact Weak.refl _
        exact SubH.refl _
      ·
        refine AL_heap (by rfl : _ = H.upd b1 (some (.row 3 1 [bAV (x &&& ~~~off ||| on)]))) ?_
        refine AL_move ((hr 0 (by kernel_rfl)).trans rfl) ?_
        refine AL_nil ?_
        refine qpostL_mk ?_ ?_
        rotate_left
        exact Weak.refl _
        exact SubH.refl _
    refine HopsL_norm (by first | (simp only [tput, List.set_cons_zero, List.set_cons_succ]; rfl) | rfl) ?_
    refine HopsL_cons (fun m T hl hr hm hm2 => ?_) ?_
    · skip
      replace hm : 0 ≤ m := hm
      replace hm2 : m ≤ 1 := hm2
      obtain rfl | rfl : m = 0 ∨ m = 1 := by omega
      ·
        refine AL_heap (by rfl : _ = H) ?_
        refine AL_bitsz (((y &&& ~~~on).toNat : Int)) ((hr 11 (by kernel_rfl)).trans rfl) ((hr 12 (by kernel_rfl)).trans rfl) (by decide) (b4_andNot _ _) ?_
        refine AL_nil ?_
        refine qpostL_mk ?_ ?_
        rotate_left
        exact Weak.refl _
        exact SubH.refl _
      ·
        refine AL_heap (by rfl : _ = H.upd b1 (some (.row 3 1 [bAV (x &&& ~~~off ||| on)]))) ?_
        refine AL_bitsz (((y &&& ~~~on).toNat : Int)) ((hr 11 (by kernel_rfl)).trans rfl) ((hr 12 (by kernel_rfl)).trans rfl) (by decide) (b4_andNot _ _) ?_
        refine AL_nil ?_
        refine qpostL_mk ?_ ?_
        rotate_left
        exact Weak.refl _
        exact SubH.refl _
    refine HopsL_norm (by first | (simp only [tput, List.set_cons_zero, List.set_cons_succ]; rfl) | rfl) ?_
    refine HopsL_cons (fun m T hl hr hm hm2 => ?_) ?_
    · skip
      replace hm : 0 ≤ m := hm
      replace hm2 : m ≤ 1 := hm2
      obtain rfl | rfl : m = 0 ∨ m = 1 := by omega
      ·
        refine AL_heap (by rfl : _ = H) ?_
        refine AL_move ((hr 1 (by kernel_rfl)).trans rfl) ?_
        refine AL_nil ?_
        refine qpostL_mk ?_ ?_
        rotate_left
        exact Weak.refl _
        exact SubH.refl _
      ·
        refine AL_heap (by rfl : _ = H.upd b1 (some (.row 3 1 [bAV (x &&& ~~~off ||| on)]))) ?_
        refine AL_move ((hr 1 (by kernel_rfl)).trans rfl) ?_
        refine AL_nil ?_
        refine qpostL_mk ?_ ?_
        rotate_left
        exact Weak.refl _
        exact SubH.refl _
    refine HopsL_norm (by first | (simp only [tput, List.set_cons_zero, List.set_cons_succ]; rfl) | rfl) ?_
    refine HopsL_cons (fun m T hl hr hm hm2 => ?_) ?_
    · skip
      replace hm : 0 ≤ m := hm
      replace hm2 : m ≤ 1 := hm2
      obtain rfl | rfl : m = 0 ∨ m = 1 := by omega
      ·
        refine AL_heap (by rfl : _ = H) ?_
        refine AL_bitsz (((y &&& ~~~on ||| off).toNat : Int)) ((hr 13 (by kernel_rfl)).trans rfl) ((hr 14 (by kernel_rfl)).trans rfl) (by decide) (b4_or _ _) ?_
        refine AL_nil ?_
        refine qpostL_mk ?_ ?_
        rotate_left
        exact Weak.refl _
        exact SubH.refl _
      ·
        refine AL_heap (by rfl : _ = H.upd b1 (some (.row 3 1 [bAV (x &&& ~~~off ||| on)]))) ?_
        refine AL_bitsz (((y &&& ~~~on ||| off).toNat : Int)) ((hr 13 (by kernel_rfl)).trans rfl) ((hr 14 (by kernel_rfl)).trans rfl) (by decide) (b4_or _ _) ?_
        refine AL_nil ?_
        refine qpostL_mk ?_ ?_
        rotate_left
        exact Weak.refl _
        exact SubH.refl _
    refine HopsL_norm (by first | (simp only [tput, List.set_cons_zero, List.set_cons_succ]; rfl) | rfl) ?_
    refine HopsL_cons (fun m T hl hr hm hm2 => ?_) ?_
    · skip
      replace hm : 0 ≤ m := hm
      replace hm2 : m ≤ 0 := hm2
      obtain rfl : m = 0 := by omega
      refine AL_heap (by rfl : _ = H) ?_
      first | refine AL_store_w sz3 ((hr 2 (by kernel_rfl)).trans rfl) (.ev ((hr 10 (by kernel_rfl)).trans rfl)) rfl (by repeat (first | exact AH.upd_same _ _ _ | exact hH | assumption | refine AH.look_other (by assumption) ?_)) rfl (by exact rfl) ?_ | refine AL_store ((hr 2 (by kernel_rfl)).trans rfl) (.ev ((hr 10 (by kernel_rfl)).trans rfl)) rfl (by repeat (first | exact AH.upd_same _ _ _ | exact hH | assumption | refine AH.look_other (by assumption) ?_)) (by first | assumption | exact sz3 | exact sz9 | exact sz5) (by exact rfl) sz3 rfl (by decide) (fun h => by first | (cases h; done) | exact ⟨rfl, rfl, rfl⟩) ?_
      refine AL_heap (by first | (simp only [AH.upd_upd]; rfl) | rfl) ?_
      refine AL_nil ?_
      refine qpostL_mk ?_ ?_
      rotate_left
      exact Weak.refl _
      exact SubH.refl _
    refine HopsL_norm (by first | (simp only [tput, List.set_cons_zero, List.set_cons_succ]; rfl) | rfl) ?_
    refine HopsL_cons (fun m T hl hr hm hm2 => ?_) ?_
    · skip
      replace hm : 1 ≤ m := hm
      replace hm2 : m ≤ 1 := hm2
      obtain rfl : m = 1 := by omega
      refine AL_heap (by rfl : _ = H.upd b1 (some (.row 3 1 [bAV (x &&& ~~~off ||| on)]))) ?_
      first | refine AL_store_w sz3 ((hr 3 (by kernel_rfl)).trans rfl) (.ev ((hr 15 (by kernel_rfl)).trans rfl)) rfl (by repeat (first | exact AH.upd_same _ _ _ | exact hH | assumption | refine AH.look_other (by assumption) ?_)) rfl (by exact rfl) ?_ | refine AL_store ((hr 3 (by kernel_rfl)).trans rfl) (.ev ((hr 15 (by kernel_rfl)).trans rfl)) rfl (by repeat (first | exact AH.upd_same _ _ _ | exact hH | assumption | refine AH.look_other (by assumption) ?_)) (by first | assumption | exact sz3 | exact sz9 | exact sz5) (by exact rfl) sz3 rfl (by decide) (fun h => by first | (cases h; done) | exact ⟨rfl, rfl, rfl⟩) ?_
      refine AL_heap (by first | (simp only [AH.upd_upd]; rfl) | rfl) ?_
      refine AL_nil ?_
      refine qpostL_mk ?_ ?_
      rotate_left
      exact Weak.refl _
      exact SubH.refl _
    refine HopsL_norm (by first | (simp only [tput, List.set_cons_zero, List.set_cons_succ]; rfl) | rfl) ?_
    exact HopsL_nil
  refine Q_norm (by first | (simp only [Tfin, tput, anyAt, setAll, List.foldl_cons, List.foldl_nil, List.set_cons_zero, List.set_cons_succ]; rfl) | rfl) ?_
  refine retQ_0 (H' := (H.upd b1 (some (.row 3 1 [bAV (x &&& ~~~off ||| on)]))).upd b2 (some (.row 3 1 [bAV (y &&& ~~~on ||| off)]))) (.inl rfl) (SubH.refl _) ?_
  exact hK

/-- quillwork/css.declarations -/
theorem css_declarations_ok (s : ByteArray) :
    PF Tryd.prog 45 [strAV s] (.fn (.func 56) [] [.rp 9 (strAV s)]) := by
  intro H K hK
  refine AC_of Tryd.func45 rfl (rs := [.tmp 2]) rfl Tryd.ntmps45 rfl ?_
  refine AW_norm (by simp only [List.length_cons, List.length_nil, Nat.reduceAdd, Nat.reduceSub, List.replicate, List.cons_append, List.nil_append]; rfl) ?_
  refine AW_seq ?_
  refine AW_region ?_
  refine AL_box rfl rfl sz9 rfl ?_
  intro b1 hb1
  have hn1 : H b1 = none := SubH.none (by repeat (first | exact SubH.refl _ | refine SubH.upd ?_ (by assumption))) hb1
  refine AL_norm (by first | (simp only [tput, anyAt, setAll, List.foldl_cons, List.foldl_nil, List.set_cons_zero, List.set_cons_succ]; rfl) | rfl) ?_
  refine AL_frzpt 1 rfl (AH.upd_same _ _ _) ?_; refine AL_heap (AH.upd_none_eq hn1) ?_
  refine AL_norm (by first | (simp only [tput, anyAt, setAll, List.foldl_cons, List.foldl_nil, List.set_cons_zero, List.set_cons_succ]; rfl) | rfl) ?_
  refine AL_assign rfl ?_
  refine AL_norm (by first | (simp only [tput, anyAt, setAll, List.foldl_cons, List.foldl_nil, List.set_cons_zero, List.set_cons_succ]; rfl) | rfl) ?_
  refine AL_nil ?_
  refine seqQ_n ?_
  refine AW_seq ?_
  refine AW_region ?_
  refine AL_makeFunc (.nil) (.cons (.ev rfl) (.nil)) ?_
  refine AL_assign rfl ?_
  refine AL_norm (by first | (simp only [tput, anyAt, setAll, List.foldl_cons, List.foldl_nil, List.set_cons_zero, List.set_cons_succ]; rfl) | rfl) ?_
  refine AL_nil ?_
  refine seqQ_n ?_
  refine AW_ret ?_
  refine retQ_1 (H' := H) (.inr rfl) rfl (by repeat (first | exact SubH.refl _ | refine SubH.upd ?_ (by assumption))) ?_
  refine K_eq ?_ hK
  rfl

/-- quillwork/css.low -/
theorem css_low_ok (s : ByteArray) (hs : s.size < 35184372088832) :
    PF Tryd.prog 59 [strAV s] (strAV (lowS s)) := by
  intro H K hK
  refine AC_of Tryd.func59 rfl (rs := [.tmp 2]) rfl Tryd.ntmps59 rfl ?_
  refine AW_norm (by simp only [List.length_cons, List.length_nil, Nat.reduceAdd, Nat.reduceSub, List.replicate, List.cons_append, List.nil_append]; rfl) ?_
  refine AW_seq ?_
  refine AW_region ?_
  refine AL_assign rfl ?_
  refine AL_norm (by first | (simp only [tput, anyAt, setAll, List.foldl_cons, List.foldl_nil, List.set_cons_zero, List.set_cons_succ]; rfl) | rfl) ?_
  refine AL_nil ?_
  refine seqQ_n ?_
  refine AW_seq ?_
  refine AW_region ?_
  refine AL_move rfl ?_
  refine AL_convStr un9 un53 un5 sz5 rfl ?_
  intro b1 cb1 hb1 hcb1
  have hn1 : H b1 = none := SubH.none (by repeat (first | exact SubH.refl _ | refine SubH.upd ?_ (by assumption))) hb1
  refine AL_assign rfl ?_
  refine AL_norm (by first | (simp only [tput, anyAt, setAll, List.foldl_cons, List.foldl_nil, List.set_cons_zero, List.set_cons_succ]; rfl) | rfl) ?_
  refine AL_nil ?_
  refine seqQ_n ?_
  refine AW_seq ?_
  refine AW_seq ?_
  refine AW_region ?_
  refine AL_move rfl ?_
  refine AL_norm (by first | (simp only [tput, anyAt, setAll, List.foldl_cons, List.foldl_nil, List.set_cons_zero, List.set_cons_succ]; rfl) | rfl) ?_
  first | refine AL_len_sl un53 rfl ?_ | refine AL_len_own un53 rfl ?_
  refine AL_move rfl ?_
  refine AL_norm (by first | (simp only [tput, anyAt, setAll, List.foldl_cons, List.foldl_nil, List.set_cons_zero, List.set_cons_succ]; rfl) | rfl) ?_
  refine AL_nil ?_
  refine seqQ_n ?_
  refine AW_block ?_
  refine AW_loops (α := Nat) [4, 5, 10, 11, 12, 13, 14, 15, 16, 17, 18, 19, 20, 21, 22, 23, 24, 25, 26] (fun i => [(10, .v (.int .i64 (i : Int)))]) (fun i => H.upd b1 (some (.row 5 cb1 ((mixL (toL s) i).map byteAV)))) (fun i => i ≤ s.size) (fun i => s.size - i) (0) ?_ ?_ ?_ ?_
  · exact Nat.zero_le _
  · rw [mixL_zero]; exact SubH.refl _
  · skip
    try simp only [tput, anyAt, setAll, List.foldl_cons, List.foldl_nil, List.set_cons_zero, List.set_cons_succ]
    repeat (first | exact Weak.nil | refine Weak.cons ?_ | refine Weak.consAny ?_)
  · intro i hI
    refine AW_norm (by first | (simp only [tput, anyAt, setAll, List.foldl_cons, List.foldl_nil, List.set_cons_zero, List.set_cons_succ]; rfl) | rfl) ?_
    refine AW_seq ?_
    refine AW_region ?_
    refine AL_lss rfl rfl ?_
    refine AL_norm (by first | (simp only [tput, anyAt, setAll, List.foldl_cons, List.foldl_nil, List.set_cons_zero, List.set_cons_succ]; rfl) | rfl) ?_
    refine AL_nil ?_
    refine seqQ_n ?_
    refine AW_seq ?_
    refine AW_cond rfl (fun hc1 => ?_) (fun hc1 => ?_)
    · try simp only [Bool.or_eq_true, Bool.and_eq_true, Bool.or_eq_false_iff, Bool.and_eq_false_iff, decide_eq_true_eq, decide_eq_false_iff_not, Bool.not_eq_true', Bool.not_eq_false', beq_iff_eq, ne_eq, Decidable.not_not, List.length_map] at hc1
      refine AW_skip ?_
      refine seqQ_n ?_
      refine AW_seq ?_
      refine AW_block ?_
      refine AW_seq ?_
      refine AW_region ?_
      refine AL_move rfl ?_
      refine AL_norm (by first | (simp only [tput, anyAt, setAll, List.foldl_cons, List.foldl_nil, List.set_cons_zero, List.set_cons_succ]; rfl) | rfl) ?_
      first | refine AL_indexAddr_sl un53 sz5 (by decide) rfl rfl ?_ ?_ ?_ ?_ | refine AL_indexAddr_own un53 sz5 rfl rfl ?_ ?_ ?_
      · omega
      · omega
      refine AL_load_pt (x := byteAV ((toL s).getD i 0)) ag5 sz5 (by decide) rfl (by repeat (first | exact AH.upd_same _ _ _ | exact hH | assumption | refine AH.look_other (by assumption) ?_)) (by first | assumption | exact sz3 | exact sz9 | exact sz5) (mixL_at (by rw [toL_len]; omega)) rfl rfl ?_
      refine AL_assign rfl ?_
      refine AL_assign rfl ?_
      refine AL_norm (by first | (simp only [tput, anyAt, setAll, List.foldl_cons, List.foldl_nil, List.set_cons_zero, List.set_cons_succ]; rfl) | rfl) ?_
      refine AL_nil ?_
      refine seqQ_n ?_
      refine AW_seq ?_
      refine AW_region ?_
      refine AL_move rfl ?_
      refine AL_norm (by first | (simp only [tput, anyAt, setAll, List.foldl_cons, List.foldl_nil, List.set_cons_zero, List.set_cons_succ]; rfl) | rfl) ?_
      refine AL_geq rfl rfl ?_
      refine AL_move rfl ?_
      refine AL_and (j := 2) (n := 2) (c := 17) (t := 19) (r := 20) (v := ?v2) [18, 19] rfl rfl rfl rfl rfl rfl rfl (fun hg2 => ?_) ?_; rotate_left
      · simp only [List.take_succ_cons, List.take_zero, List.map_cons, List.map_nil, strip, Nat.reduceBEq, beq_self_eq_true, Bool.and_self, Bool.true_and, Bool.false_and, cond_true, cond_false]
        try simp only [Bool.or_eq_true, Bool.and_eq_true, Bool.or_eq_false_iff, Bool.and_eq_false_iff, decide_eq_true_eq, decide_eq_false_iff_not, Bool.not_eq_true', Bool.not_eq_false', beq_iff_eq, ne_eq, Decidable.not_not, List.length_map] at hg2
        refine AL_move rfl ?_
        refine AL_leq rfl rfl ?_
        refine AL_nil (grpQ_mk ?_)
        try simp only [tput, anyAt, setAll, List.foldl_cons, List.foldl_nil, List.set_cons_zero, List.set_cons_succ]
        repeat (first | exact Weak.nil | refine Weak.cons ?_ | refine Weak.consAny ?_)
      refine AL_norm (by first | (simp only [tput, anyAt, setAll, List.foldl_cons, List.foldl_nil, List.set_cons_zero, List.set_cons_succ]; rfl) | rfl) ?_
      refine AL_norm (by first | (simp only [tput, anyAt, setAll, List.foldl_cons, List.foldl_nil, List.set_cons_zero, List.set_cons_succ]; rfl) | rfl) ?_
      refine AL_nil ?_
      refine seqQ_n ?_
      refine AW_cond rfl (fun hc3 => ?_) (fun hc3 => ?_)
      · try simp only [Bool.or_eq_true, Bool.and_eq_true, Bool.or_eq_false_iff, Bool.and_eq_false_iff, decide_eq_true_eq, decide_eq_false_iff_not, Bool.not_eq_true', Bool.not_eq_false', beq_iff_eq, ne_eq, Decidable.not_not, List.length_map] at hc3
        refine AW_region ?_
        refine AL_move rfl ?_
        refine AL_norm (by first | (simp only [tput, anyAt, setAll, List.foldl_cons, List.foldl_nil, List.set_cons_zero, List.set_cons_succ]; rfl) | rfl) ?_
        refine AL_move rfl ?_
        refine AL_move rfl ?_
        refine AL_addz rfl rfl (((lowB ((toL s).getD i 0)).toNat : Int)) (by rw [lowB_up hc3]; exact u8_in _ (by omega)) ?_
        first | refine AL_indexAddr_sl un53 sz5 (by decide) rfl rfl ?_ ?_ ?_ ?_ | refine AL_indexAddr_own un53 sz5 rfl rfl ?_ ?_ ?_
        · omega
        · omega
        refine AL_norm (by first | (simp only [tput, anyAt, setAll, List.foldl_cons, List.foldl_nil, List.set_cons_zero, List.set_cons_succ]; rfl) | rfl) ?_
        first | refine AL_store_w sz5 rfl (.ev rfl) rfl (by repeat (first | exact AH.upd_same _ _ _ | exact hH | assumption | refine AH.look_other (by assumption) ?_)) rfl (by exact rfl) ?_ | refine AL_store rfl (.ev rfl) rfl (by repeat (first | exact AH.upd_same _ _ _ | exact hH | assumption | refine AH.look_other (by assumption) ?_)) (by first | assumption | exact sz3 | exact sz9 | exact sz5) (by exact (mixL_at (by rw [toL_len]; omega))) sz5 rfl (by decide) (fun h => by first | (cases h; done) | exact ⟨rfl, rfl, rfl⟩) ?_
        refine AL_heap (by first | (simp only [AH.upd_upd]; rfl) | rfl) ?_
        refine AL_norm (by first | (simp only [tput, anyAt, setAll, List.foldl_cons, List.foldl_nil, List.set_cons_zero, List.set_cons_succ]; rfl) | rfl) ?_
        refine AL_nil ?_
        refine blockQ_n ?_
        refine seqQ_n ?_
        refine AW_region ?_
        refine AL_addz rfl rfl (((i + 1 : Nat) : Int)) (by exact inc64 (by omega)) ?_
        refine AL_move rfl ?_
        refine AL_norm (by first | (simp only [tput, anyAt, setAll, List.foldl_cons, List.foldl_nil, List.set_cons_zero, List.set_cons_succ]; rfl) | rfl) ?_
        refine AL_nil ?_
        refine loopQ_n (i + 1) ?_ ?_ ?_ ?_
        · exact (by omega)
        · omega
        · rw [← mixL_set (by rw [toL_len]; omega)]; exact SubH.refl _
        · skip
          try simp only [tput, anyAt, setAll, List.foldl_cons, List.foldl_nil, List.set_cons_zero, List.set_cons_succ]
          repeat (first | exact Weak.nil | refine Weak.cons ?_ | refine Weak.consAny ?_)
      · try simp only [Bool.or_eq_true, Bool.and_eq_true, Bool.or_eq_false_iff, Bool.and_eq_false_iff, decide_eq_true_eq, decide_eq_false_iff_not, Bool.not_eq_true', Bool.not_eq_false', beq_iff_eq, ne_eq, Decidable.not_not, List.length_map] at hc3
        refine AW_skip ?_
        refine blockQ_n ?_
        refine seqQ_n ?_
        refine AW_region ?_
        refine AL_addz rfl rfl (((i + 1 : Nat) : Int)) (by exact inc64 (by omega)) ?_
        refine AL_norm (by first | (simp only [tput, anyAt, setAll, List.foldl_cons, List.foldl_nil, List.set_cons_zero, List.set_cons_succ]; rfl) | rfl) ?_
        refine AL_move rfl ?_
        refine AL_norm (by first | (simp only [tput, anyAt, setAll, List.foldl_cons, List.foldl_nil, List.set_cons_zero, List.set_cons_succ]; rfl) | rfl) ?_
        refine AL_nil ?_
        refine loopQ_n (i + 1) ?_ ?_ ?_ ?_
        · exact (by omega)
        · omega
        · rw [mixL_same (by rw [toL_len]; omega) (lowB_no hc3)]; exact SubH.refl _
        · skip
          try simp only [tput, anyAt, setAll, List.foldl_cons, List.foldl_nil, List.set_cons_zero, List.set_cons_succ]
          repeat (first | exact Weak.nil | refine Weak.cons ?_ | refine Weak.consAny ?_)
    · try simp only [Bool.or_eq_true, Bool.and_eq_true, Bool.or_eq_false_iff, Bool.and_eq_false_iff, decide_eq_true_eq, decide_eq_false_iff_not, Bool.not_eq_true', Bool.not_eq_false', beq_iff_eq, ne_eq, Decidable.not_not, List.length_map] at hc1
      refine AW_exit ?_
      refine seqQ_x ?_
      refine loopQ_x ?_
      refine blockQ_hit ?_
      refine seqQ_n ?_
      refine AW_seq ?_
      refine AW_region ?_
      refine AL_move rfl ?_
      refine AL_convBytes un53 un5 un9 sz5 rfl (AH.upd_same _ _ _) (by rw [mixL_len, toL_len]) ?_
      refine AL_assign rfl ?_
      refine AL_norm (by first | (simp only [tput, anyAt, setAll, List.foldl_cons, List.foldl_nil, List.set_cons_zero, List.set_cons_succ]; rfl) | rfl) ?_
      refine AL_nil ?_
      refine seqQ_n ?_
      refine AW_ret ?_
      refine retQ_1 (H' := H) (.inr rfl) rfl (by repeat (first | exact SubH.refl _ | refine SubH.upd ?_ (by assumption))) ?_
      refine K_eq ?_ hK
      unfold strAV lowS; rw [mixL_all (by rw [toL_len]; omega)]; rfl

/-- quillwork/css.words -/
theorem css_words_ok (v : ByteArray) (hs : v.size < 4294967281) :
    PI TC Tryd.prog 46 [strAV v] (pairAV (wordsP (splitS v 32) 0 false)) := by
  have hsl := splitS_len v 32
  intro H K hI hK
  refine AC_of Tryd.func46 rfl (rs := [.tmp 2, .tmp 3]) rfl Tryd.ntmps46 rfl ?_
  refine AW_norm (by simp only [List.length_cons, List.length_nil, Nat.reduceAdd, Nat.reduceSub, List.replicate, List.cons_append, List.nil_append]; rfl) ?_
  refine AW_seq ?_
  refine AW_region ?_
  refine AL_assign rfl ?_
  refine AL_assign rfl ?_
  refine AL_norm (by first | (simp only [tput, anyAt, setAll, List.foldl_cons, List.foldl_nil, List.set_cons_zero, List.set_cons_succ]; rfl) | rfl) ?_
  refine AL_nil ?_
  refine seqQ_n ?_
  refine AW_seq ?_
  refine AW_region ?_
  refine AL_assign rfl ?_
  refine AL_assign rfl ?_
  refine AL_norm (by first | (simp only [tput, anyAt, setAll, List.foldl_cons, List.foldl_nil, List.set_cons_zero, List.set_cons_succ]; rfl) | rfl) ?_
  refine AL_nil ?_
  refine seqQ_n ?_
  refine AW_seq ?_
  refine AW_seq ?_
  refine AW_region ?_
  refine AL_move rfl ?_
  refine AL_norm (by first | (simp only [tput, anyAt, setAll, List.foldl_cons, List.foldl_nil, List.set_cons_zero, List.set_cons_succ]; rfl) | rfl) ?_
  refine AL_callpi en57 (.cons (.ev rfl) (.cons (.ev rfl) (.nil))) (by repeat (first | assumption | refine Holds.upd ?_ (by first | assumption | repeat (first | assumption | refine AH.look_other (by assumption) ?_)))) (Split_ok v 32 hs) ?_
  first | refine AL_len_sl un48 rfl ?_ | refine AL_len_own un48 rfl ?_
  refine AL_move rfl ?_
  refine AL_norm (by first | (simp only [tput, anyAt, setAll, List.foldl_cons, List.foldl_nil, List.set_cons_zero, List.set_cons_succ]; rfl) | rfl) ?_
  refine AL_nil ?_
  refine seqQ_n ?_
  refine AW_block ?_
  refine AW_loops (α := Nat × B4 × Bool) [2, 3, 4, 5, 7, 11, 12, 13, 14, 15, 16, 17, 18, 19, 20, 21, 22, 23, 24, 25, 26] (fun z => [(11, .v (.int .i64 (z.1 : Int))), (4, bAV z.2.1), (5, .v (.bool z.2.2))]) (fun z => H) (fun z => z.1 ≤ (splitS v 32).length ∧ wordsP ((splitS v 32).drop z.1) z.2.1 z.2.2 = wordsP (splitS v 32) 0 false) (fun z => (splitS v 32).length - z.1) ((0, 0, false)) ?_ ?_ ?_ ?_
  · exact ⟨Nat.zero_le _, rfl⟩
  · repeat (first | exact SubH.refl _ | assumption | refine SubH.new ?_ (by assumption))
  · skip
    try simp only [tput, anyAt, setAll, List.foldl_cons, List.foldl_nil, List.set_cons_zero, List.set_cons_succ]
    repeat (first | exact Weak.nil | refine Weak.cons ?_ | refine Weak.consAny ?_)
  · rintro ⟨i, b, sm⟩ hI; dsimp only at hI ⊢
    refine AW_norm (by first | (simp only [tput, anyAt, setAll, List.foldl_cons, List.foldl_nil, List.set_cons_zero, List.set_cons_succ]; rfl) | rfl) ?_
    refine AW_seq ?_
    refine AW_region ?_
    refine AL_lss rfl rfl ?_
    refine AL_norm (by first | (simp only [tput, anyAt, setAll, List.foldl_cons, List.foldl_nil, List.set_cons_zero, List.set_cons_succ]; rfl) | rfl) ?_
    refine AL_nil ?_
    refine seqQ_n ?_
    refine AW_seq ?_
    refine AW_cond rfl (fun hc1 => ?_) (fun hc1 => ?_)
    · try simp only [Bool.or_eq_true, Bool.and_eq_true, Bool.or_eq_false_iff, Bool.and_eq_false_iff, decide_eq_true_eq, decide_eq_false_iff_not, Bool.not_eq_true', Bool.not_eq_false', beq_iff_eq, ne_eq, Decidable.not_not, List.length_map] at hc1
      refine AW_skip ?_
      refine seqQ_n ?_
      refine AW_seq ?_
      refine AW_block ?_
      refine AW_seq ?_
      refine AW_region ?_
      first | refine AL_indexAddr_sl (y := strAV ((splitS v 32).getD i ⟨#[]⟩)) un48 sz9 (by decide) rfl rfl ?_ ?_ ?_ ?_ | refine AL_indexAddr_own un48 sz9 rfl rfl ?_ ?_ ?_
      · omega
      · simp only [List.length_map]; omega
      · exact map_get strAV (i := i) ⟨#[]⟩ (by omega)
      refine AL_norm (by first | (simp only [tput, anyAt, setAll, List.foldl_cons, List.foldl_nil, List.set_cons_zero, List.set_cons_succ]; rfl) | rfl) ?_
      first | refine AL_load_rp sz9 rfl ag9 ?_ | refine AL_loadw sz9 rfl (by repeat (first | exact AH.upd_same _ _ _ | exact hH | assumption | refine AH.look_other (by assumption) ?_)) (by exact ag9) (by exact rfl) ?_ | refine AL_load_pt ag9 sz9 (by decide) rfl (by repeat (first | exact AH.upd_same _ _ _ | exact hH | assumption | refine AH.look_other (by assumption) ?_)) (by first | assumption | exact sz3 | exact sz9 | exact sz5) (by exact rfl) (by exact rfl) (by exact rfl) ?_
      refine AL_assign rfl ?_
      refine AL_norm (by first | (simp only [tput, anyAt, setAll, List.foldl_cons, List.foldl_nil, List.set_cons_zero, List.set_cons_succ]; rfl) | rfl) ?_
      refine AL_nil ?_
      refine seqQ_n ?_
      refine AW_seq ?_
      refine AW_seq ?_
      refine AW_region ?_
      refine AL_move rfl ?_
      refine AL_norm (by first | (simp only [tput, anyAt, setAll, List.foldl_cons, List.foldl_nil, List.set_cons_zero, List.set_cons_succ]; rfl) | rfl) ?_
      refine AL_nil ?_
      refine seqQ_n ?_
      refine AW_block ?_
      refine AW_seq ?_
      refine AW_region ?_
      refine AL_seql rfl rfl ?_
      refine AL_norm (by first | (simp only [tput, anyAt, setAll, List.foldl_cons, List.foldl_nil, List.set_cons_zero, List.set_cons_succ]; rfl) | rfl) ?_
      refine AL_assign rfl ?_
      refine AL_norm (by first | (simp only [tput, anyAt, setAll, List.foldl_cons, List.foldl_nil, List.set_cons_zero, List.set_cons_succ]; rfl) | rfl) ?_
      refine AL_nil ?_
      refine seqQ_n ?_
      refine AW_cond rfl (fun hc2 => ?_) (fun hc2 => ?_)
      · try simp only [Bool.or_eq_true, Bool.and_eq_true, Bool.or_eq_false_iff, Bool.and_eq_false_iff, decide_eq_true_eq, decide_eq_false_iff_not, Bool.not_eq_true', Bool.not_eq_false', beq_iff_eq, ne_eq, Decidable.not_not, List.length_map] at hc2
        refine AW_region ?_
        refine AL_move rfl ?_
        refine AL_bitsz (((b ||| 4).toNat : Int)) rfl rfl (by decide) (b4_or b 4) ?_
        refine AL_assign rfl ?_
        refine AL_norm (by first | (simp only [tput, anyAt, setAll, List.foldl_cons, List.foldl_nil, List.set_cons_zero, List.set_cons_succ]; rfl) | rfl) ?_
        refine AL_nil ?_
        refine blockQ_n ?_
        refine seqQ_n ?_
        refine AW_region ?_
        refine AL_assign rfl ?_
        refine AL_norm (by first | (simp only [tput, anyAt, setAll, List.foldl_cons, List.foldl_nil, List.set_cons_zero, List.set_cons_succ]; rfl) | rfl) ?_
        refine AL_nil ?_
        refine blockQ_n ?_
        refine seqQ_n ?_
        refine AW_region ?_
        refine AL_addz rfl rfl (((i + 1 : Nat) : Int)) (by exact inc64 (by omega)) ?_
        refine AL_norm (by first | (simp only [tput, anyAt, setAll, List.foldl_cons, List.foldl_nil, List.set_cons_zero, List.set_cons_succ]; rfl) | rfl) ?_
        refine AL_move rfl ?_
        refine AL_norm (by first | (simp only [tput, anyAt, setAll, List.foldl_cons, List.foldl_nil, List.set_cons_zero, List.set_cons_succ]; rfl) | rfl) ?_
        refine AL_nil ?_
        refine loopQ_n ((i + 1, b ||| 4, true)) ?_ ?_ ?_ ?_
        · exact ⟨by omega, (wP_und (by omega) hc2).trans hI.2⟩
        · (show (splitS v 32).length - (i + 1) < (splitS v 32).length - i; omega)
        · repeat (first | exact SubH.refl _ | assumption | refine SubH.new ?_ (by assumption))
        · skip
          try simp only [tput, anyAt, setAll, List.foldl_cons, List.foldl_nil, List.set_cons_zero, List.set_cons_succ]
          repeat (first | exact Weak.nil | refine Weak.cons ?_ | refine Weak.consAny ?_)
      · try simp only [Bool.or_eq_true, Bool.and_eq_true, Bool.or_eq_false_iff, Bool.and_eq_false_iff, decide_eq_true_eq, decide_eq_false_iff_not, Bool.not_eq_true', Bool.not_eq_false', beq_iff_eq, ne_eq, Decidable.not_not, List.length_map] at hc2
        refine AW_seq ?_
        refine AW_region ?_
        refine AL_seql rfl rfl ?_
        refine AL_assign rfl ?_
        refine AL_norm (by first | (simp only [tput, anyAt, setAll, List.foldl_cons, List.foldl_nil, List.set_cons_zero, List.set_cons_succ]; rfl) | rfl) ?_
        refine AL_nil ?_
        refine seqQ_n ?_
        refine AW_cond rfl (fun hc3 => ?_) (fun hc3 => ?_)
        · try simp only [Bool.or_eq_true, Bool.and_eq_true, Bool.or_eq_false_iff, Bool.and_eq_false_iff, decide_eq_true_eq, decide_eq_false_iff_not, Bool.not_eq_true', Bool.not_eq_false', beq_iff_eq, ne_eq, Decidable.not_not, List.length_map] at hc3
          refine AW_region ?_
          refine AL_move rfl ?_
          refine AL_norm (by first | (simp only [tput, anyAt, setAll, List.foldl_cons, List.foldl_nil, List.set_cons_zero, List.set_cons_succ]; rfl) | rfl) ?_
          refine AL_bitsz (((b ||| 8).toNat : Int)) rfl rfl (by decide) (b4_or b 8) ?_
          refine AL_assign rfl ?_
          refine AL_norm (by first | (simp only [tput, anyAt, setAll, List.foldl_cons, List.foldl_nil, List.set_cons_zero, List.set_cons_succ]; rfl) | rfl) ?_
          refine AL_nil ?_
          refine blockQ_n ?_
          refine seqQ_n ?_
          refine AW_region ?_
          refine AL_assign rfl ?_
          refine AL_norm (by first | (simp only [tput, anyAt, setAll, List.foldl_cons, List.foldl_nil, List.set_cons_zero, List.set_cons_succ]; rfl) | rfl) ?_
          refine AL_nil ?_
          refine blockQ_n ?_
          refine seqQ_n ?_
          refine AW_region ?_
          refine AL_addz rfl rfl (((i + 1 : Nat) : Int)) (by exact inc64 (by omega)) ?_
          refine AL_norm (by first | (simp only [tput, anyAt, setAll, List.foldl_cons, List.foldl_nil, List.set_cons_zero, List.set_cons_succ]; rfl) | rfl) ?_
          refine AL_move rfl ?_
          refine AL_norm (by first | (simp only [tput, anyAt, setAll, List.foldl_cons, List.foldl_nil, List.set_cons_zero, List.set_cons_succ]; rfl) | rfl) ?_
          refine AL_nil ?_
          refine loopQ_n ((i + 1, b ||| 8, true)) ?_ ?_ ?_ ?_
          · exact ⟨by omega, (wP_thr (by omega) hc2 hc3).trans hI.2⟩
          · (show (splitS v 32).length - (i + 1) < (splitS v 32).length - i; omega)
          · repeat (first | exact SubH.refl _ | assumption | refine SubH.new ?_ (by assumption))
          · skip
            try simp only [tput, anyAt, setAll, List.foldl_cons, List.foldl_nil, List.set_cons_zero, List.set_cons_succ]
            repeat (first | exact Weak.nil | refine Weak.cons ?_ | refine Weak.consAny ?_)
        · try simp only [Bool.or_eq_true, Bool.and_eq_true, Bool.or_eq_false_iff, Bool.and_eq_false_iff, decide_eq_true_eq, decide_eq_false_iff_not, Bool.not_eq_true', Bool.not_eq_false', beq_iff_eq, ne_eq, Decidable.not_not, List.length_map] at hc3
          refine AW_seq ?_
          refine AW_region ?_
          refine AL_seql rfl rfl ?_
          refine AL_assign rfl ?_
          refine AL_norm (by first | (simp only [tput, anyAt, setAll, List.foldl_cons, List.foldl_nil, List.set_cons_zero, List.set_cons_succ]; rfl) | rfl) ?_
          refine AL_nil ?_
          refine seqQ_n ?_
          refine AW_cond rfl (fun hc4 => ?_) (fun hc4 => ?_)
          · try simp only [Bool.or_eq_true, Bool.and_eq_true, Bool.or_eq_false_iff, Bool.and_eq_false_iff, decide_eq_true_eq, decide_eq_false_iff_not, Bool.not_eq_true', Bool.not_eq_false', beq_iff_eq, ne_eq, Decidable.not_not, List.length_map] at hc4
            refine AW_exit ?_
            refine blockQ_miss (by decide) ?_
            refine seqQ_x ?_
            refine blockQ_hit ?_
            refine seqQ_n ?_
            refine AW_region ?_
            refine AL_addz rfl rfl (((i + 1 : Nat) : Int)) (by exact inc64 (by omega)) ?_
            refine AL_norm (by first | (simp only [tput, anyAt, setAll, List.foldl_cons, List.foldl_nil, List.set_cons_zero, List.set_cons_succ]; rfl) | rfl) ?_
            refine AL_move rfl ?_
            refine AL_norm (by first | (simp only [tput, anyAt, setAll, List.foldl_cons, List.foldl_nil, List.set_cons_zero, List.set_cons_succ]; rfl) | rfl) ?_
            refine AL_nil ?_
            refine loopQ_n ((i + 1, b, sm)) ?_ ?_ ?_ ?_
            · exact ⟨by omega, (wP_emp (by omega) hc2 hc3 hc4).trans hI.2⟩
            · (show (splitS v 32).length - (i + 1) < (splitS v 32).length - i; omega)
            · repeat (first | exact SubH.refl _ | assumption | refine SubH.new ?_ (by assumption))
            · skip
              try simp only [tput, anyAt, setAll, List.foldl_cons, List.foldl_nil, List.set_cons_zero, List.set_cons_succ]
              repeat (first | exact Weak.nil | refine Weak.cons ?_ | refine Weak.consAny ?_)
          · try simp only [Bool.or_eq_true, Bool.and_eq_true, Bool.or_eq_false_iff, Bool.and_eq_false_iff, decide_eq_true_eq, decide_eq_false_iff_not, Bool.not_eq_true', Bool.not_eq_false', beq_iff_eq, ne_eq, Decidable.not_not, List.length_map] at hc4
            refine AW_seq ?_
            refine AW_region ?_
            refine AL_assign rfl ?_
            refine AL_assign rfl ?_
            refine AL_norm (by first | (simp only [tput, anyAt, setAll, List.foldl_cons, List.foldl_nil, List.set_cons_zero, List.set_cons_succ]; rfl) | rfl) ?_
            refine AL_nil ?_
            refine seqQ_n ?_
            refine AW_ret ?_
            refine blockQ_r ?_
            refine seqQ_r ?_
            refine blockQ_r ?_
            refine seqQ_r ?_
            refine loopQ_r ?_
            refine blockQ_r ?_
            refine seqQ_r ?_
            refine retQ_2 (H' := H) (.inr rfl) rfl rfl (by repeat (first | exact SubH.refl _ | refine SubH.upd ?_ (by assumption))) ?_
            refine K_eq ?_ hK
            rw [← hI.2, wP_no (by omega) hc2 hc3 hc4]; rfl
    · try simp only [Bool.or_eq_true, Bool.and_eq_true, Bool.or_eq_false_iff, Bool.and_eq_false_iff, decide_eq_true_eq, decide_eq_false_iff_not, Bool.not_eq_true', Bool.not_eq_false', beq_iff_eq, ne_eq, Decidable.not_not, List.length_map] at hc1
      refine AW_exit ?_
      refine seqQ_x ?_
      refine loopQ_x ?_
      refine blockQ_hit ?_
      refine seqQ_n ?_
      refine AW_seq ?_
      refine AW_region ?_
      refine AL_move rfl ?_
      refine AL_norm (by first | (simp only [tput, anyAt, setAll, List.foldl_cons, List.foldl_nil, List.set_cons_zero, List.set_cons_succ]; rfl) | rfl) ?_
      refine AL_move rfl ?_
      refine AL_assign rfl ?_
      refine AL_assign rfl ?_
      refine AL_norm (by first | (simp only [tput, anyAt, setAll, List.foldl_cons, List.foldl_nil, List.set_cons_zero, List.set_cons_succ]; rfl) | rfl) ?_
      refine AL_nil ?_
      refine seqQ_n ?_
      refine AW_ret ?_
      refine retQ_2 (H' := H) (.inr rfl) rfl rfl (by repeat (first | exact SubH.refl _ | refine SubH.upd ?_ (by assumption))) ?_
      refine K_eq ?_ hK
      rw [← hI.2, wP_end (by omega)]; rfl

/-- quillwork/css.declarations$1 -/
theorem css_declarations_1_ok  :
    ∀ (s : ByteArray) (hs : s.size < 4294967281), IterC Tryd.prog 56 [.rp 9 (strAV s)] ((decls s).map declAV) TC := by
  intro s hs l J Jx hI0 hY H K hJ hK
  have hsl := splitS_len s 59
  have hIH : TC H := hI0 0 H hJ
  refine AC_of Tryd.func56 rfl (rs := []) rfl Tryd.ntmps56 rfl ?_
  refine AW_norm (by simp only [List.length_cons, List.length_nil, Nat.reduceAdd, Nat.reduceSub, List.replicate, List.cons_append, List.nil_append]; rfl) ?_
  refine AW_seq ?_
  refine AW_region ?_
  first | refine AL_load_rp sz9 rfl ag9 ?_ | refine AL_loadw sz9 rfl (by repeat (first | exact AH.upd_same _ _ _ | exact hH | assumption | refine AH.look_other (by assumption) ?_)) (by exact ag9) (by exact rfl) ?_ | refine AL_load_pt ag9 sz9 (by decide) rfl (by repeat (first | exact AH.upd_same _ _ _ | exact hH | assumption | refine AH.look_other (by assumption) ?_)) (by first | assumption | exact sz3 | exact sz9 | exact sz5) (by exact rfl) (by exact rfl) (by exact rfl) ?_
  refine AL_callpi en57 (.cons (.ev rfl) (.cons (.ev rfl) (.nil))) (by repeat (first | assumption | refine Holds.upd ?_ (by first | assumption | repeat (first | assumption | refine AH.look_other (by assumption) ?_)))) (Split_ok s 59 hs) ?_
  first | refine AL_len_sl un48 rfl ?_ | refine AL_len_own un48 rfl ?_
  refine AL_move rfl ?_
  refine AL_norm (by first | (simp only [tput, anyAt, setAll, List.foldl_cons, List.foldl_nil, List.set_cons_zero, List.set_cons_succ]; rfl) | rfl) ?_
  refine AL_nil ?_
  refine seqQ_n ?_
  refine AW_block ?_
  refine AW_loops (α := Nat × AH) [4, 5, 6, 7, 11, 12, 13, 14, 15, 16, 17, 18, 19, 20, 21, 22, 23, 24, 25, 26, 27, 28, 29, 30, 31, 32, 33] (fun z => [(11, .v (.int .i64 (z.1 : Int)))]) (fun z => z.2) (fun z => z.1 ≤ (splitS s 59).length ∧ J (declN s z.1) z.2 ∧ TC z.2) (fun z => (splitS s 59).length - z.1) ((0, H)) ?_ ?_ ?_ ?_
  · exact ⟨Nat.zero_le _, hJ, hIH⟩
  · repeat (first | exact SubH.refl _ | assumption | refine SubH.new ?_ (by assumption))
  · skip
    try simp only [tput, anyAt, setAll, List.foldl_cons, List.foldl_nil, List.set_cons_zero, List.set_cons_succ]
    repeat (first | exact Weak.nil | refine Weak.cons ?_ | refine Weak.consAny ?_)
  · rintro ⟨i, H1⟩ hI; dsimp only at hI ⊢; have hT1 := hI.2.2
    refine AW_norm (by first | (simp only [tput, anyAt, setAll, List.foldl_cons, List.foldl_nil, List.set_cons_zero, List.set_cons_succ]; rfl) | rfl) ?_
    refine AW_seq ?_
    refine AW_region ?_
    refine AL_lss rfl rfl ?_
    refine AL_norm (by first | (simp only [tput, anyAt, setAll, List.foldl_cons, List.foldl_nil, List.set_cons_zero, List.set_cons_succ]; rfl) | rfl) ?_
    refine AL_nil ?_
    refine seqQ_n ?_
    refine AW_seq ?_
    refine AW_cond rfl (fun hc1 => ?_) (fun hc1 => ?_)
    · try simp only [Bool.or_eq_true, Bool.and_eq_true, Bool.or_eq_false_iff, Bool.and_eq_false_iff, decide_eq_true_eq, decide_eq_false_iff_not, Bool.not_eq_true', Bool.not_eq_false', beq_iff_eq, ne_eq, Decidable.not_not, List.length_map] at hc1
      refine AW_skip ?_
      refine seqQ_n ?_
      refine AW_seq ?_
      refine AW_block ?_
      refine AW_seq ?_
      refine AW_region ?_
      first | refine AL_indexAddr_sl (y := strAV (ofL (pieceD s i))) un48 sz9 (by decide) rfl rfl ?_ ?_ ?_ ?_ | refine AL_indexAddr_own un48 sz9 rfl rfl ?_ ?_ ?_
      · omega
      · simp only [List.length_map]; omega
      · exact splitS_get (by omega)
      refine AL_norm (by first | (simp only [tput, anyAt, setAll, List.foldl_cons, List.foldl_nil, List.set_cons_zero, List.set_cons_succ]; rfl) | rfl) ?_
      first | refine AL_load_rp sz9 rfl ag9 ?_ | refine AL_loadw sz9 rfl (by repeat (first | exact AH.upd_same _ _ _ | exact hH | assumption | refine AH.look_other (by assumption) ?_)) (by exact ag9) (by exact rfl) ?_ | refine AL_load_pt ag9 sz9 (by decide) rfl (by repeat (first | exact AH.upd_same _ _ _ | exact hH | assumption | refine AH.look_other (by assumption) ?_)) (by first | assumption | exact sz3 | exact sz9 | exact sz5) (by exact rfl) (by exact rfl) (by exact rfl) ?_
      refine AL_assign rfl ?_
      refine AL_norm (by first | (simp only [tput, anyAt, setAll, List.foldl_cons, List.foldl_nil, List.set_cons_zero, List.set_cons_succ]; rfl) | rfl) ?_
      refine AL_nil ?_
      refine seqQ_n ?_
      refine AW_seq ?_
      refine AW_region ?_
      refine AL_move rfl ?_
      refine AL_callpi en58 (.cons (.ev rfl) (.cons (.ev rfl) (.nil))) (by repeat (first | assumption | refine Holds.upd ?_ (by first | assumption | repeat (first | assumption | refine AH.look_other (by assumption) ?_)))) (Cut_ok (pieceD s i) (by have := pieceD_len s i; omega)) ?_
      refine AL_norm (by first | (simp only [tput, anyAt, setAll, List.foldl_cons, List.foldl_nil, List.set_cons_zero, List.set_cons_succ]; rfl) | rfl) ?_
      refine AL_move rfl ?_
      refine AL_extract rfl rfl ?_
      refine AL_extract rfl rfl ?_
      refine AL_extract rfl rfl ?_
      refine AL_norm (by first | (simp only [tput, anyAt, setAll, List.foldl_cons, List.foldl_nil, List.set_cons_zero, List.set_cons_succ]; rfl) | rfl) ?_
      refine AL_assign rfl ?_
      refine AL_assign rfl ?_
      refine AL_assign rfl ?_
      refine AL_norm (by first | (simp only [tput, anyAt, setAll, List.foldl_cons, List.foldl_nil, List.set_cons_zero, List.set_cons_succ]; rfl) | rfl) ?_
      refine AL_nil ?_
      refine seqQ_n ?_
      refine AW_seq ?_
      refine AW_region ?_
      refine AL_move rfl ?_
      refine AL_norm (by first | (simp only [tput, anyAt, setAll, List.foldl_cons, List.foldl_nil, List.set_cons_zero, List.set_cons_succ]; rfl) | rfl) ?_
      refine AL_move rfl ?_
      refine AL_bcase 22 rfl (fun hc2 => ?_) (fun hc2 => ?_)
      · try simp only [Bool.or_eq_true, Bool.and_eq_true, Bool.or_eq_false_iff, Bool.and_eq_false_iff, decide_eq_true_eq, decide_eq_false_iff_not, Bool.not_eq_true', Bool.not_eq_false', beq_iff_eq, ne_eq, Decidable.not_not, List.length_map] at hc2
        refine AL_norm (by first | (simp only [tput, anyAt, setAll, List.foldl_cons, List.foldl_nil, List.set_cons_zero, List.set_cons_succ]; rfl) | rfl) ?_
        refine AL_take rfl rfl ?_
        refine AL_move rfl ?_
        refine AL_take rfl rfl ?_
        refine AL_move rfl ?_
        refine AL_take rfl rfl ?_
        refine AL_callp en60 (.cons (.ev rfl) (.cons (.ev rfl) (.nil))) (Trim_ok _ (by rw [ofL_size]; have := pieceD_len s i; have := cut_len (pieceD s i); omega)) ?_
        refine AL_norm (by first | (simp only [tput, anyAt, setAll, List.foldl_cons, List.foldl_nil, List.set_cons_zero, List.set_cons_succ]; rfl) | rfl) ?_
        refine AL_take rfl rfl ?_
        refine AL_callp en59 (.cons (.ev rfl) (.nil)) (css_low_ok _ (by unfold trimS; rw [ofL_size]; have h1 := fun l => trimB_len l 32; have h2 := pieceD_len s i; have h3 := cut_len (pieceD s i); first | (have := h1 (toL (ofL (Lib.cut (pieceD s i) [58]).1)); rw [toL_ofL] at this ⊢; omega) | (have := h1 (toL (ofL (Lib.cut (pieceD s i) [58]).2.1)); rw [toL_ofL] at this ⊢; omega))) ?_
        refine AL_take rfl rfl ?_
        refine AL_move rfl ?_
        refine AL_take rfl rfl ?_
        refine AL_callp en60 (.cons (.ev rfl) (.cons (.ev rfl) (.nil))) (Trim_ok _ (by rw [ofL_size]; have := pieceD_len s i; have := cut_len (pieceD s i); omega)) ?_
        refine AL_take rfl rfl ?_
        refine AL_callp en59 (.cons (.ev rfl) (.nil)) (css_low_ok _ (by unfold trimS; rw [ofL_size]; have h1 := fun l => trimB_len l 32; have h2 := pieceD_len s i; have h3 := cut_len (pieceD s i); first | (have := h1 (toL (ofL (Lib.cut (pieceD s i) [58]).1)); rw [toL_ofL] at this ⊢; omega) | (have := h1 (toL (ofL (Lib.cut (pieceD s i) [58]).2.1)); rw [toL_ofL] at this ⊢; omega))) ?_
        refine AL_norm (by first | (simp only [tput, anyAt, setAll, List.foldl_cons, List.foldl_nil, List.set_cons_zero, List.set_cons_succ]; rfl) | rfl) ?_
        refine AL_take rfl rfl ?_
        refine AL_yield rfl (.cons (.ev rfl) (.cons (.ev rfl) .nil)) (hY _ _ _ (by exact (declN_yes (by omega) (declOf_yes hc2)).2) hI.2.1) ?_; rintro bb H2 hK2
        refine AL_take rfl rfl ?_
        refine AL_not rfl ?_
        first | refine AL_pick_t rfl rfl ?_ | refine AL_pick_f rfl rfl ?_
        refine AL_norm (by first | (simp only [tput, anyAt, setAll, List.foldl_cons, List.foldl_nil, List.set_cons_zero, List.set_cons_succ]; rfl) | rfl) ?_
        refine AL_nil ?_
        refine seqQ_n ?_
        refine AW_cond rfl (fun hc3 => ?_) (fun hc3 => ?_)
        · try simp only [Bool.or_eq_true, Bool.and_eq_true, Bool.or_eq_false_iff, Bool.and_eq_false_iff, decide_eq_true_eq, decide_eq_false_iff_not, Bool.not_eq_true', Bool.not_eq_false', beq_iff_eq, ne_eq, Decidable.not_not, List.length_map] at hc3
          refine AW_ret ?_
          refine blockQ_r ?_
          refine seqQ_r ?_
          refine loopQ_r ?_
          refine blockQ_r ?_
          refine retQ_0 (H' := _) (.inr rfl) (by repeat (first | exact SubH.refl _ | refine SubH.upd ?_ (by assumption))) ?_
          exact hK _ _ (.inr (by rw [if_neg (by rw [hc3]; decide)] at hK2; exact hK2))
        · try simp only [Bool.or_eq_true, Bool.and_eq_true, Bool.or_eq_false_iff, Bool.and_eq_false_iff, decide_eq_true_eq, decide_eq_false_iff_not, Bool.not_eq_true', Bool.not_eq_false', beq_iff_eq, ne_eq, Decidable.not_not, List.length_map] at hc3
          refine AW_skip ?_
          refine blockQ_n ?_
          refine seqQ_n ?_
          refine AW_region ?_
          refine AL_addz rfl rfl (((i + 1 : Nat) : Int)) (by exact inc64 (by omega)) ?_
          refine AL_norm (by first | (simp only [tput, anyAt, setAll, List.foldl_cons, List.foldl_nil, List.set_cons_zero, List.set_cons_succ]; rfl) | rfl) ?_
          refine AL_move rfl ?_
          refine AL_norm (by first | (simp only [tput, anyAt, setAll, List.foldl_cons, List.foldl_nil, List.set_cons_zero, List.set_cons_succ]; rfl) | rfl) ?_
          refine AL_nil ?_
          refine loopQ_n ((i + 1, H2)) ?_ ?_ ?_ ?_
          · (have h3 : J (declN s (i + 1)) H2 := (by rw [if_pos hc3] at hK2; rw [(declN_yes (by omega) (declOf_yes hc2)).1]; exact hK2)); exact ⟨by omega, h3, hI0 _ _ h3⟩
          · (show (splitS s 59).length - (i + 1) < (splitS s 59).length - i; omega)
          · repeat (first | exact SubH.refl _ | assumption | refine SubH.new ?_ (by assumption))
          · skip
            try simp only [tput, anyAt, setAll, List.foldl_cons, List.foldl_nil, List.set_cons_zero, List.set_cons_succ]
            repeat (first | exact Weak.nil | refine Weak.cons ?_ | refine Weak.consAny ?_)
      · try simp only [Bool.or_eq_true, Bool.and_eq_true, Bool.or_eq_false_iff, Bool.and_eq_false_iff, decide_eq_true_eq, decide_eq_false_iff_not, Bool.not_eq_true', Bool.not_eq_false', beq_iff_eq, ne_eq, Decidable.not_not, List.length_map] at hc2
        refine AL_norm (by first | (simp only [tput, anyAt, setAll, List.foldl_cons, List.foldl_nil, List.set_cons_zero, List.set_cons_succ]; rfl) | rfl) ?_
        refine AL_leave rfl rfl (by decide) ?_
        refine AL_leave rfl rfl (by decide) ?_
        refine AL_leave rfl rfl (by decide) ?_
        refine AL_leave rfl rfl (by decide) ?_
        refine AL_leave rfl rfl (by decide) ?_
        refine AL_leave rfl rfl (by decide) ?_
        refine AL_leave rfl rfl (by decide) ?_
        refine AL_leave rfl rfl (by decide) ?_
        refine AL_leave rfl rfl (by decide) ?_
        refine AL_norm (by first | (simp only [tput, anyAt, setAll, List.foldl_cons, List.foldl_nil, List.set_cons_zero, List.set_cons_succ]; rfl) | rfl) ?_
        first | refine AL_pick_t rfl rfl ?_ | refine AL_pick_f rfl rfl ?_
        refine AL_norm (by first | (simp only [tput, anyAt, setAll, List.foldl_cons, List.foldl_nil, List.set_cons_zero, List.set_cons_succ]; rfl) | rfl) ?_
        refine AL_nil ?_
        refine seqQ_n ?_
        refine AW_cond rfl (fun hc4 => ?_) (fun hc4 => ?_)
        · try simp only [Bool.or_eq_true, Bool.and_eq_true, Bool.or_eq_false_iff, Bool.and_eq_false_iff, decide_eq_true_eq, decide_eq_false_iff_not, Bool.not_eq_true', Bool.not_eq_false', beq_iff_eq, ne_eq, Decidable.not_not, List.length_map] at hc4
          refine AW_ret ?_
          refine blockQ_r ?_
          refine seqQ_r ?_
          refine loopQ_r ?_
          refine blockQ_r ?_
          refine retQ_0 (H' := _) (.inr rfl) (by repeat (first | exact SubH.refl _ | refine SubH.upd ?_ (by assumption))) ?_
          exact absurd hc4 Bool.false_ne_true
        · try simp only [Bool.or_eq_true, Bool.and_eq_true, Bool.or_eq_false_iff, Bool.and_eq_false_iff, decide_eq_true_eq, decide_eq_false_iff_not, Bool.not_eq_true', Bool.not_eq_false', beq_iff_eq, ne_eq, Decidable.not_not, List.length_map] at hc4
          refine AW_skip ?_
          refine blockQ_n ?_
          refine seqQ_n ?_
          refine AW_region ?_
          refine AL_addz rfl rfl (((i + 1 : Nat) : Int)) (by exact inc64 (by omega)) ?_
          refine AL_move rfl ?_
          refine AL_norm (by first | (simp only [tput, anyAt, setAll, List.foldl_cons, List.foldl_nil, List.set_cons_zero, List.set_cons_succ]; rfl) | rfl) ?_
          refine AL_nil ?_
          refine loopQ_n ((i + 1, H1)) ?_ ?_ ?_ ?_
          · exact ⟨by omega, by rw [declN_no (by omega) (declOf_not hc2)]; exact hI.2.1, hI.2.2⟩
          · (show (splitS s 59).length - (i + 1) < (splitS s 59).length - i; omega)
          · repeat (first | exact SubH.refl _ | assumption | refine SubH.new ?_ (by assumption))
          · skip
            try simp only [tput, anyAt, setAll, List.foldl_cons, List.foldl_nil, List.set_cons_zero, List.set_cons_succ]
            repeat (first | exact Weak.nil | refine Weak.cons ?_ | refine Weak.consAny ?_)
    · try simp only [Bool.or_eq_true, Bool.and_eq_true, Bool.or_eq_false_iff, Bool.and_eq_false_iff, decide_eq_true_eq, decide_eq_false_iff_not, Bool.not_eq_true', Bool.not_eq_false', beq_iff_eq, ne_eq, Decidable.not_not, List.length_map] at hc1
      refine AW_exit ?_
      refine seqQ_x ?_
      refine loopQ_x ?_
      refine blockQ_hit ?_
      refine retQ_0 (H' := _) (.inl rfl) (by repeat (first | exact SubH.refl _ | refine SubH.upd ?_ (by assumption))) ?_
      exact hK _ _ (.inl (by rw [List.length_map, ← declN_all (i := i) (by omega)]; exact hI.2.1))
end Go.Css.Walk
