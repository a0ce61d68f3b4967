/- Styles: what the walks' loops ask of lists: the plain law. -/
import Derived.Test.YtcnjcjhdcloniaaDoorCE
set_option autoImplicit false
set_option linter.unusedVariables false
set_option linter.unusedSimpArgs false
namespace Go.Css
open Go Go.AL

theorem getD_of {α : Type} {l : List α} {i : Nat} (d : α) (h : i < l.length) : l.getD i d = l[i] := by simp [List.getD_eq_getElem?_getD, h]
theorem drop_of {α : Type} {l : List α} {i : Nat} (d : α) (h : i < l.length) : l.drop i = l.getD i d :: l.drop (i + 1) := by rw [getD_of d h]; exact List.drop_eq_getElem_cons h
theorem take_of {α : Type} {l : List α} {i : Nat} (d : α) (h : i < l.length) : l.take (i + 1) = l.take i ++ [l.getD i d] := by rw [getD_of d h]; exact List.take_succ_eq_append_getElem h
theorem map_get {α : Type} (f : α → AV) {l : List α} {i : Nat} (d : α) (h : i < l.length) : (l.map f)[i]? = some (f (l.getD i d)) := by rw [List.getElem?_map, List.getElem?_eq_getElem h, getD_of d h]; rfl
theorem bAt_eq (s : ByteArray) (i : Nat) : bAt s i = (toL s).getD i 0 := rfl

/-! bytes turned small, one behind the other -/
def mixL (l : List UInt8) (i : Nat) : List UInt8 := lowL (l.take i) ++ l.drop i
theorem mixL_len (l : List UInt8) (i : Nat) : (mixL l i).length = l.length := by simp [mixL, lowL]; omega
theorem mixL_zero (l : List UInt8) : mixL l 0 = l := by simp [mixL, lowL]
theorem mixL_all {l : List UInt8} {i : Nat} (h : ¬ i < l.length) : mixL l i = lowL l := by
  unfold mixL
  rw [List.take_of_length_le (by omega), List.drop_of_length_le (by omega), List.append_nil]
theorem mixL_at {l : List UInt8} {i : Nat} (h : i < l.length) : ((mixL l i).map byteAV)[i]? = some (byteAV (l.getD i 0)) := by
  rw [map_get byteAV 0 (by rw [mixL_len]; exact h)]
  congr 2
  unfold mixL
  have e : (lowL (l.take i)).length = i := by simp [lowL]; omega
  rw [List.getD_eq_getElem?_getD, List.getElem?_append_right (by omega), e, Nat.sub_self, drop_of 0 h]; rfl
theorem mixL_set {l : List UInt8} {i : Nat} (h : i < l.length) : ((mixL l i).map byteAV).set i (byteAV (lowB (l.getD i 0))) = (mixL l (i + 1)).map byteAV := by
  rw [← List.map_set]
  congr 1
  unfold mixL
  have e : (lowL (l.take i)).length = i := by simp [lowL]; omega
  rw [List.set_append_right _ _ (by omega), e, Nat.sub_self, drop_of 0 h, List.set_cons_zero, take_of 0 h, lowL, lowL, List.map_append, List.append_assoc]; rfl
theorem mixL_same {l : List UInt8} {i : Nat} (h : i < l.length) (hb : lowB (l.getD i 0) = l.getD i 0) : mixL l (i + 1) = mixL l i := by
  unfold mixL
  rw [take_of 0 h, lowL, List.map_append, List.map_cons, hb, drop_of 0 h, List.append_assoc]; rfl
theorem low_next {l : List UInt8} {i : Nat} (h : i < l.length) : (lowL (l.take i)).map byteAV ++ [byteAV (lowB (l.getD i 0))] = (lowL (l.take (i + 1))).map byteAV := by
  rw [take_of 0 h]; simp [lowL]
theorem lowL_len (l : List UInt8) : (lowL l).length = l.length := by simp [lowL]

/-! words -/
theorem wP_end {ws : List ByteArray} {i : Nat} {b : B4} {s : Bool} (h : ¬ i < ws.length) : wordsP (ws.drop i) b s = (b, s) := by rw [List.drop_of_length_le (by omega)]; rfl
theorem wP_und {ws : List ByteArray} {i : Nat} {b : B4} {s : Bool} (h : i < ws.length) (e : ws.getD i ⟨#[]⟩ = sUnd) : wordsP (ws.drop (i + 1)) (b ||| 4) true = wordsP (ws.drop i) b s := by rw [drop_of ⟨#[]⟩ h, wordsP, if_pos e]
theorem wP_thr {ws : List ByteArray} {i : Nat} {b : B4} {s : Bool} (h : i < ws.length) (e0 : ¬ ws.getD i ⟨#[]⟩ = sUnd) (e : ws.getD i ⟨#[]⟩ = sThr) : wordsP (ws.drop (i + 1)) (b ||| 8) true = wordsP (ws.drop i) b s := by rw [drop_of ⟨#[]⟩ h, wordsP, if_neg e0, if_pos e]
theorem wP_emp {ws : List ByteArray} {i : Nat} {b : B4} {s : Bool} (h : i < ws.length) (e0 : ¬ ws.getD i ⟨#[]⟩ = sUnd) (e1 : ¬ ws.getD i ⟨#[]⟩ = sThr) (e : ws.getD i ⟨#[]⟩ = sEmp) : wordsP (ws.drop (i + 1)) b s = wordsP (ws.drop i) b s := by rw [drop_of ⟨#[]⟩ h, wordsP, if_neg e0, if_neg e1, if_pos e]
theorem wP_no {ws : List ByteArray} {i : Nat} {b : B4} {s : Bool} (h : i < ws.length) (e0 : ¬ ws.getD i ⟨#[]⟩ = sUnd) (e1 : ¬ ws.getD i ⟨#[]⟩ = sThr) (e : ¬ ws.getD i ⟨#[]⟩ = sEmp) : wordsP (ws.drop i) b s = (0, false) := by rw [drop_of ⟨#[]⟩ h, wordsP, if_neg e0, if_neg e1, if_neg e]
theorem wR_end {ws : List ByteArray} {i : Nat} {b : B4} (h : ¬ i < ws.length) : wordsR (ws.drop i) b = some b := by rw [List.drop_of_length_le (by omega)]; rfl
theorem wR_und {ws : List ByteArray} {i : Nat} {b : B4} (h : i < ws.length) (e : ws.getD i ⟨#[]⟩ = sUnd) : wordsR (ws.drop (i + 1)) (b ||| 4) = wordsR (ws.drop i) b := by rw [drop_of ⟨#[]⟩ h, wordsR, if_pos e]
theorem wR_thr {ws : List ByteArray} {i : Nat} {b : B4} (h : i < ws.length) (e0 : ¬ ws.getD i ⟨#[]⟩ = sUnd) (e : ws.getD i ⟨#[]⟩ = sThr) : wordsR (ws.drop (i + 1)) (b ||| 8) = wordsR (ws.drop i) b := by rw [drop_of ⟨#[]⟩ h, wordsR, if_neg e0, if_pos e]
theorem wR_emp {ws : List ByteArray} {i : Nat} {b : B4} (h : i < ws.length) (e0 : ¬ ws.getD i ⟨#[]⟩ = sUnd) (e1 : ¬ ws.getD i ⟨#[]⟩ = sThr) (e : ws.getD i ⟨#[]⟩ = sEmp) : wordsR (ws.drop (i + 1)) b = wordsR (ws.drop i) b := by rw [drop_of ⟨#[]⟩ h, wordsR, if_neg e0, if_neg e1, if_pos e]
theorem wR_no {ws : List ByteArray} {i : Nat} {b : B4} (h : i < ws.length) (e0 : ¬ ws.getD i ⟨#[]⟩ = sUnd) (e1 : ¬ ws.getD i ⟨#[]⟩ = sThr) (e : ¬ ws.getD i ⟨#[]⟩ = sEmp) : wordsR (ws.drop i) b = none := by rw [drop_of ⟨#[]⟩ h, wordsR, if_neg e0, if_neg e1, if_neg e]
def pairAV (p : B4 × Bool) : AV := .tup [bAV p.1, .v (.bool p.2)]
def tripAV (r : B4 × B4 × Bool) : AV := .tup [bAV r.1, bAV r.2.1, .v (.bool r.2.2)]
def duoAV (r : B4 × B4) : AV := .tup [bAV r.1, bAV r.2]
theorem trip_mk {r : B4 × B4 × Bool} {a b : B4} {c : Bool} (h : r = (a, b, c)) : AV.tup [bAV a, bAV b, .v (.bool c)] = tripAV r := by subst h; rfl
theorem td_none {v : ByteArray} (h : wordsR (splitS v 32) 0 = none) : tdR v = (0, 0, false) := by unfold tdR; rw [h]
theorem td_some {v : ByteArray} {b : B4} (h : wordsR (splitS v 32) 0 = some b) : tdR v = (b, 12 &&& ~~~b, decide (b ≠ 0)) := by unfold tdR; rw [h]
theorem b4_ne0 (b : B4) : decide (¬ (b.toNat : Int) = 0) = decide (b ≠ 0) := decide_eq_decide.2 ⟨fun h e => h (by rw [e]; rfl), fun h e => h (BitVec.eq_of_toNat_eq (by show b.toNat = 0; omega))⟩

/-! pieces, one byte behind the other -/
def pcsL (s : ByteArray) (c : UInt8) (i : Nat) : List (List UInt8) := cutAt c ((toL s).take i)
def pcs (s : ByteArray) (c : UInt8) (i : Nat) : List AV := (pcsL s c i).map fun l => strAV (ofL l)
theorem pcs_len (s : ByteArray) (c : UInt8) (i : Nat) : (pcs s c i).length = (pcsL s c i).length := List.length_map _
theorem pcsL_pos (s : ByteArray) (c : UInt8) (i : Nat) : 1 ≤ (pcsL s c i).length := by rw [pcsL, cutAt_count]; omega
theorem pcsL_le (s : ByteArray) (c : UInt8) (i : Nat) : (pcsL s c i).length ≤ i + 1 := by
  have := cutAt_len c ((toL s).take i)
  have h2 : ((toL s).take i).length ≤ i := List.length_take_le _ _
  unfold pcsL; omega
theorem pcs_zero (s : ByteArray) (c : UInt8) : pcs s c 0 = [strAV ⟨#[]⟩] := rfl
theorem pcsL_yes {s : ByteArray} {c : UInt8} {i : Nat} (h : i < s.size) (e : (toL s).getD i 0 = c) : pcsL s c (i + 1) = pcsL s c i ++ [[]] := by
  unfold pcsL; rw [take_of 0 (by rw [toL_len]; exact h), e, cutAt_snoc_yes]
theorem pcs_yes {s : ByteArray} {c : UInt8} {i : Nat} (h : i < s.size) (e : (toL s).getD i 0 = c) : pcs s c i ++ [strAV ⟨#[]⟩] = pcs s c (i + 1) := by
  unfold pcs; rw [pcsL_yes h e, List.map_append]; rfl
theorem pcsL_no {s : ByteArray} {c : UInt8} {i : Nat} (h : i < s.size) (e : ¬ (toL s).getD i 0 = c) : pcsL s c (i + 1) = (pcsL s c i).set ((pcsL s c i).length - 1) ((pcsL s c i).getD ((pcsL s c i).length - 1) [] ++ [(toL s).getD i 0]) := by
  unfold pcsL; rw [take_of 0 (by rw [toL_len]; exact h), cutAt_snoc_no e]
theorem pcsL_no_len {s : ByteArray} {c : UInt8} {i : Nat} (h : i < s.size) (e : ¬ (toL s).getD i 0 = c) : (pcsL s c (i + 1)).length = (pcsL s c i).length := by rw [pcsL_no h e, List.length_set]
theorem pcsL_yes_len {s : ByteArray} {c : UInt8} {i : Nat} (h : i < s.size) (e : (toL s).getD i 0 = c) : (pcsL s c (i + 1)).length = (pcsL s c i).length + 1 := by rw [pcsL_yes h e, List.length_append]; rfl
theorem pcs_at (s : ByteArray) (c : UInt8) (i : Nat) : (pcs s c i)[(pcsL s c i).length - 1]? = some (strAV (ofL ((pcsL s c i).getD ((pcsL s c i).length - 1) []))) :=
  map_get (fun l => strAV (ofL l)) [] (by have := pcsL_pos s c i; omega)
theorem one_byte {s : ByteArray} {i : Nat} (h : i < s.size) : s.extract i (i + 1) = ofL [(toL s).getD i 0] := by
  apply toL_inj
  rw [toL_ofL]
  have e : toL (s.extract i (i + 1)) = ((toL s).drop i).take 1 := by simp [toL]
  rw [e, drop_of 0 (by rw [toL_len]; exact h)]; rfl
theorem pcs_no {s : ByteArray} {c : UInt8} {i : Nat} (h : i < s.size) (e : ¬ (toL s).getD i 0 = c) : (pcs s c i).set ((pcsL s c i).length - 1) (strAV (ofL ((pcsL s c i).getD ((pcsL s c i).length - 1) []) ++ s.extract i (i + 1))) = pcs s c (i + 1) := by
  rw [one_byte h, ← ofL_append]
  unfold pcs
  rw [pcsL_no h e, List.map_set]
theorem pcs_size (s : ByteArray) (c : UInt8) (i j : Nat) : (ofL ((pcsL s c i).getD j [])).size ≤ s.size := by
  rw [ofL_size, List.getD_eq_getElem?_getD]
  cases h : (pcsL s c i)[j]? with
  | none => simp
  | some x =>
    have := cutAt_piece c _ x (List.mem_of_getElem? h)
    have h2 : ((toL s).take i).length ≤ (toL s).length := by simp; omega
    rw [toL_len] at h2
    simpa using Nat.le_trans this h2
theorem pcs_all {s : ByteArray} {c : UInt8} {i : Nat} (h : ¬ i < s.size) : pcs s c i = (splitS s c).map strAV := by
  unfold pcs pcsL splitS
  rw [List.take_of_length_le (by rw [toL_len]; omega), List.map_map]; rfl
theorem splitS_len (s : ByteArray) (c : UInt8) : (splitS s c).length ≤ s.size + 1 := by
  unfold splitS; rw [List.length_map, ← toL_len]; exact cutAt_len _ _
theorem splitS_piece (s : ByteArray) (c : UInt8) (i : Nat) : ((splitS s c).getD i ⟨#[]⟩).size ≤ s.size := by
  rw [List.getD_eq_getElem?_getD]
  cases h : (splitS s c)[i]? with
  | none => exact Nat.zero_le _
  | some x =>
    obtain ⟨l, hl, rfl⟩ := List.mem_map.1 (List.mem_of_getElem? h)
    have := cutAt_piece c _ l hl
    rw [toL_len] at this
    simpa [ofL_size] using this

/-! trim -/
theorem ext_tail {x : ByteArray} : toL (x.extract 1 x.size) = (toL x).drop 1 := by
  have : toL (x.extract 1 x.size) = ((toL x).drop 1).take (x.size - 1) := by simp [toL]
  rw [this, List.take_of_length_le (by rw [List.length_drop, toL_len]; exact Nat.le_refl _)]
theorem ext_head {x : ByteArray} {n : Nat} : toL (x.extract 0 n) = (toL x).take n := by simp [toL]
theorem u8_int {a : UInt8} {n : Nat} (h : (a.toNat : Int) = (n : Int)) (hn : n < 256) : a = UInt8.ofNat n := by
  apply UInt8.toNat_inj.1
  rw [UInt8.toNat_ofNat']; omega
theorem trl_step {x : ByteArray} (h : 0 < x.size) (e : (bAt x 0).toNat = (32 : Int)) : Lib.trimLeftB (toL (x.extract 1 x.size)) 32 = Lib.trimLeftB (toL x) 32 := by
  have h1 : (toL x).getD 0 0 = 32 := u8_int (n := 32) e (by decide)
  have h2 := drop_of (l := toL x) (i := 0) 0 (by rw [toL_len]; exact h)
  rw [List.drop_zero, h1] at h2
  rw [ext_tail]
  conv => rhs; rw [h2]
  rw [tl_cons, if_pos rfl]
theorem trl_end {x : ByteArray} (h : ¬ (0 < x.size ∧ ((bAt x 0).toNat : Int) = 32)) : Lib.trimLeftB (toL x) 32 = toL x := by
  cases hx : toL x with
  | nil => rfl
  | cons b l =>
    have h0 : 0 < x.size := by rw [← toL_len, hx]; simp
    have hb : ¬ b = 32 := fun e => h ⟨h0, by rw [bAt_eq, hx, e]; rfl⟩
    rw [tl_cons, if_neg hb]
theorem trr_snoc (l : List UInt8) (b c : UInt8) : Lib.trimRightB (l ++ [b]) c = if b = c then Lib.trimRightB l c else l ++ [b] := by
  unfold Lib.trimRightB
  rw [List.reverse_append]
  by_cases h : b = c
  · subst h; rw [if_pos rfl]; simp
  · have : (b == c) = false := by simpa using h
    rw [if_neg h]; simp [this]
theorem last_of {x : ByteArray} (h : 0 < x.size) : toL x = (toL x).take (x.size - 1) ++ [(toL x).getD (x.size - 1) 0] := by
  have := take_of (l := toL x) (i := x.size - 1) 0 (by rw [toL_len]; omega)
  rw [show x.size - 1 + 1 = x.size by omega, List.take_of_length_le (by rw [toL_len]; omega)] at this
  exact this
theorem trr_step {x : ByteArray} (h : 0 < x.size) (e : (bAt x (x.size - 1)).toNat = (32 : Int)) : Lib.trimRightB (toL (x.extract 0 (x.size - 1))) 32 = Lib.trimRightB (toL x) 32 := by
  have h1 : (toL x).getD (x.size - 1) 0 = 32 := u8_int (n := 32) e (by decide)
  have h2 := last_of h
  rw [h1] at h2
  rw [ext_head]
  conv => rhs; rw [h2]
  rw [trr_snoc, if_pos rfl]
theorem trr_end {x : ByteArray} (h : ¬ (0 < x.size ∧ ((bAt x (x.size - 1)).toNat : Int) = 32)) : Lib.trimRightB (toL x) 32 = toL x := by
  by_cases h0 : 0 < x.size
  · have hb : ¬ (toL x).getD (x.size - 1) 0 = 32 := fun e => h ⟨h0, by rw [bAt_eq, e]; rfl⟩
    conv => lhs; rw [last_of h0]
    rw [trr_snoc, if_neg hb]
    exact (last_of h0).symm
  · have : toL x = [] := List.length_eq_zero_iff.1 (by rw [toL_len]; omega)
    rw [this]; rfl
theorem trim_all {s y : ByteArray} {x : ByteArray} (hx : ¬ (0 < x.size ∧ ((bAt x 0).toNat : Int) = 32)) (h1 : Lib.trimLeftB (toL x) 32 = Lib.trimLeftB (toL s) 32) (hy : ¬ (0 < y.size ∧ ((bAt y (y.size - 1)).toNat : Int) = 32)) (h2 : Lib.trimRightB (toL y) 32 = Lib.trimRightB (toL x) 32) : toL y = Lib.trimB (toL s) 32 := by
  unfold Lib.trimB
  rw [trim_comm, ← h1, trl_end hx, ← h2, trr_end hy]

/-! declarations -/
def declN (s : ByteArray) (i : Nat) : Nat := (((cutAt 59 (toL s)).take i).filterMap declOf).length
def declAV (p : ByteArray × ByteArray) : List AV := [strAV p.1, strAV p.2]
def pieceD (s : ByteArray) (i : Nat) : List UInt8 := (cutAt 59 (toL s)).getD i []
theorem splitS_get {s : ByteArray} {i : Nat} (h : i < (splitS s 59).length) : ((splitS s 59).map strAV)[i]? = some (strAV (ofL (pieceD s i))) := by
  unfold splitS at h ⊢
  rw [List.map_map]
  exact map_get (strAV ∘ ofL) [] (by rwa [List.length_map] at h)
theorem pieceD_len (s : ByteArray) (i : Nat) : (pieceD s i).length ≤ s.size := by
  unfold pieceD
  rw [List.getD_eq_getElem?_getD]
  cases h : (cutAt 59 (toL s))[i]? with
  | none => simp
  | some x =>
    have := cutAt_piece 59 _ x (List.mem_of_getElem? h)
    rw [toL_len] at this
    simpa using this
theorem declN_zero (s : ByteArray) : declN s 0 = 0 := rfl
theorem declN_all {s : ByteArray} {i : Nat} (h : ¬ i < (splitS s 59).length) : declN s i = (decls s).length := by
  unfold declN decls
  rw [List.take_of_length_le]
  unfold splitS at h
  rw [List.length_map] at h; omega
theorem declN_no {s : ByteArray} {i : Nat} (h : i < (splitS s 59).length) (e : declOf (pieceD s i) = none) : declN s (i + 1) = declN s i := by
  unfold splitS at h; rw [List.length_map] at h
  unfold declN
  rw [take_of [] h, List.filterMap_append, List.filterMap_cons]
  unfold pieceD at e
  rw [e]; simp
theorem declN_yes {s : ByteArray} {i : Nat} {p : ByteArray × ByteArray} (h : i < (splitS s 59).length) (e : declOf (pieceD s i) = some p) : declN s (i + 1) = declN s i + 1 ∧ ((decls s).map declAV)[declN s i]? = some (declAV p) := by
  unfold splitS at h; rw [List.length_map] at h
  have e' : declOf ((cutAt 59 (toL s)).getD i []) = some p := e
  constructor
  · unfold declN
    rw [take_of [] h, List.filterMap_append, List.filterMap_cons, e']; simp
  · have hs : cutAt 59 (toL s) = (cutAt 59 (toL s)).take i ++ ((cutAt 59 (toL s)).getD i [] :: (cutAt 59 (toL s)).drop (i + 1)) := by
      rw [← drop_of [] h, List.take_append_drop]
    have hd : decls s = ((cutAt 59 (toL s)).take i).filterMap declOf ++ (p :: ((cutAt 59 (toL s)).drop (i + 1)).filterMap declOf) := by
      unfold decls
      conv => lhs; rw [hs]
      rw [List.filterMap_append, List.filterMap_cons, e']
    rw [hd, List.getElem?_map, List.getElem?_append_right (by unfold declN; exact Nat.le_refl _)]
    unfold declN
    rw [Nat.sub_self]; rfl
theorem declOf_yes {d : List UInt8} (h : (Lib.cut d [58]).2.2 = true) : declOf d = some (lowS (trimS (ofL (Lib.cut d [58]).1)), lowS (trimS (ofL (Lib.cut d [58]).2.1))) := by
  unfold declOf
  rw [if_pos h]
  simp only [trimS, lowS, toL_ofL]
  rfl
theorem declOf_not {d : List UInt8} (h : (Lib.cut d [58]).2.2 = false) : declOf d = none := by unfold declOf; rw [h]; rfl
theorem cut_len (d : List UInt8) : (Lib.cut d [58]).1.length ≤ d.length ∧ (Lib.cut d [58]).2.1.length ≤ d.length := by
  rcases index_one d 58 with ⟨_, h2⟩ | ⟨a, r, rfl, h2, _⟩
  · rw [cut_miss h2]; simp
  · rw [cut_hit h2]; simp; omega
/-- What is set and cleared when k declarations are through. -/
def stP (s : ByteArray) (k : Nat) : B4 × B4 := ((decls s).take k).foldl apP (0, 0)
theorem stP_next {s : ByteArray} {k : Nat} {p : ByteArray × ByteArray} (h : (decls s)[k]? = some p) : stP s (k + 1) = apP (stP s k) p := by
  unfold stP
  rw [List.take_add_one, h, List.foldl_append]; rfl
theorem stP_all (s : ByteArray) : stP s (decls s).length = parseS s := by unfold stP; rw [List.take_length, parseP]
def setP' (st : B4 × B4) (on off : B4) : B4 × B4 := (st.1 &&& ~~~off ||| on, st.2 &&& ~~~on ||| off)
theorem apP_say {st : B4 × B4} {p : ByteArray × ByteArray} {on off : B4} (h : sayP (p.1 ++ sCol ++ p.2) p.1 p.2 = (on, off, true)) : apP st p = setP' st on off := by unfold apP; rw [h]; rfl
theorem apP_no {st : B4 × B4} {p : ByteArray × ByteArray} (h : sayP (p.1 ++ sCol ++ p.2) p.1 p.2 = (0, 0, false)) : apP st p = st := by unfold apP; rw [h]; rfl
theorem decls_at {s : ByteArray} {k : Nat} {y : List AV} (h : ((decls s).map declAV)[k]? = some y) : ∃ p, (decls s)[k]? = some p ∧ y = [strAV p.1, strAV p.2] := by
  rw [List.getElem?_map] at h
  cases hk : (decls s)[k]? with
  | none => rw [hk] at h; simp at h
  | some p => rw [hk] at h; simp at h; exact ⟨p, rfl, h.symm⟩
theorem filterMap_bound (f : List UInt8 → Option (ByteArray × ByteArray)) : ∀ l : List (List UInt8), (l.filterMap f).length ≤ l.length := fun l => List.length_filterMap_le f l
theorem lt_bound {s : ByteArray} {p : ByteArray × ByteArray} (h : p ∈ decls s) : p.1.size ≤ s.size ∧ p.2.size ≤ s.size := by
  obtain ⟨d, hd, e⟩ := List.mem_filterMap.1 h
  have hl := cutAt_piece 59 _ d hd
  rw [toL_len] at hl
  have hc := cut_len d
  unfold declOf at e
  split at e
  · injection e with e
    subst e
    exact ⟨Nat.le_trans (lt_size _) (by omega), Nat.le_trans (lt_size _) (by omega)⟩
  · cases e
theorem decls_bound {s : ByteArray} {k : Nat} {p : ByteArray × ByteArray} (h : (decls s)[k]? = some p) : p.1.size ≤ s.size ∧ p.2.size ≤ s.size := lt_bound (List.mem_of_getElem? h)

/-! the document's reading -/
def overI (b s c : Int) : Int := intB .or .i64 (intB .andNot .i64 b c) s
def restR (s : ByteArray) (i : Nat) (st : B4 × B4) : B4 × B4 := parseT ((cutAt 59 (toL s)).drop i) st
theorem restR_zero (s : ByteArray) : restR s 0 (0, 0) = parseS s := rfl
theorem restR_end {s : ByteArray} {i : Nat} {st : B4 × B4} (h : ¬ i < (splitS s 59).length) : restR s i st = st := by
  unfold splitS at h; rw [List.length_map] at h
  unfold restR; rw [List.drop_of_length_le (by omega)]; rfl
theorem noc_all {d : List UInt8} {k : Nat} (hk : ¬ k < d.length) (h : ∀ j, j < k → ¬ d.getD j 0 = 58) : (58 : UInt8) ∉ d := fun hm => by
  obtain ⟨j, hj, e⟩ := List.mem_iff_getElem.1 hm
  exact h j (by omega) (by rw [getD_of 0 hj]; exact e)
theorem noc_split {d : List UInt8} {k : Nat} (hk : k < d.length) (h : ∀ j, j < k → ¬ d.getD j 0 = 58) (e : d.getD k 0 = 58) : d = d.take k ++ 58 :: d.drop (k + 1) ∧ (58 : UInt8) ∉ d.take k := by
  refine ⟨?_, fun hm => ?_⟩
  · conv => lhs; rw [← List.take_append_drop k d, drop_of 0 hk, e]
  · obtain ⟨j, hj, e2⟩ := List.mem_iff_getElem.1 hm
    rw [List.length_take] at hj
    refine h j (by omega) ?_
    rw [getD_of 0 (by omega), ← e2, List.getElem_take]
theorem restR_none {s : ByteArray} {i k : Nat} {st : B4 × B4} (hi : i < (splitS s 59).length) (hk : ¬ k < (pieceD s i).length) (h : ∀ j, j < k → ¬ (pieceD s i).getD j 0 = 58) : restR s (i + 1) st = restR s i st := by
  unfold splitS at hi; rw [List.length_map] at hi
  unfold restR
  rw [drop_of [] hi]
  exact (parseT_none (noc_all hk h)).symm
theorem restR_some {s : ByteArray} {i k : Nat} {st : B4 × B4} (hi : i < (splitS s 59).length) (hk : k < (pieceD s i).length) (h : ∀ j, j < k → ¬ (pieceD s i).getD j 0 = 58) (e : (pieceD s i).getD k 0 = 58) :
    restR s (i + 1) (ap st (sayR (lt ((pieceD s i).take k)) (lt ((pieceD s i).drop (k + 1))))) = restR s i st := by
  unfold splitS at hi; rw [List.length_map] at hi
  unfold restR
  rw [drop_of [] hi]
  obtain ⟨h1, h2⟩ := noc_split hk h e
  have : parseT ((pieceD s i) :: (cutAt 59 (toL s)).drop (i + 1)) st = parseT ((cutAt 59 (toL s)).drop (i + 1)) (apR st (lt ((pieceD s i).take k), lt ((pieceD s i).drop (k + 1)))) := by
    conv => lhs; rw [h1]
    exact parseT_some h2
  exact this.symm
end Go.Css
