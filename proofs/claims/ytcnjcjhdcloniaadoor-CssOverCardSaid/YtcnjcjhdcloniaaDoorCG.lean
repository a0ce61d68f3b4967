/- Styles: what is printed, and the laws: the plain law. -/
import Derived.Test.YtcnjcjhdcloniaaDoorCF
import Derived.IntWalk
set_option autoImplicit false
set_option linter.unusedVariables false
set_option linter.unusedSimpArgs false
namespace Go.Css
open Go Go.AL

def bitB (x m : Int) : Bool := decide (¬ intB .and .i64 x m = 0)
def printI (s c : Int) : ByteArray := printP (bitB s 1) (bitB c 1) (bitB s 2) (bitB c 2) (bitB s 12) (bitB s 4) (bitB s 8) (bitB c 12)
theorem put_len (l : List ByteArray) (s c : Bool) (n a b : ByteArray) : (put l s c n a b).length ≤ l.length + 1 := by
  unfold put
  cases s <;> cases c <;> simp
theorem row_bound (u t : Bool) : (Lib.join ((rowS u t).map toL) (toL sSp)).length ≤ 1000 := by revert u t; decide +kernel
theorem row_size (u t : Bool) : (joinB (rowS u t) sSp).size ≤ 1000 := by unfold joinB; rw [ofL_size]; exact row_bound u t
theorem print_bound (s1 c1 s2 c2 s12 u t c12 : Bool) : (Lib.join ((put (put (put [] s1 c1 sFW sBold sNormal) s2 c2 sFS sItalic sNormal) s12 c12 sTD (joinB (rowS u t) sSp) sNone).map toL) (toL sSC)).length ≤ 1000 := by
  revert s1 c1 s2 c2 s12 u t c12; decide +kernel

/-! bits of any number -/
theorem bit_one (x : Int) : (intB .and .i64 x 1 = 0 ∨ intB .and .i64 x 1 = 1) ∧ (intB .and .i64 x 2 = 0 ∨ intB .and .i64 x 2 = 2) ∧ (intB .and .i64 x 12 = (if bitB x 4 then 4 else 0) + (if bitB x 8 then 8 else 0)) := by
  have key : ∀ (X : BitVec 64) (p : Nat → Bool), p = (fun i => X.getLsbD i) → X &&& 1#64 = (if p 0 then 1#64 else 0#64) ∧ X &&& 2#64 = (if p 1 then 2#64 else 0#64) ∧ X &&& 4#64 = (if p 2 then 4#64 else 0#64) ∧ X &&& 8#64 = (if p 3 then 8#64 else 0#64) ∧ X &&& 12#64 = (if p 2 then 4#64 else 0#64) ||| (if p 3 then 8#64 else 0#64) := by
    intro X p hp
    subst hp
    have h : ∀ i, X &&& BitVec.twoPow 64 i = if X.getLsbD i then BitVec.twoPow 64 i else 0#64 := fun i => BitVec.and_twoPow X i
    have e0 : (1#64 : BitVec 64) = BitVec.twoPow 64 0 := by decide
    have e1 : (2#64 : BitVec 64) = BitVec.twoPow 64 1 := by decide
    have e2 : (4#64 : BitVec 64) = BitVec.twoPow 64 2 := by decide
    have e3 : (8#64 : BitVec 64) = BitVec.twoPow 64 3 := by decide
    have e4 : (12#64 : BitVec 64) = BitVec.twoPow 64 2 ||| BitVec.twoPow 64 3 := by decide
    have hd : X &&& (BitVec.twoPow 64 2 ||| BitVec.twoPow 64 3) = (X &&& BitVec.twoPow 64 2) ||| (X &&& BitVec.twoPow 64 3) := by
      apply BitVec.eq_of_getLsbD_eq
      intro i hi
      simp only [BitVec.getLsbD_and, BitVec.getLsbD_or]
      cases X.getLsbD i <;> simp
    refine ⟨?_, ?_, ?_, ?_, ?_⟩
    · rw [e0]; exact h 0
    · rw [e1]; exact h 1
    · rw [e2]; exact h 2
    · rw [e3]; exact h 3
    · rw [e4, hd, h 2, h 3, ← e2, ← e3]
  obtain ⟨k1, k2, k4, k8, k12⟩ := key (BitVec.ofInt 64 x) _ rfl
  have c1 : BitVec.ofInt IntKind.i64.bits 1 = 1#64 := rfl
  have c2 : BitVec.ofInt IntKind.i64.bits 2 = 2#64 := rfl
  have c4 : BitVec.ofInt IntKind.i64.bits 4 = 4#64 := rfl
  have c8 : BitVec.ofInt IntKind.i64.bits 8 = 8#64 := rfl
  have c12 : BitVec.ofInt IntKind.i64.bits 12 = 12#64 := rfl
  have i1 : intB .and .i64 x 1 = IntKind.i64.wrap (((BitVec.ofInt 64 x &&& 1#64).toNat : Nat) : Int) := by unfold intB; rw [c1]; rfl
  have i2 : intB .and .i64 x 2 = IntKind.i64.wrap (((BitVec.ofInt 64 x &&& 2#64).toNat : Nat) : Int) := by unfold intB; rw [c2]; rfl
  have i4 : intB .and .i64 x 4 = IntKind.i64.wrap (((BitVec.ofInt 64 x &&& 4#64).toNat : Nat) : Int) := by unfold intB; rw [c4]; rfl
  have i8 : intB .and .i64 x 8 = IntKind.i64.wrap (((BitVec.ofInt 64 x &&& 8#64).toNat : Nat) : Int) := by unfold intB; rw [c8]; rfl
  have i12 : intB .and .i64 x 12 = IntKind.i64.wrap (((BitVec.ofInt 64 x &&& 12#64).toNat : Nat) : Int) := by unfold intB; rw [c12]; rfl
  have w0 : IntKind.i64.wrap ((0#64).toNat : Int) = 0 := by decide
  have w1 : IntKind.i64.wrap ((1#64).toNat : Int) = 1 := by decide
  have w2 : IntKind.i64.wrap ((2#64).toNat : Int) = 2 := by decide
  have w4 : IntKind.i64.wrap ((4#64).toNat : Int) = 4 := by decide
  have w8 : IntKind.i64.wrap ((8#64).toNat : Int) = 8 := by decide
  refine ⟨?_, ?_, ?_⟩
  · rw [i1, k1]; split
    · exact .inr w1
    · exact .inl w0
  · rw [i2, k2]; split
    · exact .inr w2
    · exact .inl w0
  · unfold bitB
    rw [i4, i8, i12, k4, k8, k12]
    cases (BitVec.ofInt 64 x).getLsbD 2 <;> cases (BitVec.ofInt 64 x).getLsbD 3 <;> decide
theorem bit1 (x : Int) : (intB .and .i64 x 1 = 1) ↔ bitB x 1 = true := by
  unfold bitB; rw [decide_eq_true_iff]
  rcases (bit_one x).1 with h | h <;> rw [h] <;> decide
theorem bit2 (x : Int) : (intB .and .i64 x 2 = 2) ↔ bitB x 2 = true := by
  unfold bitB; rw [decide_eq_true_iff]
  rcases (bit_one x).2.1 with h | h <;> rw [h] <;> decide
theorem bit12 (x : Int) : bitB x 12 = (bitB x 4 || bitB x 8) := by
  have h := (bit_one x).2.2
  show decide (¬ intB .and .i64 x 12 = 0) = _
  rw [h]
  cases bitB x 4 <;> cases bitB x 8 <;> decide
theorem and12 (x : Int) : intB .and .i64 x 12 = (if bitB x 4 then 4 else 0) + (if bitB x 8 then 8 else 0) := (bit_one x).2.2
def uS (u t c12 : Bool) : ByteArray := if u && t then pTDul else if u then pTDu else if t then pTDl else if c12 then pTDn else sEmp
theorem uS_4 {x : Int} {c : Bool} (h : intB .and .i64 x 12 = 4) : pTDu = uS (bitB x 4) (bitB x 8) c := by
  rw [and12] at h
  revert h
  cases bitB x 4 <;> cases bitB x 8 <;> simp [uS]
theorem uS_8 {x : Int} {c : Bool} (h : intB .and .i64 x 12 = 8) : pTDl = uS (bitB x 4) (bitB x 8) c := by
  rw [and12] at h
  revert h
  cases bitB x 4 <;> cases bitB x 8 <;> simp [uS]
theorem uS_12 {x : Int} {c : Bool} (h : intB .and .i64 x 12 = 12) : pTDul = uS (bitB x 4) (bitB x 8) c := by
  rw [and12] at h
  revert h
  cases bitB x 4 <;> cases bitB x 8 <;> simp [uS]
theorem uS_0 {x : Int} {c : Bool} (h1 : ¬ intB .and .i64 x 12 = 4) (h2 : ¬ intB .and .i64 x 12 = 8) (h3 : ¬ intB .and .i64 x 12 = 12) : (if c then pTDn else sEmp) = uS (bitB x 4) (bitB x 8) c := by
  rw [and12] at h1 h2 h3
  revert h1 h2 h3
  cases bitB x 4 <;> cases bitB x 8 <;> simp [uS]
theorem print_law (s c : Int) : printI s c = printR (bitB s 1) (bitB c 1) (bitB s 2) (bitB c 2) (bitB s 4) (bitB s 8) (bitB c 12) := by
  unfold printI; rw [bit12 s]; exact print_eq _ _ _ _ _ _ _
theorem printR_size (s1 c1 s2 c2 u t c12 : Bool) : (joinR (if s1 then pFWb else if c1 then pFWn else sEmp) (if s2 then pFSi else if c2 then pFSn else sEmp)).size ≤ 1000 := by
  revert s1 c1 s2 c2; decide +kernel
def p1S (b c : Bool) : ByteArray := if b then pFWb else if c then pFWn else sEmp
def p2S (b c : Bool) : ByteArray := if b then pFSi else if c then pFSn else sEmp
theorem p1S_size (b c : Bool) : (p1S b c).size ≤ 1000 := by revert b c; decide
theorem p2S_size (b c : Bool) : (p2S b c).size ≤ 1000 := by revert b c; decide
theorem uS_size (u t c : Bool) : (uS u t c).size ≤ 1000 := by revert u t c; decide
theorem joinR_size (a b : ByteArray) : (joinR a b).size ≤ a.size + b.size + 2 := by
  unfold joinR
  split
  · rw [ByteArray.size_append]; omega
  · rw [ByteArray.size_append, ByteArray.size_append]
    have : sSC.size = 2 := rfl
    omega
theorem low_nextB {s : ByteArray} {i : Nat} (h : i < (toL s).length) : (lowL ((toL s).take i)).map byteAV ++ [byteAV (lowB (bAt s i))] = (lowL ((toL s).take (i + 1))).map byteAV := low_next h
theorem bAt_ofL (l : List UInt8) (k : Nat) : bAt (ofL l) k = l.getD k 0 := by rw [bAt_eq, toL_ofL]
theorem ap_yes {st : B4 × B4} {r : B4 × B4 × Bool} (h : r.2.2 = true) : ap st r = (st.1 &&& ~~~r.2.1 ||| r.1, st.2 &&& ~~~r.1 ||| r.2.1) := if_pos h
theorem ap_not {st : B4 × B4} {r : B4 × B4 × Bool} (h : r.2.2 = false) : ap st r = st := if_neg (by rw [h]; decide)
theorem ref_step {s : ByteArray} {i k : Nat} {st : B4 × B4} (hi : i < (splitS s 59).length) (hk : k < (pieceD s i).length) (h : ∀ j, j < k → ¬ (pieceD s i).getD j 0 = 58) (e : (pieceD s i).getD k 0 = 58) :
    restR s (i + 1) (ap st (sayR (lt (toL ((ofL (pieceD s i)).extract 0 k))) (lt (toL ((ofL (pieceD s i)).extract (k + 1) (ofL (pieceD s i)).size))))) = restR s i st := by
  have e1 : toL ((ofL (pieceD s i)).extract 0 k) = (pieceD s i).take k := by rw [ext_head, toL_ofL]
  have e2 : toL ((ofL (pieceD s i)).extract (k + 1) (ofL (pieceD s i)).size) = (pieceD s i).drop (k + 1) := by
    have : toL ((ofL (pieceD s i)).extract (k + 1) (ofL (pieceD s i)).size) = ((toL (ofL (pieceD s i))).drop (k + 1)).take ((ofL (pieceD s i)).size - (k + 1)) := by simp [toL]
    rw [this, toL_ofL, ofL_size, List.take_of_length_le (by rw [List.length_drop]; exact Nat.le_refl _)]
  rw [e1, e2]; exact restR_some hi hk h e
theorem notall {d : List UInt8} {k : Nat} (h : ∀ j, j < k → ¬ d.getD j 0 = 58) (e : ¬ ((bAt (ofL d) k).toNat : Int) = 58) : ∀ j, j < k + 1 → ¬ d.getD j 0 = 58 := fun j hj => by
  rcases Nat.lt_or_ge j k with h' | h'
  · exact h j h'
  · obtain rfl : j = k := by omega
    rw [bAt_ofL] at e
    exact fun e' => e (by rw [e']; rfl)
theorem is58 {d : List UInt8} {k : Nat} (e : ((bAt (ofL d) k).toNat : Int) = 58) : d.getD k 0 = 58 := by rw [bAt_ofL] at e; exact u8_int (n := 58) e (by decide)
theorem u8_eq {a c : UInt8} (h : (a.toNat : Int) = (c.toNat : Int)) : a = c := UInt8.toNat_inj.1 (by omega)
theorem u8_ne {a c : UInt8} (h : ¬ (a.toNat : Int) = (c.toNat : Int)) : ¬ a = c := fun e => h (by rw [e])
theorem sub64 {n : Nat} (h1 : 1 ≤ n) (h2 : n < 9223372036854775807) : IntKind.i64.wrap ((n : Int) - 1) = ((n - 1 : Nat) : Int) := by
  rw [IntWalk.i64_in _ (by omega)]; omega
end Go.Css
