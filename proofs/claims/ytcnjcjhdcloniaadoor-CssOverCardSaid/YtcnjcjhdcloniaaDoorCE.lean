/- Styles: words, declarations, what they set and clear: the plain law. -/
import Derived.Test.YtcnjcjhdcloniaaDoorCD
set_option autoImplicit false
set_option linter.unusedVariables false
set_option linter.unusedSimpArgs false
namespace Go.Css
open Go Go.AL

abbrev sFW : ByteArray := ⟨#[102, 111, 110, 116, 45, 119, 101, 105, 103, 104, 116]⟩
abbrev sFS : ByteArray := ⟨#[102, 111, 110, 116, 45, 115, 116, 121, 108, 101]⟩
abbrev sTD : ByteArray := ⟨#[116, 101, 120, 116, 45, 100, 101, 99, 111, 114, 97, 116, 105, 111, 110]⟩
abbrev sBold : ByteArray := ⟨#[98, 111, 108, 100]⟩
abbrev s700 : ByteArray := ⟨#[55, 48, 48]⟩
abbrev sNormal : ByteArray := ⟨#[110, 111, 114, 109, 97, 108]⟩
abbrev s400 : ByteArray := ⟨#[52, 48, 48]⟩
abbrev sItalic : ByteArray := ⟨#[105, 116, 97, 108, 105, 99]⟩
abbrev sNone : ByteArray := ⟨#[110, 111, 110, 101]⟩
abbrev sUnd : ByteArray := ⟨#[117, 110, 100, 101, 114, 108, 105, 110, 101]⟩
abbrev sThr : ByteArray := ⟨#[108, 105, 110, 101, 45, 116, 104, 114, 111, 117, 103, 104]⟩
abbrev sCol : ByteArray := ⟨#[58]⟩
abbrev sEmp : ByteArray := ⟨#[]⟩
abbrev kFWbold : ByteArray := ⟨#[102, 111, 110, 116, 45, 119, 101, 105, 103, 104, 116, 58, 98, 111, 108, 100]⟩
abbrev kFW700 : ByteArray := ⟨#[102, 111, 110, 116, 45, 119, 101, 105, 103, 104, 116, 58, 55, 48, 48]⟩
abbrev kFWnormal : ByteArray := ⟨#[102, 111, 110, 116, 45, 119, 101, 105, 103, 104, 116, 58, 110, 111, 114, 109, 97, 108]⟩
abbrev kFW400 : ByteArray := ⟨#[102, 111, 110, 116, 45, 119, 101, 105, 103, 104, 116, 58, 52, 48, 48]⟩
abbrev kFSitalic : ByteArray := ⟨#[102, 111, 110, 116, 45, 115, 116, 121, 108, 101, 58, 105, 116, 97, 108, 105, 99]⟩
abbrev kFSnormal : ByteArray := ⟨#[102, 111, 110, 116, 45, 115, 116, 121, 108, 101, 58, 110, 111, 114, 109, 97, 108]⟩
abbrev kTDnone : ByteArray := ⟨#[116, 101, 120, 116, 45, 100, 101, 99, 111, 114, 97, 116, 105, 111, 110, 58, 110, 111, 110, 101]⟩
abbrev sCS : ByteArray := ⟨#[58, 32]⟩
abbrev sSC : ByteArray := ⟨#[59, 32]⟩
abbrev sSp : ByteArray := ⟨#[32]⟩
abbrev pFWb : ByteArray := ⟨#[102, 111, 110, 116, 45, 119, 101, 105, 103, 104, 116, 58, 32, 98, 111, 108, 100]⟩
abbrev pFWn : ByteArray := ⟨#[102, 111, 110, 116, 45, 119, 101, 105, 103, 104, 116, 58, 32, 110, 111, 114, 109, 97, 108]⟩
abbrev pFSi : ByteArray := ⟨#[102, 111, 110, 116, 45, 115, 116, 121, 108, 101, 58, 32, 105, 116, 97, 108, 105, 99]⟩
abbrev pFSn : ByteArray := ⟨#[102, 111, 110, 116, 45, 115, 116, 121, 108, 101, 58, 32, 110, 111, 114, 109, 97, 108]⟩
abbrev pTDu : ByteArray := ⟨#[116, 101, 120, 116, 45, 100, 101, 99, 111, 114, 97, 116, 105, 111, 110, 58, 32, 117, 110, 100, 101, 114, 108, 105, 110, 101]⟩
abbrev pTDl : ByteArray := ⟨#[116, 101, 120, 116, 45, 100, 101, 99, 111, 114, 97, 116, 105, 111, 110, 58, 32, 108, 105, 110, 101, 45, 116, 104, 114, 111, 117, 103, 104]⟩
abbrev pTDul : ByteArray := ⟨#[116, 101, 120, 116, 45, 100, 101, 99, 111, 114, 97, 116, 105, 111, 110, 58, 32, 117, 110, 100, 101, 114, 108, 105, 110, 101, 32, 108, 105, 110, 101, 45, 116, 104, 114, 111, 117, 103, 104]⟩
abbrev pTDn : ByteArray := ⟨#[116, 101, 120, 116, 45, 100, 101, 99, 111, 114, 97, 116, 105, 111, 110, 58, 32, 110, 111, 110, 101]⟩
abbrev sSemi : ByteArray := ⟨#[59]⟩
abbrev sL1 : ByteArray := ⟨#[32, 59, 120, 59, 58, 32, 59, 32]⟩
abbrev sL2 : ByteArray := ⟨#[32, 59, 32, 99, 111, 108, 111, 114, 58, 32, 114, 101, 100, 59]⟩

abbrev B4 := BitVec 4
def strAV (b : ByteArray) : AV := .v (.string b)
def bAV (x : B4) : AV := .v (.int .i64 (x.toNat : Int))
theorem b4_cases {p : B4 → Prop} (h : ∀ i : Fin 16, p (BitVec.ofFin i)) (x : B4) : p x := h x.toFin
theorem b4_or (x y : B4) : intB .or .i64 (x.toNat : Int) (y.toNat : Int) = ((x ||| y).toNat : Int) := by
  have key : ∀ i j : Fin 16, intB .or .i64 ((BitVec.ofFin i : B4).toNat : Int) ((BitVec.ofFin j : B4).toNat : Int) = (((BitVec.ofFin i : B4) ||| BitVec.ofFin j).toNat : Int) := by decide +kernel
  exact key x.toFin y.toFin
theorem b4_and (x y : B4) : intB .and .i64 (x.toNat : Int) (y.toNat : Int) = ((x &&& y).toNat : Int) := by
  have key : ∀ i j : Fin 16, intB .and .i64 ((BitVec.ofFin i : B4).toNat : Int) ((BitVec.ofFin j : B4).toNat : Int) = (((BitVec.ofFin i : B4) &&& BitVec.ofFin j).toNat : Int) := by decide +kernel
  exact key x.toFin y.toFin
theorem b4_andNot (x y : B4) : intB .andNot .i64 (x.toNat : Int) (y.toNat : Int) = ((x &&& ~~~y).toNat : Int) := by
  have key : ∀ i j : Fin 16, intB .andNot .i64 ((BitVec.ofFin i : B4).toNat : Int) ((BitVec.ofFin j : B4).toNat : Int) = (((BitVec.ofFin i : B4) &&& ~~~(BitVec.ofFin j : B4)).toNat : Int) := by decide +kernel
  exact key x.toFin y.toFin
theorem b4_inj {x y : B4} (h : (x.toNat : Int) = (y.toNat : Int)) : x = y := BitVec.eq_of_toNat_eq (by omega)

/-! words -/
def wordsP : List ByteArray → B4 → Bool → B4 × Bool
  | [], b, s => (b, s)
  | w :: ws, b, s => if w = sUnd then wordsP ws (b ||| 4) true else if w = sThr then wordsP ws (b ||| 8) true else if w = sEmp then wordsP ws b s else (0, false)
def wordsR : List ByteArray → B4 → Option B4
  | [], b => some b
  | w :: ws, b => if w = sUnd then wordsR ws (b ||| 4) else if w = sThr then wordsR ws (b ||| 8) else if w = sEmp then wordsR ws b else none
theorem or4_ne (b : B4) : b ||| 4 ≠ 0 := by
  have key : ∀ i : Fin 16, (BitVec.ofFin i : B4) ||| 4 ≠ 0 := by decide +kernel
  exact key b.toFin
theorem or8_ne (b : B4) : b ||| 8 ≠ 0 := by
  have key : ∀ i : Fin 16, (BitVec.ofFin i : B4) ||| 8 ≠ 0 := by decide +kernel
  exact key b.toFin
theorem words_eq : ∀ (ws : List ByteArray) (b : B4), wordsP ws b (decide (b ≠ 0)) = match wordsR ws b with | none => (0, false) | some b' => (b', decide (b' ≠ 0))
  | [], b => rfl
  | w :: ws, b => by
    unfold wordsP wordsR
    by_cases h1 : w = sUnd
    · rw [if_pos h1, if_pos h1, ← words_eq ws (b ||| 4), decide_eq_true (or4_ne b)]
    · rw [if_neg h1, if_neg h1]
      by_cases h2 : w = sThr
      · rw [if_pos h2, if_pos h2, ← words_eq ws (b ||| 8), decide_eq_true (or8_ne b)]
      · rw [if_neg h2, if_neg h2]
        by_cases h3 : w = sEmp
        · rw [if_pos h3, if_pos h3, words_eq ws b]
        · rw [if_neg h3, if_neg h3]

/-! what a declaration says -/
def tdR (v : ByteArray) : B4 × B4 × Bool := match wordsR (splitS v 32) 0 with | none => (0, 0, false) | some b => (b, 12 &&& ~~~b, decide (b ≠ 0))
def sayR (n v : ByteArray) : B4 × B4 × Bool :=
  if n = sFW then (if v = sBold ∨ v = s700 then (1, 0, true) else (0, 1, decide (v = sNormal ∨ v = s400)))
  else if n = sFS then (if v = sItalic then (2, 0, true) else (0, 2, decide (v = sNormal)))
  else if n = sTD then (if v = sNone then (0, 12, true) else tdR v)
  else (0, 0, false)
def sayP (nv n v : ByteArray) : B4 × B4 × Bool :=
  if nv = kFWbold then (1, 0, true) else if nv = kFW700 then (1, 0, true) else if nv = kFWnormal then (0, 1, true) else if nv = kFW400 then (0, 1, true)
  else if nv = kFSitalic then (2, 0, true) else if nv = kFSnormal then (0, 2, true) else if nv = kTDnone then (0, 12, true)
  else if (wordsP (splitS v 32) 0 false).2 = true ∧ n = sTD then ((wordsP (splitS v 32) 0 false).1, 12 &&& ~~~(wordsP (splitS v 32) 0 false).1, true) else (0, 0, false)
def ap (st : B4 × B4) (r : B4 × B4 × Bool) : B4 × B4 := if r.2.2 = true then (st.1 &&& ~~~r.2.1 ||| r.1, st.2 &&& ~~~r.1 ||| r.2.1) else st
theorem sep_list : ∀ (n a v b : List UInt8), (58 : UInt8) ∉ n → (58 : UInt8) ∉ a → n ++ 58 :: v = a ++ 58 :: b → n = a ∧ v = b
  | [], [], v, b, _, _, h => by simp at h; exact ⟨rfl, h⟩
  | [], x :: a, v, b, _, h2, h => by simp at h; exact absurd (by simp [h.1]) h2
  | x :: n, [], v, b, h1, _, h => by simp at h; exact absurd (by simp [h.1]) h1
  | x :: n, y :: a, v, b, h1, h2, h => by
    simp at h
    obtain ⟨e1, e2⟩ := sep_list n a v b (fun hm => h1 (by simp [hm])) (fun hm => h2 (by simp [hm])) h.2
    exact ⟨by rw [h.1, e1], e2⟩
theorem sep_iff {n v a b k : ByteArray} (hn : (58 : UInt8) ∉ toL n) (ha : (58 : UInt8) ∉ toL a) (hk : k = a ++ sCol ++ b) : n ++ sCol ++ v = k ↔ n = a ∧ v = b := by
  subst hk
  constructor
  · intro h
    have h' := congrArg toL h
    rw [toL_append, toL_append, toL_append, toL_append] at h'
    have e : toL sCol = [58] := rfl
    rw [e, List.append_assoc, List.append_assoc, List.singleton_append, List.singleton_append] at h'
    obtain ⟨h1, h2⟩ := sep_list _ _ _ _ hn ha h'
    exact ⟨toL_inj h1, toL_inj h2⟩
  · rintro ⟨rfl, rfl⟩; rfl
theorem td_eq (v : ByteArray) : (if (wordsP (splitS v 32) 0 false).2 = true then ((wordsP (splitS v 32) 0 false).1, 12 &&& ~~~(wordsP (splitS v 32) 0 false).1, true) else ((0 : B4), (0 : B4), false)) = if (tdR v).2.2 = true then tdR v else (0, 0, false) := by
  have h := words_eq (splitS v 32) 0
  have e : decide ((0 : B4) ≠ 0) = false := by decide
  rw [e] at h
  rw [h]
  unfold tdR
  cases wordsR (splitS v 32) 0 with
  | none => rfl
  | some b =>
    show (if decide (b ≠ 0) = true then (b, 12 &&& ~~~b, true) else ((0 : B4), (0 : B4), false)) = if decide (b ≠ 0) = true then (b, 12 &&& ~~~b, decide (b ≠ 0)) else (0, 0, false)
    generalize decide (b ≠ 0) = c
    cases c <;> rfl
theorem ap_false (st : B4 × B4) (a b : B4) : ap st (a, b, false) = st := rfl
theorem ap_norm (st : B4 × B4) (r : B4 × B4 × Bool) : ap st r = ap st (if r.2.2 = true then r else (0, 0, false)) := by
  unfold ap
  by_cases h : r.2.2 = true
  · rw [if_pos h, if_pos h, if_pos h]
  · rw [if_neg h, if_neg h]; rfl
theorem say_eq (st : B4 × B4) {n v : ByteArray} (hn : (58 : UInt8) ∉ toL n) : ap st (sayP (n ++ sCol ++ v) n v) = ap st (sayR n v) := by
  have hFW : (58 : UInt8) ∉ toL sFW := by decide
  have hFS : (58 : UInt8) ∉ toL sFS := by decide
  have hTD : (58 : UInt8) ∉ toL sTD := by decide
  unfold sayP sayR
  simp only [sep_iff hn hFW (show kFWbold = sFW ++ sCol ++ sBold from rfl), sep_iff hn hFW (show kFW700 = sFW ++ sCol ++ s700 from rfl), sep_iff hn hFW (show kFWnormal = sFW ++ sCol ++ sNormal from rfl), sep_iff hn hFW (show kFW400 = sFW ++ sCol ++ s400 from rfl),
    sep_iff hn hFS (show kFSitalic = sFS ++ sCol ++ sItalic from rfl), sep_iff hn hFS (show kFSnormal = sFS ++ sCol ++ sNormal from rfl), sep_iff hn hTD (show kTDnone = sTD ++ sCol ++ sNone from rfl)]
  have d1 : sFW ≠ sFS := by decide
  have d2 : sFW ≠ sTD := by decide
  have d3 : sFS ≠ sTD := by decide
  by_cases h1 : n = sFW
  · subst h1
    simp only [d1, d2, true_and, false_and, and_false, if_false, if_true]
    by_cases g1 : v = sBold
    · simp [g1]
    · by_cases g2 : v = s700
      · simp [g1, g2]
      · by_cases g3 : v = sNormal
        · simp [g1, g2, g3]
        · by_cases g4 : v = s400
          · simp [g1, g2, g3, g4]
          · simp [g1, g2, g3, g4, ap_false]
  · by_cases h2 : n = sFS
    · subst h2
      simp only [d1.symm, d3, true_and, false_and, and_false, if_false, if_true]
      by_cases g1 : v = sItalic
      · simp [g1]
      · by_cases g2 : v = sNormal
        · simp [g1, g2]
        · simp [g1, g2, ap_false]
    · by_cases h3 : n = sTD
      · subst h3
        simp only [d2.symm, d3.symm, true_and, false_and, and_true, if_false, if_true]
        by_cases g1 : v = sNone
        · simp [g1]
        · simp only [g1, if_false]
          rw [td_eq, ← ap_norm]
      · simp only [h1, h2, h3, false_and, and_false, if_false]

/-! declarations -/
def declOf (d : List UInt8) : Option (ByteArray × ByteArray) := if (Lib.cut d [58]).2.2 = true then some (lt (Lib.cut d [58]).1, lt (Lib.cut d [58]).2.1) else none
theorem declOf_none {d : List UInt8} (h : (58 : UInt8) ∉ d) : declOf d = none := by unfold declOf; rw [cut_miss h]; rfl
theorem declOf_some {a r : List UInt8} (h : (58 : UInt8) ∉ a) : declOf (a ++ 58 :: r) = some (lt a, lt r) := by unfold declOf; rw [cut_hit h]; rfl
def decls (s : ByteArray) : List (ByteArray × ByteArray) := (cutAt 59 (toL s)).filterMap declOf
theorem low_58 {b : UInt8} (h : lowB b = 58) : b = 58 := by
  unfold lowB at h
  split at h
  · rename_i hh
    have e : (b + 32).toNat = b.toNat + 32 := by
      rw [UInt8.toNat_add]
      show (b.toNat + 32) % 256 = _
      omega
    rw [h] at e
    have : (58 : UInt8).toNat = 58 := rfl
    omega
  · exact h
theorem trimB_sub (l : List UInt8) (c : UInt8) {b : UInt8} (h : b ∈ Lib.trimB l c) : b ∈ l := by
  have h1 := (List.dropWhile_suffix (l := Lib.trimRightB l c) (· == c)).subset h
  have h2 : b ∈ l.reverse := (List.dropWhile_suffix (l := l.reverse) (· == c)).subset (List.mem_reverse.1 h1)
  exact List.mem_reverse.1 h2
theorem lt_58 {a : List UInt8} (h : (58 : UInt8) ∉ a) : (58 : UInt8) ∉ toL (lt a) := by
  unfold lt
  rw [toL_ofL]
  intro hm
  obtain ⟨b, hb, e⟩ := List.mem_map.1 hm
  rw [low_58 e] at hb
  exact h (trimB_sub _ _ hb)
theorem declOf_58 {d : List UInt8} {p : ByteArray × ByteArray} (h : declOf d = some p) : (58 : UInt8) ∉ toL p.1 := by
  rcases index_one d 58 with ⟨_, h2⟩ | ⟨a, r, rfl, h2, _⟩
  · rw [declOf_none h2] at h; cases h
  · rw [declOf_some h2] at h; cases h; exact lt_58 h2
def apR (st : B4 × B4) (p : ByteArray × ByteArray) : B4 × B4 := ap st (sayR p.1 p.2)
def apP (st : B4 × B4) (p : ByteArray × ByteArray) : B4 × B4 := ap st (sayP (p.1 ++ sCol ++ p.2) p.1 p.2)
def parseT (ds : List (List UInt8)) (st : B4 × B4) : B4 × B4 := (ds.filterMap declOf).foldl apR st
def parseS (s : ByteArray) : B4 × B4 := parseT (cutAt 59 (toL s)) (0, 0)
theorem foldl_apP : ∀ (l : List (ByteArray × ByteArray)) (st : B4 × B4), (∀ p ∈ l, (58 : UInt8) ∉ toL p.1) → l.foldl apP st = l.foldl apR st
  | [], _, _ => rfl
  | p :: l, st, h => by
    rw [List.foldl_cons, List.foldl_cons]
    have e : apP st p = apR st p := say_eq st (h p (by simp))
    rw [e, foldl_apP l _ (fun q hq => h q (by simp [hq]))]
theorem parseP (s : ByteArray) : (decls s).foldl apP (0, 0) = parseS s := foldl_apP _ _ fun p hp => by
  obtain ⟨d, _, hd⟩ := List.mem_filterMap.1 hp
  exact declOf_58 hd
theorem parseT_none {d : List UInt8} {ds : List (List UInt8)} {st : B4 × B4} (h : (58 : UInt8) ∉ d) : parseT (d :: ds) st = parseT ds st := by
  unfold parseT; rw [List.filterMap_cons, declOf_none h]
theorem parseT_some {a r : List UInt8} {ds : List (List UInt8)} {st : B4 × B4} (h : (58 : UInt8) ∉ a) : parseT ((a ++ 58 :: r) :: ds) st = parseT ds (apR st (lt a, lt r)) := by
  unfold parseT; rw [List.filterMap_cons, declOf_some h]; rfl

/-! print -/
def joinB (xs : List ByteArray) (sep : ByteArray) : ByteArray := ofL (Lib.join (xs.map toL) (toL sep))
def put (l : List ByteArray) (s c : Bool) (n on off : ByteArray) : List ByteArray := if s then l ++ [n ++ sCS ++ on] else if c then l ++ [n ++ sCS ++ off] else l
def rowS (u t : Bool) : List ByteArray := (if u then [sUnd] else []) ++ (if t then [sThr] else [])
def printP (s1 c1 s2 c2 s12 u t c12 : Bool) : ByteArray := joinB (put (put (put [] s1 c1 sFW sBold sNormal) s2 c2 sFS sItalic sNormal) s12 c12 sTD (joinB (rowS u t) sSp) sNone) sSC
def joinR (a b : ByteArray) : ByteArray := if a = sEmp ∨ b = sEmp then a ++ b else a ++ sSC ++ b
def printR (s1 c1 s2 c2 u t c12 : Bool) : ByteArray :=
  joinR (joinR (if s1 then pFWb else if c1 then pFWn else sEmp) (if s2 then pFSi else if c2 then pFSn else sEmp)) (if u && t then pTDul else if u then pTDu else if t then pTDl else if c12 then pTDn else sEmp)
theorem print_eq (s1 c1 s2 c2 u t c12 : Bool) : printP s1 c1 s2 c2 (u || t) u t c12 = printR s1 c1 s2 c2 u t c12 := by
  revert s1 c1 s2 c2 u t c12; decide +kernel
end Go.Css
