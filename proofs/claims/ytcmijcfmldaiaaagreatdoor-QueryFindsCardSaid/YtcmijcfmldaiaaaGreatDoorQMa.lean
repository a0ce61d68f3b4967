/- Documents and states as plain values: the model of the laws of chapters 26 and 28. -/
import Derived.Test.YtcmijcfmldaiaaaGreatDoorALc
import Derived.Lib.ValidU
import Derived.IntWalk
import Derived.Test.YtcmijcfmldaiaaaGreatDoorProg
set_option autoImplicit false
set_option linter.unusedVariables false
set_option linter.unusedSimpArgs false
namespace Go.Q
open Go Go.AL

structure Cell where
  r : Int
  bits : Int
  href : ByteArray
  deriving DecidableEq
structure Line where
  quote : Int
  lists : List Int
  kind : Int
  cells : List Cell
  deriving DecidableEq
structure Pos where
  line : Int
  col : Int
  deriving DecidableEq
structure St where
  lines : List Line
  a : Pos
  f : Pos
  on : Int
  off : Int
  deriving DecidableEq
instance : Inhabited Cell := ⟨⟨0, 0, ⟨#[]⟩⟩⟩
instance : Inhabited Line := ⟨⟨0, [], 0, []⟩⟩
instance : Inhabited Pos := ⟨⟨0, 0⟩⟩
def c0 : Cell := ⟨0, 0, ⟨#[]⟩⟩
def l0 : Line := ⟨0, [], 0, []⟩
def p0 : Pos := ⟨0, 0⟩
def s0 : St := ⟨[], p0, p0, 0, 0⟩

/-! characters -/
def charOK (r : Int) : Bool := decide ((32 ≤ r ∧ r ≠ 127 ∧ r < 55296) ∨ (57344 ≤ r ∧ r ≤ 1114111))
/-- 0 none, 1 control, 2 blank, 3 letter, 4 digit, 5 other. -/
def classI (r : Int) : Int :=
  if ¬ ((0 ≤ r ∧ r < 55296) ∨ (57344 ≤ r ∧ r ≤ 1114111)) then 0
  else if r < 32 ∨ r = 127 then 1
  else if r = 32 ∨ r = 160 then 2
  else if r = 65533 then 5
  else if (97 ≤ r ∧ r ≤ 122) ∨ (65 ≤ r ∧ r ≤ 90) ∨ 128 ≤ r then 3
  else if 48 ≤ r ∧ r ≤ 57 then 4
  else 5
theorem class_ok (r : Int) : charOK r = decide (1 < classI r) := by
  unfold charOK classI
  refine decide_eq_decide.2 ?_
  split
  · omega
  · split
    · omega
    · split
      · omega
      · split
        · omega
        · split
          · omega
          · split <;> omega
def plainR (r : Int) : Option Int := if r = 9 ∨ r = 12 ∨ r = 13 then some 32 else if r = 10 then some 10 else if classI r = 1 then none else some r
def cleanR (s : ByteArray) : List Int := (runesOf s).filterMap plainR

/-! targets, links -/
def valueOK (s : ByteArray) : Bool := (runesOf s).all charOK && decide (s.size ≤ 200) && Lib.validD s.data.toList
def jsL : List UInt8 := [106, 97, 118, 97, 115, 99, 114, 105, 112, 116]
def lowU (b : UInt8) : UInt8 := if 65 ≤ b.toNat ∧ b.toNat ≤ 90 then b + 32 else b
def headL (l : List UInt8) : List UInt8 := l.takeWhile (fun b => b != 58)
def targetOK (s : ByteArray) : Bool := valueOK s && decide (s ≠ ⟨#[]⟩) && decide (bAt s 0 ≠ 32) && decide (bAt s (s.size - 1) ≠ 32) && decide ((headL s.data.toList).map lowU ≠ jsL)
def linkOK (h : ByteArray) : Bool := decide (h = ⟨#[]⟩) || targetOK h

/-! cells, lines, documents -/
def cellOK (c : Cell) : Bool := (decide (c.r = 10) || charOK c.r) && decide (0 ≤ c.bits ∧ c.bits ≤ 15) && linkOK c.href
def lineOK (l : Line) : Bool := decide (0 ≤ l.quote ∧ l.quote ≤ 6) && decide (l.lists.length ≤ 6) && decide (0 ≤ l.kind ∧ l.kind ≤ 3) && decide (l.lists = [] ∨ l.kind = 0) && l.lists.all (fun k => decide (k = 0 ∨ k = 1)) && l.cells.all cellOK
def sizeD (d : List Line) : Nat := (d.map fun l => l.cells.length).sum
def docOK (d : List Line) : Bool := decide (1 ≤ d.length ∧ d.length ≤ 200) && decide (sizeD d ≤ 4000) && d.all lineOK
def lineAt (d : List Line) (i : Int) : Line := d.getD i.toNat l0
def isPos (d : List Line) (p : Pos) : Bool := decide (0 ≤ p.line ∧ p.line < d.length) && decide (0 ≤ p.col ∧ p.col ≤ (lineAt d p.line).cells.length)
def cmpI (x y : Int) : Int := if x < y then -1 else if y < x then 1 else 0
def cmpP (a b : Pos) : Int := if a.line = b.line then cmpI a.col b.col else cmpI a.line b.line
def spanD (d : List Line) (a b : Pos) : Bool := docOK d && isPos d a && isPos d b && decide (cmpP a b ≤ 0)
def bitAnd (x y : Int) : Int := intB .and .i64 x y
def stOK (s : St) : Bool := docOK s.lines && isPos s.lines s.a && isPos s.lines s.f && decide (0 ≤ s.on ∧ s.on ≤ 15) && decide (0 ≤ s.off ∧ s.off ≤ 15) && decide (bitAnd s.on s.off = 0)
def spanS (s : St) : Pos × Pos := if 0 < cmpP s.a s.f then (s.f, s.a) else (s.a, s.f)
/-- Which cells of a line stand between two places. -/
def fromTo (d : List Line) (a b : Pos) (i : Int) : Int × Int := (if i = a.line then a.col else 0, if i = b.line then b.col else ((lineAt d i).cells.length : Int))
def cut {α : Type} (l : List α) (i j : Int) : List α := (l.take j.toNat).drop i.toNat
def partL (d : List Line) (a b : Pos) (i : Int) : Line := { lineAt d i with cells := cut (lineAt d i).cells (fromTo d a b i).1 (fromTo d a b i).2 }
/-- The numbers from one to another. -/
def upto (i j : Int) : List Int := (List.range (j + 1 - i).toNat).map fun (k : Nat) => i + (k : Int)
def partD (d : List Line) (a b : Pos) : List Line := (upto a.line b.line).map (partL d a b)
def cellsD (d : List Line) (a b : Pos) : List Cell := (partD d a b).flatMap (·.cells)
def deleteD (d : List Line) (a b : Pos) : List Line :=
  d.take a.line.toNat ++ { lineAt d a.line with cells := (lineAt d a.line).cells.take a.col.toNat ++ (lineAt d b.line).cells.drop b.col.toNat } :: d.drop (b.line.toNat + 1)
def setL (d : List Line) (i : Int) (l : Line) : List Line := d.set i.toNat l
def insertD (d : List Line) (p : Pos) (c : List Cell) : List Line :=
  setL d p.line { lineAt d p.line with cells := (lineAt d p.line).cells.take p.col.toNat ++ c ++ (lineAt d p.line).cells.drop p.col.toNat }
def overB (b s c : Int) : Int := intB .or .i64 (intB .andNot .i64 b c) s
/-- Some cells of a row changed. -/
def mapC (f : Cell → Cell) (l : List Cell) (i j : Int) : List Cell := l.take i.toNat ++ (cut l i j).map f ++ l.drop j.toNat
def mapD (f : Cell → Cell) (d : List Line) (a b : Pos) : List Line :=
  d.mapIdx fun k l => if a.line ≤ (k : Int) ∧ (k : Int) ≤ b.line then { l with cells := mapC f l.cells (fromTo d a b k).1 (fromTo d a b k).2 } else l
def setF (s c : Int) (x : Cell) : Cell := { x with bits := overB x.bits s c }
def linkF (h : ByteArray) (x : Cell) : Cell := { x with href := h }

/-! lines turned: an error, or a line -/
def lastI (l : List Int) : Int := if l = [] then -1 else l.getD (l.length - 1) 0
abbrev Er := Int
def eOK : Er := 0
def eArg : Er := 1
def eNone : Er := 2
def eFull : Er := 3
def eDeep : Er := 4
def eOff : Er := 7
def eLong : Er := 10
def turned (l : Line) (r : Option Line) : Line × Er := if lineOK l then match r with | some x => (x, 0) | none => (l0, 7) else (l0, 1)
def indentR (l : Line) : Option Line := if l.lists ≠ [] then (if l.lists.length < 6 then some { l with lists := l.lists ++ [lastI l.lists] } else none) else if l.quote < 6 then some { l with quote := l.quote + 1 } else none
def outdentR (l : Line) : Option Line := if l.lists ≠ [] then some { l with lists := l.lists.dropLast } else if 0 < l.quote then some { l with quote := l.quote - 1 } else none
def listR (k : Int) (l : Line) : Option Line := if l.lists = [] then some { l with lists := [k], kind := 0 } else if lastI l.lists = k then none else some { l with lists := l.lists.set (l.lists.length - 1) k }
def formatR (k : Int) (l : Line) : Option Line := if l.lists = [] ∧ l.kind ≠ k then some { l with kind := k } else none
def freeR (l : Line) : Option Line := if l.lists ≠ [] then some { l with lists := l.lists.dropLast } else if 0 < l.kind then some { l with kind := 0 } else if 0 < l.quote then some { l with quote := l.quote - 1 } else none
end Go.Q

/- Commands over states as plain values: typing, styling, blocks, query. -/
set_option autoImplicit false
set_option linter.unusedVariables false
set_option linter.unusedSimpArgs false
namespace Go.Q
open Go Go.AL

abbrev eS : ByteArray := ⟨#[]⟩
def bitOr (x y : Int) : Int := intB .or .i64 x y
def bitNot (x y : Int) : Int := intB .andNot .i64 x y

/-! cells around a place -/
def place (n : Nat) (k : Int) : Nat := (min (max k 0) (n : Int)).toNat
def aheadC (l : List Cell) (p : Nat) : Option Cell := if 0 < p then l[p - 1]? else none
def behindC (l : List Cell) (p : Nat) : Option Cell := l[p]?
def bits2 : Option Cell → Option Cell → Int
  | some a, _ => a.bits
  | none, some b => b.bits
  | none, none => 0
def href2 : Option Cell → Option Cell → ByteArray
  | some a, some b => if a.href = b.href then a.href else eS
  | _, _ => eS
def aroundC (l : List Cell) (k : Int) : Int × ByteArray := (bits2 (aheadC l (place l.length k)) (behindC l (place l.length k)), href2 (aheadC l (place l.length k)) (behindC l (place l.length k)))
def hrefAt : Option Cell → Option Cell → ByteArray
  | some a, some b => if a.href ≠ eS then a.href else b.href
  | some a, none => a.href
  | none, some b => b.href
  | none, none => eS
def fromN (l : List Cell) (p : Nat) (h : ByteArray) : Nat := p - ((l.take p).reverse.takeWhile fun c => decide (c.href = h)).length
def toN (l : List Cell) (p : Nat) (h : ByteArray) : Nat := p + ((l.drop p).takeWhile fun c => decide (c.href = h)).length
def withinC (l : List Cell) (k : Int) : Int × Int :=
  let p := place l.length k
  let h := hrefAt (aheadC l p) (behindC l p)
  if h = eS then ((p : Int), (p : Int)) else ((fromN l p h : Int), (toN l p h : Int))

/-! documents: what is done, or an error -/
abbrev RD := List Line × Er
def deleteR (d : List Line) (a b : Pos) : RD := if spanD d a b then (deleteD d a b, 0) else ([], 1)
def insertR (d : List Line) (p : Pos) (c : List Cell) : List Line × Pos × Er :=
  if ¬ (spanD d p p ∧ c.all cellOK) then ([], p0, 1) else if 4000 < sizeD d + c.length then ([], p0, 10) else (insertD d p c, ⟨p.line, p.col + c.length⟩, 0)
def splitA (l : Line) (k : Int) : Line := { l with cells := l.cells.take k.toNat }
def splitB (l : Line) (k : Int) : Line := { l with cells := l.cells.drop k.toNat, kind := if l.cells.drop k.toNat = [] then 0 else l.kind }
def splitD (d : List Line) (p : Pos) : List Line := d.take p.line.toNat ++ splitA (lineAt d p.line) p.col :: splitB (lineAt d p.line) p.col :: d.drop (p.line.toNat + 1)
def splitR (d : List Line) (p : Pos) : List Line × Pos × Er := if ¬ spanD d p p then ([], p0, 1) else if d.length = 200 then ([], p0, 10) else (splitD d p, ⟨p.line + 1, 0⟩, 0)
def eachR (d : List Line) (a b : Pos) (f : Cell → Cell) : RD := if ¬ spanD d a b then ([], 1) else if cellsD d a b = [] then ([], 7) else (mapD f d a b, 0)
def setR (d : List Line) (a b : Pos) (s c : Int) : RD := eachR d a b (setF (bitAnd s 15) (bitAnd c 15))
def linkR (d : List Line) (a b : Pos) (h : ByteArray) : RD := if ¬ linkOK h then ([], 1) else eachR d a b (linkF h)
def allD (d : List Line) (a b : Pos) (x : Int) : Bool := spanD d a b && decide (cellsD d a b ≠ []) && (cellsD d a b).all fun c => decide (bitAnd c.bits x = x)
def someD (d : List Line) (a b : Pos) (x : Int) : Bool := spanD d a b && (cellsD d a b).any fun c => decide (bitAnd c.bits x ≠ 0)
def endD (d : List Line) : Pos := if d = [] then p0 else ⟨(d.length : Int) - 1, ((lineAt d ((d.length : Int) - 1)).cells.length : Int)⟩
def offD (d : List Line) (p : Pos) : Int := (sizeD (d.take p.line.toNat) : Int) + p.line + p.col
/-- The place behind so many steps. -/
def atD : List Line → Int → Nat → Pos
  | [], _, _ => p0
  | l :: d, i, n => if n ≤ l.cells.length then ⟨i, n⟩ else atD d (i + 1) (n - (l.cells.length + 1))
def stepD (d : List Line) (p : Pos) (k : Int) : Pos × Bool :=
  if k < - offD d p then (p0, false) else if offD d (endD d) - offD d p < k then (endD d, false) else (atD d 0 (offD d p + k).toNat, true)

/-! typing -/
abbrev RS := St × Er
def closedS (d : List Line) (p : Pos) : St := ⟨d, p, p, 0, 0⟩
def emptied (s : St) (does : List Line → Pos → List Line × Pos × Er) : RS :=
  if ¬ stOK s then (s0, 1) else
  let r := does (deleteD s.lines (spanS s).1 (spanS s).2) (spanS s).1
  if r.2.2 = 0 then (closedS r.1 r.2.1, 0) else (s0, r.2.2)
def bitsT (s : St) : Int :=
  let b := match cellsD s.lines (spanS s).1 (spanS s).2 with
    | c :: _ => c.bits
    | [] => (aroundC (lineAt s.lines (spanS s).1.line).cells (spanS s).1.col).1
  bitOr (bitNot b s.off) s.on
def ofC (t : ByteArray) (bits : Int) (h : ByteArray) : List Cell := (cleanR t).map fun r => ⟨r, bits, h⟩
def insertTextS (s : St) (t : ByteArray) : RS := emptied s fun d p =>
  if 8192 < t.size then ([], p, 10) else if cleanR t = [] then ([], p, 7) else insertR d p (ofC t (bitsT s) (aroundC (lineAt d p.line).cells p.col).2)
def paragraphS (s : St) : RS := emptied s fun d p =>
  let l := lineAt d p.line
  let o := turned l (outdentR l)
  if l.cells = [] ∧ o.2 = 0 then (setL d p.line o.1, p, 0) else splitR d p
def backS (s : St) : RS := emptied s fun d p =>
  let l := lineAt d p.line
  let o := turned l (freeR l)
  let q := stepD d p (-1)
  if s.a ≠ s.f then (d, p, 0) else if p.col = 0 ∧ o.2 = 0 then (setL d p.line o.1, p, 0) else if ¬ q.2 then ([], p, 7) else ((deleteR d q.1 p).1, q.1, (deleteR d q.1 p).2)
def forthS (s : St) : RS := emptied s fun d p =>
  let q := stepD d p 1
  if s.a ≠ s.f then (d, p, 0) else if ¬ q.2 then ([], p, 7) else ((deleteR d p q.1).1, p, (deleteR d p q.1).2)

/-! styling -/
def andAll (l : List Cell) : Int := l.foldl (fun x c => bitAnd x c.bits) 15
def bitsS (s : St) : Int :=
  if ¬ stOK s then 0 else if s.a = s.f then bitOr (bitNot (aroundC (lineAt s.lines (spanS s).1.line).cells (spanS s).1.col).1 s.off) s.on
  else if cellsD s.lines (spanS s).1 (spanS s).2 = [] then 0 else andAll (cellsD s.lines (spanS s).1 (spanS s).2)
def hasS (s : St) (bit : Int) : Bool := decide (bit ≠ 0) && decide (bitAnd (bitsS s) bit = bit)
def mixedS (s : St) (bit : Int) : Bool := stOK s && decide (s.a ≠ s.f) && someD s.lines (spanS s).1 (spanS s).2 bit && !(allD s.lines (spanS s).1 (spanS s).2 bit)
def handS (s : St) : Pos × Pos :=
  if s.a ≠ s.f then spanS s else
  let w := withinC (lineAt s.lines (spanS s).1.line).cells (spanS s).1.col
  (⟨(spanS s).1.line, w.1⟩, ⟨(spanS s).1.line, w.2⟩)
def hrefL : List Cell → ByteArray
  | [] => eS
  | c :: l => if l.any fun x => decide (x.href ≠ c.href) then eS else c.href
def hrefS (s : St) : ByteArray := if ¬ stOK s then eS else hrefL (cellsD s.lines (handS s).1 (handS s).2)
def changedS (s : St) (ch : List Line → Pos → Pos → RD) : RS :=
  if ¬ stOK s then (s0, 1) else
  let r := ch s.lines (spanS s).1 (spanS s).2
  if r.2 = 0 then (⟨r.1, s.a, s.f, 0, 0⟩, 0) else (s0, r.2)
def isBit (b : Int) : Bool := decide (b = 1 ∨ b = 2 ∨ b = 4 ∨ b = 8)
def toggleS (s : St) (bit : Int) : RS :=
  if ¬ stOK s ∨ ¬ isBit bit then (s0, 1) else
  if s.a = s.f then
    let on := bitNot bit (bitsS s)
    ({ s with on := bitOr (bitNot s.on bit) on, off := bitOr (bitNot s.off bit) (bitNot bit on) }, 0)
  else changedS s fun d a b => if allD d a b bit then setR d a b 0 bit else setR d a b bit 0
def linkS (s : St) (h : ByteArray) : RS := changedS s fun d a b => if ¬ targetOK h then ([], 1) else linkR d a b h
def unlinkS (s : St) : RS := changedS s fun d _ _ => if (cellsD d (handS s).1 (handS s).2).any fun c => decide (c.href ≠ eS) then linkR d (handS s).1 (handS s).2 eS else ([], 7)
def plainS (s : St) : RS := changedS s fun d a b => if ¬ someD d a b 15 then ([], 7) else setR d a b 0 15

/-! blocks -/
def selI (s : St) (k : Nat) : Bool := decide ((spanS s).1.line ≤ (k : Int) ∧ (k : Int) ≤ (spanS s).2.line)
def turnL (t : Line → Line × Er) (l : Line) : Line := if (t l).2 = 0 then (t l).1 else l
def selL (s : St) : List Line := (upto (spanS s).1.line (spanS s).2.line).map (lineAt s.lines)
def eachS (s : St) (t : Line → Line × Er) : RS :=
  if ¬ stOK s then (s0, 1) else
  if (selL s).any fun l => decide ((t l).2 = 0) then (⟨s.lines.mapIdx fun k l => if selI s k then turnL t l else l, s.a, s.f, 0, 0⟩, 0) else (s0, 7)
def formatL (k : Int) (l : Line) : Line × Er := if k < 0 ∨ 3 < k then (l0, 1) else turned l (formatR k l)
def listL (k : Int) (l : Line) : Line × Er := if k ≠ 0 ∧ k ≠ 1 then (l0, 1) else turned l (listR k l)
def indentL (l : Line) : Line × Er := turned l (indentR l)
def outdentL (l : Line) : Line × Er := turned l (outdentR l)
def formatS (s : St) (k : Int) : RS := if k < 0 ∨ 3 < k then (s0, 1) else eachS s (formatL k)
def indentS (s : St) : RS := eachS s indentL
def outdentS (s : St) : RS := eachS s outdentL
def listedL (k : Int) (l : Line) : Bool := decide (l.lists ≠ []) && decide (lastI l.lists = k)
def listedS (s : St) (k : Int) : Bool × Bool := if ¬ stOK s then (false, false) else ((selL s).all (listedL k), (selL s).any (listedL k))
def listS (s : St) (k : Int) : RS := if k ≠ 0 ∧ k ≠ 1 then (s0, 1) else if (listedS s k).1 then outdentS s else eachS s (listL k)
/-- The kind of all lines that are selected, if they have one. -/
def kindS (s : St) : Int × Bool :=
  if ¬ stOK s then (0, false) else
  if (selL s).all fun l => decide (l.lists = []) && decide (l.kind = (lineAt s.lines (spanS s).1.line).kind) then ((lineAt s.lines (spanS s).1.line).kind, true) else (0, false)
end Go.Q

/- The program's values, as this seat's types number them. -/
set_option autoImplicit false
set_option linter.unusedVariables false
set_option linter.unusedSimpArgs false
namespace Go.Q
open Go Go.AL Go.RowKit
abbrev tInt : TypeId := 3
abbrev tCell : TypeId := 57
abbrev tLine : TypeId := 60
abbrev tRune : TypeId := 21
def intAV (z : Int) : AV := .v (.int .i64 z)
def strAV (b : ByteArray) : AV := .v (.string b)
def boolAV (b : Bool) : AV := .v (.bool b)
def cellAV (c : Cell) : AV := .ag [.v (.int .i32 c.r), .v (.int .i64 c.bits), .v (.string c.href)]
def intsAV (l : List Int) : AV := .sl 3 (l.map intAV)
def cellsAV (l : List Cell) : AV := .sl 57 (l.map cellAV)
def lineAV (l : Line) : AV := .ag [.v (.int .i64 l.quote), intsAV l.lists, .v (.int .i64 l.kind), cellsAV l.cells]
def linesAV (d : List Line) : AV := .sl 60 (d.map lineAV)
def posAV (p : Pos) : AV := .ag [.v (.int .i64 p.line), .v (.int .i64 p.col)]
def stAV (s : St) : AV := .ag [linesAV s.lines, .v (.int .i64 s.a.line), .v (.int .i64 s.a.col), .v (.int .i64 s.f.line), .v (.int .i64 s.f.col), .v (.int .i64 s.on), .v (.int .i64 s.off)]
/-- The tables of utf8 and the number that bytealg holds. -/
def QT (w : World) : Prop := Lib.Utf8Tabs 0 1 w ∧ ∃ m : Int, w.cell? ⟨2, 0, none⟩ = some (.int .i64 m)
abbrev TQ : AH → Prop := Holds [0, 1, 2] QT
theorem i64_in {x : Int} (h : -9223372036854775808 ≤ x ∧ x ≤ 9223372036854775807) : IntKind.i64.wrap x = x := by
  rw [IntKind.wrap_i64]; omega
/-- What may come in. -/
def Small (d : List Line) : Prop := d.length ≤ 300 ∧ ∀ l ∈ d, l.lists.length ≤ 20000 ∧ l.cells.length ≤ 20000
def validR (r : Int) : Bool := decide ((0 ≤ r ∧ r < 55296) ∨ (57343 < r ∧ r ≤ 1114111))
end Go.Q
