/- The commands, as this seat numbers them. -/
import Derived.Test.YtcmijcfmldaiaaaGreatDoorQKa
import Derived.Test.YtcmijcfmldaiaaaGreatDoorTLp
set_option autoImplicit false
set_option linter.unusedVariables false
set_option linter.unusedSimpArgs false
namespace Go.Q
open Go Go.AL Go.RowKit
def nameQ : Nat → ByteArray
  | 0 => ⟨#[105, 110, 115, 101, 114, 116, 84, 101, 120, 116]⟩
  | 1 => ⟨#[105, 110, 115, 101, 114, 116, 76, 105, 110, 101, 66, 114, 101, 97, 107]⟩
  | 2 => ⟨#[105, 110, 115, 101, 114, 116, 80, 97, 114, 97, 103, 114, 97, 112, 104]⟩
  | 3 => ⟨#[100, 101, 108, 101, 116, 101]⟩
  | 4 => ⟨#[102, 111, 114, 119, 97, 114, 100, 68, 101, 108, 101, 116, 101]⟩
  | 5 => ⟨#[98, 111, 108, 100]⟩
  | 6 => ⟨#[105, 116, 97, 108, 105, 99]⟩
  | 7 => ⟨#[117, 110, 100, 101, 114, 108, 105, 110, 101]⟩
  | 8 => ⟨#[115, 116, 114, 105, 107, 101, 84, 104, 114, 111, 117, 103, 104]⟩
  | 9 => ⟨#[99, 114, 101, 97, 116, 101, 76, 105, 110, 107]⟩
  | 10 => ⟨#[117, 110, 108, 105, 110, 107]⟩
  | 11 => ⟨#[114, 101, 109, 111, 118, 101, 70, 111, 114, 109, 97, 116]⟩
  | 12 => ⟨#[102, 111, 114, 109, 97, 116, 66, 108, 111, 99, 107]⟩
  | 13 => ⟨#[105, 110, 100, 101, 110, 116]⟩
  | 14 => ⟨#[111, 117, 116, 100, 101, 110, 116]⟩
  | 15 => ⟨#[105, 110, 115, 101, 114, 116, 85, 110, 111, 114, 100, 101, 114, 101, 100, 76, 105, 115, 116]⟩
  | 16 => ⟨#[105, 110, 115, 101, 114, 116, 79, 114, 100, 101, 114, 101, 100, 76, 105, 115, 116]⟩
  | _ => ⟨#[105, 110, 115, 101, 114, 116, 79, 114, 100, 101, 114, 101, 100, 76, 105, 115, 116]⟩
def inputQ : Nat → ByteArray
  | 0 => ⟨#[105, 110, 115, 101, 114, 116, 84, 101, 120, 116]⟩
  | 1 => ⟨#[105, 110, 115, 101, 114, 116, 76, 105, 110, 101, 66, 114, 101, 97, 107]⟩
  | 2 => ⟨#[105, 110, 115, 101, 114, 116, 80, 97, 114, 97, 103, 114, 97, 112, 104]⟩
  | 3 => ⟨#[100, 101, 108, 101, 116, 101, 67, 111, 110, 116, 101, 110, 116, 66, 97, 99, 107, 119, 97, 114, 100]⟩
  | 4 => ⟨#[100, 101, 108, 101, 116, 101, 67, 111, 110, 116, 101, 110, 116, 70, 111, 114, 119, 97, 114, 100]⟩
  | 5 => ⟨#[102, 111, 114, 109, 97, 116, 66, 111, 108, 100]⟩
  | 6 => ⟨#[102, 111, 114, 109, 97, 116, 73, 116, 97, 108, 105, 99]⟩
  | 7 => ⟨#[102, 111, 114, 109, 97, 116, 85, 110, 100, 101, 114, 108, 105, 110, 101]⟩
  | 8 => ⟨#[102, 111, 114, 109, 97, 116, 83, 116, 114, 105, 107, 101, 84, 104, 114, 111, 117, 103, 104]⟩
  | 9 => ⟨#[105, 110, 115, 101, 114, 116, 76, 105, 110, 107]⟩
  | 10 => ⟨#[102, 111, 114, 109, 97, 116, 85, 110, 108, 105, 110, 107]⟩
  | 11 => ⟨#[102, 111, 114, 109, 97, 116, 82, 101, 109, 111, 118, 101]⟩
  | 12 => ⟨#[102, 111, 114, 109, 97, 116, 66, 108, 111, 99, 107]⟩
  | 13 => ⟨#[102, 111, 114, 109, 97, 116, 73, 110, 100, 101, 110, 116]⟩
  | 14 => ⟨#[102, 111, 114, 109, 97, 116, 79, 117, 116, 100, 101, 110, 116]⟩
  | 15 => ⟨#[105, 110, 115, 101, 114, 116, 85, 110, 111, 114, 100, 101, 114, 101, 100, 76, 105, 115, 116]⟩
  | 16 => ⟨#[105, 110, 115, 101, 114, 116, 79, 114, 100, 101, 114, 101, 100, 76, 105, 115, 116]⟩
  | _ => ⟨#[105, 110, 115, 101, 114, 116, 79, 114, 100, 101, 114, 101, 100, 76, 105, 115, 116]⟩
def dataQ : Nat → Int
  | 0 => 1
  | 1 => 0
  | 2 => 0
  | 3 => 0
  | 4 => 0
  | 5 => 0
  | 6 => 0
  | 7 => 0
  | 8 => 0
  | 9 => 1
  | 10 => 0
  | 11 => 0
  | 12 => 1
  | 13 => 0
  | 14 => 0
  | 15 => 0
  | 16 => 0
  | _ => 0
def fnQ : Nat → AV
  | 0 => .fn (.func 72) [] []
  | 1 => .fn (.func 145) [] [.rp 67 (.fn (.func 74) [] [])]
  | 2 => .fn (.func 145) [] [.rp 67 (.fn (.func 75) [] [])]
  | 3 => .fn (.func 145) [] [.rp 67 (.fn (.func 76) [] [])]
  | 4 => .fn (.func 145) [] [.rp 67 (.fn (.func 77) [] [])]
  | 5 => .fn (.func 145) [] [.rp 67 (.fn (.func 154) [] [.rp 3 (.v (.int .i64 1))])]
  | 6 => .fn (.func 145) [] [.rp 67 (.fn (.func 154) [] [.rp 3 (.v (.int .i64 2))])]
  | 7 => .fn (.func 145) [] [.rp 67 (.fn (.func 154) [] [.rp 3 (.v (.int .i64 4))])]
  | 8 => .fn (.func 145) [] [.rp 67 (.fn (.func 154) [] [.rp 3 (.v (.int .i64 8))])]
  | 9 => .fn (.func 79) [] []
  | 10 => .fn (.func 145) [] [.rp 67 (.fn (.func 80) [] [])]
  | 11 => .fn (.func 145) [] [.rp 67 (.fn (.func 81) [] [])]
  | 12 => .fn (.func 82) [] []
  | 13 => .fn (.func 145) [] [.rp 67 (.fn (.func 83) [] [])]
  | 14 => .fn (.func 145) [] [.rp 67 (.fn (.func 84) [] [])]
  | 15 => .fn (.func 145) [] [.rp 67 (.fn (.func 168) [] [.rp 3 (.v (.int .i64 0))])]
  | 16 => .fn (.func 145) [] [.rp 67 (.fn (.func 168) [] [.rp 3 (.v (.int .i64 1))])]
  | _ => .fn (.func 145) [] [.rp 67 (.fn (.func 168) [] [.rp 3 (.v (.int .i64 1))])]
def cmdAV (i : Nat) : AV := .ag [.v (.string (nameQ i)), .v (.string (inputQ i)), .v (.int .i64 (dataQ i))]
def rowAV (i : Nat) : AV := .ag [.v (.string (nameQ i)), .v (.string (inputQ i)), .v (.int .i64 (dataQ i)), fnQ i]
def rowsAV : List AV := (List.range 17).map rowAV
theorem rowAV_mem (i : Nat) : (rowAV i).mem = true := by
  have h : (fnQ i).one = true := by unfold fnQ; split <;> rfl
  unfold rowAV AV.mem
  simp only [AV.cells, List.all_cons, List.all_nil, h, Bool.and_true]
  rfl
def tableAV : AV := .ag (flat rowsAV)
def lowL (b : ByteArray) : List UInt8 := b.data.toList.map Tags.lowB
def nameEq (i : Nat) (x : ByteArray) : Bool := decide (lowL (nameQ i) = lowL x)
def asciiQ (b : ByteArray) : Bool := b.data.toList.all fun c => decide (c.toNat < 128)
theorem names_asc : ∀ i, asciiQ (nameQ i) = true := fun i => by
  unfold nameQ; split <;> rfl
theorem lowB_asc (c : UInt8) (h : c.toNat < 128) : (Tags.lowB c).toNat < 128 := by
  have := Tags.lowB_toNat c
  unfold Tags.lowR at this
  split at this <;> omega
theorem lowStr_asc {b : ByteArray} (h : asciiQ b = true) : Tags.lowStr b = ⟨(lowL b).toArray⟩ := by
  have h2 : ∀ c ∈ lowL b, c.toNat < 128 := fun c hc => by
    unfold lowL at hc
    obtain ⟨d, hd, rfl⟩ := List.mem_map.1 hc
    exact lowB_asc d (of_decide_eq_true (List.all_eq_true.1 h d hd))
  have := (Tags.map_low (lowL b) b.data.toList h2).2 rfl
  unfold Tags.lowStr; rw [this]
theorem low_name (i : Nat) (x : ByteArray) : decide (Tags.lowStr (nameQ i) = Tags.lowStr x) = nameEq i x := by
  unfold nameEq
  refine decide_eq_decide.2 ?_
  have h := names_asc i
  have h2 : ∀ c ∈ lowL (nameQ i), c.toNat < 128 := fun c hc => by
    unfold lowL at hc
    obtain ⟨d, hd, rfl⟩ := List.mem_map.1 hc
    exact lowB_asc d (of_decide_eq_true (List.all_eq_true.1 h d hd))
  have hm := Tags.map_low (lowL (nameQ i)) x.data.toList h2
  rw [lowStr_asc h]
  unfold Tags.lowStr
  constructor
  · intro e
    have := congrArg (fun b : ByteArray => b.data.toList) e
    simp only [List.toList_toArray] at this
    exact ((hm.1 this.symm)).symm
  · intro e
    rw [hm.2 e.symm]
theorem nameQ_size : ∀ i, (nameQ i).size ≤ 1000000 := fun i => by
  unfold nameQ; split <;> decide
def idxQ (x : ByteArray) : Int := idxI (fun i => nameEq i x) (List.range 17)
def findAVq (x : ByteArray) : AV := .tup [.v (.int .i64 (max (idxQ x) 0)), .v (.bool (decide (0 ≤ idxQ x)))]
theorem idxI_lt {α : Type} (p : α → Bool) (l : List α) : -1 ≤ idxI p l ∧ idxI p l < (l.length : Int) := by
  unfold idxI
  cases h : l.findIdx? p with
  | none => exact ⟨Int.le_refl _, by (show (-1 : Int) < _); omega⟩
  | some i =>
    obtain ⟨hi, _⟩ := List.findIdx?_eq_some_iff_getElem.1 h
    exact ⟨by (show (-1 : Int) ≤ (i : Int)); omega, by (show (i : Int) < _); omega⟩
theorem idxQ_lt (x : ByteArray) : -1 ≤ idxQ x ∧ idxQ x < 17 := by have := idxI_lt (fun i => nameEq i x) (List.range 17); simpa [idxQ] using this
theorem table_at (k : Nat) (h : k < 17) : subAV true 4 tableAV (k * 4) = some (rowAV k) := by
  match k, h with
  | 0, _ => rfl
  | 1, _ => rfl
  | 2, _ => rfl
  | 3, _ => rfl
  | 4, _ => rfl
  | 5, _ => rfl
  | 6, _ => rfl
  | 7, _ => rfl
  | 8, _ => rfl
  | 9, _ => rfl
  | 10, _ => rfl
  | 11, _ => rfl
  | 12, _ => rfl
  | 13, _ => rfl
  | 14, _ => rfl
  | 15, _ => rfl
  | 16, _ => rfl
  | n + 17, h => exact absurd h (by omega)
theorem findAVq_is {x : ByteArray} {k : Nat} (h : idxQ x = (k : Int)) : findAVq x = .tup [.v (.int .i64 (k : Int)), .v (.bool true)] := by
  unfold findAVq
  rw [h, decide_eq_true (show (0 : Int) ≤ (k : Int) by omega), show max (k : Int) 0 = (k : Int) by omega]
theorem findAVq_no {x : ByteArray} (h : idxQ x = -1) : findAVq x = .tup [.v (.int .i64 0), .v (.bool false)] := by
  unfold findAVq
  rw [h]; rfl
/-- The state of the chapter's examples. -/
def s1 : St := ⟨[⟨0, [], 0, [⟨97, 0, eS⟩, ⟨98, 1, eS⟩]⟩], p0, ⟨0, 2⟩, 0, 0⟩
theorem s1_SS : SS s1 := by
  refine ⟨⟨by decide, fun l hl => ?_⟩, ⟨by decide, by decide⟩, ⟨by decide, by decide⟩⟩
  have e : l = ⟨0, [], 0, [⟨97, 0, eS⟩, ⟨98, 1, eS⟩]⟩ := by simpa [s1] using hl
  subst e
  refine ⟨by decide, by decide, fun c hc => ?_⟩
  have : c = ⟨97, 0, eS⟩ ∨ c = ⟨98, 1, eS⟩ := by simpa using hc
  rcases this with rfl | rfl <;> decide
/-- What formatBlock is asked for. -/
def innerB (x : ByteArray) : ByteArray := if ((1 : Int) < (x.size : Int) ∧ ((bAt x 0).toNat : Int) = 60) ∧ ((bAt x (x.size - 1)).toNat : Int) = 62 then x.extract 1 (x.size - 1) else x
theorem innerB_size (x : ByteArray) : (innerB x).size ≤ x.size := by
  unfold innerB; split
  · rw [ByteArray.size_extract]; omega
  · exact Nat.le_refl _
theorem innerB_not {x : ByteArray} (h : (¬ (1 : Int) < (x.size : Int) ∨ ¬ ((bAt x 0).toNat : Int) = 60) ∨ ¬ ((bAt x (x.size - 1)).toNat : Int) = 62) : innerB x = x := if_neg (fun h' => by rcases h with (h | h) | h; exact h h'.1.1; exact h h'.1.2; exact h h'.2)
def tagOf (x : ByteArray) : Int := (((Tags.refFind x).getD 0 : Nat) : Int)
def fmtS (s : St) (y : ByteArray) : RS := if ¬ tagOf y = 2 ∧ Tags.headOf (tagOf y) = 0 then (s0, 1) else formatS s (Tags.headOf (tagOf y))
def formatsS (s : St) (x : ByteArray) : RS := fmtS s (innerB x)
theorem fmt_no {s : St} {y : ByteArray} (h : ¬ (((Tags.refFind y).getD 0 : Nat) : Int) = 2 ∧ Tags.headOf (((Tags.refFind y).getD 0 : Nat) : Int) = 0) : fmtS s y = (s0, 1) := if_pos h
theorem fmt_yes {s : St} {y : ByteArray} (h : (((Tags.refFind y).getD 0 : Nat) : Int) = 2 ∨ ¬ Tags.headOf (((Tags.refFind y).getD 0 : Nat) : Int) = 0) : fmtS s y = formatS s (Tags.headOf (((Tags.refFind y).getD 0 : Nat) : Int)) := if_neg (fun h' => by rcases h with h | h; exact h'.1 h; exact h h'.2)
end Go.Q
