/- The plain law of finding a tag (turned from chapter 02's proof). -/
import Derived.Test.YtcmijcfmldaiaaaGreatDoorTD
import Derived.Lib.MapLaws
import Derived.Lib.TrimAscii
import Derived.Lib.TrimUEq
import Derived.Lib.TrimU
import Derived.Test.YtcmijcfmldaiaaaGreatDoorALb
set_option autoImplicit false
set_option linter.unusedVariables false
namespace Go.Tags
open Go Go.AL Go.RowKit
def lowStr (s : ByteArray) : ByteArray := ⟨(Lib.mapD lowR s.data.toList).toArray⟩
theorem decode_hi (n b0 b1 b2 b3 : Nat) (h : 128 ≤ b0) : 128 ≤ (Lib.decodeN n b0 b1 b2 b3).1 := by
  unfold Lib.decodeN
  repeat' split
  all_goals first | omega | (simp only []; omega)
theorem hi_mk (x : Int) (h0 : 128 ≤ x) (h1 : x ≤ 255) : 128 ≤ (x.toNat.toUInt8).toNat := by
  have e : (x.toNat.toUInt8).toNat = x.toNat % 256 := by simp [Nat.toUInt8]
  rw [e]; omega
theorem encode_hi (r : Int) (h0 : 128 ≤ r) (h1 : r ≤ 1114111) : ∃ c t, Lib.encodeRune r = c :: t ∧ 128 ≤ UInt8.toNat c := by
  unfold Lib.encodeRune
  by_cases h2 : r ≤ 2047
  · rw [Lib.encodeRuneZ_two h0 h2]
    exact ⟨_, _, rfl, hi_mk _ (by omega) (by omega)⟩
  · by_cases h3 : 55296 ≤ r ∧ r ≤ 57343
    · rw [Lib.encodeRuneZ_bad (.inr (.inl h3))]
      exact ⟨_, _, rfl, hi_mk _ (by omega) (by omega)⟩
    · by_cases h4 : r ≤ 65535
      · rw [Lib.encodeRuneZ_three (by omega)]
        exact ⟨_, _, rfl, hi_mk _ (by omega) (by omega)⟩
      · rw [Lib.encodeRuneZ_four (by omega) (by omega)]
        exact ⟨_, _, rfl, hi_mk _ (by omega) (by omega)⟩
def lowB (b : UInt8) : UInt8 := if 65 ≤ b.toNat ∧ b.toNat ≤ 90 then b + 32 else b
theorem lowB_toNat (b : UInt8) : ((lowB b).toNat : Int) = lowR (b.toNat : Int) := by
  unfold lowB lowR
  by_cases h : 65 ≤ b.toNat ∧ b.toNat ≤ 90
  · rw [if_pos h, if_pos (by omega), UInt8.toNat_add]
    have : (32 : UInt8).toNat = 32 := rfl
    rw [this]; omega
  · rw [if_neg h, if_neg (by omega)]
theorem map_low : ∀ (n l : List UInt8), (∀ c ∈ n, c.toNat < 128) → (Lib.mapD lowR l = n ↔ l.map lowB = n) := by
  intro n
  induction n with
  | nil =>
    intro l _
    cases l with
    | nil => simp [Lib.mapD_nil]
    | cons b t =>
      constructor
      · intro h
        exfalso
        rw [Lib.mapD_step lowR (b :: t) (by simp)] at h
        have hr := Lib.decodeL_rune (b :: t)
        have h1 : 0 ≤ lowR ((Lib.decodeL (b :: t)).1 : Int) := by unfold lowR; split <;> omega
        rw [if_pos h1] at h
        have := congrArg List.length h
        have hl := Lib.encodeRuneZ_length (lowR ((Lib.decodeL (b :: t)).1 : Int))
        simp only [Lib.encodeRune, List.length_append, List.length_map, List.length_nil] at this
        omega
      · intro h; simp at h
  | cons c n ih =>
    intro l hc
    have hc0 := hc c (by simp)
    have hcn : ∀ d ∈ n, d.toNat < 128 := fun d hd => hc d (by simp [hd])
    cases l with
    | nil => simp [Lib.mapD_nil]
    | cons b t =>
      rw [Lib.mapD_step lowR (b :: t) (by simp)]
      by_cases hb : b.toNat < 128
      · rw [Lib.decodeL_ascii b t hb]
        have h1 : 0 ≤ lowR (b.toNat : Int) := by unfold lowR; split <;> omega
        have h2 : lowR (b.toNat : Int) ≤ 127 := by unfold lowR; split <;> omega
        simp only [h1, if_true]
        have e : Lib.encodeRune (lowR (b.toNat : Int)) = [lowB b] := by
          unfold Lib.encodeRune
          rw [Lib.encodeRuneZ_one h1 h2]
          simp only [List.map_cons, List.map_nil]
          congr 1
          apply UInt8.toNat_inj.1
          have := lowB_toNat b
          have e2 : ((lowR (b.toNat : Int)).toNat.toUInt8).toNat = (lowR (b.toNat : Int)).toNat % 256 := by simp [Nat.toUInt8]
          rw [e2]; omega
        rw [e]
        simp only [List.singleton_append, List.map_cons, List.drop_succ_cons, List.drop_zero, List.cons.injEq]
        rw [ih t hcn]
      · have hr := Lib.decodeL_rune (b :: t)
        have hd : 128 ≤ (Lib.decodeL (b :: t)).1 := by
          rw [Lib.decodeL_N]
          exact decode_hi _ _ _ _ _ (by simp; omega)
        have e1 : lowR ((Lib.decodeL (b :: t)).1 : Int) = ((Lib.decodeL (b :: t)).1 : Int) := by unfold lowR; rw [if_neg (by omega)]
        rw [e1, if_pos (by omega)]
        obtain ⟨d, u, e2, h3⟩ := encode_hi ((Lib.decodeL (b :: t)).1 : Int) (by omega) (by omega)
        rw [e2]
        simp only [List.cons_append, List.map_cons, List.cons.injEq]
        constructor
        · intro ⟨h, _⟩; exfalso; rw [h] at h3; omega
        · intro ⟨h, _⟩; exfalso
          have := lowB_toNat b
          rw [h] at this
          unfold lowR at this
          split at this <;> omega
theorem same_iff (x n : ByteArray) : SameP x n ↔ x.data.toList.map lowB = n.data.toList := by
  constructor
  · intro ⟨h1, h2⟩
    apply List.ext_getElem
    · simp only [List.length_map, Array.length_toList]; exact h1
    · intro i hi hi'
      have hix : i < x.size := by simpa using hi
      have := h2 i hix
      rw [← lowB_toNat] at this
      have e : lowB (bAt x i) = bAt n i := by apply UInt8.toNat_inj.1; omega
      rw [List.getElem_map]
      unfold bAt at e
      rw [List.getD_eq_getElem?_getD, List.getD_eq_getElem?_getD, List.getElem?_eq_getElem (by simpa using hi), List.getElem?_eq_getElem hi'] at e
      exact e
  · intro h
    have hl := congrArg List.length h
    simp only [List.length_map, Array.length_toList] at hl
    refine ⟨hl, fun i hi => ?_⟩
    have e := congrArg (fun l => l.getD i 0) h
    simp only [List.getD_eq_getElem?_getD, List.getElem?_map] at e
    rw [← lowB_toNat]
    unfold bAt
    rw [List.getD_eq_getElem?_getD, List.getD_eq_getElem?_getD, ← e]
    have hi' : i < x.data.toList.length := by simpa using hi
    rw [List.getElem?_eq_getElem hi']; rfl
theorem low_iff (x n : ByteArray) (hn : ∀ c ∈ n.data.toList, c.toNat < 128) : (n = lowStr x) ↔ sameB x n = true := by
  have e : sameB x n = true ↔ SameP x n := decide_eq_true_iff
  rw [e, same_iff, ← map_low _ _ hn]
  unfold lowStr
  constructor
  · intro h; rw [h]
  · intro h; rw [h]
theorem find_flat {α : Type} (f : Nat → List ByteArray) (g : Nat → α) (q : ByteArray → Bool) : ∀ ks : List Nat,
    ((ks.flatMap fun k => (f k).map fun n => (n, g k)).find? fun p => q p.1).map (·.2) = (ks.find? fun k => (f k).any q).map g := by
  intro ks
  induction ks with
  | nil => rfl
  | cons k ks ih =>
    rw [List.flatMap_cons, List.find?_append, List.find?_cons, List.find?_map]
    have hq : ((fun p : ByteArray × α => q p.1) ∘ fun n => (n, g k)) = q := rfl
    rw [hq]
    cases h : (f k).any q with
    | true =>
      rw [List.any_eq_true] at h
      obtain ⟨n, hn, hqn⟩ := h
      cases hf : (f k).find? q with
      | none => rw [List.find?_eq_none] at hf; exact absurd hqn (hf n hn)
      | some m => rfl
    | false =>
      rw [List.any_eq_false] at h
      have hf : (f k).find? q = none := by rw [List.find?_eq_none]; intro n hn; exact h n hn
      rw [hf]
      simpa using ih
theorem namesMap_eq : namesMap = (List.range' 1 16).flatMap fun k : Nat => (nm (k : Int)).map fun n => (n, Value.int .i64 (k : Int)) := by kernel_rfl
theorem names_ascii : ∀ p ∈ namesMap, ∀ c ∈ p.1.data.toList, c.toNat < 128 := by
  have h : (namesMap.all fun p => p.1.data.toList.all fun c => decide (c.toNat < 128)) = true := by kernel_rfl
  intro p hp c hc
  have := List.all_eq_true.1 h p hp
  have := List.all_eq_true.1 this c hc
  exact of_decide_eq_true this
theorem find_congr {α : Type} {p q : α → Bool} : ∀ (l : List α), (∀ x ∈ l, p x = q x) → l.find? p = l.find? q
  | [], _ => rfl
  | x :: l, h => by rw [List.find?_cons, List.find?_cons, h x (by simp), find_congr l (fun y hy => h y (by simp [hy]))]
theorem mapGet_names (x : ByteArray) : mapGet namesMap (lowStr x) = (refFind x).map fun k : Nat => Value.int .i64 (k : Int) := by
  unfold mapGet refFind
  rw [find_congr namesMap (q := fun p => sameB x p.1) (fun p hp => by
    have := low_iff x p.1 (names_ascii p hp)
    by_cases h : p.1 = lowStr x
    · rw [decide_eq_true h, this.1 h]
    · rw [decide_eq_false h]
      cases hs : sameB x p.1 with
      | false => rfl
      | true => exact absurd (this.2 hs) h)]
  rw [namesMap_eq]
  exact find_flat (fun k : Nat => nm (k : Int)) (fun k : Nat => Value.int .i64 (k : Int)) (sameB x) _
theorem find_law (x : ByteArray) : AV.tup [.v ((mapGet namesMap (lowStr x)).getD (.int .i64 0)), .v (.bool (mapGet namesMap (lowStr x)).isSome)] = findAV (refFind x) := by
  rw [mapGet_names]
  cases refFind x <;> rfl
theorem lowR_range (x : Nat) (hx : x ≤ 1114111) : -2147483648 ≤ lowR x ∧ lowR x ≤ 2147483647 := by
  unfold lowR; split <;> omega
end Go.Tags

/- Names with letters made great: the plain law. -/
set_option autoImplicit false
set_option linter.unusedVariables false
namespace Go.Tags
open Go Go.AL Go.RowKit

def upB (b : UInt8) (c : Bool) : UInt8 := if (97 ≤ b.toNat ∧ b.toNat ≤ 122) ∧ c = true then b - 32 else b
def greatL (s : ByteArray) (q : Nat → Bool) : Nat → List UInt8
  | 0 => []
  | i + 1 => greatL s q i ++ [upB (bAt s i) (q i)]
def greatS (s : ByteArray) (q : Nat → Bool) : ByteArray := ⟨(greatL s q s.size).toArray⟩
def bt (m : Int) (i : Nat) : Bool := decide (intB .and .u32 (m.fdiv (2 ^ min ((i : Int).tmod 32).toNat IntKind.u32.bits)) 1 = 1)
theorem greatL_len (s : ByteArray) (q : Nat → Bool) : ∀ i, (greatL s q i).length = i
  | 0 => rfl
  | i + 1 => by rw [greatL, List.length_append, greatL_len s q i]; rfl
theorem greatS_size (s : ByteArray) (q : Nat → Bool) : (greatS s q).size = s.size := by
  show (greatL s q s.size).toArray.size = _
  rw [List.size_toArray, greatL_len]
theorem greatL_get (s : ByteArray) (q : Nat → Bool) : ∀ n i, i < n → (greatL s q n).getD i 0 = upB (bAt s i) (q i)
  | n + 1, i, h => by
    rw [greatL, List.getD_eq_getElem?_getD]
    rcases Nat.lt_or_ge i n with h' | h'
    · rw [List.getElem?_append_left (by rw [greatL_len]; exact h'), ← List.getD_eq_getElem?_getD, greatL_get s q n i h']
    · obtain rfl : i = n := by omega
      rw [List.getElem?_append_right (by rw [greatL_len]; exact Nat.le_refl _), greatL_len, Nat.sub_self]; rfl
theorem upB_low (b : UInt8) (c : Bool) : lowR ((upB b c).toNat : Int) = lowR (b.toNat : Int) := by
  unfold upB
  split
  · rename_i h
    have e : (b - 32).toNat = b.toNat - 32 := UInt8.toNat_sub_of_le _ _ (by show 32 ≤ b.toNat; omega)
    rw [e]
    unfold lowR
    rw [if_pos (by omega), if_neg (by omega)]
    omega
  · rfl
theorem upB_up {b : UInt8} {c : Bool} (h : (97 ≤ (b.toNat : Int) ∧ (b.toNat : Int) ≤ 122) ∧ c = true) : ((upB b c).toNat : Int) = (b.toNat : Int) - 32 := by
  unfold upB
  rw [if_pos ⟨by omega, h.2⟩]
  have e : (b - 32).toNat = b.toNat - 32 := UInt8.toNat_sub_of_le _ _ (by show 32 ≤ b.toNat; omega)
  rw [e]; omega
theorem upB_no {b : UInt8} {c : Bool} (h : (¬ 97 ≤ (b.toNat : Int) ∨ ¬ (b.toNat : Int) ≤ 122) ∨ c = false) : upB b c = b := by
  unfold upB
  rw [if_neg]
  intro ⟨h1, h2⟩
  rcases h with h | h
  · omega
  · rw [h] at h2; cases h2
theorem greatL_next {s : ByteArray} {q : Nat → Bool} {i : Nat} : (greatL s q i).map byteAV ++ [.v (.int .u8 ((upB (bAt s i) (q i)).toNat : Int))] = (greatL s q (i + 1)).map byteAV := by
  rw [greatL, List.map_append]; rfl
end Go.Tags
