/- Tables that lie; values that are plain; bytes into strings; one accumulator. -/
import Derived.Test.YtcnjcjhdcloniaaDoorAL13
import Derived.Laws.BytesArg
set_option autoImplicit false
set_option linter.unusedVariables false
set_option linter.unusedSimpArgs false
namespace Go.AL
open Go Go.RowKit

section
variable {P : Program} {ro : Option Nat} {ds : List Deferred} {T : List AV} {H : AH} {Q : Post} {ops : Array Oper} {rest : List Oper}
variable {d : Option Tmp} {ty : TypeId} {pos : String} {af : Array Edge} {s s' : Operand} {x y : AV}

/-- The blocks bs lie, and of them φ holds. -/
def Holds (bs : List Nat) (φ : World → Prop) (H : AH) : Prop :=
  ∃ os : Nat → Obj, (∀ b, b ∈ bs → H b = some (.raw (os b))) ∧ ∀ w : World, (∀ b, b ∈ bs → w.heap[b]? = some (os b)) → φ w
theorem Holds.upd {bs : List Nat} {φ : World → Prop} {b : Nat} {o : Option AO} (h : Holds bs φ H) (hb : H b = none) : Holds bs φ (H.upd b o) :=
  let ⟨os, h1, h2⟩ := h; ⟨os, fun k hk => by rw [AH.upd_ne _ _ (fun e => by have := h1 k hk; rw [e, hb] at this; cases this)]; exact h1 k hk, h2⟩
theorem Holds.sub {bs : List Nat} {φ : World → Prop} {H' : AH} (h : Holds bs φ H) (hs : SubH H H') : Holds bs φ H' :=
  let ⟨os, h1, h2⟩ := h; ⟨os, fun k hk => hs _ _ (h1 k hk), h2⟩
theorem Holds.here {bs : List Nat} {φ : World → Prop} {w : World} (h : Holds bs φ H) (hh : HR P H w) : φ w :=
  let ⟨os, h1, h2⟩ := h; h2 w fun b hb => hh b _ (h1 b hb)

/-- The heap that owns just these blocks of w. -/
def tabH (bs : List Nat) (w : World) : AH := fun b => if b ∈ bs then (w.heap[b]?).map .raw else none
theorem tabH_HR (bs : List Nat) (w : World) : HR P (tabH bs w) w := fun b o hb => by
  unfold tabH at hb
  split at hb
  · obtain ⟨q, hq, rfl⟩ := Option.map_eq_some_iff.1 hb; exact hq
  · cases hb
theorem tabH_holds {bs : List Nat} {φ : World → Prop} {w : World} (hl : ∀ b, b ∈ bs → b < w.heap.size) (h : ∀ w' : World, (∀ b, b ∈ bs → w'.heap[b]? = w.heap[b]?) → φ w') : Holds bs φ (tabH bs w) := by
  refine ⟨fun b => (w.heap[b]?).getD default, fun b hb => ?_, fun w' hw => h w' fun b hb => ?_⟩
  · unfold tabH
    rw [if_pos hb]
    cases hx : w.heap[b]? with
    | none => have := hl b hb; rw [Array.getElem?_eq_none_iff] at hx; omega
    | some o => simp [hx]
  · rw [hw b hb]
    cases hx : w.heap[b]? with
    | none => have := hl b hb; rw [Array.getElem?_eq_none_iff] at hx; omega
    | some o => simp [hx]

/-- OUT OF THE LOGIC. -/
theorem AC.calls {f : FuncId} {args : List AV} {vs : Array Value} {w : World} {r : Value} (bs : List Nat) (hl : args.length = vs.size) (hv : ∀ (k : Nat) (x : AV) (u : Value), args[k]? = some x → vs[k]? = some u → VR P w (tabH bs w) x u)
    (h : AC P f args (tabH bs w) fun x H' => x = .v r ∧ H' = tabH bs w) : Calls P f vs w fun e w' => e = .returned r ∧ Below w.heap.size w w' := by
  have h1 := h w vs hl hv (tabH_HR bs w)
  rw [fen_none, callsIn_wide] at h1
  refine h1.mono ?_
  rintro e w' ⟨v, x, H', rfl, hx, hh, hst, rfl, rfl⟩
  cases hx
  refine ⟨rfl, hst.os, hst.tape, hst.output, hst.size, fun k hk => ?_⟩
  by_cases hb : k ∈ bs
  · have e1 : tabH bs w k = (w.heap[k]?).map .raw := by unfold tabH; rw [if_pos hb]
    cases hx : w.heap[k]? with
    | none => rw [Array.getElem?_eq_none_iff] at hx; omega
    | some o => rw [hx] at e1; exact hh k _ e1
  · exact (hst.keep k hk (by unfold tabH; rw [if_neg hb])).1

/-- Values that are told whole. -/
def concV : AV → Option Value
  | .v x => some x
  | .fn f [] [] => some (.func f #[] #[])
  | _ => none
theorem VR.conc {w : World} {u u0 : Value} (h : VR P w H x u) (hc : concV x = some u0) : u = u0 := by
  unfold concV at hc
  split at hc
  · injection hc with hc; subst hc; exact h.v_inv
  · injection hc with hc; subst hc
    obtain ⟨vf, vc, rfl, h1, h2, _, _⟩ := h.fn_inv
    have e1 : vf = #[] := by simpa using h1.symm
    have e2 : vc = #[] := by simpa using h2.symm
    rw [e1, e2]
  · cases hc
theorem VR.concs {w : World} {args : List AV} {vs vs0 : Array Value} (hl : args.length = vs.size) (hv : ∀ (k : Nat) (x : AV) (u : Value), args[k]? = some x → vs[k]? = some u → VR P w H x u)
    (hc : args.map concV = vs0.toList.map some) : vs = vs0 := by
  have hlen : vs.size = vs0.size := by
    have := congrArg List.length hc
    simp at this; omega
  apply Array.ext_getElem?
  intro k
  by_cases hk : k < vs.size
  · have e1 : args[k]? = some (args[k]'(by omega)) := List.getElem?_eq_getElem (by omega)
    have e2 : vs[k]? = some vs[k] := Array.getElem?_eq_getElem hk
    have hcv : (args.map concV)[k]? = (vs0.toList.map some)[k]? := by rw [hc]
    rw [List.getElem?_map, e1, List.getElem?_map] at hcv
    have e3 : vs0[k]? = some (vs0[k]'(by omega)) := Array.getElem?_eq_getElem (by omega)
    rw [Array.getElem?_toList, e3] at hcv
    simp only [Option.map_some, Option.some.injEq] at hcv
    rw [e2, e3, (hv k _ _ e1 e2).conc hcv]
  · rw [Array.getElem?_eq_none (by omega), Array.getElem?_eq_none (by omega)]

/-- A contract of the library's whose arguments are told whole. -/
theorem PI.contract {I : AH → Prop} {f : FuncId} {args : List AV} {r : Value} (vs0 : Array Value) (hc : args.map concV = vs0.toList.map some)
    (h : ∀ H w, I H → HR P H w → Calls P f vs0 w fun e w' => e = .returned r ∧ Below w.heap.size w w') : PI I P f args (.v r) :=
  PI.below (fun H w vs hl hv => VR.concs hl hv hc) h
theorem PF.contract {f : FuncId} {args : List AV} {r : Value} (vs0 : Array Value) (hc : args.map concV = vs0.toList.map some)
    (h : ∀ w, Calls P f vs0 w fun e w' => e = .returned r ∧ Below w.heap.size w w') : PF P f args (.v r) := fun H K hK =>
  AC_calls (fun w vs hl hv => VR.concs hl hv hc) (fun w _ => h w) hK
/-- A pure function, seen from outside. -/
theorem PF.calls {f : FuncId} {args : List AV} {r : Value} {vs0 : Array Value} (hc : args.map concV = vs0.toList.map some) (h : PF P f args (.v r)) (w : World) : Calls P f vs0 w fun e w' => e = .returned r ∧ Below w.heap.size w w' := by
  have hlen : args.length = vs0.size := by have := congrArg List.length hc; simpa using this
  refine AC.calls [] hlen (fun k x u hx hu => ?_) (h _ _ ⟨rfl, rfl⟩)
  have hcv : (args.map concV)[k]? = (vs0.toList.map some)[k]? := by rw [hc]
  rw [List.getElem?_map, hx, List.getElem?_map, Array.getElem?_toList, hu] at hcv
  simp only [Option.map_some, Option.some.injEq] at hcv
  unfold concV at hcv
  split at hcv
  · injection hcv with hcv; subst hcv; exact .v _
  · injection hcv with hcv; subst hcv; exact .fn rfl rfl (fun k y u h => by simp at h) (fun k y u h => by simp at h)
  · cases hcv

/-- A nil slice that is handed back reads as an empty one. -/
theorem AC_niled {e : TypeId} {f : FuncId} {args : List AV} {K : AV → AH → Prop} (h : AC P f args H fun x H' => K x H' ∨ (x = .own none 0 0 ∧ K (.sl e []) H')) : AC P f args H K := fun w vs hl hv hh => by
  refine (h w vs hl hv hh).mono ?_
  rintro e' w' ⟨v, x, H', rfl, hx, hr, hst, hk | ⟨rfl, hk⟩⟩
  · exact ⟨v, x, H', rfl, hx, hr, hst, hk⟩
  · exact ⟨v, .sl e [], H', rfl, hx.nilsl, hr, hst, hk⟩

/-! bytes into strings -/
def byteAV (b : UInt8) : AV := .v (.int .u8 b.toNat)
theorem flat_bytes (bs : List UInt8) : flat (bs.map byteAV) = bs.map byteAV := by
  induction bs with
  | nil => rfl
  | cons b bs ih => simp only [flat, List.map_cons, List.flatMap_cons] at ih ⊢; rw [ih]; rfl
theorem strOfNums_bytes (bs : List UInt8) : strOfNums (bs.map fun b => (b.toNat : Int)) = ⟨bs.toArray⟩ := by
  unfold strOfNums
  rw [List.map_map]
  have : ((fun n : Int => UInt8.ofNat n.toNat) ∘ fun b : UInt8 => (b.toNat : Int)) = id := by funext b; simp
  rw [this, List.map_id]
theorem AL_convBytes {src dst e : TypeId} {A : Option Nat} {c n : Nat} {bs : List UInt8} (hs : P.underlying src = some (.slice e)) (he : P.underlying e = some (.int .u8)) (hd : P.underlying dst = some .string) (hz : szOf P e = some 1)
    (hx : ev T s = some (.own A c n)) (hown : Own H A e c (bs.map byteAV)) (hn : n = bs.length)
    (h : AL P ro ops rest ds (tput T d (.v (.string ⟨bs.toArray⟩))) H Q) : AL P ro ops (⟨d, .convert src dst s, ty, pos, af, none⟩ :: rest) ds T H Q := by
  refine AL_pure ?_ rfl (fun _ h => nomatch h) h
  intro ds a w hst
  obtain ⟨hu, hA⟩ := (hst.ev hx).own_inv
  refine ⟨_, ?_, .v _⟩
  simp only [execOp, hu, Sem.run_bind]
  cases A with
  | none =>
    obtain ⟨_, hb⟩ := hown
    have hb0 : bs = [] := by simpa using hb
    subst hb0
    rw [Option.map_none, run_convert_bytes_nil w src e hs he n c dst hd]
    rfl
  | some b =>
    obtain ⟨cs, fr, h1, h2, h3, h4, h5, h6⟩ := hst.heap b _ hown
    rw [Option.map_some, run_convert_bytes_arg w src e hs he b 0 n c (bs.map fun b => (b.toNat : Int)) (by simp [hn]) (fun i hi => ?_) dst hd]
    · rw [strOfNums_bytes]; rfl
    · rw [hn] at hi
      obtain ⟨u, hu1, hu2⟩ := h6 i (byteAV bs[i]) (by rw [flat_bytes]; simp [hi])
      have hu3 : u = .int .u8 (bs[i]).toNat := hu2.v_inv
      have e1 : w.cell? ⟨b, 0 + i, none⟩ = some u := by simp only [World.cell?, h1]; simpa using hu1
      rw [e1, hu3]; simp [hi]

/-- The byte at a place. -/
def bAt (p : ByteArray) (i : Nat) : UInt8 := p.data.toList.getD i 0
theorem bAt_eq {p : ByteArray} {i : Nat} (h : i < p.size) : p[i] = bAt p i := by
  unfold bAt
  rw [List.getD_eq_getElem?_getD, Array.getElem?_toList, Array.getElem?_eq_getElem h]; rfl
theorem AL_index_strb {tx : TypeId} {p : ByteArray} {k : IntKind} {i : Int} (ht : P.underlying tx = some .string) (hx : ev T s = some (.v (.string p))) (hi : ev T s' = some (.v (.int k i))) (h0 : 0 ≤ i) (h1 : i.toNat < p.size)
    (h : AL P ro ops rest ds (tput T d (.v (.int .u8 ((bAt p i.toNat).toNat : Int)))) H Q) : AL P ro ops (⟨d, .index tx s s', ty, pos, af, none⟩ :: rest) ds T H Q :=
  AL_index_str ht hx hi h0 h1 (by rw [bAt_eq h1]; exact h)

theorem AL_index_strn {tx : TypeId} {p : ByteArray} {k : IntKind} {i : Nat} (ht : P.underlying tx = some .string) (hx : ev T s = some (.v (.string p))) (hi : ev T s' = some (.v (.int k (i : Int)))) (h0 : 0 ≤ (i : Int)) (h1 : i < p.size)
    (h : AL P ro ops rest ds (tput T d (.v (.int .u8 ((bAt p i).toNat : Int)))) H Q) : AL P ro ops (⟨d, .index tx s s', ty, pos, af, none⟩ :: rest) ds T H Q :=
  AL_index_strb ht hx hi h0 (by simpa using h1) (by simpa using h)
theorem inc64 {i : Nat} (h : i < 9223372036854775807) : IntKind.i64.wrap ((i : Int) + 1) = ((i + 1 : Nat) : Int) := by
  rw [Go.IntWalk.i64_in _ (by omega)]; rfl

/-! one accumulator -/
def Fresh (H : AH) (A : Option Nat) (c : Nat) (xs : List AV) : Prop :=
  match A with
  | none => c = 0 ∧ xs = []
  | some b => H b = none
theorem Fresh.own {A : Option Nat} {e : TypeId} {c : Nat} {xs : List AV} (h : Fresh H A c xs) : Own (H.put A e c xs) A e c xs := by
  cases A with
  | none => exact h
  | some b => exact AH.upd_same _ _ _
theorem Fresh.rem {A : Option Nat} {e : TypeId} {c : Nat} {xs : List AV} (h : Fresh H A c xs) : (H.put A e c xs).rem A = H := by
  cases A with
  | none => rfl
  | some b => exact AH.rem_upd h
theorem Fresh.subH {A : Option Nat} {e : TypeId} {c : Nat} {xs : List AV} (h : Fresh H A c xs) : SubH H (H.put A e c xs) := by
  cases A with
  | none => exact .refl _
  | some b => exact (SubH.refl _).upd h
theorem AL_append1p {ty2 : TypeId} {pos2 : String} {af2 : Array Edge} {t e : TypeId} {q : Tmp} {A : Option Nat} {c n : Nat} {xs : List AV} {z : Value} {sz bytes : Nat}
    (ht : P.underlying t = some (.slice e)) (hi : infoOf P e = some (some z, sz, bytes)) (hzs : z.cells.size = sz) (hb0 : 0 < bytes) (hszb : sz ≤ 16777216) (hs0 : 0 < sz)
    (hs : ev T s = some (.own A c n)) (hy : ev T s' = some y) (hsq : s ≠ .tmp q) (hq : Nat.blt q T.length = true) (hm : y.mem = true) (hyn : y.cells.length = sz) (hf : Fresh H A c xs) (hn : n = xs.length) (hbound : (n + 1) * bytes ≤ 140737488355328)
    (h : ∀ b c', H b = none → AL P ro ops rest ds (tput (T.set q .any) d (.own (some b) c' (n + 1))) (H.put (some b) e c' (xs ++ [y])) Q) :
    AL P ro ops (⟨some q, .buildSlice t 1 #[(0, s')], ty, pos, af, none⟩ :: ⟨d, .call ⟨.builtin .append, #[s, .tmp q], #[t, t]⟩, ty2, pos2, af2, none⟩ :: rest) ds T (H.put A e c xs) Q :=
  AL_append1 hs hy hsq (by simpa using hq) hm hf.own hn ht hi hzs hb0 hyn hbound hszb hs0 (by rw [hf.rem]; exact h)
end
end Go.AL
