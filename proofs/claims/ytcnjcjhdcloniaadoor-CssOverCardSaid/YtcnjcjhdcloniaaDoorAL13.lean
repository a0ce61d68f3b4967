/- Maps with strings for keys; contracts of the library as calls of this logic; bools; what is forgotten. -/
import Derived.Test.YtcnjcjhdcloniaaDoorAL12
import Derived.Laws.IdiomMaps
set_option autoImplicit false
set_option linter.unusedVariables false
set_option linter.unusedSimpArgs false
namespace Go.AL
open Go Go.RowKit

section
variable {P : Program} {ro : Option Nat} {ds : List Deferred} {T : List AV} {H : AH} {Q : Post} {ops : Array Oper} {rest : List Oper}
variable {d : Option Tmp} {ty : TypeId} {pos : String} {af : Array Edge} {s s' : Operand} {x y : AV}

/-! bools -/
theorem AL_beql {tx ty' : TypeId} {p q : Bool} (hx : ev T s = some (.v (.bool p))) (hy : ev T s' = some (.v (.bool q))) (ht : P.underlying tx = some .bool)
    (h : AL P ro ops rest ds (tput T d (.v (.bool (p == q)))) H Q) : AL P ro ops (⟨d, .binOp .eql tx s s' ty', ty, pos, af, none⟩ :: rest) ds T H Q :=
  AL_pure (PV_bin hx hy fun w => ⟨by unfold eqGuard; simp, by simp [binOp, run_equal_bool _ _ _ _ ht]⟩) rfl (fun _ h => nomatch h) h
theorem AL_bneq {tx ty' : TypeId} {p q : Bool} (hx : ev T s = some (.v (.bool p))) (hy : ev T s' = some (.v (.bool q))) (ht : P.underlying tx = some .bool)
    (h : AL P ro ops rest ds (tput T d (.v (.bool (p != q)))) H Q) : AL P ro ops (⟨d, .binOp .neq tx s s' ty', ty, pos, af, none⟩ :: rest) ds T H Q :=
  AL_pure (PV_bin hx hy fun w => ⟨by unfold eqGuard; simp, by simp [binOp, run_equal_bool _ _ _ _ ht, bne]⟩) rfl (fun _ h => nomatch h) h

/-! shifts and the like, of two numbers of any kinds -/
theorem AL_bin {op : BinOp} {tx ty' : TypeId} {u v r : Value} (hx : ev T s = some (.v u)) (hy : ev T s' = some (.v v)) (hr : ∀ w, (eqGuard op tx s s' u v).run P w = .ok () w ∧ (binOp op tx u v).run P w = .ok r w)
    (h : AL P ro ops rest ds (tput T d (.v r)) H Q) : AL P ro ops (⟨d, .binOp op tx s s' ty', ty, pos, af, none⟩ :: rest) ds T H Q :=
  AL_pure (PV_bin hx hy hr) rfl (fun _ h => nomatch h) h

/-! what is forgotten -/
theorem AW_sub {c : Code} {H' : AH} (hs : SubH H' H) (h : AW P ro c ds T H' Q) : AW P ro c ds T H Q :=
  fun a w hst => wpIn_mono (h a w (hst.sub hs)) fun _ _ _ p => post.back (Step.sub hs (.refl _ _)) p
theorem AL_sub' {H' : AH} (hs : SubH H' H) (h : AL P ro ops rest ds T H' Q) : AL P ro ops rest ds T H Q :=
  fun a w hst => wpListIn_mono (fun _ _ _ p => post.back (Step.sub hs (.refl _ _)) p) (fun _ => trivial) _ _ _ (h a w (hst.sub hs))

/-! maps -/
def mapE (l : List (ByteArray × Value)) : Array MapEntry := (l.zipIdx.map fun p => (⟨.string p.1.1, p.1.2, p.2⟩ : MapEntry)).toArray
def mapObj (l : List (ByteArray × Value)) : Obj := .map (mapE l) l.length
def mapGet (l : List (ByteArray × Value)) (k : ByteArray) : Option Value := (l.find? fun p => decide (p.1 = k)).map (·.2)
def mapSet : List (ByteArray × Value) → ByteArray → Value → List (ByteArray × Value)
  | [], k, v => [(k, v)]
  | p :: l, k, v => if p.1 = k then (k, v) :: l else p :: mapSet l k v

theorem run_newObj' (o : Obj) (w : World) : (newObj o).run P w = .ok w.heap.size (w.alloc o) := rfl

theorem AL_makeMap {t : TypeId} (h : ∀ b, H b = none → AL P ro ops rest ds (tput T d (.v (.map (some b)))) (H.upd b (some (.raw (mapObj [])))) Q) : AL P ro ops (⟨d, .makeMap t none, ty, pos, af, none⟩ :: rest) ds T H Q :=
  AL_op rfl (fun _ h => nomatch h) fun a w hst => by
    have hn := HR.none_new hst.heap
    refine ⟨.map (some w.heap.size), w.alloc (mapObj []), .v (.map (some w.heap.size)), _, ?_, .v _, HR.alloc hst.heap ?_, Step.alloc w _ _ hn, h _ hn⟩
    · simp [execOp, Instr.makeMap, run_newObj', mapObj, mapE]
    · exact heap_alloc_new w _

theorem beq_string (a b : ByteArray) : (a == b) = decide (a = b) := by
  by_cases h : a = b
  · subst h; simp only [decide_true]; exact (Go.MapKept.bytes_beq a a).2 rfl
  · simp only [h, decide_false]; exact Bool.eq_false_iff.2 fun e => h ((Go.MapKept.bytes_beq a b).1 e)

theorem findNow_map (k : ByteArray) : ∀ (l : List (ByteArray × Value)) (j i : Nat), Instr.findNow .string (.string k) (l.zipIdx j |>.map fun p => (⟨.string p.1.1, p.1.2, p.2⟩ : MapEntry)) i =
    some ((l.findIdx? fun p => decide (p.1 = k)).map fun n => (i + n, ((l[n]?).map (·.2)).getD undef)) := by
  intro l
  induction l with
  | nil => intro j i; rfl
  | cons p l ih =>
    intro j i
    rw [List.zipIdx_cons, List.map_cons, List.findIdx?_cons]
    simp only [Instr.findNow, Instr.sameNow, beq_string]
    by_cases hp : p.1 = k
    · simp [hp]
    · have hp' : ¬ k = p.1 := fun e => hp e.symm
      simp only [hp', hp, decide_false, ih, Bool.false_eq_true, if_false]
      congr 1
      cases (List.findIdx? (fun p => decide (p.1 = k)) l) <;> simp [Nat.add_assoc, Nat.add_comm 1]

theorem findKey_map {kt : TypeId} (ht : P.underlying kt = some .string) (k : ByteArray) (l : List (ByteArray × Value)) (w : World) :
    (Instr.findKey kt (.string k) (mapE l).toList).run P w = .ok ((l.findIdx? fun p => decide (p.1 = k)).map fun n => (n, ((l[n]?).map (·.2)).getD undef)) w := by
  have := findNow_map k l 0 0
  simp only [Nat.zero_add] at this
  simp [Instr.findKey, run_underlying ht, mapE, this]

theorem checkKey_strn {kt : TypeId} (ht : P.underlying kt = some .string) (b : Bool) (k : ByteArray) (n : Nat) (w : World) : (Instr.checkKey b (n + 1) kt (.string k)).run P w = .ok () w := by
  simp only [Instr.checkKey, Sem.run_bind, run_underlying ht, Result.andThen_ok]
  simp
theorem checkKey_str {kt : TypeId} (ht : P.underlying kt = some .string) (b : Bool) (k : ByteArray) (w : World) : (Instr.checkKey b 10000 kt (.string k)).run P w = .ok () w := checkKey_strn ht b k 9999 w

theorem mapGet_idx (l : List (ByteArray × Value)) (k : ByteArray) : mapGet l k = (l.findIdx? fun p => decide (p.1 = k)).map fun n => ((l[n]?).map (·.2)).getD undef := by
  unfold mapGet
  induction l with
  | nil => rfl
  | cons p l ih =>
    rw [List.find?_cons, List.findIdx?_cons]
    by_cases hp : p.1 = k
    · simp [hp]
    · simp only [hp, decide_false, Bool.false_eq_true, if_false]
      rw [ih]
      cases (List.findIdx? (fun p => decide (p.1 = k)) l) <;> simp

theorem AL_lookup {t kt e : TypeId} {b : Nat} {k : ByteArray} {l : List (ByteArray × Value)} {z : Value} (ht : P.underlying t = some (.map kt e)) (hk : P.underlying kt = some .string) (hz : zeroOf P e = some z)
    (hx : ev T s = some (.v (.map (some b)))) (hy : ev T s' = some (.v (.string k))) (hH : H b = some (.raw (mapObj l)))
    (h : AL P ro ops rest ds (tput T d (.tup [.v ((mapGet l k).getD z), .v (.bool (mapGet l k).isSome)])) H Q) : AL P ro ops (⟨d, .lookup t s s' true, ty, pos, af, none⟩ :: rest) ds T H Q :=
  AL_op rfl (fun _ h => nomatch h) fun a w hst => by
    have hb : w.heap[b]? = some (mapObj l) := hst.heap b _ hH
    refine ⟨.tuple #[(mapGet l k).getD z, .bool (mapGet l k).isSome], w, _, H, ?_, .tup rfl fun i y u hy hu => ?_, hst.heap, .refl _ _, h⟩
    · have e1 : (execOp a.eval (⟨d, .lookup t s s' true, ty, pos, af, none⟩ : Oper)).run P w = ((Instr.lookup t (.map (some b)) (.string k) true).run P w).andThen fun v w => .ok (.value v) w := by
        simp [execOp, hst.evv hx, hst.evv hy]
      rw [e1]
      have e2 := findKey_map (P := P) hk k l w
      rw [mapGet_idx]
      simp only [Instr.lookup, Sem.run_bind, run_underlying ht, Result.andThen_ok, Go.MapKept.run_getObj_map (show w.heap[b]? = some (.map (mapE l) l.length) from hb), checkKey_str hk, e2]
      cases hf : (List.findIdx? (fun p => decide (p.1 = k)) l) <;> simp [e2, hf, run_zeroValue' hz]
    · match i with
      | 0 => simp at hy hu; subst hy; subst hu; exact .v _
      | 1 => simp at hy hu; subst hy; subst hu; exact .v _
      | i + 2 => simp at hy

theorem mapE_size (l : List (ByteArray × Value)) : (mapE l).size = l.length := by simp [mapE]
theorem mapE_push (l : List (ByteArray × Value)) (k : ByteArray) (v : Value) : (mapE l).push ⟨.string k, v, l.length⟩ = mapE (l ++ [(k, v)]) := by
  simp [mapE, List.zipIdx_append]
theorem mapSet_none : ∀ (l : List (ByteArray × Value)) (k : ByteArray) (v : Value), (l.findIdx? fun p => decide (p.1 = k)) = none → mapSet l k v = l ++ [(k, v)]
  | [], k, v, _ => rfl
  | p :: l, k, v, h => by
    rw [List.findIdx?_cons] at h
    by_cases hp : p.1 = k
    · simp [hp] at h
    · simp [hp] at h
      rw [mapSet, if_neg hp, mapSet_none l k v (by simpa using h)]; rfl
theorem mapSet_some : ∀ (l : List (ByteArray × Value)) (k : ByteArray) (v : Value) (i : Nat), (l.findIdx? fun p => decide (p.1 = k)) = some i → mapSet l k v = l.set i (k, v) ∧ (l[i]?).map (·.1) = some k
  | [], k, v, i, h => by simp at h
  | p :: l, k, v, i, h => by
    rw [List.findIdx?_cons] at h
    by_cases hp : p.1 = k
    · simp [hp] at h; subst h; simp [mapSet, hp]
    · simp only [hp, decide_false, Bool.false_eq_true, if_false, Option.map_eq_some_iff] at h
      obtain ⟨j, hj, rfl⟩ := h
      obtain ⟨h1, h2⟩ := mapSet_some l k v j hj
      rw [mapSet, if_neg hp, h1]
      exact ⟨rfl, by simpa using h2⟩

theorem mapE_get (l : List (ByteArray × Value)) (i : Nat) : (mapE l)[i]? = (l[i]?).map fun p => (⟨.string p.1, p.2, i⟩ : MapEntry) := by
  simp only [mapE, List.getElem?_toArray, List.getElem?_map, List.getElem?_zipIdx, Nat.zero_add]
  cases l[i]? <;> rfl
theorem mapE_set (l : List (ByteArray × Value)) (k : ByteArray) (v : Value) (i : Nat) (hi : i < l.length) :
    (mapE l).modify i (fun e => { e with key := .string k, val := v }) = mapE (l.set i (k, v)) := by
  apply Array.ext_getElem?
  intro j
  rw [Array.getElem?_modify, mapE_get, mapE_get, List.getElem?_set]
  by_cases hj : i = j
  · subst hj
    simp [hi]
  · simp only [hj, if_false]
    try cases l[j]? <;> rfl

theorem sameBits_str (n : Nat) (k : ByteArray) : Instr.sameBits n (.string k) (.string k) = true := by
  cases n <;> simp [Instr.sameBits, beq_string]
theorem run_keyThatStays (k : ByteArray) (w : World) : (Instr.keyThatStays (.string k) (.string k)).run P w = .ok (.string k) w := by
  simp only [Instr.keyThatStays, sameBits_str, if_true]; rfl

theorem AL_mapUpdate {t kt e : TypeId} {b : Nat} {k : ByteArray} {v : Value} {s'' : Operand} {l : List (ByteArray × Value)} (ht : P.underlying t = some (.map kt e)) (hk : P.underlying kt = some .string)
    (hx : ev T s = some (.v (.map (some b)))) (hy : ev T s' = some (.v (.string k))) (hv : ev T s'' = some (.v v)) (hH : H b = some (.raw (mapObj l)))
    (h : AL P ro ops rest ds (tput T d (.v undef)) (H.upd b (some (.raw (mapObj (mapSet l k v))))) Q) : AL P ro ops (⟨d, .mapUpdate t s s' s'', ty, pos, af, none⟩ :: rest) ds T H Q :=
  AL_opu rfl (fun _ h => nomatch h) fun a w hst => by
    have hb : w.heap[b]? = some (mapObj l) := hst.heap b _ hH
    have hlt : b < w.heap.size := (Array.getElem?_eq_some_iff.1 hb).1
    let w' : World := { w with heap := w.heap.setIfInBounds b (mapObj (mapSet l k v)) }
    have hb' : w'.heap[b]? = some (mapObj (mapSet l k v)) := by show (w.heap.setIfInBounds b (mapObj (mapSet l k v)))[b]? = _; rw [Array.getElem?_setIfInBounds, if_pos rfl, if_pos hlt]
    have hbut : But b w w' := ⟨rfl, rfl, rfl, by show _ ≤ (w.heap.setIfInBounds b (mapObj (mapSet l k v))).size; simp, fun j hj hne => by show (w.heap.setIfInBounds b (mapObj (mapSet l k v)))[j]? = _; rw [Array.getElem?_setIfInBounds, if_neg (Ne.symm hne)]⟩
    have hstep : Step H w (H.upd b (some (.raw (mapObj (mapSet l k v))))) w' := Step.of_but hbut (by rw [hH]; simp) fun j hj hn => by
      rw [AH.upd_ne _ _ (fun e => by rw [e, hH] at hn; cases hn)]; exact hn
    refine ⟨w', _, ?_, HR.of_but hst.heap hbut hstep (fun j o hj ho => by rwa [AH.upd_ne _ _ hj] at ho) (fun o ho => ?_), hstep, h⟩
    · have e2 := findKey_map (P := P) hk k l w
      have e3 : (execOp a.eval (⟨d, .mapUpdate t s s' s'', ty, pos, af, none⟩ : Oper)).run P w = ((Instr.mapUpdate t (.map (some b)) (.string k) v).run P w).andThen fun _ w => .ok .skip w := by
        simp [execOp, hst.evv hx, hst.evv hy, hst.evv hv]
      rw [e3]
      have e4 : ∀ o : Obj, (setObj b o).run P w = .ok () { w with heap := w.heap.setIfInBounds b o } := fun o => Go.MapKept.run_setObj_map o (show w.heap[b]? = some (.map (mapE l) l.length) from hb)
      simp only [Instr.mapUpdate, Sem.run_bind, run_underlying ht, Result.andThen_ok, Go.MapKept.run_getObj_map (show w.heap[b]? = some (.map (mapE l) l.length) from hb), checkKey_str hk, e2]
      cases hf : (List.findIdx? (fun p => decide (p.1 = k)) l) with
      | none =>
        simp only [Option.map_none, e4, Result.andThen_ok]
        rw [mapE_push]
        have e5 : mapObj (mapSet l k v) = .map (mapE (l ++ [(k, v)])) (l.length + 1) := by simp [mapObj, mapSet_none l k v hf]
        show Result.ok _ _ = Result.ok _ w'
        simp only [w', e5]
      | some i =>
        obtain ⟨h1, h2⟩ := mapSet_some l k v i hf
        have hi : i < l.length := by
          cases hl : l[i]? with
          | none => rw [hl] at h2; simp at h2
          | some p => exact (List.getElem?_eq_some_iff.1 hl).1
        have hke : ((((mapE l)[i]?).map (·.key)).getD (.string k)) = .string k := by
          rw [mapE_get]
          cases hl : l[i]? with
          | none => simp
          | some p => rw [hl] at h2; simp at h2; simp [h2]
        simp only [Option.map_some, Sem.run_bind, hke, run_keyThatStays, Result.andThen_ok, e4]
        rw [mapE_set l k v i hi]
        have e5 : mapObj (mapSet l k v) = .map (mapE (l.set i (k, v))) l.length := by simp [mapObj, h1]
        show Result.ok _ _ = Result.ok _ w'
        simp only [w', e5]
    · rw [AH.upd_same] at ho; injection ho with ho; subst ho; exact hb'

/-! contracts of the library's -/
theorem Step.ofBelow {w w' : World} (H : AH) (h : Below w.heap.size w w') : Step H w H w' := ⟨h.os, h.tape, h.output, h.size, fun b hb hn => ⟨h.block b hb, hn⟩⟩
theorem HR.ofBelow {w w' : World} (hh : HR P H w) (h : Below w.heap.size w w') : HR P H w' := fun b o hb => (hh b o hb).keep (Step.ofBelow H h) (h.block b (hh b o hb).lt)

/-- A contract whose answer is a plain value. -/
theorem AC_calls {f : FuncId} {args : List AV} {vs0 : Array Value} {r : Value} {K : AV → AH → Prop} (hv : ∀ w (vs : Array Value), args.length = vs.size → (∀ (k : Nat) (x : AV) (u : Value), args[k]? = some x → vs[k]? = some u → VR P w H x u) → vs = vs0)
    (hc : ∀ w, HR P H w → Calls P f vs0 w fun e w' => e = .returned r ∧ Below w.heap.size w w') (k : K (.v r) H) : AC P f args H K := fun w vs hl hvs hh => by
  rw [hv w vs hl hvs]
  rw [fen_none, callsIn_wide]
  refine (hc w hh).mono ?_
  rintro e w' ⟨rfl, hb⟩
  exact ⟨r, .v r, H, rfl, .v _, hh.ofBelow hb, Step.ofBelow H hb, k⟩

/-- Pure functions under a condition on what is ours. -/
def PI (I : AH → Prop) (P : Program) (f : FuncId) (args : List AV) (r : AV) : Prop := ∀ H (K : AV → AH → Prop), I H → K r H → AC P f args H K
theorem PF.pi {I : AH → Prop} {f : FuncId} {args : List AV} {r : AV} (h : PF P f args r) : PI I P f args r := fun H K _ hK => h H K hK
theorem AL_callpi {I : AH → Prop} {f : FuncId} {args : Array Operand} {ats : Array TypeId} {xs : List AV} {r : AV} (hf : entersOf P f = true) (hx : EvL T args.toList xs) (hI : I H) (hc : PI I P f xs r)
    (h : AL P ro ops rest ds (tput T d r) H Q) : AL P ro ops (⟨d, .call ⟨.value (.func f), args, ats⟩, ty, pos, af, none⟩ :: rest) ds T H Q :=
  AL_call (K := fun x H' => x = r ∧ H' = H) hf hx (hc H _ hI ⟨rfl, rfl⟩) (fun x H' ⟨e1, e2⟩ => by subst e1; subst e2; exact h)

/-- These raw blocks lie. -/
def Lies (bs : List (Nat × Obj)) (H : AH) : Prop := ∀ p ∈ bs, H p.1 = some (.raw p.2)
theorem Lies.upd {bs : List (Nat × Obj)} {b : Nat} {o : Option AO} (h : Lies bs H) (hb : H b = none) : Lies bs (H.upd b o) := fun p hp => by
  rw [AH.upd_ne _ _ (fun e => by have := h p hp; rw [e, hb] at this; cases this)]; exact h p hp
theorem Lies.sub {bs : List (Nat × Obj)} {H' : AH} (h : Lies bs H) (hs : SubH H H') : Lies bs H' := fun p hp => hs _ _ (h p hp)
theorem PI.below {I : AH → Prop} {f : FuncId} {args : List AV} {vs0 : Array Value} {r : Value} (hv : ∀ (H : AH) w (vs : Array Value), args.length = vs.size → (∀ (k : Nat) (x : AV) (u : Value), args[k]? = some x → vs[k]? = some u → VR P w H x u) → vs = vs0)
    (hc : ∀ H w, I H → HR P H w → Calls P f vs0 w fun e w' => e = .returned r ∧ Below w.heap.size w w') : PI I P f args (.v r) := fun H K hI hK => AC_calls (hv H) (fun w hh => hc H w hI hh) hK
end
end Go.AL
