/- The rules at hand, one for each operation. -/
import Derived.Test.YtcnjcjhdcloniaaDoorAL7
set_option autoImplicit false
set_option linter.unusedVariables false
set_option linter.unusedSimpArgs false
namespace Go.AL
open Go Go.RowKit

section ops
variable {P : Program} {ro : Option Nat} {ds : List Deferred} {T : List AV} {H : AH} {Q : Post} {ops : Array Oper} {rest : List Oper}
variable {d : Option Tmp} {ty : TypeId} {pos : String} {af : Array Edge} {s s' : Operand} {x y : AV}

theorem yielded_of {a : Act} {w : World} (hst : St P ds T H a w) {j dj : Nat} {b : Bool} (hj : (ops[j]?).bind (·.dst) = some dj) (hb : T[dj]? = some (.v (.bool b))) : yielded ops a.tmps j = some b := by
  obtain ⟨u, hu, hv⟩ := hst.vals _ _ hb
  cases hv
  unfold yielded
  cases ho : ops[j]? with
  | none => simp [ho] at hj
  | some o =>
    rw [ho] at hj
    simp only [Option.bind_some] at hj
    simp [ho, hj, hu, Array.getD_eq_getD_getElem?]

theorem AL_take {op : Op} {j dj : Nat} {b : Bool} (hj : (ops[j]?).bind (·.dst) = some dj) (hb : T[dj]? = some (.v (.bool b))) (h : AL P ro ops (⟨d, op, ty, pos, af, none⟩ :: rest) ds T H Q) :
    AL P ro ops (⟨d, op, ty, pos, af, some (j, b)⟩ :: rest) ds T H Q := fun a w hst => by
  have h1 := h a w hst
  simp only [wpListIn, Region.wanted, if_true, yielded_of hst hj hb, beq_self_eq_true] at h1 ⊢
  exact h1
theorem AL_leave {op : Op} {j dj : Nat} {b c : Bool} (hj : (ops[j]?).bind (·.dst) = some dj) (hb : T[dj]? = some (.v (.bool b))) (hc : b ≠ c) (h : AL P ro ops rest ds (tput T d (.v undef)) H Q) :
    AL P ro ops (⟨d, op, ty, pos, af, some (j, c)⟩ :: rest) ds T H Q := fun a w hst => by
  have hne : (some b == some c) = false := by simpa using hc
  simp only [wpListIn, Region.wanted, yielded_of hst hj hb, hne, Bool.false_eq_true, if_false]
  exact ⟨fun f _ => trivial, h _ _ (hst.put (.refl _ _) hst.heap (.v _))⟩

theorem AL_move (hx : ev T s = some x) (h : AL P ro ops rest ds (tput T d x) H Q) : AL P ro ops (⟨d, .move s, ty, pos, af, none⟩ :: rest) ds T H Q := AL_pure (PV_move hx) rfl (fun _ h => nomatch h) h
theorem AL_assign (hx : ev T s = some x) (h : AL P ro ops rest ds (tput T d x) H Q) : AL P ro ops (⟨d, .assign s, ty, pos, af, none⟩ :: rest) ds T H Q := AL_pure (PV_assign hx) rfl (fun _ h => nomatch h) h
theorem AL_pick_t {c : Operand} (hc : ev T c = some (.v (.bool true))) (hx : ev T s = some x) (h : AL P ro ops rest ds (tput T d x) H Q) : AL P ro ops (⟨d, .pick c s s', ty, pos, af, none⟩ :: rest) ds T H Q := AL_pure (PV_pick_true hc hx) rfl (fun _ h => nomatch h) h
theorem AL_pick_f {c : Operand} (hc : ev T c = some (.v (.bool false))) (hx : ev T s' = some x) (h : AL P ro ops rest ds (tput T d x) H Q) : AL P ro ops (⟨d, .pick c s s', ty, pos, af, none⟩ :: rest) ds T H Q := AL_pure (PV_pick_false hc hx) rfl (fun _ h => nomatch h) h
theorem AL_extract {k : Nat} {xs : List AV} (hx : ev T s = some (.tup xs)) (hk : xs[k]? = some x) (h : AL P ro ops rest ds (tput T d x) H Q) : AL P ro ops (⟨d, .extract s k, ty, pos, af, none⟩ :: rest) ds T H Q := AL_pure (PV_extract hx hk) rfl (fun _ h => nomatch h) h
section
variable {tx ty' : TypeId} {k : IntKind} {m n : Int}
theorem AL_add (hx : ev T s = some (.v (.int k m))) (hy : ev T s' = some (.v (.int k n))) (h : AL P ro ops rest ds (tput T d (.v (.int k (k.wrap (m + n))))) H Q) : AL P ro ops (⟨d, .binOp .add tx s s' ty', ty, pos, af, none⟩ :: rest) ds T H Q := AL_pure (PV_add hx hy) rfl (fun _ h => nomatch h) h
theorem AL_addz (hx : ev T s = some (.v (.int k m))) (hy : ev T s' = some (.v (.int k n))) (z : Int) (hz : k.wrap (m + n) = z) (h : AL P ro ops rest ds (tput T d (.v (.int k z))) H Q) : AL P ro ops (⟨d, .binOp .add tx s s' ty', ty, pos, af, none⟩ :: rest) ds T H Q := AL_add hx hy (by rw [hz]; exact h)
theorem AL_sub (hx : ev T s = some (.v (.int k m))) (hy : ev T s' = some (.v (.int k n))) (h : AL P ro ops rest ds (tput T d (.v (.int k (k.wrap (m - n))))) H Q) : AL P ro ops (⟨d, .binOp .sub tx s s' ty', ty, pos, af, none⟩ :: rest) ds T H Q := AL_pure (PV_sub hx hy) rfl (fun _ h => nomatch h) h
theorem AL_subz (hx : ev T s = some (.v (.int k m))) (hy : ev T s' = some (.v (.int k n))) (z : Int) (hz : k.wrap (m - n) = z) (h : AL P ro ops rest ds (tput T d (.v (.int k z))) H Q) : AL P ro ops (⟨d, .binOp .sub tx s s' ty', ty, pos, af, none⟩ :: rest) ds T H Q := AL_sub hx hy (by rw [hz]; exact h)
theorem AL_mul (hx : ev T s = some (.v (.int k m))) (hy : ev T s' = some (.v (.int k n))) (h : AL P ro ops rest ds (tput T d (.v (.int k (k.wrap (m * n))))) H Q) : AL P ro ops (⟨d, .binOp .mul tx s s' ty', ty, pos, af, none⟩ :: rest) ds T H Q := AL_pure (PV_mul hx hy) rfl (fun _ h => nomatch h) h
theorem AL_eql (hx : ev T s = some (.v (.int k m))) (hy : ev T s' = some (.v (.int k n))) (h : AL P ro ops rest ds (tput T d (.v (.bool (decide (m = n))))) H Q) : AL P ro ops (⟨d, .binOp .eql tx s s' ty', ty, pos, af, none⟩ :: rest) ds T H Q := AL_pure (PV_eql hx hy) rfl (fun _ h => nomatch h) h
theorem AL_neq (hx : ev T s = some (.v (.int k m))) (hy : ev T s' = some (.v (.int k n))) (h : AL P ro ops rest ds (tput T d (.v (.bool (decide (m ≠ n))))) H Q) : AL P ro ops (⟨d, .binOp .neq tx s s' ty', ty, pos, af, none⟩ :: rest) ds T H Q := AL_pure (PV_neq hx hy) rfl (fun _ h => nomatch h) h
theorem AL_lss (hx : ev T s = some (.v (.int k m))) (hy : ev T s' = some (.v (.int k n))) (h : AL P ro ops rest ds (tput T d (.v (.bool (decide (m < n))))) H Q) : AL P ro ops (⟨d, .binOp .lss tx s s' ty', ty, pos, af, none⟩ :: rest) ds T H Q := AL_pure (PV_lss hx hy) rfl (fun _ h => nomatch h) h
theorem AL_leq (hx : ev T s = some (.v (.int k m))) (hy : ev T s' = some (.v (.int k n))) (h : AL P ro ops rest ds (tput T d (.v (.bool (decide (m ≤ n))))) H Q) : AL P ro ops (⟨d, .binOp .leq tx s s' ty', ty, pos, af, none⟩ :: rest) ds T H Q := AL_pure (PV_leq hx hy) rfl (fun _ h => nomatch h) h
theorem AL_gtr (hx : ev T s = some (.v (.int k m))) (hy : ev T s' = some (.v (.int k n))) (h : AL P ro ops rest ds (tput T d (.v (.bool (decide (n < m))))) H Q) : AL P ro ops (⟨d, .binOp .gtr tx s s' ty', ty, pos, af, none⟩ :: rest) ds T H Q := AL_pure (PV_gtr hx hy) rfl (fun _ h => nomatch h) h
theorem AL_geq (hx : ev T s = some (.v (.int k m))) (hy : ev T s' = some (.v (.int k n))) (h : AL P ro ops rest ds (tput T d (.v (.bool (decide (n ≤ m))))) H Q) : AL P ro ops (⟨d, .binOp .geq tx s s' ty', ty, pos, af, none⟩ :: rest) ds T H Q := AL_pure (PV_geq hx hy) rfl (fun _ h => nomatch h) h
theorem AL_ibin (hx : ev T s = some (.v (.int k m))) (hy : ev T s' = some (.v (.int k n))) {op : BinOp} {r : Value} (hr : binOp op tx (.int k m) (.int k n) = pure r) (h : AL P ro ops rest ds (tput T d (.v r)) H Q) : AL P ro ops (⟨d, .binOp op tx s s' ty', ty, pos, af, none⟩ :: rest) ds T H Q := AL_pure (PV_ibin hx hy hr) rfl (fun _ h => nomatch h) h
end
theorem AL_not {b : Bool} {tx : TypeId} (hx : ev T s = some (.v (.bool b))) (h : AL P ro ops rest ds (tput T d (.v (.bool (!b)))) H Q) : AL P ro ops (⟨d, .unOp .not tx s, ty, pos, af, none⟩ :: rest) ds T H Q := AL_pure (PV_not hx) rfl (fun _ h => nomatch h) h
theorem AL_neg {k : IntKind} {n : Int} {tx : TypeId} (hx : ev T s = some (.v (.int k n))) (h : AL P ro ops rest ds (tput T d (.v (.int k (k.wrap (0 - n))))) H Q) : AL P ro ops (⟨d, .unOp .neg tx s, ty, pos, af, none⟩ :: rest) ds T H Q := AL_pure (PV_neg hx) rfl (fun _ h => nomatch h) h
theorem AL_field {tx ft : TypeId} {f off n : Nat} {b : Bool} {cs : List AV} (hf : fldOf P tx f = some (ft, off)) (ha : aggOf P ft = some b) (hs : szOf P ft = some n) (hx : ev T s = some (.ag cs)) (hy : subAV b n (.ag cs) off = some y)
    (h : AL P ro ops rest ds (tput T d y) H Q) : AL P ro ops (⟨d, .field tx s f, ty, pos, af, none⟩ :: rest) ds T H Q := AL_pure (PV_field hx hf ha hs hy) rfl (fun _ h => nomatch h) h
theorem AL_makeFunc {fn : Fn} {first captured : Array Operand} {xs ys : List AV} (h1 : EvL T first.toList xs) (h2 : EvL T captured.toList ys)
    (h : AL P ro ops rest ds (tput T d (.fn fn xs ys)) H Q) : AL P ro ops (⟨d, .makeFunc fn first captured, ty, pos, af, none⟩ :: rest) ds T H Q := AL_pure (PV_makeFunc h1 h2) rfl (fun _ h => nomatch h) h
theorem AL_fieldAddr_pt {tx ft : TypeId} {f off n b i sz o : Nat} (hf : fldOf P tx f = some (ft, off)) (hs : szOf P ft = some n) (h0 : n ≠ 0) (hx : ev T s = some (.pt b i sz o))
    (h : AL P ro ops rest ds (tput T d (.pt b i sz (o + off))) H Q) : AL P ro ops (⟨d, .fieldAddr tx s f, ty, pos, af, none⟩ :: rest) ds T H Q := AL_pure (PV_fieldAddr_pt hx hf hs h0) rfl (fun _ h => nomatch h) h
theorem AL_fieldAddr_rp {tx ft : TypeId} {f off n : Nat} {b : Bool} {cs : List AV} (hf : fldOf P tx f = some (ft, off)) (ha : aggOf P ft = some b) (hs : szOf P ft = some n) (h0 : n ≠ 0) (hn : b = false → n = 1) (hx : ev T s = some (.rp tx (.ag cs)))
    (hy : subAV b n (.ag cs) off = some y) (hb : b = false → y.cells = [y])
    (h : AL P ro ops rest ds (tput T d (.rp ft y)) H Q) : AL P ro ops (⟨d, .fieldAddr tx s f, ty, pos, af, none⟩ :: rest) ds T H Q := AL_pure (PV_fieldAddr_rp hx hf ha hs h0 hy hb hn) rfl (fun _ h => nomatch h) h
theorem AL_load_rp {t : TypeId} {n : Nat} (hs : szOf P t = some n) (hx : ev T s = some (.rp t x)) (ha : aggOf P t = some x.isAg) 
    (h : AL P ro ops rest ds (tput T d x) H Q) : AL P ro ops (⟨d, .load t s, ty, pos, af, none⟩ :: rest) ds T H Q := AL_pure (PV_load_rp hx ha hs) rfl (fun _ h => nomatch h) h
theorem AL_load_pt {t e : TypeId} {b i sz o n c : Nat} {bg : Bool} {xs : List AV} (ha : aggOf P t = some bg) (hs : szOf P t = some n) (hn : bg = false → n = 1) (hx : ev T s = some (.pt b i sz o)) (hH : H b = some (.row e c xs)) (he : szOf P e = some sz) (hi : xs[i]? = some x)
    (hy : subAV bg n x o = some y) (hb : y.isAg = bg) (h : AL P ro ops rest ds (tput T d y) H Q) : AL P ro ops (⟨d, .load t s, ty, pos, af, none⟩ :: rest) ds T H Q := AL_pure (PV_load_pt hx hH he hi ha hs hy hb hn) rfl (fun _ h => nomatch h) h
theorem AL_len_sl {t e e' : TypeId} {xs : List AV} (ht : P.underlying t = some (.slice e)) (hx : ev T s = some (.sl e' xs)) (h : AL P ro ops rest ds (tput T d (.v (.int .i64 xs.length))) H Q) : AL P ro ops (⟨d, .call ⟨.builtin .len, #[s], #[t]⟩, ty, pos, af, none⟩ :: rest) ds T H Q := AL_pure (PV_len_sl hx ht) rfl (fun _ h => nomatch h) h
theorem AL_len_own {t e : TypeId} {A : Option Nat} {c n : Nat} (ht : P.underlying t = some (.slice e)) (hx : ev T s = some (.own A c n)) (h : AL P ro ops rest ds (tput T d (.v (.int .i64 n))) H Q) : AL P ro ops (⟨d, .call ⟨.builtin .len, #[s], #[t]⟩, ty, pos, af, none⟩ :: rest) ds T H Q := AL_pure (PV_len_own hx ht) rfl (fun _ h => nomatch h) h
theorem AL_len_str {t : TypeId} {z : ByteArray} (ht : P.underlying t = some .string) (hx : ev T s = some (.v (.string z))) (h : AL P ro ops rest ds (tput T d (.v (.int .i64 z.size))) H Q) : AL P ro ops (⟨d, .call ⟨.builtin .len, #[s], #[t]⟩, ty, pos, af, none⟩ :: rest) ds T H Q := AL_pure (PV_len_str hx ht) rfl (fun _ h => nomatch h) h
theorem AL_indexAddr_sl {t e : TypeId} {sz : Nat} {xs : List AV} {k : IntKind} {i : Int} (ht : P.underlying t = some (.slice e)) (hs : szOf P e = some sz) (hc : 0 < sz) (hx : ev T s = some (.sl e xs)) (hi : ev T s' = some (.v (.int k i)))
    (h0 : 0 ≤ i) (h1 : i < xs.length) (hy : xs[i.toNat]? = some y) (h : AL P ro ops rest ds (tput T d (.rp e y)) H Q) : AL P ro ops (⟨d, .indexAddr t s s', ty, pos, af, none⟩ :: rest) ds T H Q := AL_pure (PV_indexAddr_sl hx hi ht hs h0 h1 hy hc) rfl (fun _ h => nomatch h) h
theorem AL_indexAddr_own {t e : TypeId} {sz b c n : Nat} {k : IntKind} {i : Int} (ht : P.underlying t = some (.slice e)) (hs : szOf P e = some sz) (hx : ev T s = some (.own (some b) c n)) (hi : ev T s' = some (.v (.int k i)))
    (h0 : 0 ≤ i) (h1 : i < n) (h : AL P ro ops rest ds (tput T d (.pt b i.toNat sz 0)) H Q) : AL P ro ops (⟨d, .indexAddr t s s', ty, pos, af, none⟩ :: rest) ds T H Q := AL_pure (PV_indexAddr_own hx hi ht hs h0 h1) rfl (fun _ h => nomatch h) h
theorem AL_seql {tx ty' : TypeId} {p q : ByteArray} (hx : ev T s = some (.v (.string p))) (hy : ev T s' = some (.v (.string q))) (h : AL P ro ops rest ds (tput T d (.v (.bool (decide (p = q))))) H Q) : AL P ro ops (⟨d, .binOp .eql tx s s' ty', ty, pos, af, none⟩ :: rest) ds T H Q := AL_pure (PV_seql hx hy) rfl (fun _ h => nomatch h) h
theorem AL_sneq {tx ty' : TypeId} {p q : ByteArray} (hx : ev T s = some (.v (.string p))) (hy : ev T s' = some (.v (.string q))) (h : AL P ro ops rest ds (tput T d (.v (.bool (decide (p ≠ q))))) H Q) : AL P ro ops (⟨d, .binOp .neq tx s s' ty', ty, pos, af, none⟩ :: rest) ds T H Q := AL_pure (PV_sneq hx hy) rfl (fun _ h => nomatch h) h
theorem AL_sadd {tx ty' : TypeId} {p q : ByteArray} (hx : ev T s = some (.v (.string p))) (hy : ev T s' = some (.v (.string q))) (hb : p.size + q.size ≤ 9223372036854775807) (h : AL P ro ops rest ds (tput T d (.v (.string (p ++ q)))) H Q) : AL P ro ops (⟨d, .binOp .add tx s s' ty', ty, pos, af, none⟩ :: rest) ds T H Q := AL_pure (PV_sadd hx hy hb) rfl (fun _ h => nomatch h) h
theorem AL_index_str {tx : TypeId} {p : ByteArray} {k : IntKind} {i : Int} (ht : P.underlying tx = some .string) (hx : ev T s = some (.v (.string p))) (hi : ev T s' = some (.v (.int k i))) (h0 : 0 ≤ i) (h1 : i.toNat < p.size)
    (h : AL P ro ops rest ds (tput T d (.v (.int .u8 (p[i.toNat]'h1).toNat))) H Q) : AL P ro ops (⟨d, .index tx s s', ty, pos, af, none⟩ :: rest) ds T H Q := AL_pure (PV_index_str hx hi ht h0 h1) rfl (fun _ h => nomatch h) h
theorem AL_slice_str {tx : TypeId} {p : ByteArray} {lo hi : Option Operand} {l h : Nat} (ht : P.underlying tx = some .string) (hx : ev T s = some (.v (.string p))) (hh : bd T hi p.size h) (hl : bd T lo 0 l) (h1 : h ≤ p.size) (h2 : l ≤ h)
    (hr : AL P ro ops rest ds (tput T d (.v (.string (p.extract l h)))) H Q) : AL P ro ops (⟨d, .slice tx s lo hi none, ty, pos, af, none⟩ :: rest) ds T H Q := AL_pure (PV_slice_str hx ht hh hl h1 h2) rfl (fun _ h => nomatch h) hr
theorem AL_slice_sl {tx e : TypeId} {sz : Nat} {xs : List AV} {lo hi : Option Operand} {l h : Nat} (ht : P.underlying tx = some (.slice e)) (hs : szOf P e = some sz) (hx : ev T s = some (.sl e xs)) (hh : bd T hi xs.length h) (hl : bd T lo 0 l) (h1 : h ≤ xs.length) (h2 : l ≤ h)
    (hr : AL P ro ops rest ds (tput T d (.sl e ((xs.drop l).take (h - l)))) H Q) : AL P ro ops (⟨d, .slice tx s lo hi none, ty, pos, af, none⟩ :: rest) ds T H Q := AL_pure (PV_slice_sl hx ht hs hh hl h1 h2) rfl (fun _ h => nomatch h) hr

/-- A whole variable. -/
theorem AL_load_w {t : TypeId} {b sz c : Nat} (ha : aggOf P t = some x.isAg) (hs : szOf P t = some sz) (hx : ev T s = some (.pt b 0 sz 0)) (hH : H b = some (.row t c [x])) (hc : x.cells.length = sz)
    (h : AL P ro ops rest ds (tput T d x) H Q) : AL P ro ops (⟨d, .load t s, ty, pos, af, none⟩ :: rest) ds T H Q := by
  refine AL_load_pt (y := x) ha hs (fun hb => ?_) hx hH hs rfl ?_ rfl h
  · rw [AV.cells_of_not hb] at hc; simpa using hc.symm
  · unfold subAV
    cases hb : x.isAg with
    | true => rw [if_pos rfl, if_pos (by omega)]; rw [AV.of_isAg hb] at hc ⊢; simp only [AV.cells] at hc ⊢; rw [List.drop_zero, ← hc, List.take_length]
    | false => rw [if_neg (by simp), AV.cells_of_not hb]; rfl
theorem AL_loadw {t : TypeId} {b sz c : Nat} (hs : szOf P t = some sz) (hx : ev T s = some (.pt b 0 sz 0)) (hH : H b = some (.row t c [x])) (ha : aggOf P t = some x.isAg) (hc : x.cells.length = sz)
    (h : AL P ro ops rest ds (tput T d x) H Q) : AL P ro ops (⟨d, .load t s, ty, pos, af, none⟩ :: rest) ds T H Q := AL_load_w ha hs hx hH hc h
theorem AL_store_w {t : TypeId} {b sz c : Nat} (hs : szOf P t = some sz) (hp : ev T s = some (.pt b 0 sz 0)) (hy : EVR T s' y) (hm : y.mem = true) (hH : H b = some (.row t c [x])) (hyn : y.cells.length = sz) (hx : x.isAg = y.isAg)
    (h : AL P ro ops rest ds (tput T d (.v undef)) (H.upd b (some (.row t c [y]))) Q) : AL P ro ops (⟨d, .store t s s', ty, pos, af, none⟩ :: rest) ds T H Q := fun a w hst => by
  have hxc : x.cells.length = sz := by
    obtain ⟨cs, fr, h1, h2, h3, h4, h5, h6⟩ := hst.heap b _ hH
    rw [h5 x (by simp), szOf_cells hs]
  have hput : putAV x 0 y = y := by
    cases hb : y.isAg with
    | true =>
      rw [hb] at hx
      rw [AV.of_isAg hx] at hxc ⊢
      rw [AV.of_isAg hb] at hyn ⊢
      simp only [AV.cells] at hxc hyn
      simp only [putAV, AV.cells, List.take_zero, List.nil_append, Nat.zero_add]
      rw [hyn, ← hxc, List.drop_length, List.append_nil]
    | false => rw [hb] at hx; cases x <;> first | rfl | simp [AV.isAg] at hx
  refine AL_store (x := x) (y := y) (i := 0) (o := 0) hp hy hm hH hs rfl hs hyn (by omega) (fun hb => ⟨rfl, by rw [AV.cells_of_not hb] at hxc; simpa using hxc.symm, by rw [← hx]; exact hb⟩) ?_ a w hst
  simpa [hput] using h

/-- A value put together. -/
theorem AL_build_struct {t : TypeId} {fs : Array Field} {parts : List (Nat × Operand)} {ys : List (Nat × AV)} {zc : Array Value} {pl : List (Nat × Nat)} {zs0 zs : List AV} (ht : P.underlying t = some (.struct fs)) (hz : zeroOf P t = some (.agg zc)) (hz0 : ZL zc.toList zs0) (hpl : fs.toList.map (fun f => (szOf P f.type).map (f.offset, ·)) = pl.map some)
    (hp : EvP T parts ys) (hf : fillA (fun i => pl[i]?) zs0 ys = some zs)
    (h : AL P ro ops rest ds (tput T d (.ag zs)) H Q) : AL P ro ops (⟨d, .build t parts.toArray, ty, pos, af, none⟩ :: rest) ds T H Q := by
  refine AL_pure (fun ds a w hst => ?_) rfl (fun _ h => nomatch h) h
  obtain ⟨hl, hv⟩ := hp.vals hst
  obtain ⟨cs', h1, h2, h3⟩ := fill_run (P := P) (H := H) (w := w) (place := fun i => pl[i]?) ys (parts.map fun p => (p.1, a.eval p.2)) _ zs zc hf (by simpa using (hz0.vals (P := P) (w := w) (H := H)).1) (fun k y u hy hu => hz0.vals.2 k y u hy (by simpa using hu)) hl hv
  refine ⟨.agg cs', ?_, .ag h2 h3⟩
  have hmap : ∀ (l : List Field) (pl : List (Nat × Nat)), l.map (fun f => (szOf P f.type).map (f.offset, ·)) = pl.map some → (l.mapM fun f => (do pure (f.offset, ← sizeOf f.type) : Sem (Nat × Nat))).run P w = .ok pl w := by
    intro l
    induction l with
    | nil => intro pl hpl; cases pl <;> simp at hpl; simp
    | cons f l ih =>
      intro pl hpl
      cases pl with
      | nil => simp at hpl
      | cons p pl =>
        simp only [List.map_cons, List.cons.injEq] at hpl
        obtain ⟨h1, h2⟩ := hpl
        obtain ⟨n, hn, hp⟩ := Option.map_eq_some_iff.1 h1
        simp only [List.mapM_cons, Sem.run_bind, run_sizeOf' hn, Result.andThen_ok, Sem.run_pure, ih pl h2, hp]
  have e1 : ∀ g : Field → Sem (Nat × Nat), (fs.mapM g).run P w = ((fs.toList.mapM g).run P w).andThen fun l w => .ok l.toArray w := by
    intro g
    rw [show fs.mapM g = (List.toArray <$> fs.toList.mapM g) by obtain ⟨l⟩ := fs; simp, Sem.run_map]
  have e2 : (Instr.build t (parts.toArray.map fun p => (p.1, a.eval p.2))).run P w = .ok (.agg cs') w := by
    simp only [Instr.build, Sem.run_bind, run_zeroValue' hz, Result.andThen_ok, run_underlying ht, e1, hmap _ _ hpl, Sem.run_pure]
    have e3 : (fun i : Nat => pl.toArray[i]?) = fun i : Nat => pl[i]? := by funext i; simp
    have hz' : (Value.agg zc).cells = zc := rfl
    simp only [hz', e3, List.map_toArray, h1, Sem.run_pure]
  simp only [execOp, Sem.run_bind]
  rw [show (parts.toArray.map fun (x : Nat × Operand) => match x with | (i, x) => (i, a.eval x)) = parts.toArray.map fun p => (p.1, a.eval p.2) from rfl, e2]
  rfl

theorem AL_build_array {t e : TypeId} {n sz : Nat} {parts : List (Nat × Operand)} {ys : List (Nat × AV)} {zc : Array Value} {zs0 zs : List AV} (ht : P.underlying t = some (.array n e)) (hz : zeroOf P t = some (.agg zc)) (hz0 : ZL zc.toList zs0) (hs : szOf P e = some sz)
    (hp : EvP T parts ys) (hf : fillA (fun i => some (i * sz, sz)) zs0 ys = some zs)
    (h : AL P ro ops rest ds (tput T d (.ag zs)) H Q) : AL P ro ops (⟨d, .build t parts.toArray, ty, pos, af, none⟩ :: rest) ds T H Q := by
  refine AL_pure (fun ds a w hst => ?_) rfl (fun _ h => nomatch h) h
  obtain ⟨hl, hv⟩ := hp.vals hst
  obtain ⟨cs', h1, h2, h3⟩ := fill_run (P := P) (H := H) (w := w) (place := fun i => some (i * sz, sz)) ys (parts.map fun p => (p.1, a.eval p.2)) _ zs zc hf (by simpa using (hz0.vals (P := P) (w := w) (H := H)).1) (fun k y u hy hu => hz0.vals.2 k y u hy (by simpa using hu)) hl hv
  refine ⟨.agg cs', ?_, .ag h2 h3⟩
  have e2 : (Instr.build t (parts.toArray.map fun p => (p.1, a.eval p.2))).run P w = .ok (.agg cs') w := by
    simp only [Instr.build, Sem.run_bind, run_zeroValue' hz, Result.andThen_ok, run_underlying ht, run_sizeOf' hs]
    have hz' : (Value.agg zc).cells = zc := rfl
    simp only [hz', List.map_toArray, h1, Sem.run_pure]
  simp only [execOp, Sem.run_bind]
  rw [show (parts.toArray.map fun (x : Nat × Operand) => match x with | (i, x) => (i, a.eval x)) = parts.toArray.map fun p => (p.1, a.eval p.2) from rfl, e2]
  rfl

/-- All fields told, in their order. -/
def plOk : Nat → List (Nat × Nat) → List AV → Bool
  | _, [], [] => true
  | off, (o, n) :: pl, x :: xs => Nat.beq o off && Nat.beq n x.cells.length && plOk (off + n) pl xs
  | _, _, _ => false
theorem fill_pl : ∀ (xs : List AV) (pl0 pl : List (Nat × Nat)) (pre rest : List AV), plOk pre.length pl xs = true → rest.length = (flat xs).length → fillA (fun i => (pl0 ++ pl)[i]?) (pre ++ rest) (enum pl0.length xs) = some (pre ++ flat xs) := by
  intro xs
  induction xs with
  | nil => intro pl0 pl pre rest _ hr; obtain rfl : rest = [] := List.eq_nil_of_length_eq_zero (by simpa [flat] using hr); simp [enum, fillA, flat]
  | cons x xs ih =>
    intro pl0 pl pre rest hp hr
    cases pl with
    | nil => simp [plOk] at hp
    | cons p pl =>
      obtain ⟨o, n⟩ := p
      simp only [plOk, Bool.and_eq_true] at hp
      obtain ⟨⟨h1, h2⟩, h3⟩ := hp
      replace h1 : o = pre.length := Nat.eq_of_beq_eq_true h1
      replace h2 : n = x.cells.length := Nat.eq_of_beq_eq_true h2
      subst h1; subst h2
      have hfl : flat (x :: xs) = x.cells ++ flat xs := by simp [flat]
      rw [hfl, List.length_append] at hr
      simp only [enum, fillA]
      have hpl : (pl0 ++ (pre.length, x.cells.length) :: pl)[pl0.length]? = some (pre.length, x.cells.length) := by simp
      rw [hpl]
      simp only
      rw [if_pos ⟨trivial, by simp; omega⟩]
      have e1 : (pre ++ rest).take pre.length = pre := by simp
      have e2 : (pre ++ rest).drop (pre.length + x.cells.length) = rest.drop x.cells.length := by rw [← List.drop_drop]; simp
      have e3 := ih (pl0 ++ [(pre.length, x.cells.length)]) pl (pre ++ x.cells) (rest.drop x.cells.length) (by rw [List.length_append]; exact h3) (by simp; omega)
      simp only [List.append_assoc, List.cons_append, List.nil_append, List.length_append, List.length_cons, List.length_nil, Nat.zero_add] at e3
      rw [e1, e2, List.append_assoc, e3, hfl]

theorem AL_build_sf {t : TypeId} {fs : Array Field} {parts : List (Nat × Operand)} {xs zs : List AV} {zc : Array Value} {pl : List (Nat × Nat)} (ht : P.underlying t = some (.struct fs)) (hz : zeroOf P t = some (.agg zc)) (hpl : fs.toList.map (fun f => (szOf P f.type).map (f.offset, ·)) = pl.map some)
    (hp : EvS T 0 parts xs) (hok : plOk 0 pl xs = true) (hn : (flat xs).length = zc.size) (hq : flat xs = zs)
    (h : AL P ro ops rest ds (tput T d (.ag zs)) H Q) : AL P ro ops (⟨d, .build t parts.toArray, ty, pos, af, none⟩ :: rest) ds T H Q := by
  have hzl : ∀ l : List Value, ∃ ys, ZL l ys := fun l => by
    induction l with
    | nil => exact ⟨[], .nil⟩
    | cons a l ih => obtain ⟨ys, h⟩ := ih; exact ⟨.v a :: ys, .v h⟩
  obtain ⟨zs0, hz0⟩ := hzl zc.toList
  have hl0 : zs0.length = zc.size := by have := (hz0.vals (P := P) (w := default) (H := H)).1; simpa using this
  have hf := fill_pl xs [] pl [] zs0 hok (by rw [hl0, hn])
  simp only [List.nil_append, List.length_nil] at hf
  exact AL_build_struct (zs := flat xs) ht hz hz0 hpl hp.evP hf (hq ▸ h)
theorem AL_build_af {t e : TypeId} {n sz : Nat} {parts : List (Nat × Operand)} {xs zs : List AV} {zc : Array Value} (ht : P.underlying t = some (.array n e)) (hz : zeroOf P t = some (.agg zc)) (hs : szOf P e = some sz)
    (hp : EvS T 0 parts xs) (hok : xs.all (fun x => Nat.beq x.cells.length sz) = true) (hn : (flat xs).length = zc.size) (hq : flat xs = zs)
    (h : AL P ro ops rest ds (tput T d (.ag zs)) H Q) : AL P ro ops (⟨d, .build t parts.toArray, ty, pos, af, none⟩ :: rest) ds T H Q := by
  have hel : ∀ x ∈ xs, x.cells.length = sz := fun x hx => by
    simp only [List.all_eq_true] at hok
    exact Nat.eq_of_beq_eq_true (hok x hx)
  have hzl : ∀ l : List Value, ∃ ys, ZL l ys := fun l => by
    induction l with
    | nil => exact ⟨[], .nil⟩
    | cons a l ih => obtain ⟨ys, h⟩ := ih; exact ⟨.v a :: ys, .v h⟩
  obtain ⟨zs0, hz0⟩ := hzl zc.toList
  have hl0 : zs0.length = zc.size := by have := (hz0.vals (P := P) (w := default) (H := H)).1; simpa using this
  have hf := fill_enum sz xs 0 [] zs0 (by simp) (by rw [hl0, ← hn, flat_length xs sz hel]) hel
  simp only [List.nil_append] at hf
  exact AL_build_array (zs := flat xs) ht hz hz0 hs hp.evP hf (hq ▸ h)

/-- An array's element, by value. -/
theorem AL_index_arr {tx e : TypeId} {n sz : Nat} {b : Bool} {cs : List AV} {k : IntKind} {i : Int} (ht : P.underlying tx = some (.array n e)) (ha : aggOf P e = some b) (hs : szOf P e = some sz) (hx : ev T s = some (.ag cs)) (hi : ev T s' = some (.v (.int k i))) (h0 : 0 ≤ i) (h1 : i < n)
    (hy : subAV b sz (.ag cs) (i.toNat * sz) = some y) (h : AL P ro ops rest ds (tput T d y) H Q) : AL P ro ops (⟨d, .index tx s s', ty, pos, af, none⟩ :: rest) ds T H Q := by
  refine AL_pure (fun ds a w hst => ?_) rfl (fun _ h => nomatch h) h
  obtain ⟨vs, hu, hl, hv⟩ := (hst.ev hx).agg_inv
  obtain ⟨v, hr, hvr⟩ := run_part ha hs hl hv hy w
  exact ⟨v, by simp [execOp, Instr.index, hu, hst.evv hi, asIntOf, run_underlying ht, h0, h1, run_sizeOf' hs, hr], hvr⟩
end ops
end Go.AL
