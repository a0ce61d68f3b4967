/- Division, bits, shifts. -/
import Derived.Test.YtcnjcjhdcloniaaDoorAL14
set_option autoImplicit false
set_option linter.unusedVariables false
set_option linter.unusedSimpArgs false
namespace Go.AL
open Go Go.RowKit

def intB (op : BinOp) (k : IntKind) (x y : Int) : Int :=
  match op with
  | .and => k.wrap ((BitVec.ofInt k.bits x &&& BitVec.ofInt k.bits y).toNat : Int)
  | .or => k.wrap ((BitVec.ofInt k.bits x ||| BitVec.ofInt k.bits y).toNat : Int)
  | .xor => k.wrap ((BitVec.ofInt k.bits x ^^^ BitVec.ofInt k.bits y).toNat : Int)
  | .andNot => k.wrap ((BitVec.ofInt k.bits x &&& ~~~(BitVec.ofInt k.bits y)).toNat : Int)
  | _ => 0

section
variable {P : Program} {ro : Option Nat} {ds : List Deferred} {T : List AV} {H : AH} {Q : Post} {ops : Array Oper} {rest : List Oper}
variable {d : Option Tmp} {ty : TypeId} {pos : String} {af : Array Edge} {s s' : Operand} {x y : AV}
theorem AL_rem {tx ty' : TypeId} {k : IntKind} {m n : Int} (hx : ev T s = some (.v (.int k m))) (hy : ev T s' = some (.v (.int k n))) (h0 : n ≠ 0)
    (h : AL P ro ops rest ds (tput T d (.v (.int k (m.tmod n)))) H Q) : AL P ro ops (⟨d, .binOp .rem tx s s' ty', ty, pos, af, none⟩ :: rest) ds T H Q :=
  AL_ibin hx hy (by simp [binOp, Op.intArith, Op.intDiv, h0]) h
theorem AL_quo {tx ty' : TypeId} {k : IntKind} {m n : Int} (hx : ev T s = some (.v (.int k m))) (hy : ev T s' = some (.v (.int k n))) (h0 : n ≠ 0)
    (h : AL P ro ops rest ds (tput T d (.v (.int k (k.wrap (m.tdiv n))))) H Q) : AL P ro ops (⟨d, .binOp .quo tx s s' ty', ty, pos, af, none⟩ :: rest) ds T H Q :=
  AL_ibin hx hy (by simp [binOp, Op.intArith, Op.intDiv, h0]) h
theorem AL_bits {op : BinOp} {tx ty' : TypeId} {k : IntKind} {m n : Int} (hx : ev T s = some (.v (.int k m))) (hy : ev T s' = some (.v (.int k n))) (ho : op = .and ∨ op = .or ∨ op = .xor ∨ op = .andNot)
    (h : AL P ro ops rest ds (tput T d (.v (.int k (intB op k m n)))) H Q) : AL P ro ops (⟨d, .binOp op tx s s' ty', ty, pos, af, none⟩ :: rest) ds T H Q := by
  refine AL_ibin hx hy ?_ h
  rcases ho with rfl | rfl | rfl | rfl <;> simp [binOp, Op.intBits, intB]
theorem AL_shr {tx ty' : TypeId} {k k' : IntKind} {m n : Int} (hx : ev T s = some (.v (.int k m))) (hy : ev T s' = some (.v (.int k' n))) (h0 : 0 ≤ n)
    (h : AL P ro ops rest ds (tput T d (.v (.int k (m.fdiv (2 ^ min n.toNat k.bits))))) H Q) : AL P ro ops (⟨d, .binOp .shr tx s s' ty', ty, pos, af, none⟩ :: rest) ds T H Q :=
  AL_bin hx hy (fun w => ⟨by simp [eqGuard], by
    have h0' : ¬ n < 0 := by omega
    simp [binOp, Op.shift, h0']⟩) h
end
end Go.AL
