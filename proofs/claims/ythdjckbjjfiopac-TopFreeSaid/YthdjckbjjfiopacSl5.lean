/- What single operations do (1): no memory. No condition. -/
import Derived.Test.YthdjckbjjfiopacSl3
import Derived.IntWalk
import Derived.Laws.Strings
namespace Go.Sl
set_option linter.unusedVariables false
set_option linter.unusedSimpArgs false

abbrev I (n : Int) : Value := .int .i64 n
abbrev By (n : Int) : Value := .int .u8 n
abbrev Bo (b : Bool) : Value := .bool b
abbrev ptr (b o : Nat) : Value := .pointer (some ⟨b, o, none⟩)
abbrev Str (l : List UInt8) : Value := .string ⟨⟨l⟩⟩

theorem beqd {α : Type} [BEq α] [LawfulBEq α] [DecidableEq α] (a b : α) : (a == b) = decide (a = b) := by rw [Bool.eq_iff_iff]; simp
theorem w64 {n : Int} (h : -9223372036854775808 ≤ n ∧ n ≤ 9223372036854775807) : IntKind.i64.wrap n = n := IntWalk.i64_in n h
theorem w8 {n : Int} (h : 0 ≤ n ∧ n ≤ 255) : IntKind.u8.wrap n = n := IntWalk.u8_in n h

section
variable {c : Cx} {g : Option (Nat × Bool)} {E : Env} {L : List HProp} {d : Option Tmp} {ty : TypeId} {pos : String} {af : Array Edge} {gu : Option (Nat × Bool)}
variable {x y z : Operand} {t u yt : TypeId} {k : IntKind} {a b r : Int} {v v1 v2 : Value}

theorem v_move (hx : ev g E x = some v) : OpV c g E L ⟨d, .move x, ty, pos, af, gu⟩ v := .mk fun a w hE hg hS => by
  simp [execOp, hE.ev hg hx]
theorem v_assign (hx : ev g E x = some v) : OpV c g E L ⟨d, .assign x, ty, pos, af, gu⟩ v := .mk fun a w hE hg hS => by
  simp [execOp, hE.ev hg hx]
theorem v_pick {b : Bool} (hz : ev g E z = some (.bool b)) (hx : ev g E x = some v1) (hy : ev g E y = some v2) : OpV c g E L ⟨d, .pick z x y, ty, pos, af, gu⟩ (if b then v1 else v2) := .mk fun a w hE hg hS => by
  simp [execOp, hE.ev hg hz, hE.ev hg hx, hE.ev hg hy, asBool]
theorem v_or {s : Nat} {b b2 : Bool} (hz : look g E s = some (.bool b)) (hy : ev (some (s, false)) E y = some (.bool b2)) : OpV c g E L ⟨d, .pick (.tmp s) (.const (.bool true)) y, ty, pos, af, gu⟩ (.bool (b || b2)) := .mk fun a w hE hg hS => by
  have h1 := hE.look hg hz
  have h2 : a.eval (.tmp s) = .bool b := by simp [Act.eval, Array.getD_eq_getD_getElem?, h1]
  simp only [execOp, h2, asBool]
  cases b with
  | true => simp [Act.eval]
  | false =>
    have hg2 : gd (some (s, false)) a := fun j b' e => by injection e with e; injection e with e1 e2; subst e1 e2; exact h1
    simp [hE.ev hg2 hy]
theorem v_and {s : Nat} {b b2 : Bool} (hz : look g E s = some (.bool b)) (hy : ev (some (s, true)) E y = some (.bool b2)) : OpV c g E L ⟨d, .pick (.tmp s) y (.const (.bool false)), ty, pos, af, gu⟩ (.bool (b && b2)) := .mk fun a w hE hg hS => by
  have h1 := hE.look hg hz
  have h2 : a.eval (.tmp s) = .bool b := by simp [Act.eval, Array.getD_eq_getD_getElem?, h1]
  simp only [execOp, h2, asBool]
  cases b with
  | false => simp [Act.eval]
  | true =>
    have hg2 : gd (some (s, true)) a := fun j b' e => by injection e with e; injection e with e1 e2; subst e1 e2; exact h1
    simp [hE.ev hg2 hy]

theorem v_add (hx : ev g E x = some (.int k a)) (hy : ev g E y = some (.int k b)) (hr : k.wrap (a + b) = r) : OpV c g E L ⟨d, .binOp .add t x y yt, ty, pos, af, gu⟩ (.int k r) := .mk fun _ w hE hg hS => by
  simp [execOp, hE.ev hg hx, hE.ev hg hy, eqGuard, binOp, Op.intArith, hr]
theorem v_sub (hx : ev g E x = some (.int k a)) (hy : ev g E y = some (.int k b)) (hr : k.wrap (a - b) = r) : OpV c g E L ⟨d, .binOp .sub t x y yt, ty, pos, af, gu⟩ (.int k r) := .mk fun _ w hE hg hS => by
  simp [execOp, hE.ev hg hx, hE.ev hg hy, eqGuard, binOp, Op.intArith, hr]
theorem v_mul (hx : ev g E x = some (.int k a)) (hy : ev g E y = some (.int k b)) (hr : k.wrap (a * b) = r) : OpV c g E L ⟨d, .binOp .mul t x y yt, ty, pos, af, gu⟩ (.int k r) := .mk fun _ w hE hg hS => by
  simp [execOp, hE.ev hg hx, hE.ev hg hy, eqGuard, binOp, Op.intArith, hr]
theorem v_quo (hx : ev g E x = some (.int k a)) (hy : ev g E y = some (.int k b)) (h0 : b ≠ 0) (hr : k.wrap (a.tdiv b) = r) : OpV c g E L ⟨d, .binOp .quo t x y yt, ty, pos, af, gu⟩ (.int k r) := .mk fun _ w hE hg hS => by
  simp [execOp, hE.ev hg hx, hE.ev hg hy, eqGuard, binOp, Op.intDiv, hr, h0]
theorem v_rem (hx : ev g E x = some (.int k a)) (hy : ev g E y = some (.int k b)) (h0 : b ≠ 0) (hr : a.tmod b = r) : OpV c g E L ⟨d, .binOp .rem t x y yt, ty, pos, af, gu⟩ (.int k r) := .mk fun _ w hE hg hS => by
  simp [execOp, hE.ev hg hx, hE.ev hg hy, eqGuard, binOp, Op.intDiv, hr, h0]
theorem v_bits {op : BinOp} (ho : op = .and ∨ op = .or ∨ op = .xor ∨ op = .andNot) (hx : ev g E x = some (.int k a)) (hy : ev g E y = some (.int k b)) (hr : ∀ P w, (Op.intBits op k a b).run P w = .ok v w) : OpV c g E L ⟨d, .binOp op t x y yt, ty, pos, af, gu⟩ v := .mk fun _ w hE hg hS => by
  rcases ho with rfl | rfl | rfl | rfl <;> simp [execOp, hE.ev hg hx, hE.ev hg hy, eqGuard, binOp, hr]
theorem v_shl {k2 : IntKind} (hx : ev g E x = some (.int k a)) (hy : ev g E y = some (.int k2 b)) (h0 : ¬ b < 0) (hr : k.wrap (a * 2 ^ (min b.toNat k.bits)) = r) : OpV c g E L ⟨d, .binOp .shl t x y yt, ty, pos, af, gu⟩ (.int k r) := .mk fun _ w hE hg hS => by
  simp [execOp, hE.ev hg hx, hE.ev hg hy, eqGuard, binOp, Op.shift, hr, h0]
theorem v_shr {k2 : IntKind} (hx : ev g E x = some (.int k a)) (hy : ev g E y = some (.int k2 b)) (h0 : ¬ b < 0) (hr : a.fdiv (2 ^ (min b.toNat k.bits)) = r) : OpV c g E L ⟨d, .binOp .shr t x y yt, ty, pos, af, gu⟩ (.int k r) := .mk fun _ w hE hg hS => by
  simp [execOp, hE.ev hg hx, hE.ev hg hy, eqGuard, binOp, Op.shift, hr, h0]

theorem v_lss (hx : ev g E x = some (.int k a)) (hy : ev g E y = some (.int k b)) : OpV c g E L ⟨d, .binOp .lss t x y yt, ty, pos, af, gu⟩ (.bool (decide (a < b))) := .mk fun _ w hE hg hS => by
  simp [execOp, hE.ev hg hx, hE.ev hg hy, eqGuard, binOp, Op.intCmp]
theorem v_leq (hx : ev g E x = some (.int k a)) (hy : ev g E y = some (.int k b)) : OpV c g E L ⟨d, .binOp .leq t x y yt, ty, pos, af, gu⟩ (.bool (decide (a ≤ b))) := .mk fun _ w hE hg hS => by
  simp [execOp, hE.ev hg hx, hE.ev hg hy, eqGuard, binOp, Op.intCmp]
theorem v_gtr (hx : ev g E x = some (.int k a)) (hy : ev g E y = some (.int k b)) : OpV c g E L ⟨d, .binOp .gtr t x y yt, ty, pos, af, gu⟩ (.bool (decide (b < a))) := .mk fun _ w hE hg hS => by
  simp [execOp, hE.ev hg hx, hE.ev hg hy, eqGuard, binOp, Op.intCmp]
theorem v_geq (hx : ev g E x = some (.int k a)) (hy : ev g E y = some (.int k b)) : OpV c g E L ⟨d, .binOp .geq t x y yt, ty, pos, af, gu⟩ (.bool (decide (b ≤ a))) := .mk fun _ w hE hg hS => by
  simp [execOp, hE.ev hg hx, hE.ev hg hy, eqGuard, binOp, Op.intCmp]
theorem v_eql (hx : ev g E x = some (.int k a)) (hy : ev g E y = some (.int k b)) : OpV c g E L ⟨d, .binOp .eql t x y yt, ty, pos, af, gu⟩ (.bool (decide (a = b))) := .mk fun _ w hE hg hS => by
  simp [execOp, hE.ev hg hx, hE.ev hg hy, eqGuard, binOp, Op.intCmp, beqd]
theorem v_neq (hx : ev g E x = some (.int k a)) (hy : ev g E y = some (.int k b)) : OpV c g E L ⟨d, .binOp .neq t x y yt, ty, pos, af, gu⟩ (.bool (!decide (a = b))) := .mk fun _ w hE hg hS => by
  simp [execOp, hE.ev hg hx, hE.ev hg hy, eqGuard, binOp, Op.intCmp, bne, beqd]

variable {p q : List UInt8}
theorem toList_mk (l : List UInt8) : ByteArray.toList ⟨⟨l⟩⟩ = l := by simp
theorem append_mk (p q : List UInt8) : (⟨⟨p⟩⟩ : ByteArray) ++ ⟨⟨q⟩⟩ = ⟨⟨p ++ q⟩⟩ := ByteArray.ext (by simp)
theorem v_cat (hx : ev g E x = some (Str p)) (hy : ev g E y = some (Str q)) (h : p.length + q.length ≤ 9223372036854775807) : OpV c g E L ⟨d, .binOp .add t x y yt, ty, pos, af, gu⟩ (Str (p ++ q)) := .mk fun _ w hE hg hS => by
  have h1 : ¬ ((((⟨⟨p⟩⟩ : ByteArray).size + (⟨⟨q⟩⟩ : ByteArray).size : Nat) : Int) > IntKind.i64.max) := by
    simp only [ByteArray.size, List.size_toArray, IntKind.max, IntKind.signed, IntKind.bits]
    simp; omega
  simp only [execOp, hE.ev hg hx, hE.ev hg hy, eqGuard, binOp, Op.stringOp]
  rw [if_neg h1]
  simp [append_mk]
theorem v_seql (hx : ev g E x = some (Str p)) (hy : ev g E y = some (Str q)) : OpV c g E L ⟨d, .binOp .eql t x y yt, ty, pos, af, gu⟩ (.bool (decide (p = q))) := .mk fun _ w hE hg hS => by
  simp [execOp, hE.ev hg hx, hE.ev hg hy, eqGuard, binOp, Op.stringOp, beqd]
theorem v_sneq (hx : ev g E x = some (Str p)) (hy : ev g E y = some (Str q)) : OpV c g E L ⟨d, .binOp .neq t x y yt, ty, pos, af, gu⟩ (.bool (!decide (p = q))) := .mk fun _ w hE hg hS => by
  simp [execOp, hE.ev hg hx, hE.ev hg hy, eqGuard, binOp, Op.stringOp, beqd]
theorem v_slss (hx : ev g E x = some (Str p)) (hy : ev g E y = some (Str q)) : OpV c g E L ⟨d, .binOp .lss t x y yt, ty, pos, af, gu⟩ (.bool (Op.bytesLess p q)) := .mk fun _ w hE hg hS => by
  simp [execOp, hE.ev hg hx, hE.ev hg hy, eqGuard, binOp, Op.stringOp]
theorem v_sleq (hx : ev g E x = some (Str p)) (hy : ev g E y = some (Str q)) : OpV c g E L ⟨d, .binOp .leq t x y yt, ty, pos, af, gu⟩ (.bool (Op.bytesLess p q || decide (p = q))) := .mk fun _ w hE hg hS => by
  simp [execOp, hE.ev hg hx, hE.ev hg hy, eqGuard, binOp, Op.stringOp, beqd]

theorem v_not {b : Bool} (hx : ev g E x = some (.bool b)) : OpV c g E L ⟨d, .unOp .not t x, ty, pos, af, gu⟩ (.bool (!b)) := .mk fun _ w hE hg hS => by
  simp [execOp, hE.ev hg hx, Op.unary]
theorem v_neg (hx : ev g E x = some (.int k a)) (hr : k.wrap (0 - a) = r) : OpV c g E L ⟨d, .unOp .neg t x, ty, pos, af, gu⟩ (.int k r) := .mk fun _ w hE hg hS => by
  simp [execOp, hE.ev hg hx, Op.unary, Op.intArith, hr]
  simp at hr; rw [hr]
theorem v_conv {ds : TypeDesc} {k2 : IntKind} (hs : c.P.underlying t = some ds) (hd : c.P.underlying u = some (.int k)) (hx : ev g E x = some (.int k2 a)) (hr : k.wrap a = r) : OpV c g E L ⟨d, .convert t u x, ty, pos, af, gu⟩ (.int k r) := .mk fun _ w hE hg hS => by
  simp [execOp, hE.ev hg hx, convert, underlying, program, Sem.run, hs, hd, Conv.intToInt, hr]
theorem v_iface {ds : TypeDesc} (hs : c.P.underlying t = some ds) (hi : (match ds with | .interface _ => false | _ => true) = true) (hx : ev g E x = some v) : OpV c g E L ⟨d, .makeInterface t x, ty, pos, af, gu⟩ (.iface t v) := .mk fun _ w hE hg hS => by
  simp only [execOp, hE.ev hg hx, Instr.makeInterface, underlying, program, Sem.run_bind, Sem.run, hs, Result.andThen_ok, Sem.run_pure]
  cases ds <;> first | rfl | (cases hi)
theorem v_extract {vs : Array Value} {i : Nat} (hx : ev g E x = some (.tuple vs)) (hv : vs[i]? = some v) : OpV c g E L ⟨d, .extract x i, ty, pos, af, gu⟩ v := .mk fun _ w hE hg hS => by
  simp [execOp, hE.ev hg hx, Instr.extract, hv]
theorem v_nilCheck {p : Addr} (hx : ev g E x = some (.pointer (some p))) : OpV c g E L ⟨d, .nilCheck x, ty, pos, af, gu⟩ (.pointer (some p)) := .mk fun _ w hE hg hS => by
  simp [execOp, hE.ev hg hx]
theorem v_makeFunc {fn : Fn} {xs ys : List Operand} {vs us : List Value} (hx : evs g E xs = some vs) (hy : evs g E ys = some us) : OpV c g E L ⟨d, .makeFunc fn xs.toArray ys.toArray, ty, pos, af, gu⟩ (.func fn vs.toArray us.toArray) := .mk fun _ w hE hg hS => by
  simp [execOp, hE.evs hg hx, hE.evs hg hy, Instr.makeFunc]
end
end Go.Sl
