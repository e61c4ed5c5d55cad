/- What single operations do (7): operations that a guard skips, picks whose choice is known. No condition. -/
import Derived.Test.YthdjckbjjfiopacSl10
namespace Go.Sl
set_option linter.unusedVariables false
set_option linter.unusedSimpArgs false
section
variable {c : Cx} {g : Option (Nat × Bool)} {E : Env} {L L' : List HProp} {d : Option Tmp} {ty : TypeId} {pos : String} {af : Array Edge} {gu : Option (Nat × Bool)} {K : List KI}
variable {x y z : Operand} {t u e : TypeId} {k : IntKind} {v v1 v2 : Value} {s : Option Addr} {b o i j n sz cap off : Nat}
variable {all rest : List Oper} {dd : Nat} {op : Op} {N : Value → List HProp → Prop}
def notB (v : Value) (want : Bool) : Bool := match v with | .bool b => b != want | _ => true
/-- a guard that is known to hold it off, or that was held off itself -/
theorem g_no {i s : Nat} {vs : Value} {want : Bool} (hi : (all[i]?).bind (·.dst) = some s) (hs : look none E s = some vs) (hw : notB vs want = true) (hd : dOk c.n dd E = true)
    (k : G c (.ops all rest :: K) ((dd, none, undef) :: E) L) : G c (.ops all (⟨some dd, op, ty, pos, af, some (i, want)⟩ :: rest) :: K) E L := fun a w hE hS => by
  have h1 := hE.look (gd_none a) hs
  have hy : yielded all.toArray a.tmps i ≠ some want := by
    cases vs <;> simp [yielded, hi, h1, notB] at hw ⊢
    all_goals (rename_i b; cases b <;> cases want <;> simp at hw ⊢)
  refine wpList_step fun nx hk => ?_
  rw [if_neg (by simp [Region.wanted, hy])]
  exact hk _ _ (k _ w (hE.put1 hd) hS)
theorem v_pk1 {q : Bool} (hz : ev g E z = some (.bool q)) (hq : q = true) (hx : ev g E x = some v1) : OpV c g E L ⟨d, .pick z x y, ty, pos, af, gu⟩ v1 := .mk fun a w hE hg hS => by
  simp [execOp, hE.ev hg hz, hE.ev hg hx, asBool, hq]
theorem v_pk2 {q : Bool} (hz : ev g E z = some (.bool q)) (hq : q = false) (hy : ev g E y = some v1) : OpV c g E L ⟨d, .pick z x y, ty, pos, af, gu⟩ v1 := .mk fun a w hE hg hS => by
  simp [execOp, hE.ev hg hz, hE.ev hg hy, asBool, hq]
/-- the low n bits of an int -/
theorem v_mask (n : Nat) {a m : Int} {yt : TypeId} (hx : ev g E x = some (I a)) (hn : n ≤ 62) (hm : m = 2 ^ n - 1) : OpV c g E L ⟨d, .binOp .and t x (.const (.int .i64 m)) yt, ty, pos, af, gu⟩ (I (a % 2 ^ n)) := by
  refine v_bits (.inl rfl) hx rfl fun P w => ?_
  have h1 : (2 : Int) ^ n = ((2 ^ n : Nat) : Int) := by simp
  have hp : 2 ^ n ≤ 2 ^ 62 := Nat.pow_le_pow_right (by decide) hn
  have hp1 : 1 ≤ 2 ^ n := Nat.one_le_two_pow
  have h2 : (BitVec.ofInt IntKind.i64.bits m).toNat = 2 ^ n - 1 := by
    rw [BitVec.toNat_ofInt, hm, h1]
    have : IntKind.i64.bits = 64 := rfl
    rw [this, Int.emod_eq_of_lt (by omega) (by simp; omega)]
    omega
  have h3 : ((BitVec.ofInt IntKind.i64.bits a &&& BitVec.ofInt IntKind.i64.bits m).toNat : Int) = a % 2 ^ n := by
    rw [BitVec.toNat_and, h2, Nat.and_two_pow_sub_one_eq_mod, BitVec.toNat_ofInt]
    have e : IntKind.i64.bits = 64 := rfl
    rw [e, Int.natCast_emod, Int.toNat_of_nonneg (Int.emod_nonneg _ (by simp)), h1]
    refine Int.emod_emod_of_dvd _ ?_
    have : ((2 ^ n : Nat) : Int) ∣ ((2 ^ 64 : Nat) : Int) := Int.natCast_dvd_natCast.2 (Nat.pow_dvd_pow 2 (by omega))
    exact this
  have h4 : 0 ≤ a % 2 ^ n := Int.emod_nonneg _ (by rw [h1]; omega)
  have h5 : a % 2 ^ n < 2 ^ n := Int.emod_lt_of_pos _ (by rw [h1]; omega)
  simp only [Op.intBits, h3]
  rw [w64 (by omega)]
  rfl
end
end Go.Sl
