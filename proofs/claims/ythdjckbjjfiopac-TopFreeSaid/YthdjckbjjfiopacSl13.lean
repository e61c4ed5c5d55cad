/- What single operations do (9): bytes to strings, slices compared with nil. No condition. -/
import Derived.Test.YthdjckbjjfiopacSl12
import Derived.Laws.BytesString
namespace Go.Sl
set_option linter.unusedVariables false
set_option linter.unusedSimpArgs false
def bytesR (l : List UInt8) : List (List Value) := l.map fun b => [By b.toNat]
theorem bytesR_len (l : List UInt8) : (bytesR l).length = l.length := by simp [bytesR]
theorem bytesR_rep (n : Nat) : List.replicate n [By 0] = bytesR (List.replicate n 0) := by simp [bytesR]
theorem bytesR_flat (l : List UInt8) : (bytesR l).flatten = (l.map fun b => (b.toNat : Int)).map (Value.int .u8) := by
  induction l with
  | nil => rfl
  | cons b l ih => simpa [bytesR] using ih
theorem push_bytes (l : List UInt8) : ∀ (p : List UInt8), (l.map fun b => (b.toNat : Int)).foldl (fun (r : ByteArray) n => r.push (UInt8.ofNat n.toNat)) ⟨⟨p⟩⟩ = ⟨⟨p ++ l⟩⟩ := by
  induction l with
  | nil => intro p; simp
  | cons b l ih =>
    intro p
    have e : (⟨⟨p⟩⟩ : ByteArray).push (UInt8.ofNat ((b.toNat : Int)).toNat) = ⟨⟨p ++ [b]⟩⟩ := by
      have : UInt8.ofNat ((b.toNat : Int)).toNat = b := by simp
      rw [this]; simp [ByteArray.push]
    simp only [List.map_cons, List.foldl_cons, e, ih]
    simp
section
variable {c : Cx} {g : Option (Nat × Bool)} {E : Env} {L L' : List HProp} {d : Option Tmp} {ty : TypeId} {pos : String} {af : Array Edge} {gu : Option (Nat × Bool)} {K : List KI}
variable {x y z : Operand} {t u e : TypeId} {k : IntKind} {v v1 v2 : Value} {s : Option Addr} {b o i j n sz cap off : Nat}
theorem v_bytesStr {l : List UInt8} {rows : List (List Value)} (hu : c.P.underlying t = some (.slice e)) (he : c.P.underlying e = some (.int .u8)) (hu2 : c.P.underlying u = some .string) (hx : ev g E x = some (sl s n cap)) [Y : SlR L s 1 rows] (hr : rows = bytesR l) (hn : n = l.length) :
    OpV c g E L ⟨d, .convert t u x, ty, pos, af, gu⟩ (Str l) := .mk fun a w hE hg hS => by
  have hY := Y.out _ _ hS
  subst hr hn
  have e1 := hE.ev hg hx
  have key : (Conv.bytesToString (sl s l.length cap)).run c.P w = .ok (Str l) w := by
    cases s with
    | none =>
      rcases hY with h | ⟨b, off, o, h, _⟩
      · have : l = [] := by simpa [bytesR] using h
        subst this
        simp [Conv.bytesToString, sl, Sem.run]; rfl
      · cases h
    | some a =>
      have hl : (loadCells a l.length).run c.P w = .ok ((l.map fun b => (b.toNat : Int)).map (Value.int .u8)).toArray w := by
        have := run_first' (P := c.P) (w := w) (cap := cap) (m := l.length) (n := l.length) (sz := 1) (rows := bytesR l) (s := some a) (by decide) (by simp [bytesR]) (bytesR_len l) hY
        rw [bytesR_flat] at this
        simpa [Builtin.firstCells, sl] using this
      have := run_bytesToString w a l.length cap _ hl
      rw [show ByteArray.empty = ⟨⟨[]⟩⟩ from rfl, push_bytes] at this
      simpa [sl] using this
  simp only [execOp, e1, sl]
  simp [convert, underlying, program, Sem.run, hu, hu2, he]
  have key2 : (Conv.bytesToString (Value.slice s l.length cap)).run c.P w = .ok (Str l) w := key
  simp [key2]
theorem wu64 {n : Int} (h : 0 ≤ n ∧ n < 18446744073709551616) : IntKind.u64.wrap n = n := by
  show n % 2 ^ 64 = n
  omega
theorem v_maskU (n : Nat) {a m : Int} {yt : TypeId} (hx : ev g E x = some (.int .u64 a)) (ha : 0 ≤ a ∧ a < 18446744073709551616) (hn : n ≤ 63) (hm : m = 2 ^ n - 1) : OpV c g E L ⟨d, .binOp .and t x (.const (.int .u64 m)) yt, ty, pos, af, gu⟩ (.int .u64 (a % 2 ^ n)) := by
  refine v_bits (.inl rfl) hx rfl fun P w => ?_
  have h1 : (2 : Int) ^ n = ((2 ^ n : Nat) : Int) := by simp
  have hp : 2 ^ n ≤ 2 ^ 63 := Nat.pow_le_pow_right (by decide) hn
  have hp1 : 1 ≤ 2 ^ n := Nat.one_le_two_pow
  have e : IntKind.u64.bits = 64 := rfl
  have h2 : (BitVec.ofInt IntKind.u64.bits m).toNat = 2 ^ n - 1 := by
    rw [BitVec.toNat_ofInt, hm, h1, e, Int.emod_eq_of_lt (by omega) (by simp; omega)]
    omega
  have h3 : ((BitVec.ofInt IntKind.u64.bits a &&& BitVec.ofInt IntKind.u64.bits m).toNat : Int) = a % 2 ^ n := by
    rw [BitVec.toNat_and, h2, Nat.and_two_pow_sub_one_eq_mod, BitVec.toNat_ofInt, e, Int.natCast_emod, Int.toNat_of_nonneg (Int.emod_nonneg _ (by simp)), h1, Int.emod_eq_of_lt ha.1 (by simpa using ha.2)]
  have h4 : 0 ≤ a % 2 ^ n := Int.emod_nonneg _ (by rw [h1]; omega)
  have h5 : a % 2 ^ n < 2 ^ n := Int.emod_lt_of_pos _ (by rw [h1]; omega)
  simp only [Op.intBits, h3]
  rw [wu64 (by omega)]
  rfl
/-- a slice compared with nil -/
theorem v_slEq (hu : c.P.underlying t = some (.slice e)) (hx : ev g E x = some (sl s n cap)) : OpV c g E L ⟨d, .binOp .eql t x (.const (.slice none 0 0)) u, ty, pos, af, gu⟩ (Bo s.isNone) := .mk fun a w hE hg hS => by
  have h3 : a.eval (.const (.slice none 0 0)) = .slice none 0 0 := rfl
  have h4 : (Op.equal t (sl s n cap) (.slice none 0 0)).run c.P w = .ok s.isNone w := by
    show (Op.equalIn (9999 + 1) _ _ _).run _ _ = _
    unfold Op.equalIn
    cases s <;> simp [underlying, program, Sem.run, hu, sl]
  simp only [execOp, hE.ev hg hx, h3, sl, eqGuard, binOp] at h4 ⊢
  simp [h4, Sem.run]
end
end Go.Sl
