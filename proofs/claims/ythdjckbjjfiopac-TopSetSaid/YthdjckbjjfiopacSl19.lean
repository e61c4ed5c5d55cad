/- What single operations do: append a part of another slice. No condition. -/
import Derived.Test.YthdjckbjjfiopacSl18
namespace Go.Sl
set_option linter.unusedVariables false
set_option linter.unusedSimpArgs false
section
variable {c : Cx} {g : Option (Nat × Bool)} {E : Env} {L L' : List HProp} {d : Option Tmp} {ty : TypeId} {pos : String} {af : Array Edge} {gu : Option (Nat × Bool)}
variable {x y z y3 : Operand} {t u e : TypeId} {k : IntKind} {v : Value} {s : Option Addr} {b o i j n sz cap off : Nat}
theorem SlR.part {F : List HProp} {s2 ya : Option Addr} {p m : Nat} {rows2 : List (List Value)} (Y : SlR F s2 sz rows2) (hya : At ya s2 p sz m) (hpm : p + m ≤ rows2.length) : SlR F ya sz ((rows2.drop p).take m) := ⟨fun w0 w h => by
  by_cases hm0 : m = 0
  · left; subst hm0; rfl
  · rcases Y.out w0 w h with h | ⟨b, off, o, rfl, hh, hR⟩
    · subst h; simp at hpm; omega
    · exact .inr ⟨b, off + p * sz, o, hya.addr (by omega), hh, hR.part⟩⟩
theorem l_appendAt {s2 ya : Option Addr} {p m cap2 : Nat} {zv : Value} {info : TypeInfo} {T : Nat} {rows rows2 : List (List Value)} {F : List HProp} (hu : c.P.underlying t = some (.slice T)) (hz : ∀ w, (sizeOf T).run c.P w = .ok sz w) (hzv : ∀ w, (zeroValue T).run c.P w = .ok zv w) (hzs : zv.cells.size = sz) (hti : ∀ w, (typeInfo T).run c.P w = .ok info w) (h0 : 0 < sz)
    (hx : ev g E x = some (sl s n cap)) (hy : ev g E y = some (sl ya m cap2)) [R : OwR L s T sz cap rows F] (hn : rows.length = n) [Y : SlR F s2 sz rows2] (hya : At ya s2 p sz m) (hpm : p + m ≤ rows2.length) (hnl : ∀ r ∈ rows2, r.length = sz) (h1 : ∀ r ∈ rows2, ones r = true)
    (hb : n + m ≤ 1073741824 ∧ 0 < info.bytes ∧ info.bytes ≤ 4096) :
    OpL c g E L ⟨d, .call { callee := .builtin .append, args := #[x, y], argTypes := #[t, t] }, ty, pos, af, gu⟩ fun v L' => ∃ s' cap', v = sl s' (n + m) cap' ∧ L' = owL T sz s' cap' (rows ++ (rows2.drop p).take m) :: F :=
  l_append (Y := SlR.part Y hya hpm) hu hz hzv hzs hti h0 hx hy hn (by simp; omega) (fun r hr => hnl r (List.mem_of_mem_drop (List.mem_of_mem_take hr))) (fun r hr => h1 r (List.mem_of_mem_drop (List.mem_of_mem_take hr))) hb
/-- an element of an array that lies within an element of a slice -/
theorem v_idxAdr {rows : List (List Value)} {q : Int} {nn sz' f : Nat} (j : Nat) (hu : c.P.underlying t = some (.array nn e)) (hz : ∀ w, (sizeOf e).run c.P w = .ok sz w) (hx : ev g E x = some (adr s (i * sz' + f))) (hy : ev g E y = some (.int k q)) (hj : q = (j : Int)) (hlt : j < nn) [h : SlR L s sz' rows] (hne : i < rows.length) :
    OpV c g E L ⟨d, .indexAddr t x y, ty, pos, af, gu⟩ (adr s (i * sz' + (f + j * sz))) := .mk fun a w hE hg hS => by
  rcases h.out _ _ hS with h | ⟨b, o, _, rfl, _⟩
  · subst h; simp at hne
  · subst hj
    have : (j : Int) < (nn : Int) := by omega
    have e1 := hE.ev hg hx
    simp only [adr, Option.map_some] at e1
    simp [execOp, e1, hE.ev hg hy, Instr.indexAt, underlying, program, Sem.run, hu, asIntOf, Instr.sureAddr, this, hlt, hz, add_mk, adr, Nat.add_assoc]
/-- the rows fit -/
theorem g_cap {K : List KI} {T : Nat} {rows : List (List Value)} {F : List HProp} (s : Option Addr) [R : OwR L s T sz cap rows F] (h : rows.length ≤ cap → G c K E L) : G c K E L := fun a w hE hS => h (by
  rcases owL_open (R.sat hS) with ⟨_, h1, h2, _⟩ | ⟨b, cs, h1, h2, h3, _⟩
  · rw [h1]; simp
  · exact h3) a w hE hS
end
end Go.Sl
