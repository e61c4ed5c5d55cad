/- Two owned slices lie apart. No condition. -/
import Derived.Test.YthdjckbjjfiopacSl21
import Derived.Lib.Overlaps
namespace Go.Sl
set_option linter.unusedVariables false
set_option linter.unusedSimpArgs false
section
variable {c : Cx} {g : Option (Nat × Bool)} {E : Env} {L L' : List HProp} {d : Option Tmp} {ty : TypeId} {pos : String} {af : Array Edge} {gu : Option (Nat × Bool)} {K : List KI}
variable {x y z : Operand} {t u e : TypeId} {k : IntKind} {v v1 v2 : Value} {s : Option Addr} {b o i j n sz cap off : Nat}
theorem Sat.ne {w0 w : World} {b b' : Nat} {o o' : Obj} (h : Sat w0 w (pt b o :: pt b' o' :: L)) : b ≠ b' := by
  obtain ⟨_, _, _, _, f, hf, hd⟩ := h
  have h0 : f 0 b = some (o, false) := (hf 0 _ rfl).1
  have h1 : f 1 b' = some (o', false) := (hf 1 _ rfl).1
  intro e
  subst e
  have := (hd 0 1 (by simp) (by simp) (by decide) b _ _ h0 h1).1
  cases this
/-- an owned slice that has rows has a base -/
theorem g_base {T : Nat} {rows : List (List Value)} {F : List HProp} (s : Option Addr) [R : OwR L s T sz cap rows F] (h0 : 0 < rows.length) (h : ∀ b, s = some ⟨b, 0, none⟩ → G c K E L) : G c K E L := fun a w hE hS => by
  rcases owL_open (R.sat hS) with ⟨_, h1, _⟩ | ⟨b, cs, h1, _⟩
  · rw [h1] at h0; simp at h0
  · exact h b h1 a w hE hS
/-- a call of a function that the model answers itself, by what is known of memory -/
theorem l_callXw {f : FuncId} {xs : List Operand} {vs : List Value} {ats : Array TypeId} (hcall : ∀ w, Sat c.w0 w L → (callFunc f vs.toArray).run c.P w = .ok (.value v) w) (hx : evs g E xs = some vs) :
    OpL c g E L ⟨d, .call { callee := .value (.func f), args := xs.toArray, argTypes := ats }, ty, pos, af, gu⟩ fun v' L' => v' = v ∧ L' = L :=
  .of_run fun a w hE hg hS => by
    have hc := hcall w hS
    rw [← hE.evs hg hx] at hc
    exact ⟨v, w, L, by simp [execOp, resolve, Act.eval, Deferred.ofValue, invoke, hc], hS, rfl, rfl⟩
theorem frozen_no {w : World} {b o : Nat} {cs : Array Value} {T : TypeId} (h : w.heap[b]? = some (.cells cs T (0, 0))) : w.frozen? ⟨b, o, none⟩ = false := by
  simp [World.frozen?, h]
/-- two owned slices, the second from some place on: they do not overlap -/
theorem over_no {P : Program} {w0 w : World} {F : List HProp} {T tR c1 c2 l1 l2 n1 n2 : Nat} {b1 b2 p : Nat} {r1 r2 : List (List Value)} (ht : P.underlying t = some (.slice T)) (hz : ∀ w, (sizeOf T).run P w = .ok sz w) (h0 : 0 < sz) (hc2 : 0 < r2.length)
    (hS : Sat w0 w (owL T sz (some ⟨b1, 0, none⟩) c1 r1 :: owL T sz (some ⟨b2, 0, none⟩) c2 r2 :: F)) :
    (Extern.SlicesOverlaps.overlaps #[t, t] #[tR] #[.slice (some ⟨b1, 0, none⟩) l1 n1, .slice (some ⟨b2, p, none⟩) l2 n2]).run P w = .ok (.bool false) w := by
  rcases owL_open hS with ⟨h, _⟩ | ⟨b, cs, h, a1, a2, a3, a4, hP⟩
  · cases h
  · injection h with h
    injection h with h
    subst h
    have hS2 : Sat w0 w (owL T sz (some ⟨b2, 0, none⟩) c2 r2 :: pt b1 (.cells cs T (0, 0)) :: F) := (hP.front (i := 1) rfl)
    rcases owL_open hS2 with ⟨h, _⟩ | ⟨b, cs', h, e1, e2, e3, e4, hP2⟩
    · cases h
    · injection h with h
      injection h with h
      subst h
      have hne := Sat.ne hP2
      have hb1 := hP.at_
      have hb2 := hP2.at_
      have hk : cs'.size ≠ 0 := by
        rw [e1]
        have := Nat.mul_pos (show 0 < c2 by omega) h0
        omega
      exact Lib.run_overlaps_apart w t tR T ht sz hz ⟨b1, 0, none⟩ ⟨b2, p, none⟩ l1 n1 l2 n2 (fun h => hne h.symm) T T cs.size cs'.size (by simp [World.shape?, hb1]) (by simp [World.shape?, hb2]) hk (frozen_no hb1) (frozen_no hb1)
end
end Go.Sl
