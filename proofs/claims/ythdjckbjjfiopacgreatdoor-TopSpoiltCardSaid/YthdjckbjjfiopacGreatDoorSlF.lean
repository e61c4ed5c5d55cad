/- The layer, part F: ranges over functions. No condition. -/
import Derived.Test.YthdjckbjjfiopacGreatDoorSlE
import Derived.RangeFuncRecord
import Derived.RangeFuncIn
import Derived.TacticsIn
import Derived.OrdersIn
namespace Go.Sl
set_option linter.unusedVariables false
set_option linter.unusedSimpArgs false
abbrev FW := Fence.wide
/-! what was walked without a fence, within a round -/
section
variable {P : Program} {l : Nat} {Q Q' : Post} {ops : Array Oper}
end
/-! within a round -/
def kr (P : Program) (l : Nat) (Q : Post) : List KI → Post
  | [], e, a, w => Q e a w
  | .code c :: K, e, a, w => match e with
    | .normal => c.wpIn (FW.inRound l) 0 P (kr P l Q K) a w
    | e => kr P l Q K e a w
  | .blk id :: K, e, a, w => Exit.inBlock id (kr P l Q K) e a w
  | _ :: K, e, a, w => kr P l Q K e a w
/-- the round's own activation: nothing is put off -/
@[reducible] def Cx.rd (c : Cx) : Cx := { c with n := ⟨c.n.n, []⟩ }
def H (c : Cx) (l : Nat) (Q : Post) (K : List KI) (E : Env) (L : List HProp) : Prop := ∀ a w, EOk c.rd.n E a → Sat c.w0 w L → kr c.P l Q K .normal a w
section
variable {c : Cx} {l : Nat} {Q : Post} {K : List KI} {E : Env} {L : List HProp} {x y : Code}
end
section
variable {c : Cx} {E : Env} {L L1 L2 : List HProp} {d : Nat} {ty : TypeId} {pos : String} {af : Array Edge} {K : List KI} {all rest : List Oper} {op : Op} {v : Value} {l : Nat} {x f : Operand} {ats : Array TypeId}
end
theorem Sat.swap {w0 w : World} {x y : HProp} {R : List HProp} : ∀ {X : List HProp}, Sat w0 w (X ++ y :: x :: R) → Sat w0 w (X ++ x :: y :: R) := fun {X} h => by
  obtain ⟨h1, h2, h3, h4, f, hf, hd⟩ := h
  obtain ⟨σ, hσ⟩ : ∃ σ : Nat → Nat, σ = fun i => if i = X.length then X.length + 1 else if i = X.length + 1 then X.length else i := ⟨_, rfl⟩
  have hget : ∀ i, (X ++ x :: y :: R)[i]? = (X ++ y :: x :: R)[σ i]? := fun i => by
    rw [hσ]
    simp only
    split
    · rename_i h; subst h
      rw [List.getElem?_append_right (by omega), List.getElem?_append_right (by omega)]
      simp
    · split
      · rename_i h; subst h
        rw [List.getElem?_append_right (by omega), List.getElem?_append_right (by omega)]
        simp
      · rename_i h5 h6
        by_cases hi : i < X.length
        · rw [List.getElem?_append_left hi, List.getElem?_append_left hi]
        · rw [List.getElem?_append_right (by omega), List.getElem?_append_right (by omega)]
          obtain ⟨j, rfl⟩ : ∃ j, i = X.length + 2 + j := ⟨i - X.length - 2, by omega⟩
          rw [show X.length + 2 + j - X.length = j + 2 by omega]
          simp
  have hlen : (X ++ x :: y :: R).length = (X ++ y :: x :: R).length := by simp
  have hl2 : (X ++ y :: x :: R).length = X.length + R.length + 2 := by simp; omega
  have hσlt : ∀ i, i < (X ++ x :: y :: R).length → σ i < (X ++ y :: x :: R).length := fun i hi => by
    rw [hlen] at hi
    rw [hσ]
    simp only
    split
    · omega
    · split
      · omega
      · exact hi
  refine ⟨h1, h2, h3, h4, fun i => f (σ i), fun i A hA => hf (σ i) A (by rw [← hget]; exact hA), fun i j hi hj hne => hd _ _ (hσlt i hi) (hσlt j hj) fun e => hne ?_⟩
  rw [hσ] at e
  simp only at e
  split at e <;> split at e <;> (try split at e) <;> (try split at e) <;> omega
theorem Sat.perm {w0 w : World} {L L' : List HProp} (hp : L.Perm L') : ∀ X : List HProp, Sat w0 w (X ++ L) → Sat w0 w (X ++ L') := by
  induction hp with
  | nil => intro X h; exact h
  | cons x _ ih =>
    intro X h
    have := ih (X ++ [x]) (by simpa using h)
    simpa using this
  | swap x y l => intro X h; exact Sat.swap h
  | trans _ _ ih1 ih2 => intro X h; exact ih2 X (ih1 X h)
section
variable {c : Cx} {E : Env} {L : List HProp} {K : List KI}
end
end Go.Sl
