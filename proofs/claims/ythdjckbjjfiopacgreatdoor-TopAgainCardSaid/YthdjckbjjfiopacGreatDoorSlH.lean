/- The layer, part H. No condition. -/
import Derived.Test.YthdjckbjjfiopacGreatDoorSlG
namespace Go.Sl
set_option linter.unusedVariables false
set_option linter.unusedSimpArgs false
section
variable {c : Cx} {E : Env} {L Lf : List HProp} {d : Nat} {ty : TypeId} {pos : String} {af : Array Edge} {K : List KI} {all : List Oper} {op : Op} {v : Value} {N : Value → List HProp → Prop} {t : PT}
theorem t_gl {i j s : Nat} {b want : Bool} (hi : all[i]? = some ⟨some d, op, ty, pos, af, some (j, want)⟩) (hj : (all[j]?).bind (·.dst) = some s) (hs : look none E s = some (.bool b)) (hw : b = want) [SC : Sub L Lf]
    (h : OpL c none E L ⟨some d, op, ty, pos, af, some (j, want)⟩ N) (hd : dOk c.n d E = true)
    (k : ∀ v L', N v L' → G c (KT c all Lf t K) ((d, none, v) :: E) L') : G c (KT c all Lf (.l i t) K) E L := fun a w hE hS => by
  have hy := yielded_of (a := a) hj hE hs
  refine ⟨SC.sat hS, ?_⟩
  unfold wpOp
  simp only [List.getElem?_toArray, hi]
  rw [if_pos (by simp [Region.wanted, hy, hw])]
  exact .inl (h.out a w hE (gd_none a) hS _ _ fun v w' L' hS' hN => k v L' hN _ w' (hE.put1 hd) hS')
theorem t_gv1 {i j s : Nat} {b want : Bool} (hi : all[i]? = some ⟨some d, op, ty, pos, af, some (j, want)⟩) (hj : (all[j]?).bind (·.dst) = some s) (hs : look none E s = some (.bool b)) (hw : b = want) [SC : Sub L Lf]
    (h : OpV c none E Lf ⟨some d, op, ty, pos, af, some (j, want)⟩ v) (hd : dOk c.n d E = true)
    (k : G c (KT c all Lf t K) ((d, none, v) :: E) L) : G c (KT c all Lf (.q i t) K) E L := fun a w hE hS => by
  have hy := yielded_of (a := a) hj hE hs
  exact ⟨SC.sat hS, _, v, by simpa using hi, .inl ⟨by simp [Region.wanted, hy, hw], fun w' hw' => .inl (h.out a w' hE (gd_none a) hw')⟩, k _ w (hE.put1 hd) hS⟩
end
/-- a value that is taken in its turn -/
theorem OpL.ofVl {c : Cx} {g : Option (Nat × Bool)} {E : Env} {L : List HProp} {o : Oper} {v : Value} (h : OpV c g E L o v) : OpL c g E L o (fun v' L' => v' = v ∧ L' = L) := ⟨fun a w hE hg hS nx Q hn => wp_of_opv h hE hg hS (hn v w L hS ⟨rfl, rfl⟩)⟩
end Go.Sl
