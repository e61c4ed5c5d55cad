/- A loud operation under a guard that is known, in a region that draws. No condition. -/
import Derived.Test.YthdjckbjjfiopacSl16
namespace Go.Sl
set_option linter.unusedVariables false
set_option linter.unusedSimpArgs false
section
variable {c : Cx} {E : Env} {L : List HProp} {d : Nat} {ty : TypeId} {pos : String} {af : Array Edge} {K : List KI} {all : List Oper} {op : Op} {N : Value → List HProp → Prop} {Lf : List HProp} {pl : List (Nat × Bool)}
theorem d_gl {i j s : Nat} {b want : Bool} (hi : all[i]? = some ⟨some d, op, ty, pos, af, some (j, want)⟩) (hj : (all[j]?).bind (·.dst) = some s) (hs : look none E s = some (.bool b)) (hw : b = want) [SC : Sub L Lf]
    (h : OpL c none E L ⟨some d, op, ty, pos, af, some (j, want)⟩ N) (hd : dOk c.n d E = true)
    (k : ∀ v L', N v L' → G c (.plan all (fun w => Sat c.w0 w Lf) pl :: K) ((d, none, v) :: E) L') : G c (.plan all (fun w => Sat c.w0 w Lf) ((i, true) :: pl) :: K) E L := fun a w hE hS => by
  have hy := yielded_of (a := a) hj hE hs
  refine ⟨SC.sat hS, ?_⟩
  unfold wpOp
  simp only [List.getElem?_toArray, hi]
  rw [if_pos (by simp [Region.wanted, hy, hw])]
  exact .inl (h.out a w hE (gd_none a) hS _ _ fun v w' L' hS' hN => k v L' hN _ w' (hE.put1 hd) hS')
theorem d_gv1 {i j s : Nat} {b want : Bool} {v : Value} (hi : all[i]? = some ⟨some d, op, ty, pos, af, some (j, want)⟩) (hj : (all[j]?).bind (·.dst) = some s) (hs : look none E s = some (.bool b)) (hw : b = want) [SC : Sub L Lf]
    (h : OpV c none E Lf ⟨some d, op, ty, pos, af, some (j, want)⟩ v) (hd : dOk c.n d E = true)
    (k : G c (.plan all (fun w => Sat c.w0 w Lf) pl :: K) ((d, none, v) :: E) L) : G c (.plan all (fun w => Sat c.w0 w Lf) ((i, false) :: pl) :: K) E L := fun a w hE hS => by
  have hy := yielded_of (a := a) hj hE hs
  exact ⟨SC.sat hS, _, v, by simpa using hi, .inl ⟨by simp [Region.wanted, hy, hw], fun w' hw' => .inl (h.out a w' hE (gd_none a) hw')⟩, k _ w (hE.put1 hd) hS⟩
end
end Go.Sl
