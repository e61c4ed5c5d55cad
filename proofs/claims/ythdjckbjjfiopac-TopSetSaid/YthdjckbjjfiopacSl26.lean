/- Fields and parts that are arrays. No condition. -/
import Derived.Test.YthdjckbjjfiopacTb
namespace Go.Sl
set_option linter.unusedVariables false
set_option linter.unusedSimpArgs false
section
variable {c : Cx} {g : Option (Nat × Bool)} {E : Env} {L : List HProp} {d : Option Tmp} {ty : TypeId} {pos : String} {af : Array Edge} {gu : Option (Nat × Bool)}
variable {x y z : Operand} {t u e : TypeId} {k : IntKind} {v : Value} {s : Option Addr} {b o i j n sz cap off : Nat}
theorem v_fieldA {fs : Array Field} {f : Field} {cs : Array Value} (vs : List Value) (hu : c.P.underlying t = some (.struct fs)) (hf : fs[i]? = some f) (ha : ∀ w, (isAgg f.type).run c.P w = .ok true w) (hz : ∀ w, (sizeOf f.type).run c.P w = .ok sz w) (hx : ev g E x = some (.agg cs)) (hv : cs.extract f.offset (f.offset + sz) = vs.toArray) :
    OpV c g E L ⟨d, .field t x i, ty, pos, af, gu⟩ (.agg vs.toArray) := .mk fun a w hE hg hS => by
  simp [execOp, hE.ev hg hx, Instr.field, underlying, program, Sem.run, hu, hf, asAgg, part, ha, hz, hv]
end
theorem tb_setdel {ρ : Type} (enc : ρ → Value) {n : Nat} {B : Int → Option ρ} {k : Int} {v : Value} : (mdel (mset (tb enc n B) k v) k).Perm (tb enc n (pset B k none)) := by
  refine perm_of_lk (mdel_keys _ _ (mset_keys _ _ _ (tb_nodup enc n B))) (tb_nodup enc n _) fun q => ?_
  rw [lk_mdel, lk_mset, lk_tb, lk_tb]
  by_cases h : k = q
  · subst h; simp [pset]
  · simp [h, pset, Ne.symm h]
theorem splice_whole {cs : Array Value} {vs : List Value} (h : cs.size = vs.length) : splice cs 0 vs = vs.toArray := by
  apply Array.ext_getElem?
  intro i
  rw [splice_at cs 0 vs (by omega)]
  by_cases hi : i < vs.length
  · rw [if_pos (by omega)]; simp
  · rw [if_neg (by omega), Array.getElem?_eq_none (by omega), Array.getElem?_eq_none (by simp; omega)]
theorem set_toArray (l : List Value) (i : Nat) (v : Value) : l.toArray.setIfInBounds i v = (l.set i v).toArray := by rw [List.setIfInBounds_toArray]
end Go.Sl
