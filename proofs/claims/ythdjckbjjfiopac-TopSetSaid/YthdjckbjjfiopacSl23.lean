/- Draws whose guard is known not to hold; a struct stored into a slice. No condition. -/
import Derived.Test.YthdjckbjjfiopacSl22
namespace Go.Sl
set_option linter.unusedVariables false
set_option linter.unusedSimpArgs false
section
variable {c : Cx} {E : Env} {L : List HProp} {d : Nat} {ty : TypeId} {pos : String} {af : Array Edge} {K : List KI} {all : List Oper} {op : Op} {N : Value → List HProp → Prop} {Lf : List HProp} {pl : List (Nat × Bool)}
theorem d_no {i j s : Nat} {vs : Value} {want : Bool} (hi : all[i]? = some ⟨some d, op, ty, pos, af, some (j, want)⟩) (hj : (all[j]?).bind (·.dst) = some s) (hs : look none E s = some vs) (hw : notB vs want = true) [SC : Sub L Lf] (hd : dOk c.n d E = true)
    (k : G c (.plan all (fun w => Sat c.w0 w Lf) pl :: K) ((d, none, undef) :: E) L) : G c (.plan all (fun w => Sat c.w0 w Lf) ((i, false) :: pl) :: K) E L := fun a w hE hS => by
  have h1 := hE.look (gd_none a) hs
  have hy : yielded all.toArray a.tmps j ≠ some want := by
    cases vs <;> simp [yielded, hj, h1, notB] at hw ⊢
    all_goals (rename_i b; cases b <;> cases want <;> simp at hw ⊢)
  exact ⟨SC.sat hS, _, undef, by simpa using hi, .inr ⟨by simp [Region.wanted, hy], rfl⟩, k _ w (hE.put1 hd) hS⟩
end
section
variable {c : Cx} {g : Option (Nat × Bool)} {E : Env} {L L' : List HProp} {d : Option Tmp} {ty : TypeId} {pos : String} {af : Array Edge} {gu : Option (Nat × Bool)}
variable {x y z : Operand} {t u e : TypeId} {k : IntKind} {v : Value} {s : Option Addr} {b o i j n sz cap off : Nat}
theorem l_storeAS {rows : List (List Value)} {vs : List Value} {T : Nat} {F : List HProp} (hz : ∀ w, (sizeOf t).run c.P w = .ok sz w) (hx : ev g E x = some (adr s (j * sz))) (hy : ev g E y = some (.agg vs.toArray)) (hl : vs.length = sz) (h1 : ones vs = true) [R : OwR L s T sz cap rows F] (hj : j < rows.length) (h0 : 0 < sz) :
    OpL c g E L ⟨d, .store t x y, ty, pos, af, gu⟩ fun _ L' => L' = owL T sz s cap (rows.set j vs) :: F :=
  .of_skip fun a w hE hg hS => by
    rcases owL_open (R.sat hS) with ⟨rfl, rfl, rfl, _⟩ | ⟨b, cs, rfl, a1, a2, a3, a4, hP⟩
    · simp at hj
    · obtain ⟨hle, hrows⟩ := copy_rows (T := T) (l := j) (news := [vs]) h0 a1 a2 (by simp; omega) a3 (by simpa using hl) a4
      have hset : rows.take j ++ [vs] ++ rows.drop (j + [vs].length) = rows.set j vs := by
        rw [List.set_eq_take_append_cons_drop, if_pos hj]; simp
      rw [hset] at hrows
      have hfl : [vs].flatten = vs := by simp
      rw [hfl] at hle hrows
      have hr := run_storeCells (P := c.P) b (j * sz) T vs w cs 0 hP.at_ (by omega) h1
      have e1 : a.eval x = ptr b (j * sz) := by
        rw [hE.ev hg hx]
        simp [adr, add_mk, ptr]
      refine ⟨_, _, ?_, owL_shut (hP.set (o' := .cells (splice cs (j * sz) vs) T (0, 0)) rfl) (by rw [splice_size, a1]) (by simp; exact a2) (fun r hr => ?_) hrows, rfl⟩
      · simp only [execOp, e1, hE.ev hg hy, Instr.storeAt, Instr.sureAddr, storeVar]
        simp [hz, hl, Value.cells, hr, ptr, setB, Sem.run]
      · rcases List.mem_or_eq_of_mem_set hr with h | h
        · exact a3 r h
        · rw [h]; exact hl
end
end Go.Sl
