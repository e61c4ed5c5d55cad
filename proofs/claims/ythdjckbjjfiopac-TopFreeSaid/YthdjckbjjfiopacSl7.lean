/- What single operations do (3): new memory, stores, append, calls. No condition. -/
import Derived.Test.YthdjckbjjfiopacSl6
namespace Go.Sl
set_option linter.unusedVariables false
set_option linter.unusedSimpArgs false

def one : Value → Bool
  | .agg _ => false
  | .tuple _ => false
  | _ => true
def ones : List Value → Bool
  | [] => true
  | v :: vs => match one v with | true => ones vs | false => false
theorem ones_mem {vs : List Value} (h : ones vs = true) : ∀ v ∈ vs, one v = true := by
  induction vs with
  | nil => simp
  | cons v vs ih =>
    unfold ones at h
    split at h
    · intro u hu
      rcases List.mem_cons.1 hu with rfl | hu
      · assumption
      · exact ih h u hu
    · cases h
theorem ones_of {vs : List Value} (h : ∀ v ∈ vs, one v = true) : ones vs = true := by
  induction vs with
  | nil => rfl
  | cons v vs ih =>
    unfold ones
    rw [h v (by simp)]
    exact ih fun u hu => h u (by simp [hu])
def splice (cs : Array Value) (o : Nat) : List Value → Array Value
  | [] => cs
  | v :: vs => splice (cs.setIfInBounds o v) (o + 1) vs
theorem splice_size (cs : Array Value) (o : Nat) (vs : List Value) : (splice cs o vs).size = cs.size := by
  induction vs generalizing cs o with
  | nil => rfl
  | cons v vs ih => simp [splice, ih]
theorem splice_at (cs : Array Value) (o : Nat) (vs : List Value) (h : o + vs.length ≤ cs.size) (i : Nat) : (splice cs o vs)[i]? = if o ≤ i ∧ i < o + vs.length then vs[i - o]? else cs[i]? := by
  induction vs generalizing cs o with
  | nil => simp [splice]; omega
  | cons v vs ih =>
    simp only [splice]
    rw [ih _ _ (by simp at h ⊢; omega)]
    simp at h ⊢
    by_cases h1 : i = o
    · subst h1
      have : i < cs.size := by omega
      simp [this]
      omega
    · by_cases h2 : o + 1 ≤ i ∧ i < o + 1 + vs.length
      · have h3 : o ≤ i ∧ i < o + (vs.length + 1) := by omega
        rw [if_pos h2, if_pos h3]
        obtain ⟨k, rfl⟩ : ∃ k, i = o + 1 + k := ⟨i - (o + 1), by omega⟩
        simp [show o + 1 + k - (o + 1) = k by omega, show o + 1 + k - o = k + 1 by omega]
      · have h3 : ¬ (o ≤ i ∧ i < o + (vs.length + 1)) := by omega
        rw [if_neg h2, if_neg h3, Array.getElem?_setIfInBounds_ne (by omega)]

def setB (w : World) (b : Nat) (o : Obj) : World := { w with heap := w.heap.setIfInBounds b o }
theorem run_store {P : Program} {w : World} {b i : Nat} {cs : Array Value} {T : TypeId} {v : Value} (h : w.heap[b]? = some (.cells cs T (0, 0))) (hi : i < cs.size) (h1 : one v = true) :
    (store ⟨b, i, none⟩ v).run P w = .ok () (setB w b (.cells (cs.setIfInBounds i v) T (0, 0))) := by
  have hc : w.cell? ⟨b, i, none⟩ = some cs[i] := cell_of h (by simp [objCell, hi])
  have hf : w.frozen? ⟨b, i, none⟩ = false := by simp [World.frozen?, h]
  have hs : w.setCell ⟨b, i, none⟩ v = setB w b (.cells (cs.setIfInBounds i v) T (0, 0)) := by
    unfold World.setCell setB
    congr 1
    apply Array.ext_getElem?
    intro k
    rw [Array.getElem?_modify, Array.getElem?_setIfInBounds]
    have hlt := (Array.getElem?_eq_some_iff.1 h).1
    by_cases hk : b = k
    · subst hk
      have he := (Array.getElem?_eq_some_iff.1 h).2
      simp [hlt, he]
    · simp [hk]
  show Sem.run P (Sem.store .plain ⟨b, i, none⟩ v (.pure ())) w = _
  cases v <;> first | (cases h1; done) | simp [Sem.run, hc, hf, hs]
theorem run_storeCells {P : Program} (b o : Nat) (T : TypeId) : ∀ (vs : List Value) (w : World) (cs : Array Value) (i : Nat), w.heap[b]? = some (.cells cs T (0, 0)) → o + i + vs.length ≤ cs.size → ones vs = true →
    (storeCells ⟨b, o, none⟩ vs i).run P w = .ok () (setB w b (.cells (splice cs (o + i) vs) T (0, 0)))
  | [], w, cs, i, h, _, _ => by
    have : setB w b (.cells cs T (0, 0)) = w := by
      unfold setB
      have hlt := (Array.getElem?_eq_some_iff.1 h).1
      have he := (Array.getElem?_eq_some_iff.1 h).2
      have : w.heap.setIfInBounds b (.cells cs T (0, 0)) = w.heap := by
        apply Array.ext_getElem?
        intro k
        rw [Array.getElem?_setIfInBounds]
        by_cases hk : b = k
        · subst hk; simp [h, hlt, he]
        · simp [hk]
      rw [this]
    simp [storeCells, splice, this]
  | v :: vs, w, cs, i, h, hi, h1 => by
    have hv := ones_mem h1
    have hs := run_store (P := P) (i := o + i) h (by simp at hi; omega) (hv v (by simp))
    have hlt := (Array.getElem?_eq_some_iff.1 h).1
    have ih := run_storeCells (P := P) b o T vs (setB w b (.cells (cs.setIfInBounds (o + i) v) T (0, 0))) (cs.setIfInBounds (o + i) v) (i + 1) (by simp [setB, hlt]) (by simp at hi ⊢; omega) (ones_of fun u hu => hv u (by simp [hu]))
    unfold storeCells
    rw [Sem.run_bind, add_mk, hs]
    simp only [Result.andThen_ok]
    rw [ih]
    simp [splice, setB, Nat.add_assoc]

section
variable {c : Cx} {g : Option (Nat × Bool)} {E : Env} {L L' : List HProp} {d : Option Tmp} {ty : TypeId} {pos : String} {af : Array Edge} {gu : Option (Nat × Bool)}
variable {x y z : Operand} {t u e : TypeId} {k : IntKind} {v : Value} {s : Option Addr} {b o i j n sz cap off : Nat}

theorem OpL.of_run {op : Op} {N : Value → List HProp → Prop} (h : ∀ a w, EOk c.n E a → gd g a → Sat c.w0 w L → ∃ v w' L', (execOp a.eval ⟨d, op, ty, pos, af, gu⟩).run c.P w = .ok (.value v) w' ∧ Sat c.w0 w' L' ∧ N v L') : OpL c g E L ⟨d, op, ty, pos, af, gu⟩ N := by
  constructor
  intro a w hE hg hS nx Q hn
  obtain ⟨v, w', L', h1, h2, h3⟩ := h a w hE hg hS
  unfold Oper.wp
  rw [h1]
  exact hn v w' L' h2 h3
theorem OpL.of_skip {op : Op} {N : Value → List HProp → Prop} (h : ∀ a w, EOk c.n E a → gd g a → Sat c.w0 w L → ∃ w' L', (execOp a.eval ⟨d, op, ty, pos, af, gu⟩).run c.P w = .ok .skip w' ∧ Sat c.w0 w' L' ∧ N undef L') : OpL c g E L ⟨d, op, ty, pos, af, gu⟩ N := by
  constructor
  intro a w hE hg hS nx Q hn
  obtain ⟨w', L', h1, h2, h3⟩ := h a w hE hg hS
  unfold Oper.wp
  rw [h1]
  exact hn undef w' L' h2 h3

theorem l_alloc (cs : Array Value) (hz : ∀ w, (zeroValue t).run c.P w = .ok (.agg cs) w) : OpL c g E L ⟨d, .alloc t, ty, pos, af, gu⟩ fun v L' => ∃ b, v = ptr b 0 ∧ L' = pt b (.cells cs t (0, 0)) :: L :=
  .of_run fun a w hE hg hS => ⟨ptr w.heap.size 0, _, _, by simp [execOp, Instr.alloc, hz, newVar, newRow, newObj, Sem.run, Value.cells], hS.alloc _, _, rfl, rfl⟩
theorem l_alloc1 (zv : Value) (hz : ∀ w, (zeroValue t).run c.P w = .ok zv w) (h1 : one zv = true) : OpL c g E L ⟨d, .alloc t, ty, pos, af, gu⟩ fun v L' => ∃ b, v = ptr b 0 ∧ L' = pt b (.cells #[zv] t (0, 0)) :: L :=
  .of_run fun a w hE hg hS => ⟨ptr w.heap.size 0, _, _, by
    have hvc : zv.cells = #[zv] := by cases zv <;> first | rfl | cases h1
    simp [execOp, Instr.alloc, hz, newVar, newRow, newObj, Sem.run, hvc], hS.alloc _, _, rfl, rfl⟩
theorem l_box (cs : Array Value) (hx : ev g E x = some v) (hc : v.cells = cs) : OpL c g E L ⟨d, .box t x, ty, pos, af, gu⟩ fun v L' => ∃ b, v = ptr b 0 ∧ L' = pt b (.cells cs t (0, 0)) :: L :=
  .of_run fun a w hE hg hS => ⟨ptr w.heap.size 0, _, _, by simp [execOp, hE.ev hg hx, Instr.box, newVar, newRow, newObj, Sem.run, hc], hS.alloc _, _, rfl, rfl⟩
theorem Upd.sat {w0 w : World} {o o' : Obj} (U : Upd L b o o' L') (h : Sat w0 w L) : Sat w0 (setB w b o') L' ∧ w.heap[b]? = some o := by
  obtain ⟨i, h1, rfl⟩ := U.out
  exact ⟨h.setAt h1, (h.front h1).at_⟩
theorem l_store {cs : Array Value} {T : TypeId} (cs' : Array Value) (hz : ∀ w, (sizeOf t).run c.P w = .ok 1 w) (hx : ev g E x = some (ptr b o)) (hy : ev g E y = some v) (h1 : one v = true) [hh : Has L b (.cells cs T (0, 0))] (hlt : o < cs.size) (hcs : cs.setIfInBounds o v = cs') [U : Upd L b (.cells cs T (0, 0)) (.cells cs' T (0, 0)) L'] :
    OpL c g E L ⟨d, .store t x y, ty, pos, af, gu⟩ fun _ L'' => L'' = L' :=
  .of_skip fun a w hE hg hS => by
    subst hcs
    have hU := U.sat hS
    have hvc : v.cells = #[v] := by cases v <;> first | rfl | cases h1
    have hr := run_storeCells (P := c.P) b o T [v] w cs 0 hU.2 (by simp; omega) (by simp [ones, h1])
    refine ⟨_, L', ?_, hU.1, rfl⟩
    simp only [execOp, hE.ev hg hx, hE.ev hg hy, Instr.storeAt, Instr.sureAddr, storeVar]
    simp [hz, hvc, hr, splice]
theorem l_storeA {cs : Array Value} {T : TypeId} {vs : List Value} (cs' : Array Value) (hz : ∀ w, (sizeOf t).run c.P w = .ok sz w) (hx : ev g E x = some (ptr b o)) (hy : ev g E y = some (.agg vs.toArray)) (hl : vs.length = sz) (h1 : ones vs = true) [hh : Has L b (.cells cs T (0, 0))] (hlt : o + sz ≤ cs.size) (hcs : splice cs o vs = cs') [U : Upd L b (.cells cs T (0, 0)) (.cells cs' T (0, 0)) L'] :
    OpL c g E L ⟨d, .store t x y, ty, pos, af, gu⟩ fun _ L'' => L'' = L' :=
  .of_skip fun a w hE hg hS => by
    subst hcs
    have hU := U.sat hS
    have hr := run_storeCells (P := c.P) b o T vs w cs 0 hU.2 (by omega) h1
    refine ⟨_, L', ?_, hU.1, rfl⟩
    simp only [execOp, hE.ev hg hx, hE.ev hg hy, Instr.storeAt, Instr.sureAddr, storeVar]
    simp [hz, hl, Value.cells, hr]

/-- a call of a named function, by its contract -/
theorem l_call {f : FuncId} {xs : List Operand} {vs : List Value} {ats : Array TypeId} {Pre F : List HProp} {R : List HProp → Value → List HProp → Prop} (hcall : ∀ args w, (callFunc f args).run c.P w = .ok (.enter f args) w) (hx : evs g E xs = some vs) (h : ∀ F, Ct c.P f vs (Pre ++ F) (R F)) [S : Split L Pre F] :
    OpL c g E L ⟨d, .call { callee := .value (.func f), args := xs.toArray, argTypes := ats }, ty, pos, af, gu⟩ (R F) := by
  constructor
  intro a w hE hg hS nx Q hn
  unfold Oper.wp
  have hr : (execOp a.eval ⟨d, .call { callee := .value (.func f), args := xs.toArray, argTypes := ats }, ty, pos, af, gu⟩).run c.P w = .ok (.enter f vs.toArray) w := by
    simp [execOp, resolve, Act.eval, Deferred.ofValue, invoke, hcall, ← hE.evs hg hx]
  rw [hr]
  refine (h F c.w0 w (S.sat hS)).mono fun e w' he => ?_
  cases e with
  | returned v => obtain ⟨L', h1, h2⟩ := he; exact hn v w' L' h1 h2
  | panicked ch => exact he.elim
  | outgrown => exact he.elim
end
end Go.Sl
