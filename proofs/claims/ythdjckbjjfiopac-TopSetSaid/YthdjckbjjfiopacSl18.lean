/- What single operations do: calls of function values, appends that overlap, clear. No condition. -/
import Derived.Test.YthdjckbjjfiopacSl17
namespace Go.Sl
set_option linter.unusedVariables false
set_option linter.unusedSimpArgs false
section
variable {c : Cx} {g : Option (Nat × Bool)} {E : Env} {L L' : List HProp} {d : Option Tmp} {ty : TypeId} {pos : String} {af : Array Edge} {gu : Option (Nat × Bool)}
variable {x y z y3 : Operand} {t u e : TypeId} {k : IntKind} {v : Value} {s : Option Addr} {b o i j n sz cap off : Nat}
/-- a call of a function value whose function is known, by its contract -/
theorem l_callV {f : FuncId} {xs : List Operand} {fi cap vs : List Value} {ats : Array TypeId} {Pre F : List HProp} {R : List HProp → Value → List HProp → Prop} (hcall : ∀ args w, (callFunc f args).run c.P w = .ok (.enter f args) w) (hf : ev g E x = some (.func (.func f) fi.toArray cap.toArray)) (hx : evs g E xs = some vs) (h : ∀ F, Ct c.P f (fi ++ vs ++ cap) (Pre ++ F) (R F)) [S : Split L Pre F] :
    OpL c g E L ⟨d, .call { callee := .value x, args := xs.toArray, argTypes := ats }, ty, pos, af, gu⟩ (R F) := by
  constructor
  intro a w hE hg hS nx Q hn
  unfold Oper.wp
  have hr : (execOp a.eval ⟨d, .call { callee := .value x, args := xs.toArray, argTypes := ats }, ty, pos, af, gu⟩).run c.P w = .ok (.enter f (fi ++ vs ++ cap).toArray) w := by
    simp [execOp, resolve, hE.ev hg hf, Deferred.ofValue, invoke, hcall, ← hE.evs hg hx]
  rw [hr]
  refine (h F c.w0 w (S.sat hS)).mono fun e w' he => ?_
  cases e with
  | returned v => obtain ⟨L', h1, h2⟩ := he; exact hn v w' L' h1 h2
  | panicked ch => exact he.elim
  | outgrown => exact he.elim
theorem Rows.take {ob : Obj} {off : Nat} {rows : List (List Value)} (h : Rows ob off sz rows) (i : Nat) : Rows ob off sz (rows.take i) := fun j row hj f v hf => by
  have hji : j < i := by have := (List.getElem?_eq_some_iff.1 hj).1; simp at this; omega
  rw [List.getElem?_take_of_lt hji] at hj
  exact h j row hj f v hf
/-- rows of the same array laid behind the first i of its rows: where there is room -/
theorem l_appendOv {ya : Option Addr} {p m cy : Nat} {T : Nat} {rows : List (List Value)} {F : List HProp} (hu : c.P.underlying t = some (.slice T)) (hz : ∀ w, (sizeOf T).run c.P w = .ok sz w) (h0 : 0 < sz)
    (hx : ev g E x = some (sl s i cap)) (hy : ev g E y = some (sl ya m cy)) [R : OwR L s T sz cap rows F] (hya : At ya s p sz m) (hi : i ≤ rows.length) (hp : p + m ≤ rows.length) (him : i + m ≤ rows.length) (hr0 : 0 < rows.length) (h1 : ∀ r ∈ rows, ones r = true) :
    OpL c g E L ⟨d, .call { callee := .builtin .append, args := #[x, y], argTypes := #[t, t] }, ty, pos, af, gu⟩ fun v L' => v = sl s (i + m) cap ∧ L' = owL T sz s cap (rows.take i ++ (rows.drop p).take m) :: F :=
  .of_run fun a w hE hg hS => by
    have hS1 := R.sat hS
    have ex := fun w' v h => exec_append (d := d) (ty := ty) (pos := pos) (af := af) (gu := gu) (t := t) (u := t) (r := .ok v w') (P := c.P) (w := w) (hE.ev hg hx) (hE.ev hg hy) h
    rcases owL_open hS1 with ⟨rfl, rfl, rfl, hF⟩ | ⟨b, cs, rfl, a1, a2, a3, a4, hP⟩
    · simp at hr0
    · have hnews : ∀ r ∈ (rows.drop p).take m, r.length = sz := fun r hr => a3 r (List.mem_of_mem_drop (List.mem_of_mem_take hr))
      have hlen : ((rows.drop p).take m).length = m := by simp; omega
      have htk : (rows.take i).length = i := by simp; omega
      have fl1 : ones ((rows.drop p).take m).flatten = true := ones_of fun v hv => by
        obtain ⟨r, hr, hv⟩ := List.mem_flatten.1 hv
        exact ones_mem (h1 r (List.mem_of_mem_drop (List.mem_of_mem_take hr))) v hv
      have hfi : (Builtin.firstCells sz m (sl ya m cy)).run c.P w = .ok ((rows.drop p).take m).flatten.toArray w := by
        refine run_first' h0 hnews hlen ?_
        by_cases hm0 : m = 0
        · left; subst hm0; rfl
        · exact .inr ⟨b, 0 + p * sz, _, hya.addr (by omega), hP.at_, a4.part⟩
      obtain ⟨hle, hrows⟩ := app_rows_fit (T := T) (rows := rows.take i) (news := (rows.drop p).take m) h0 a1 (by rw [htk, hlen]; omega) (fun r hr => a3 r (List.mem_of_mem_take hr)) hnews (a4.take i)
      rw [htk] at hle hrows
      have hst := run_storeCells (P := c.P) b (i * sz) T ((rows.drop p).take m).flatten w cs 0 hP.at_ (by omega) fl1
      refine ⟨sl (some ⟨b, 0, none⟩) (i + m) cap, setB w b (.cells (splice cs (i * sz) ((rows.drop p).take m).flatten) T (0, 0)), _, ex _ _ ?_, ?_, rfl, rfl⟩
      · exact run_append_fit (base := some ⟨b, 0, none⟩) hu hz lenOf_sl hfi (by omega) (by simpa [add_mk] using hst)
      · refine owL_shut (hP.set (o' := .cells (splice cs (i * sz) ((rows.drop p).take m).flatten) T (0, 0)) rfl) (by rw [splice_size, a1]) (by simp; omega) ?_ hrows
        intro r hr
        rcases List.mem_append.1 hr with h | h
        · exact a3 r (List.mem_of_mem_take h)
        · exact hnews r h
theorem ones_zero {zv : Array Value} (h : ones zv.toList = true) (n : Nat) : ones (Builtin.zeroCells zv n).toList = true := ones_of fun v hv => by
  simp only [Builtin.zeroCells, Array.toList_map, List.mem_map, Array.mem_toList_iff, Array.mem_range] at hv
  obtain ⟨q, hq, rfl⟩ := hv
  have hp : 0 < zv.size := by
    rcases Nat.eq_zero_or_pos zv.size with h | h
    · rw [h] at hq; simp at hq
    · exact h
  have hlt := Nat.mod_lt q hp
  rw [getElem!_pos zv _ hlt]
  exact ones_mem h _ (by simp)
/-- clear of places behind the rows of an owned slice -/
theorem l_clearTail {xa : Option Addr} {l m cx : Nat} {zv : Value} {T : Nat} {rows : List (List Value)} {F : List HProp} (s : Option Addr) (hu : c.P.underlying t = some (.slice T)) (hzv : ∀ w, (zeroValue T).run c.P w = .ok zv w) (hzs : zv.cells.size = sz) (hz1 : ones zv.cells.toList = true)
    (hx : ev g E x = some (sl xa m cx)) [R : OwR L s T sz cap rows F] (hxa : At xa s l sz m) (hl : rows.length ≤ l) (hm : l + m ≤ cap) :
    OpL c g E L ⟨d, .call { callee := .builtin .clear, args := #[x], argTypes := #[t] }, ty, pos, af, gu⟩ fun v L' => v = .tuple #[] ∧ L' = owL T sz s cap rows :: F :=
  .of_run fun a w hE hg hS => by
    have hS1 := R.sat hS
    have e1 := hE.ev hg hx
    by_cases hm0 : m = 0
    · subst hm0
      refine ⟨.tuple #[], w, _, ?_, hS1, rfl, rfl⟩
      cases xa <;> simp [execOp, resolve, invoke, builtin, e1, Builtin.clear_, underlying, program, Sem.run, hu, sl]
    · rcases owL_open hS1 with ⟨rfl, rfl, rfl, hF⟩ | ⟨b, cs, rfl, a1, a2, a3, a4, hP⟩
      · omega
      · have hxa' := hxa.addr (by omega)
        subst hxa'
        have hzl : (Builtin.zeroCells zv.cells m).toList.length = m * sz := by rw [Array.length_toList, zeroCells_size, hzs]
        have hle : l * sz + (Builtin.zeroCells zv.cells m).toList.length ≤ cs.size := by rw [hzl, a1, ← Nat.add_mul]; exact Nat.mul_le_mul_right _ hm
        have hst := run_storeCells (P := c.P) b (0 + l * sz) T (Builtin.zeroCells zv.cells m).toList w cs 0 hP.at_ (by omega) (ones_zero hz1 m)
        refine ⟨.tuple #[], setB w b (.cells (splice cs (0 + l * sz + 0) (Builtin.zeroCells zv.cells m).toList) T (0, 0)), owL T sz (some ⟨b, 0, none⟩) cap rows :: F, ?_, ?_, rfl, rfl⟩
        · obtain ⟨q, rfl⟩ : ∃ q, m = q + 1 := ⟨m - 1, by omega⟩
          have hst2 := hst
          simp only [Nat.zero_add, Nat.add_zero] at hst2
          simp [execOp, resolve, invoke, builtin, e1, Builtin.clear_, underlying, program, Sem.run, hu, sl, hzv, hst2]
        · refine owL_shut (hP.set (o' := .cells (splice cs (0 + l * sz + 0) (Builtin.zeroCells zv.cells m).toList) T (0, 0)) rfl) (by rw [splice_size, a1]) a2 a3 fun q row hq f v hf => ?_
          have := a4 q row hq f v hf
          simp only [objCell, Nat.zero_add, Nat.add_zero] at this ⊢
          have hq' := (List.getElem?_eq_some_iff.1 hq).1
          have hf' : f < sz := by rw [← a3 row (List.mem_of_getElem? hq)]; exact (List.getElem?_eq_some_iff.1 hf).1
          have h5 : (q + 1) * sz ≤ l * sz := Nat.mul_le_mul_right _ (by omega)
          rw [Nat.add_mul, Nat.one_mul] at h5
          rw [splice_at _ _ _ hle, if_neg (by omega)]
          exact this
theorem v_sl3 {m m2 m3 : Int} {l h q : Nat} (hu : c.P.underlying t = some (.slice e)) (hz : ∀ w, (sizeOf e).run c.P w = .ok sz w) (hx : ev g E x = some (sl s n cap)) (hy : ev g E y = some (I m)) (hm : m = l) (hz2 : ev g E z = some (I m2)) (hm2 : m2 = h) (hz3 : ev g E y3 = some (I m3)) (hm3 : m3 = q) (hl : l ≤ h) (hh : h ≤ q) (hq : q ≤ cap) :
    OpV c g E L ⟨d, .slice t x (some y) (some z) (some y3), ty, pos, af, gu⟩ (sl (if q = l then s else s.map (·.add (l * sz))) (h - l) (q - l)) := .mk fun a w hE hg hS => by
  have h1 := fun cd => run_bound (P := c.P) (w := w) (cd := cd) hm hl
  have h2 := fun cd => run_bound (P := c.P) (w := w) (cd := cd) hm2 hh
  have h3 := fun cd => run_bound (P := c.P) (w := w) (cd := cd) hm3 hq
  simp only [execOp, Instr.sliceAt, Instr.slice, Instr.sliceBounds, Option.map_some, Option.map_none, hE.ev hg hx, hE.ev hg hy, hE.ev hg hz2, hE.ev hg hz3, sl]
  simp [underlying, program, Sem.run, hu, hz, h1, h2, h3]
end
end Go.Sl
