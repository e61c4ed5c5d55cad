/- What single operations do (6): stores into owned slices; struct values; results in memory. No condition. -/
import Derived.Test.YthdjckbjjfiopacSl9
namespace Go.Sl
set_option linter.unusedVariables false
set_option linter.unusedSimpArgs false
theorem cells_agg (cs : Array Value) : (Value.agg cs).cells = cs := rfl
theorem cells_one {v : Value} (h : one v = true) : v.cells = #[v] := by cases v <;> first | rfl | cases h
section
variable {c : Cx} {g : Option (Nat × Bool)} {E : Env} {L L' : List HProp} {d : Option Tmp} {ty : TypeId} {pos : String} {af : Array Edge} {gu : Option (Nat × Bool)} {K : List KI}
variable {x y z : Operand} {t u e : TypeId} {k : IntKind} {v : Value} {s : Option Addr} {b o i j n sz cap off : Nat}

theorem Rows.set {cs : Array Value} {T : TypeId} {rows : List (List Value)} {row : List Value} {f : Nat} (hl : ∀ r ∈ rows, r.length = sz) (hr : Rows (.cells cs T (0, 0)) 0 sz rows) (hj : rows[j]? = some row) (hf : f < sz) (hlt : j * sz + f < cs.size) :
    Rows (.cells (cs.setIfInBounds (j * sz + f) v) T (0, 0)) 0 sz (rows.set j (row.set f v)) := fun i r hi f' u hu => by
  have hjl := (List.getElem?_eq_some_iff.1 hj).1
  have hrl := hl row (List.mem_of_getElem? hj)
  simp only [objCell, Nat.zero_add]
  by_cases hij : i = j
  · subst hij
    rw [List.getElem?_set_self hjl] at hi
    injection hi with hi; subst hi
    by_cases hff : f' = f
    · subst hff
      rw [List.getElem?_set_self (by omega)] at hu
      injection hu with hu; subst hu
      simp [hlt]
    · rw [List.getElem?_set_ne (Ne.symm hff)] at hu
      rw [Array.getElem?_setIfInBounds_ne (by omega)]
      simpa [objCell] using hr i row hj f' u hu
  · rw [List.getElem?_set_ne (Ne.symm hij)] at hi
    have hf' : f' < sz := by rw [← hl r (List.mem_of_getElem? hi)]; exact (List.getElem?_eq_some_iff.1 hu).1
    have hne : j * sz + f ≠ i * sz + f' := by
      intro he
      rcases Nat.lt_or_gt_of_ne hij with h | h
      · have : (i + 1) * sz ≤ j * sz := Nat.mul_le_mul_right _ h
        rw [Nat.add_mul, Nat.one_mul] at this; omega
      · have : (j + 1) * sz ≤ i * sz := Nat.mul_le_mul_right _ h
        rw [Nat.add_mul, Nat.one_mul] at this; omega
    rw [Array.getElem?_setIfInBounds_ne hne]
    simpa [objCell] using hr i r hi f' u hu
theorem rows_set_len {rows : List (List Value)} {row : List Value} {f : Nat} (hl : ∀ r ∈ rows, r.length = sz) (hj : rows[j]? = some row) : ∀ r ∈ rows.set j (row.set f v), r.length = sz := fun r hr => by
  rcases List.mem_or_eq_of_mem_set hr with h | h
  · exact hl r h
  · subst h; simpa using hl row (List.mem_of_getElem? hj)
/-- one cell of an element of an owned slice -/
theorem l_storeS {rows : List (List Value)} {row : List Value} {f : Nat} {T : Nat} {F : List HProp} (hz : ∀ w, (sizeOf t).run c.P w = .ok 1 w) (hx : ev g E x = some (adr s (j * sz + f))) (hy : ev g E y = some v) (h1 : one v = true) [R : OwR L s T sz cap rows F] (hj : rows[j]? = some row) (hf : f < sz) :
    OpL c g E L ⟨d, .store t x y, ty, pos, af, gu⟩ fun _ L' => L' = owL T sz s cap (rows.set j (row.set f v)) :: F :=
  .of_skip fun a w hE hg hS => by
    rcases owL_open (R.sat hS) with ⟨rfl, rfl, rfl, _⟩ | ⟨b, cs, rfl, a1, a2, a3, a4, hP⟩
    · simp at hj
    · have hjl := (List.getElem?_eq_some_iff.1 hj).1
      have hlt : j * sz + f < cs.size := by
        have : (j + 1) * sz ≤ cap * sz := Nat.mul_le_mul_right _ (by omega)
        rw [Nat.add_mul, Nat.one_mul] at this; omega
      have hr := run_storeCells (P := c.P) b (j * sz + f) T [v] w cs 0 hP.at_ (by simp; omega) (by simp [ones, h1])
      refine ⟨_, _, ?_, owL_shut (hP.set (o' := .cells (cs.setIfInBounds (j * sz + f) v) T (0, 0)) rfl) (by simpa using a1) (by simpa using a2) (rows_set_len a3 hj) (a4.set a3 hj hf hlt), rfl⟩
      simp only [execOp, hE.ev hg hx, hE.ev hg hy, Instr.storeAt, Instr.sureAddr, storeVar, adr, Option.map_some, add_mk, Nat.zero_add, Sem.run_bind, Sem.run_pure, Result.andThen_ok]
      simp [hz, cells_one h1, hr, splice, setB]
/-- a nil slice may be counted as owned -/
theorem g_nilown (T sz : Nat) (rows : List (List Value)) (hr : rows = []) (h : G c K E (owL T sz none 0 rows :: L)) : G c K E L := fun a w hE hS => h a w hE (hr ▸ owL_nil T sz hS)
theorem g_nilro (sz : Nat) (rows : List (List Value)) (hr : rows = []) (h : G c K E (roL sz none rows :: L)) : G c K E L := fun a w hE hS => h a w hE ((Sat.pure_mk (φ := True) trivial hS).weak fun m _ => Or.inl hr)
/-- an owned slice is given up to reading -/
theorem g_freeze {rows : List (List Value)} {T : Nat} {F : List HProp} (s : Option Addr) [R : OwR L s T sz cap rows F] (h : G c K E (roL sz s rows :: F)) : G c K E L := fun a w hE hS => h a w hE (owL_ro (R.sat hS))
/-- read-only assertions can be doubled -/
theorem g_dup {A : HProp} {F : List HProp} (hp : Pers A) [R : Rem L A F] (h : G c K E (A :: A :: F)) : G c K E L := fun a w hE hS => h a w hE ((R.sat hS).dup hp)

/-! errors: numbers of one integer type T; 0 is nil -/
def errT (T : Nat) (f : Int) : Value := if f = 0 then .nilIface else .iface T (I f)
theorem run_eqN {P : Program} {w : World} {ms : Array (String × TypeId)} {T : Nat} {f : Int} (n : Nat) (hu : P.underlying t = some (.interface ms)) : (Op.equalIn (n + 1) t (errT T f) .nilIface).run P w = .ok (decide (f = 0)) w := by
  unfold errT
  by_cases hf : f = 0
  · simp [hf, Op.equalIn, underlying, program, Sem.run, hu]
  · simp [hf, Op.equalIn, underlying, program, Sem.run, hu]
theorem run_equal_nil {P : Program} {w : World} {ms : Array (String × TypeId)} {T : Nat} {f : Int} (hu : P.underlying t = some (.interface ms)) : (Op.equal t (errT T f) .nilIface).run P w = .ok (decide (f = 0)) w := run_eqN 9999 hu
theorem eqGuard_nil {P : Program} {w : World} {T : Nat} {f : Int} {op : BinOp} : (eqGuard op t x (.const .nilIface) (errT T f) .nilIface).run P w = .ok () w := by
  unfold errT
  by_cases hf : f = 0 <;> cases op <;> simp [hf, eqGuard]
theorem v_ieql {ms : Array (String × TypeId)} {T : Nat} {f : Int} (hu : c.P.underlying t = some (.interface ms)) (hx : ev g E x = some (errT T f)) : OpV c g E L ⟨d, .binOp .eql t x (.const .nilIface) u, ty, pos, af, gu⟩ (.bool (decide (f = 0))) := .mk fun a w hE hg hS => by
  have h1 := run_equal_nil (P := c.P) (w := w) (T := T) (f := f) hu
  have h2 := eqGuard_nil (P := c.P) (w := w) (t := t) (x := x) (T := T) (f := f) (op := .eql)
  have h3 : a.eval (.const .nilIface) = .nilIface := rfl
  have h4 : binOp .eql t (errT T f) .nilIface = (do pure (.bool (← Op.equal t (errT T f) .nilIface))) := by
    unfold errT; by_cases hf : f = 0 <;> simp [hf, binOp]
  simp [execOp, hE.ev hg hx, h3, h2, h4, h1]
theorem v_ineq {ms : Array (String × TypeId)} {T : Nat} {f : Int} (hu : c.P.underlying t = some (.interface ms)) (hx : ev g E x = some (errT T f)) : OpV c g E L ⟨d, .binOp .neq t x (.const .nilIface) u, ty, pos, af, gu⟩ (.bool (!decide (f = 0))) := .mk fun a w hE hg hS => by
  have h1 := run_equal_nil (P := c.P) (w := w) (T := T) (f := f) hu
  have h2 := eqGuard_nil (P := c.P) (w := w) (t := t) (x := x) (T := T) (f := f) (op := .neq)
  have h3 : a.eval (.const .nilIface) = .nilIface := rfl
  have h4 : binOp .neq t (errT T f) .nilIface = (do pure (.bool (!(← Op.equal t (errT T f) .nilIface)))) := by
    unfold errT; by_cases hf : f = 0 <;> simp [hf, binOp]
  simp [execOp, hE.ev hg hx, h3, h2, h4, h1]
theorem v_assertE {k : IntKind} {T : Nat} {f : Int} (hu : c.P.underlying T = some (.int k)) (hx : ev g E x = some (errT T f)) (hf : f ≠ 0) : OpV c g E L ⟨d, .typeAssert x t T true, ty, pos, af, gu⟩ (.tuple #[I f, .bool true]) := .mk fun a w hE hg hS => by
  have hx' := hE.ev hg hx
  simp only [errT, hf, if_false] at hx'
  simp [execOp, hx', Instr.typeAssert, underlying, program, Sem.run, hu]
/-- values of a struct's or an array's type, compared -/
theorem v_aeql {v1 v2 : Array Value} {b : Bool} (hgt : c.P.eqGuardType c.P.depth t = false) (hx : ev g E x = some (.agg v1)) (hy : ev g E y = some (.agg v2)) (heq : ∀ w, (Op.equal t (.agg v1) (.agg v2)).run c.P w = .ok b w) : OpV c g E L ⟨d, .binOp .eql t x y u, ty, pos, af, gu⟩ (.bool b) := .mk fun a w hE hg hS => by
  simp [execOp, hE.ev hg hx, hE.ev hg hy, eqGuard, program, Sem.run, hgt, binOp, heq]
theorem v_aneq {v1 v2 : Array Value} {b : Bool} (hgt : c.P.eqGuardType c.P.depth t = false) (hx : ev g E x = some (.agg v1)) (hy : ev g E y = some (.agg v2)) (heq : ∀ w, (Op.equal t (.agg v1) (.agg v2)).run c.P w = .ok b w) : OpV c g E L ⟨d, .binOp .neq t x y u, ty, pos, af, gu⟩ (.bool (!b)) := .mk fun a w hE hg hS => by
  simp [execOp, hE.ev hg hx, hE.ev hg hy, eqGuard, program, Sem.run, hgt, binOp, heq]
theorem run_eqI {P : Program} {w : World} {k : IntKind} {a b : Int} (n : Nat) (hu : P.underlying t = some (.int k)) : (Op.equalIn (n + 1) t (I a) (I b)).run P w = .ok (decide (a = b)) w := by
  simp [Op.equalIn, underlying, program, Sem.run, hu, beqd]
theorem beqS (a b : List UInt8) : ((⟨⟨a⟩⟩ : ByteArray) == ⟨⟨b⟩⟩) = decide (a = b) := by
  have : ((⟨⟨a⟩⟩ : ByteArray) == ⟨⟨b⟩⟩) = ((⟨a⟩ : Array UInt8) == ⟨b⟩) := rfl
  rw [this, beqd]
  simp
theorem run_eqS {P : Program} {w : World} {a b : List UInt8} (n : Nat) (hu : P.underlying t = some .string) : (Op.equalIn (n + 1) t (Str a) (Str b)).run P w = .ok (decide (a = b)) w := by
  have := beqS a b
  simp [Op.equalIn, underlying, program, Sem.run, hu, this]
theorem run_eqB {P : Program} {w : World} {a b : Bool} (n : Nat) (hu : P.underlying t = some .bool) : (Op.equalIn (n + 1) t (Bo a) (Bo b)).run P w = .ok (decide (a = b)) w := by
  simp [Op.equalIn, underlying, program, Sem.run, hu, beqd]

/-- what is handed back is a slice, owned -/
def RSl (T sz n : Nat) (rows : List (List Value)) (F : List HProp) : Value → List HProp → Prop := fun v L' => ∃ s cap, v = sl s n cap ∧ L' = owL T sz s cap rows :: F
theorem g_retSl {vs : List Value} {T m : Nat} {rows : List (List Value)} {F : List HProp} (hR : c.R = RSl T sz n rows F) (hr : resOf E c.fn.results.toList = some vs) (hv : tup vs = sl s m cap) (hn : m = n) [S : Sub L (owL T sz s cap rows :: F)] : G c (.code .ret :: K) E L :=
  fun a w hE hS => wp_ret (kq_ret (res_fpost hr hE (S.sat hS) (by rw [hR]; exact ⟨s, cap, by rw [hv, hn], rfl⟩)))
/-! guards that are known -/
variable {all rest : List Oper} {dd : Nat} {op : Op} {N : Value → List HProp → Prop}
theorem g_gv1 {i s : Nat} {b want : Bool} (hi : (all[i]?).bind (·.dst) = some s) (hs : look none E s = some (.bool b)) (hw : b = want) (h : OpV c none E L ⟨some dd, op, ty, pos, af, some (i, want)⟩ v) (hd : dOk c.n dd E = true)
    (k : G c (.ops all rest :: K) ((dd, none, v) :: E) L) : G c (.ops all (⟨some dd, op, ty, pos, af, some (i, want)⟩ :: rest) :: K) E L := fun a w hE hS => by
  have hy := yielded_of (a := a) hi hE hs
  refine wpList_step fun nx hk => ?_
  rw [if_pos (by simp [Region.wanted, hy, hw])]
  exact wp_of_opv h hE (gd_none a) hS (hk _ _ (k _ w (hE.put1 hd) hS))
theorem g_gl {i s : Nat} {b want : Bool} (hi : (all[i]?).bind (·.dst) = some s) (hs : look none E s = some (.bool b)) (hw : b = want) (h : OpL c none E L ⟨some dd, op, ty, pos, af, some (i, want)⟩ N) (hd : dOk c.n dd E = true)
    (k : ∀ v L', N v L' → G c (.ops all rest :: K) ((dd, none, v) :: E) L') : G c (.ops all (⟨some dd, op, ty, pos, af, some (i, want)⟩ :: rest) :: K) E L := fun a w hE hS => by
  have hy := yielded_of (a := a) hi hE hs
  refine wpList_step fun nx hk => ?_
  rw [if_pos (by simp [Region.wanted, hy, hw])]
  exact h.out a w hE (gd_none a) hS nx _ fun v w' L' hS' hN => hk _ _ (k v L' hN _ w' (hE.put1 hd) hS')
/-- a call under a guard that is not known: it hands back one value, and leaves all as it was -/
theorem g_gq {i s : Nat} {b want : Bool} {L2 : List HProp} (hi : (all[i]?).bind (·.dst) = some s) (hs : look none E s = some (.bool b)) (h : b = want → OpL c (some (s, want)) E L ⟨some dd, op, ty, pos, af, some (i, want)⟩ (R1 v L2)) [S : Sub L2 L] (hd : dOk c.n dd E = true) (hne : Nat.beq s dd = false)
    (k : G c (.ops all rest :: K) ((dd, some (s, want), v) :: E) L) : G c (.ops all (⟨some dd, op, ty, pos, af, some (i, want)⟩ :: rest) :: K) E L := fun a w hE hS => by
  have hy := yielded_of (a := a) hi hE hs
  have hb := hE.look (gd_none a) hs
  refine wpList_step fun nx hk => ?_
  have hgd : ∀ j b', some (s, want) = some (j, b') → j ≠ dd := fun j b' e => by injection e with e; injection e with e _; subst e; exact Nat.ne_of_beq_eq_false hne
  by_cases hw : b = want
  · rw [if_pos (by simp [Region.wanted, hy, hw])]
    have hg : gd (some (s, want)) a := fun j b' e => by injection e with e; injection e with e1 e2; subst e1 e2; rw [hb, hw]
    refine (h hw).out a w hE hg hS nx _ fun v' w' L' hS' hN => ?_
    obtain ⟨rfl, rfl⟩ := hN
    exact hk _ _ (k _ w' (hE.put hd hgd fun _ => rfl) (S.sat hS'))
  · rw [if_neg (by simp [Region.wanted, hy, hw])]
    refine hk _ _ (k _ w (hE.put hd hgd fun hg => ?_) hS)
    have := hg s want rfl
    rw [hb] at this
    exact absurd (by simpa using this) hw
theorem v_beql {p q : Bool} (hu : c.P.underlying t = some .bool) (hx : ev g E x = some (.bool p)) (hy : ev g E y = some (.bool q)) : OpV c g E L ⟨d, .binOp .eql t x y u, ty, pos, af, gu⟩ (.bool (decide (p = q))) := .mk fun a w hE hg hS => by
  have := run_eqB (P := c.P) (w := w) (a := p) (b := q) 9999 hu
  have h2 : (Op.equal t (Bo p) (Bo q)).run c.P w = .ok (decide (p = q)) w := this
  simp [execOp, hE.ev hg hx, hE.ev hg hy, eqGuard, binOp, h2]
theorem v_bneq {p q : Bool} (hu : c.P.underlying t = some .bool) (hx : ev g E x = some (.bool p)) (hy : ev g E y = some (.bool q)) : OpV c g E L ⟨d, .binOp .neq t x y u, ty, pos, af, gu⟩ (.bool (!decide (p = q))) := .mk fun a w hE hg hS => by
  have := run_eqB (P := c.P) (w := w) (a := p) (b := q) 9999 hu
  have h2 : (Op.equal t (Bo p) (Bo q)).run c.P w = .ok (decide (p = q)) w := this
  simp [execOp, hE.ev hg hx, hE.ev hg hy, eqGuard, binOp, h2]
theorem v_max {k : IntKind} {p q : Int} {ats : Array TypeId} (hx : ev g E x = some (.int k p)) (hy : ev g E y = some (.int k q)) : OpV c g E L ⟨d, .call { callee := .builtin .max, args := #[x, y], argTypes := ats }, ty, pos, af, gu⟩ (.int k (if p < q then q else p)) := .mk fun a w hE hg hS => by
  simp [execOp, resolve, invoke, builtin, Builtin.max_, Builtin.max2, hE.ev hg hx, hE.ev hg hy]
theorem v_min {k : IntKind} {p q : Int} {ats : Array TypeId} (hx : ev g E x = some (.int k p)) (hy : ev g E y = some (.int k q)) : OpV c g E L ⟨d, .call { callee := .builtin .min, args := #[x, y], argTypes := ats }, ty, pos, af, gu⟩ (.int k (if q < p then q else p)) := .mk fun a w hE hg hS => by
  simp [execOp, resolve, invoke, builtin, Builtin.min_, Builtin.min2, hE.ev hg hx, hE.ev hg hy]

/-- a slice, owned, within what is handed back -/
def RSf (f : Value → Value) (T sz n : Nat) (rows : List (List Value)) (F : List HProp) : Value → List HProp → Prop := fun v L' => ∃ s cap, v = f (sl s n cap) ∧ L' = owL T sz s cap rows :: F
theorem g_retSf {vs : List Value} {T m : Nat} {f : Value → Value} {rows : List (List Value)} {F : List HProp} (hR : c.R = RSf f T sz n rows F) (hr : resOf E c.fn.results.toList = some vs) (hn : m = n) (hv : tup vs = f (sl s m cap)) [S : Sub L (owL T sz s cap rows :: F)] : G c (.code .ret :: K) E L :=
  fun a w hE hS => wp_ret (kq_ret (res_fpost hr hE (S.sat hS) (by rw [hR]; exact ⟨s, cap, by rw [hv, hn], rfl⟩)))
/-- the parts of a struct's literal -/
def evq (g : Option (Nat × Bool)) (E : Env) : List (Nat × Operand) → Option (List (Nat × Value))
  | [] => some []
  | (i, x) :: ps => match ev g E x with
    | some v => match evq g E ps with | some vs => some ((i, v) :: vs) | none => none
    | none => none
theorem evq_eq {n : Nat} {E : Env} {a : Act} {g : Option (Nat × Bool)} (h : EOk n E a) (hg : gd g a) : ∀ {ps : List (Nat × Operand)} {vs : List (Nat × Value)}, evq g E ps = some vs → ps.map (fun p => (p.1, a.eval p.2)) = vs
  | [], vs, hl => by injection hl with hl
  | (i, x) :: ps, vs, hl => by
    unfold evq at hl
    split at hl
    · rename_i v hv
      split at hl
      · rename_i us hus
        injection hl with hl; subst hl
        simp [h.ev hg hv, evq_eq h hg hus]
      · cases hl
    · cases hl
theorem v_build {parts : List (Nat × Operand)} {vs : List (Nat × Value)} (hx : evq g E parts = some vs) (hr : ∀ w, (Instr.build t vs.toArray).run c.P w = .ok v w) : OpV c g E L ⟨d, .build t parts.toArray, ty, pos, af, gu⟩ v := .mk fun a w hE hg hS => by
  have := evq_eq hE hg hx
  simp [execOp, this, hr]

/-- the one result lies in memory -/
theorem cellA_fpost {a : Act} {w : World} {r : Nat} {ob : Obj} {vs : List Value} {Post : List HProp} (hf : c.fn.results.toList = [.cell r t]) (hx : look none E r = some (ptr b o)) (ha : ∀ w, (isAgg t).run c.P w = .ok true w) (hz : ∀ w, (sizeOf t).run c.P w = .ok sz w) [h : Has L b ob] (hl : vs.length = sz)
    (hv : ∀ k v, vs[k]? = some v → objCell ob (o + k) = some v) (hE : EOk c.n E a) (hS : Sat c.w0 w L) [S : Sub L Post] (hR : c.R (.agg vs.toArray) Post) : a.defers = [] ∧ ∃ v, (results c.fn a.tmps).run c.P w = .ok v w ∧ ∃ L, Sat c.w0 w L ∧ c.R v L := by
  have hh := h.out _ _ hS
  have hload := run_loadCells (P := c.P) (w := w) b sz 0 o #[] vs hl (fun k v hk => by simpa using cell_of hh (hv k v hk))
  have h1 := hE.look (gd_none a) hx
  refine ⟨hE.defers, .agg vs.toArray, ?_, Post, S.sat hS, hR⟩
  rw [results_eq, Array.mapM_eq_mapM_toList, hf]
  simp [resSem, Array.getD_eq_getD_getElem?, h1, asAddr, loadVar, ha, hz, loadCells, hload]
theorem g_retCA {r : Nat} {ob : Obj} {Post : List HProp} (vs : List Value) (hR : c.R = R1 (.agg vs.toArray) Post) (hf : c.fn.results.toList = [.cell r t]) (hx : look none E r = some (ptr b o)) (ha : ∀ w, (isAgg t).run c.P w = .ok true w) (hz : ∀ w, (sizeOf t).run c.P w = .ok sz w) [h : Has L b ob] (hl : vs.length = sz)
    (hv : ∀ k v, vs[k]? = some v → objCell ob (o + k) = some v) [S : Sub L Post] : G c (.code .ret :: K) E L :=
  fun a w hE hS => wp_ret (kq_ret (cellA_fpost (h := h) (S := S) hf hx ha hz hl hv hE hS (by rw [hR]; exact ⟨rfl, rfl⟩)))
end
end Go.Sl
