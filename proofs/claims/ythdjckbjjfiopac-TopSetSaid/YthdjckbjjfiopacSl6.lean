/- What single operations do (2): memory. No condition. -/
import Derived.Test.YthdjckbjjfiopacSl5
import Derived.Laws.Cells
import Derived.Laws.AppendOwn
namespace Go.Sl
set_option linter.unusedVariables false
set_option linter.unusedSimpArgs false

/-! ### Slices -/
def sl (s : Option Addr) (n cap : Nat) : Value := .slice s n cap
def adr (s : Option Addr) (i : Nat) : Value := .pointer (s.map fun p => p.add i)
def objCell : Obj → Nat → Option Value
  | .cells cs _ _, i => cs[i]?
  | _, _ => none
/-- the cells of the rows stand in o from off on -/
def Rows (o : Obj) (off sz : Nat) (rows : List (List Value)) : Prop := ∀ j row, rows[j]? = some row → ∀ f v, row[f]? = some v → objCell o (off + (j * sz + f)) = some v
/-- a slice that nobody writes any more -/
def roL (sz : Nat) (s : Option Addr) (rows : List (List Value)) : HProp := fun m => rows = [] ∨ ∃ b off o, s = some ⟨b, off, none⟩ ∧ m b = some (o, true) ∧ Rows o off sz rows
/-- a slice that is owned with its whole array -/
def owL (T sz : Nat) (s : Option Addr) (cap : Nat) (rows : List (List Value)) : HProp := fun m => (s = none ∧ rows = [] ∧ cap = 0) ∨
  ∃ b cs, s = some ⟨b, 0, none⟩ ∧ m b = some (.cells cs T (0, 0), false) ∧ cs.size = cap * sz ∧ rows.length ≤ cap ∧ (∀ row ∈ rows, row.length = sz) ∧ Rows (.cells cs T (0, 0)) 0 sz rows

theorem Pers.roL (sz : Nat) (s : Option Addr) (rows : List (List Value)) : Pers (roL sz s rows) := fun m h => by
  rcases h with rfl | ⟨b, off, o, rfl, hm, hr⟩
  · exact ⟨fun _ => none, (fun b x hx => nomatch hx), (fun b x hx => nomatch hx), .inl rfl⟩
  · refine ⟨Res.one b (o, true), fun c x hx => ?_, fun c x hx => ?_, .inr ⟨b, off, o, rfl, Res.one_self, hr⟩⟩
    · obtain ⟨rfl, rfl⟩ := Res.one_eq hx; exact hm
    · obtain ⟨rfl, rfl⟩ := Res.one_eq hx; rfl

theorem cell_of {w : World} {b i : Nat} {o : Obj} {v : Value} (h : w.heap[b]? = some o) (hc : objCell o i = some v) : w.cell? ⟨b, i, none⟩ = some v := by
  unfold World.cell?
  simp only [h]
  cases o <;> simp [objCell] at hc ⊢
  exact hc

/-- the slice s can be read: it has these rows -/
class SlR (L : List HProp) (s : Option Addr) (sz : outParam Nat) (rows : outParam (List (List Value))) : Prop where
  out : ∀ w0 w, Sat w0 w L → rows = [] ∨ ∃ b off o, s = some ⟨b, off, none⟩ ∧ w.heap[b]? = some o ∧ Rows o off sz rows
instance (priority := high) SlR.ro {sz : Nat} {s : Option Addr} {rows : List (List Value)} {L : List HProp} : SlR (roL sz s rows :: L) s sz rows := ⟨fun w0 w h => by
  obtain ⟨_, _, _, _, f, hf, _⟩ := h
  have := hf 0 _ rfl
  rcases this.1 with h | ⟨b, off, o, h1, h2, h3⟩
  · exact .inl h
  · exact .inr ⟨b, off, o, h1, this.2 b _ h2, h3⟩⟩
instance (priority := high) SlR.ow {T sz cap : Nat} {s : Option Addr} {rows : List (List Value)} {L : List HProp} : SlR (owL T sz s cap rows :: L) s sz rows := ⟨fun w0 w h => by
  obtain ⟨_, _, _, _, f, hf, _⟩ := h
  have := hf 0 _ rfl
  rcases this.1 with ⟨_, h, _⟩ | ⟨b, cs, h1, h2, h3, h4, h5, h6⟩
  · exact .inl h
  · exact .inr ⟨b, 0, _, h1, this.2 b _ h2, h6⟩⟩
instance (priority := low) SlR.tail {A : HProp} {sz : Nat} {s : Option Addr} {rows : List (List Value)} {L : List HProp} [h : SlR L s sz rows] : SlR (A :: L) s sz rows := ⟨fun w0 w hS => h.out w0 w hS.tail⟩

theorem add_mk (b o n : Nat) : (⟨b, o, none⟩ : Addr).add n = ⟨b, o + n, none⟩ := by
  unfold Addr.add; split
  · subst_vars; rfl
  · rfl

section
variable {c : Cx} {g : Option (Nat × Bool)} {E : Env} {L : List HProp} {d : Option Tmp} {ty : TypeId} {pos : String} {af : Array Edge} {gu : Option (Nat × Bool)}
variable {x y z : Operand} {t u e : TypeId} {k : IntKind} {v : Value} {s : Option Addr} {b o i j n sz cap off : Nat}

theorem v_len {s : Option Addr} (hu : c.P.underlying t = some (.slice e)) (hx : ev g E x = some (.slice s n cap)) : OpV c g E L ⟨d, .call { callee := .builtin .len, args := #[x], argTypes := #[t] }, ty, pos, af, gu⟩ (I n) := .mk fun a w hE hg hS => by
  simp [execOp, resolve, invoke, builtin, Builtin.len_, underlying, program, Sem.run, hu, hE.ev hg hx, goInt]
theorem v_lenS (hu : c.P.underlying t = some (.slice e)) (hx : ev g E x = some (sl s n cap)) : OpV c g E L ⟨d, .call { callee := .builtin .len, args := #[x], argTypes := #[t] }, ty, pos, af, gu⟩ (I n) := v_len hu hx
theorem v_slen {p : List UInt8} (hu : c.P.underlying t = some .string) (hx : ev g E x = some (Str p)) : OpV c g E L ⟨d, .call { callee := .builtin .len, args := #[x], argTypes := #[t] }, ty, pos, af, gu⟩ (I p.length) := .mk fun a w hE hg hS => by
  have hs : (⟨⟨p⟩⟩ : ByteArray).size = p.length := rfl
  simp only [execOp, resolve, invoke, builtin, Builtin.len_]
  simp [underlying, program, Sem.run, hu, hE.ev hg hx, goInt, hs]
theorem v_mlen {r clock : Nat} {es : Array MapEntry} {kt : TypeId} (hu : c.P.underlying t = some (.map kt e)) (hx : ev g E x = some (.map (some r))) [h : Has L r (.map es clock)] : OpV c g E L ⟨d, .call { callee := .builtin .len, args := #[x], argTypes := #[t] }, ty, pos, af, gu⟩ (I es.size) := .mk fun a w hE hg hS => by
  have := h.out _ _ hS
  simp [execOp, resolve, invoke, builtin, Builtin.len_, underlying, program, getObj, Sem.run, hu, hE.ev hg hx, goInt, this]

theorem v_fieldAddr {fs : Array Field} {f : Field} (off : Nat) (hu : c.P.underlying t = some (.struct fs)) (hf : fs[i]? = some f) (ho : f.offset = off) (hz : ∀ w, (sizeOf f.type).run c.P w = .ok sz w) (hn : sz ≠ 0) (hx : ev g E x = some (ptr b o)) :
    OpV c g E L ⟨d, .fieldAddr t x i, ty, pos, af, gu⟩ (ptr b (o + off)) := .mk fun a w hE hg hS => by
  simp [execOp, hE.ev hg hx, Instr.fieldAt, underlying, program, Sem.run, hu, hf, Instr.sureAddr, fieldPlace, hz, hn, add_mk, ho]
theorem v_fieldAdr {fs : Array Field} {f : Field} (off : Nat) (hu : c.P.underlying t = some (.struct fs)) (hf : fs[i]? = some f) (ho : f.offset = off) (hz : ∀ w, (sizeOf f.type).run c.P w = .ok sz w) (hn : sz ≠ 0) {k : Nat} (hx : ev g E x = some (adr (some ⟨b, o, none⟩) k)) :
    OpV c g E L ⟨d, .fieldAddr t x i, ty, pos, af, gu⟩ (adr (some ⟨b, o, none⟩) (k + off)) := .mk fun a w hE hg hS => by
  simp [execOp, hE.ev hg hx, Instr.fieldAt, underlying, program, Sem.run, hu, hf, Instr.sureAddr, fieldPlace, hz, hn, add_mk, ho, adr, Nat.add_assoc]
/-- the field of an element: the slice has the element -/
theorem v_fieldAdrS {fs : Array Field} {f : Field} {rows : List (List Value)} {sz' k : Nat} (off : Nat) (hu : c.P.underlying t = some (.struct fs)) (hf : fs[i]? = some f) (ho : f.offset = off) (hz : ∀ w, (sizeOf f.type).run c.P w = .ok sz w) (hn : sz ≠ 0)
    (hx : ev g E x = some (adr s k)) [h : SlR L s sz' rows] (hne : j < rows.length) : OpV c g E L ⟨d, .fieldAddr t x i, ty, pos, af, gu⟩ (adr s (k + off)) := .mk fun a w hE hg hS => by
  rcases h.out _ _ hS with h | ⟨b, o, _, rfl, _⟩
  · subst h; simp at hne
  · exact (v_fieldAdr off hu hf ho hz hn hx).out a w hE hg hS
theorem v_idxS {rows : List (List Value)} {q : Int} {sz' : Nat} (j : Nat) (hu : c.P.underlying t = some (.slice e)) (hz : ∀ w, (sizeOf e).run c.P w = .ok sz w) (hx : ev g E x = some (sl s n cap)) (hy : ev g E y = some (.int k q)) (hj : q = (j : Int)) (hlt : j < n)
    [h : SlR L s sz' rows] (hlr : j < rows.length) : OpV c g E L ⟨d, .indexAddr t x y, ty, pos, af, gu⟩ (adr s (j * sz)) := .mk fun a w hE hg hS => by
  subst hj
  rcases h.out _ _ hS with h | ⟨b, o, _, rfl, _⟩
  · subst h; simp at hlr
  · have : (j : Int) < (n : Int) := by omega
    simp [execOp, hE.ev hg hx, hE.ev hg hy, Instr.indexAt, underlying, program, Sem.run, hu, sl, adr, asIntOf, this, hlt, hz, add_mk]
/-- an element of an array in memory -/
theorem v_idxA {q : Int} (j : Nat) (hu : c.P.underlying t = some (.array n e)) (hz : ∀ w, (sizeOf e).run c.P w = .ok sz w) (hx : ev g E x = some (ptr b o)) (hy : ev g E y = some (.int k q)) (hj : q = (j : Int)) (hlt : j < n) :
    OpV c g E L ⟨d, .indexAddr t x y, ty, pos, af, gu⟩ (ptr b (o + j * sz)) := .mk fun a w hE hg hS => by
  subst hj
  have : (j : Int) < (n : Int) := by omega
  simp [execOp, hE.ev hg hx, hE.ev hg hy, Instr.indexAt, underlying, program, Sem.run, hu, asIntOf, Instr.sureAddr, this, hlt, hz, add_mk]
/-- an element of an array that is a value -/
theorem v_index {q : Int} {cs : Array Value} (j : Nat) (hu : c.P.underlying t = some (.array n e)) (hz : ∀ w, (sizeOf e).run c.P w = .ok 1 w) (ha : ∀ w, (isAgg e).run c.P w = .ok false w) (hx : ev g E x = some (.agg cs)) (hy : ev g E y = some (.int k q)) (hj : q = (j : Int)) (hlt : j < n)
    (hv : cs[j]? = some v) : OpV c g E L ⟨d, .index t x y, ty, pos, af, gu⟩ v := .mk fun a w hE hg hS => by
  subst hj
  have : (j : Int) < (n : Int) := by omega
  simp [execOp, hE.ev hg hx, hE.ev hg hy, Instr.index, underlying, program, Sem.run, hu, asIntOf, this, hlt, hz, part, ha, hv]
theorem v_indexStr {q : Int} {p : List UInt8} {r : UInt8} (j : Nat) (hu : c.P.underlying t = some .string) (hx : ev g E x = some (Str p)) (hy : ev g E y = some (.int k q)) (hj : q = (j : Int)) (hv : p[j]? = some r) :
    OpV c g E L ⟨d, .index t x y, ty, pos, af, gu⟩ (By r.toNat) := .mk fun a w hE hg hS => by
  subst hj
  have hlt := (List.getElem?_eq_some_iff.1 hv).1
  have : (⟨⟨p⟩⟩ : ByteArray)[j]? = some r := by
    rw [getElem?_pos (⟨⟨p⟩⟩ : ByteArray) j hlt]
    have := (List.getElem?_eq_some_iff.1 hv).2
    exact congrArg some this
  simp [execOp, hE.ev hg hx, hE.ev hg hy, Instr.index, underlying, program, Sem.run, hu, asIntOf, this]
theorem v_field {fs : Array Field} {f : Field} {cs : Array Value} (hu : c.P.underlying t = some (.struct fs)) (hf : fs[i]? = some f) (ha : ∀ w, (isAgg f.type).run c.P w = .ok false w) (hx : ev g E x = some (.agg cs)) (hv : cs[f.offset]? = some v) :
    OpV c g E L ⟨d, .field t x i, ty, pos, af, gu⟩ v := .mk fun a w hE hg hS => by
  simp [execOp, hE.ev hg hx, Instr.field, underlying, program, Sem.run, hu, hf, asAgg, part, ha, hv]

/-! loads -/
theorem run_load {w : World} {a : Addr} {P : Program} (h : w.cell? a = some v) : (load a).run P w = .ok v w := by simp [load, Sem.run, h]
theorem v_load {ob : Obj} (ha : ∀ w, (isAgg t).run c.P w = .ok false w) (hx : ev g E x = some (ptr b o)) [h : Has L b ob] (hv : objCell ob o = some v) : OpV c g E L ⟨d, .load t x, ty, pos, af, gu⟩ v := .mk fun a w hE hg hS => by
  have := cell_of (h.out _ _ hS) hv
  simp [execOp, hE.ev hg hx, Instr.loadAt, Instr.sureAddr, loadVar, load, Sem.run, ha, this]
theorem v_loadS {rows : List (List Value)} {row : List Value} {f : Nat} (ha : ∀ w, (isAgg t).run c.P w = .ok false w) (hx : ev g E x = some (adr s (j * sz + f))) [h : SlR L s sz rows] (hr : rows[j]? = some row) (hv : row[f]? = some v) : OpV c g E L ⟨d, .load t x, ty, pos, af, gu⟩ v := .mk fun a w hE hg hS => by
  rcases h.out _ _ hS with h | ⟨b, o, ob, rfl, hh, hR⟩
  · subst h; cases hr
  · have := cell_of hh (hR j row hr f v hv)
    simp [execOp, hE.ev hg hx, Instr.loadAt, Instr.sureAddr, loadVar, load, Sem.run, ha, adr, add_mk, this]
theorem v_loadS0 {rows : List (List Value)} {row : List Value} (ha : ∀ w, (isAgg t).run c.P w = .ok false w) (hx : ev g E x = some (adr s (j * sz))) [h : SlR L s sz rows] (hr : rows[j]? = some row) (hv : row[0]? = some v) : OpV c g E L ⟨d, .load t x, ty, pos, af, gu⟩ v :=
  v_loadS (f := 0) ha hx hr hv
theorem run_loadCells {P : Program} {w : World} (b : Nat) : ∀ (n i o : Nat) (acc : Array Value) (vs : List Value), vs.length = n → (∀ k v, vs[k]? = some v → w.cell? ⟨b, o + (i + k), none⟩ = some v) →
    (loadCellsFrom ⟨b, o, none⟩ i n acc).run P w = .ok (acc ++ vs.toArray) w
  | 0, i, o, acc, vs, hl, _ => by
    have : vs = [] := List.length_eq_zero_iff.1 hl
    subst this; simp [loadCellsFrom]
  | n + 1, i, o, acc, vs, hl, h => by
    match vs, hl with
    | v :: vs, hl =>
      have h0 := h 0 v rfl
      have ih := run_loadCells (P := P) b n (i + 1) o (acc.push v) vs (by simpa using hl) (fun k u hk => by
        have := h (k + 1) u (by simpa using hk)
        rwa [show o + (i + (k + 1)) = o + (i + 1 + k) by omega] at this)
      simp only [loadCellsFrom, Sem.run_bind, add_mk, Nat.add_zero] at h0 ⊢
      rw [run_load h0]
      simp only [Result.andThen_ok, ih]
      simp
theorem v_loadA {ob : Obj} {vs : List Value} (ha : ∀ w, (isAgg t).run c.P w = .ok true w) (hz : ∀ w, (sizeOf t).run c.P w = .ok sz w) (hx : ev g E x = some (ptr b o)) [h : Has L b ob] (hl : vs.length = sz) (hv : ∀ k v, vs[k]? = some v → objCell ob (o + k) = some v) :
    OpV c g E L ⟨d, .load t x, ty, pos, af, gu⟩ (.agg vs.toArray) := .mk fun a w hE hg hS => by
  have hh := h.out _ _ hS
  have := run_loadCells (P := c.P) (w := w) b sz 0 o #[] vs hl (fun k v hk => by simpa using cell_of hh (hv k v hk))
  simp [execOp, hE.ev hg hx, Instr.loadAt, Instr.sureAddr, loadVar, ha, hz, loadCells, this]
theorem v_loadAS {rows : List (List Value)} {row : List Value} (ha : ∀ w, (isAgg t).run c.P w = .ok true w) (hz : ∀ w, (sizeOf t).run c.P w = .ok sz w) (hx : ev g E x = some (adr s (j * sz))) [h : SlR L s sz rows] (hr : rows[j]? = some row) (hl : row.length = sz) :
    OpV c g E L ⟨d, .load t x, ty, pos, af, gu⟩ (.agg row.toArray) := .mk fun a w hE hg hS => by
  rcases h.out _ _ hS with h | ⟨b, o, ob, rfl, hh, hR⟩
  · subst h; cases hr
  · have := run_loadCells (P := c.P) (w := w) b sz 0 (o + j * sz) #[] row hl (fun k v hk => by
      have := cell_of hh (hR j row hr k v hk)
      simpa [Nat.add_assoc] using this)
    simp [execOp, hE.ev hg hx, Instr.loadAt, Instr.sureAddr, loadVar, ha, hz, loadCells, adr, add_mk, this]
end
end Go.Sl
