/- What single operations do (8): makeSlice, copy, slice expressions, empty slice literals, bytes to strings. No condition. -/
import Derived.Test.YthdjckbjjfiopacSl11
namespace Go.Sl
set_option linter.unusedVariables false
set_option linter.unusedSimpArgs false
section
variable {c : Cx} {g : Option (Nat × Bool)} {E : Env} {L L' : List HProp} {d : Option Tmp} {ty : TypeId} {pos : String} {af : Array Edge} {gu : Option (Nat × Bool)} {K : List KI}
variable {x y z : Operand} {t u e : TypeId} {k : IntKind} {v v1 v2 : Value} {s : Option Addr} {b o i j n sz cap off : Nat}

theorem Rows.rep {zr : Array Value} {T : TypeId} (n : Nat) (h0 : 0 < zr.size) : Rows (.cells ((Array.range (n * zr.size)).map (zr[· % zr.size]!)) T (0, 0)) 0 zr.size (List.replicate n zr.toList) := fun j row hj f v hf => by
  simp only [List.getElem?_replicate] at hj
  split at hj
  · rename_i hjn
    injection hj with hj; subst hj
    have hf' : f < zr.size := by simpa using (List.getElem?_eq_some_iff.1 hf).1
    have hlt : j * zr.size + f < n * zr.size := by
      have : (j + 1) * zr.size ≤ n * zr.size := Nat.mul_le_mul_right _ hjn
      rw [Nat.add_mul, Nat.one_mul] at this; omega
    simp only [objCell, Nat.zero_add]
    rw [Array.getElem?_map, Array.getElem?_range, if_pos hlt]
    simp only [Option.map_some]
    rw [Nat.mul_comm, Nat.mul_add_mod, Nat.mod_eq_of_lt hf']
    rw [getElem!_pos zr f hf']
    obtain ⟨h1, h2⟩ := List.getElem?_eq_some_iff.1 hf
    rw [← h2]; simp
  · cases hj
theorem l_makeSlice {zv : Value} {info : TypeInfo} {m : Int} (n : Nat) (hu : c.P.underlying t = some (.slice e)) (hz : ∀ w, (sizeOf e).run c.P w = .ok sz w) (hzv : ∀ w, (zeroValue e).run c.P w = .ok zv w) (hti : ∀ w, (typeInfo e).run c.P w = .ok info w)
    (hzs : zv.cells.size = sz) (h0 : 0 < sz) (hx : ev g E x = some (I m)) (hy : ev g E y = some (I m)) (hn : m = n) (hb : n ≤ 1048576 ∧ info.bytes ≤ 4096) :
    OpL c g E L ⟨d, .makeSlice t x y, ty, pos, af, gu⟩ fun v L' => ∃ b, v = sl (some ⟨b, 0, none⟩) n n ∧ L' = owL e sz (some ⟨b, 0, none⟩) n (List.replicate n zv.cells.toList) :: L :=
  .of_run fun a w hE hg hS => by
    subst hn
    subst hzs
    have hw : IntKind.i64.wrap (n : Int) = n := w64 (by omega)
    have h48 : (info.bytes : Int) * n ≤ 2 ^ 48 := by
      have h1 : info.bytes * n ≤ 4096 * 1048576 := Nat.mul_le_mul hb.2 hb.1
      have h2 : ((info.bytes * n : Nat) : Int) = (info.bytes : Int) * n := by simp
      rw [← h2]; omega
    refine ⟨sl (some ⟨w.heap.size, 0, none⟩) n n, { w with heap := w.heap.push (.cells ((Array.range (n * zv.cells.size)).map (zv.cells[· % zv.cells.size]!)) e (0, 0)) }, owL e zv.cells.size (some ⟨w.heap.size, 0, none⟩) n (List.replicate n zv.cells.toList) :: L, ?_, ?_, _, rfl, rfl⟩
    · have h48' : ¬ ((281474976710656 : Int) < (info.bytes : Int) * n) := by omega
      have hi : ∀ w' : World, (asInt (I n)).run c.P w' = .ok (n : Int) w' := fun w' => by simp [asInt, asIntOf, Sem.run]
      have e1 := hE.ev hg hx
      have e2 := hE.ev hg hy
      have hask := fun (w : World) (k : Nat) => askRoom_run (P := c.P) (w := w) k
      have hnn : ¬ ((n : Int) < 0) := by omega
      have hw0 : IntKind.i64.wrap 0 = 0 := w64 (by omega)
      by_cases hn0 : n = 0
      · subst hn0
        simp [execOp, Instr.makeSlice, underlying, program, Sem.run, hu, hz, hti, e1, e2, asInt, asIntOf, hw0, hask, newRow, newObj, sl]
        have er : ∀ f : Nat → Value, Array.map f (Array.range 0) = #[] := fun f => Array.eq_empty_of_size_eq_zero (by simp)
        rw [er, er]
      · have hnz : ¬ n * zv.cells.size = 0 := by
          have := Nat.mul_pos (show 0 < n by omega) h0; omega
        simp [execOp, Instr.makeSlice, underlying, program, Sem.run, hu, hz, hzv, hti, e1, e2, asInt, asIntOf, hw, h48', hask, newRow, newObj, sl, hnz]
        intro h; omega
    · refine (hS.alloc _).weak fun m hm => .inr ⟨_, _, rfl, hm, by simp, by simp, fun row hr => ?_, Rows.rep n h0⟩
      obtain ⟨_, rfl⟩ := List.mem_replicate.1 hr
      simp
/-- where a view of a slice lies -/
def At (ya s : Option Addr) (p sz m : Nat) : Prop := (ya = s ∧ p = 0) ∨ ya = s.map (·.add (p * sz)) ∨ m = 0
theorem copy_rows {cs : Array Value} {T : TypeId} {rows news : List (List Value)} {l : Nat} (h0 : 0 < sz) (hcs : cs.size = cap * sz) (hcap : rows.length ≤ cap) (hfit : l + news.length ≤ rows.length) (hl : ∀ r ∈ rows, r.length = sz) (hnl : ∀ r ∈ news, r.length = sz) (hr : Rows (.cells cs T (0, 0)) 0 sz rows) :
    l * sz + news.flatten.length ≤ cs.size ∧ Rows (.cells (splice cs (l * sz) news.flatten) T (0, 0)) 0 sz (rows.take l ++ news ++ rows.drop (l + news.length)) := by
  have hle : l * sz + news.flatten.length ≤ cs.size := by
    rw [flatten_len news hnl, hcs, ← Nat.add_mul]
    exact Nat.mul_le_mul_right _ (by omega)
  refine ⟨hle, fun j row hj f v hf => ?_⟩
  have key : ∀ {j : Nat} {row : List Value} {f : Nat} {v : Value}, rows[j]? = some row → row[f]? = some v → (j < l ∨ l + news.length ≤ j) → (splice cs (l * sz) news.flatten)[j * sz + f]? = some v := fun {j row f v} hj hf hjl => by
    have := hr j row hj f v hf
    simp only [objCell, Nat.zero_add] at this
    have hf' : f < sz := by rw [← hl row (List.mem_of_getElem? hj)]; exact (List.getElem?_eq_some_iff.1 hf).1
    rw [splice_at _ _ _ hle, if_neg]
    · exact this
    · rw [flatten_len news hnl]
      rintro ⟨h1, h2⟩
      rcases hjl with h | h
      · have : (j + 1) * sz ≤ l * sz := Nat.mul_le_mul_right _ h
        rw [Nat.add_mul, Nat.one_mul] at this; omega
      · have : (l + news.length) * sz ≤ j * sz := Nat.mul_le_mul_right _ h
        rw [Nat.add_mul] at this; omega
  simp only [objCell, Nat.zero_add]
  have hlt : l ≤ rows.length := by omega
  rcases Nat.lt_or_ge j l with h | h
  · rw [List.append_assoc, List.getElem?_append_left (by simp; omega), List.getElem?_take_of_lt h] at hj
    exact key hj hf (.inl h)
  · rcases Nat.lt_or_ge j (l + news.length) with h2 | h2
    · rw [List.getElem?_append_left (by simp; omega), List.getElem?_append_right (by simp; omega)] at hj
      simp only [List.length_take, Nat.min_eq_left hlt] at hj
      have hf' : f < sz := by rw [← hnl row (List.mem_of_getElem? hj)]; exact (List.getElem?_eq_some_iff.1 hf).1
      obtain ⟨q, rfl⟩ : ∃ q, j = l + q := ⟨j - l, by omega⟩
      have hq : q < news.length := by omega
      have hqs : (q + 1) * sz ≤ news.length * sz := Nat.mul_le_mul_right _ hq
      rw [Nat.add_mul, Nat.one_mul] at hqs
      rw [splice_at _ _ _ hle, if_pos (by rw [flatten_len news hnl, Nat.add_mul]; omega)]
      rw [Nat.add_mul, show l * sz + q * sz + f - l * sz = q * sz + f by omega, flatten_at h0 news hnl]
      rw [show (q * sz + f) / sz = q by rw [Nat.mul_comm, Nat.mul_add_div h0, Nat.div_eq_of_lt hf']; rfl, show (q * sz + f) % sz = f by rw [Nat.mul_comm, Nat.mul_add_mod, Nat.mod_eq_of_lt hf']]
      rw [show l + q - l = q by omega] at hj
      rw [hj]; exact hf
    · rw [List.getElem?_append_right (by simp; omega)] at hj
      simp only [List.length_append, List.length_take, Nat.min_eq_left hlt, List.getElem?_drop] at hj
      rw [show l + news.length + (j - (l + news.length)) = j by omega] at hj
      exact key hj hf (.inr h2)
theorem At.addr {ya : Option Addr} {p m off : Nat} (h : At ya (some ⟨b, off, none⟩) p sz m) (hm : 0 < m) : ya = some ⟨b, off + p * sz, none⟩ := by
  rcases h with ⟨rfl, rfl⟩ | rfl | h
  · simp
  · simp [Addr.add]
  · omega
theorem Rows.part {ob : Obj} {off p q : Nat} {rows : List (List Value)} (h : Rows ob off sz rows) : Rows ob (off + p * sz) sz ((rows.drop p).take q) := fun j row hj f v hf => by
  have hjq : j < q := by
    have := (List.getElem?_eq_some_iff.1 hj).1
    simp at this; omega
  rw [List.getElem?_take_of_lt hjq, List.getElem?_drop] at hj
  have := h _ row hj f v hf
  rwa [Nat.add_mul, Nat.add_assoc, ← Nat.add_assoc off] at this
theorem exec_copy {a : Act} {w : World} {P : Program} {X Y : Value} {r : Result Value} (hx : a.eval x = X) (hy : a.eval y = Y) (h : (Builtin.copy_ #[t, u] ty #[X, Y]).run P w = r) :
    (execOp a.eval ⟨d, .call { callee := .builtin .copy, args := #[x, y], argTypes := #[t, u] }, ty, pos, af, gu⟩).run P w = r.andThen fun v w' => .ok (.value v) w' := by
  simp [execOp, resolve, invoke, builtin, hx, hy, h]
theorem run_first' {P : Program} {w : World} {m : Nat} {rows : List (List Value)} (h0 : 0 < sz) (hl : ∀ r ∈ rows, r.length = sz) (hn : rows.length = n) (h : rows = [] ∨ ∃ b off o, s = some ⟨b, off, none⟩ ∧ w.heap[b]? = some o ∧ Rows o off sz rows) :
    (Builtin.firstCells sz n (sl s m cap)).run P w = .ok rows.flatten.toArray w := by
  have := run_first (P := P) (w := w) (cap := cap) (s := s) h0 hl hn h
  cases s <;> simpa [Builtin.firstCells, sl] using this
theorem l_copy {s2 xa ya : Option Addr} {l p q m cx cy : Nat} {T : Nat} {rows rows2 : List (List Value)} {F : List HProp} (hu : c.P.underlying t = some (.slice T)) (hz : ∀ w, (sizeOf T).run c.P w = .ok sz w) (h0 : 0 < sz)
    (hx : ev g E x = some (sl xa q cx)) (hy : ev g E y = some (sl ya m cy)) [R : OwR L s T sz cap rows F] [Y : SlR L s2 sz rows2] (hxa : At xa s l sz q) (hya : At ya s2 p sz m) (hk : l + q ≤ rows.length) (hm : p + m ≤ rows2.length)
    (hnl : ∀ r ∈ rows2, r.length = sz) (h1 : ∀ r ∈ rows2, ones r = true) :
    OpL c g E L ⟨d, .call { callee := .builtin .copy, args := #[x, y], argTypes := #[t, u] }, ty, pos, af, gu⟩ fun v L' => v = I (Nat.min m q) ∧ L' = owL T sz s cap (rows.take l ++ ((rows2.drop p).take (Nat.min m q)) ++ rows.drop (l + Nat.min m q)) :: F :=
  .of_run fun a w hE hg hS => by
    have hS1 := R.sat hS
    have hY := Y.out _ _ hS
    have e1 := hE.ev hg hx
    have e2 := hE.ev hg hy
    generalize hr : Nat.min m q = r
    have hr1 : r ≤ m := by rw [← hr]; exact Nat.min_le_left _ _
    have hr2 : r ≤ q := by rw [← hr]; exact Nat.min_le_right _ _
    have hnews : ∀ x ∈ (rows2.drop p).take r, x.length = sz := fun x hx => hnl x (List.mem_of_mem_drop (List.mem_of_mem_take hx))
    have hlen : ((rows2.drop p).take r).length = r := by simp; omega
    have hones : ones ((rows2.drop p).take r).flatten = true := ones_of fun v hv => by
      obtain ⟨x, hx, hv⟩ := List.mem_flatten.1 hv
      exact ones_mem (h1 x (List.mem_of_mem_drop (List.mem_of_mem_take hx))) v hv
    have hfirst : (Builtin.firstCells sz r (sl ya m cy)).run c.P w = .ok ((rows2.drop p).take r).flatten.toArray w := by
      refine run_first' h0 hnews hlen ?_
      by_cases hr0 : r = 0
      · left; rw [hr0]; rfl
      · right
        rcases hY with h | ⟨b, off, o, rfl, hh, hR⟩
        · subst h; simp at hm; omega
        · exact ⟨b, off + p * sz, o, hya.addr (by omega), hh, hR.part⟩
    have hlo : (Builtin.lenOf (Value.slice ya m cy)).run c.P w = .ok m w := lenOf_sl
    have hfi : (Builtin.firstCells sz r (Value.slice ya m cy)).run c.P w = .ok ((rows2.drop p).take r).flatten.toArray w := hfirst
    by_cases hr0 : r = 0
    · subst hr0
      refine ⟨I ((0 : Nat) : Int), w, owL T sz s cap rows :: F, ?_, hS1, rfl, by simp⟩
      refine (exec_copy (r := .ok (I ((0 : Nat) : Int)) w) e1 e2 ?_).trans rfl
      cases xa <;> simp [Builtin.copy_, underlying, program, Sem.run, hu, hz, sl, goInt, storeCells, hlo, hr, hfi]
    · rcases owL_open hS1 with ⟨rfl, rfl, rfl, hF⟩ | ⟨b, cs, rfl, a1, a2, a3, a4, hP⟩
      · simp at hk; omega
      · obtain ⟨hle, hrows⟩ := copy_rows (T := T) (l := l) (news := (rows2.drop p).take r) h0 a1 a2 (by rw [hlen]; omega) a3 hnews a4
        have hst := run_storeCells (P := c.P) b (l * sz) T ((rows2.drop p).take r).flatten w cs 0 hP.at_ (by omega) hones
        have hxa' := hxa.addr (by omega)
        subst hxa'
        refine ⟨I (r : Int), setB w b (.cells (splice cs (l * sz) ((rows2.drop p).take r).flatten) T (0, 0)), _, (exec_copy (r := .ok (I (r : Int)) _) e1 e2 ?_).trans rfl, ?_, rfl, rfl⟩
        · simp [Builtin.copy_, underlying, program, Sem.run, hu, hz, sl, goInt, hlo, hr, hfi, hst]
        · rw [hlen] at hrows
          refine owL_shut (hP.set (o' := .cells (splice cs (l * sz) ((rows2.drop p).take r).flatten) T (0, 0)) rfl) (by rw [splice_size, a1]) (by simp; omega) ?_ hrows
          intro x hx
          rcases List.mem_append.1 hx with hx | hx
          · rcases List.mem_append.1 hx with hx | hx
            · exact a3 x (List.mem_of_mem_take hx)
            · exact hnews x hx
          · exact a3 x (List.mem_of_mem_drop hx)
/-- an empty literal -/
theorem l_build0 (hu : c.P.underlying t = some (.slice e)) (hz : ∀ w, (sizeOf e).run c.P w = .ok sz w) :
    OpL c g E L ⟨d, .buildSlice t 0 #[], ty, pos, af, gu⟩ fun v L' => ∃ b, v = sl (some ⟨b, 0, none⟩) 0 0 ∧ L' = owL e sz (some ⟨b, 0, none⟩) 0 [] :: L :=
  .of_run fun a w hE hg hS => by
    refine ⟨sl (some ⟨w.heap.size, 0, none⟩) 0 0, { w with heap := w.heap.push (.cells #[] e (0, 0)) }, owL e sz (some ⟨w.heap.size, 0, none⟩) 0 [] :: L, ?_, ?_, _, rfl, rfl⟩
    · have er : ∀ f : Nat → Value, Array.map f (Array.range 0) = #[] := fun f => Array.eq_empty_of_size_eq_zero (by simp)
      simp [execOp, Instr.buildSlice, underlying, program, Sem.run, hu, hz, newRow, newObj, sl, Instr.fill, er]
    · exact (hS.alloc _).weak fun m hm => .inr ⟨_, _, rfl, hm, by simp, by simp, by simp, fun j row hj => by simp at hj⟩
/-! slice expressions -/
theorem run_bound {P : Program} {w : World} {i : Nat} {m : Int} {cd : BoundsCode} (h : m = i) (hn : i ≤ n) : (Instr.sliceBound (I m) n cd).run P w = .ok i w := by
  subst h
  simp [Instr.sliceBound, asIntOf, Sem.run, hn]
theorem v_slLo {m : Int} {l : Nat} (hu : c.P.underlying t = some (.slice e)) (hz : ∀ w, (sizeOf e).run c.P w = .ok sz w) (hx : ev g E x = some (sl s n cap)) (hy : ev g E y = some (I m)) (hm : m = l) (hl : l ≤ n) :
    OpV c g E L ⟨d, .slice t x (some y) none none, ty, pos, af, gu⟩ (sl (if cap = l then s else s.map (·.add (l * sz))) (n - l) (cap - l)) := .mk fun a w hE hg hS => by
  have h1 := fun cd => run_bound (P := c.P) (w := w) (cd := cd) hm hl
  simp only [execOp, Instr.sliceAt, Instr.slice, Instr.sliceBounds, Option.map_some, Option.map_none, hE.ev hg hx, hE.ev hg hy, sl]
  simp [underlying, program, Sem.run, hu, hz, h1]
theorem v_slHi {m : Int} {h : Nat} (hu : c.P.underlying t = some (.slice e)) (hz : ∀ w, (sizeOf e).run c.P w = .ok sz w) (hx : ev g E x = some (sl s n cap)) (hy : ev g E y = some (I m)) (hm : m = h) (hl : h ≤ cap) :
    OpV c g E L ⟨d, .slice t x none (some y) none, ty, pos, af, gu⟩ (sl s h cap) := .mk fun a w hE hg hS => by
  have h1 := fun cd => run_bound (P := c.P) (w := w) (cd := cd) hm hl
  simp only [execOp, Instr.sliceAt, Instr.slice, Instr.sliceBounds, Option.map_some, Option.map_none, hE.ev hg hx, hE.ev hg hy, sl]
  simp [underlying, program, Sem.run, hu, hz, h1]
  intro _; cases s <;> simp [Addr.add]
theorem v_slBoth {m m2 : Int} {l h : Nat} (hu : c.P.underlying t = some (.slice e)) (hz : ∀ w, (sizeOf e).run c.P w = .ok sz w) (hx : ev g E x = some (sl s n cap)) (hy : ev g E y = some (I m)) (hm : m = l) (hz2 : ev g E z = some (I m2)) (hm2 : m2 = h) (hl : l ≤ h) (hh : h ≤ cap) :
    OpV c g E L ⟨d, .slice t x (some y) (some z) none, ty, pos, af, gu⟩ (sl (if cap = l then s else s.map (·.add (l * sz))) (h - l) (cap - l)) := .mk fun a w hE hg hS => by
  have h1 := fun cd => run_bound (P := c.P) (w := w) (cd := cd) hm hl
  have h2 := fun cd => run_bound (P := c.P) (w := w) (cd := cd) hm2 hh
  simp only [execOp, Instr.sliceAt, Instr.slice, Instr.sliceBounds, Option.map_some, Option.map_none, hE.ev hg hx, hE.ev hg hy, hE.ev hg hz2, sl]
  simp [underlying, program, Sem.run, hu, hz, h1, h2]
theorem bytes_cut (p : List UInt8) (l h : Nat) : (⟨⟨p⟩⟩ : ByteArray).extract l h = ⟨⟨(p.take h).drop l⟩⟩ := by
  apply ByteArray.ext
  rw [ByteArray.data_extract]
  simp [List.extract_eq_take_drop, List.drop_take]
theorem v_strLo {m : Int} {l : Nat} {p : List UInt8} (hu : c.P.underlying t = some .string) (hx : ev g E x = some (Str p)) (hy : ev g E y = some (I m)) (hm : m = l) (hl : l ≤ p.length) :
    OpV c g E L ⟨d, .slice t x (some y) none none, ty, pos, af, gu⟩ (Str (p.drop l)) := .mk fun a w hE hg hS => by
  have hs : (⟨⟨p⟩⟩ : ByteArray).size = p.length := rfl
  have h1 := fun cd => run_bound (P := c.P) (w := w) (cd := cd) (n := p.length) hm hl
  simp only [execOp, Instr.sliceAt, Instr.slice, Instr.sliceBounds, Option.map_some, Option.map_none, hE.ev hg hx, hE.ev hg hy]
  simp [underlying, program, Sem.run, hu, h1, bytes_cut, hs]
theorem v_strHi {m : Int} {h : Nat} {p : List UInt8} (hu : c.P.underlying t = some .string) (hx : ev g E x = some (Str p)) (hy : ev g E y = some (I m)) (hm : m = h) (hl : h ≤ p.length) :
    OpV c g E L ⟨d, .slice t x none (some y) none, ty, pos, af, gu⟩ (Str (p.take h)) := .mk fun a w hE hg hS => by
  have hs : (⟨⟨p⟩⟩ : ByteArray).size = p.length := rfl
  have h1 := fun cd => run_bound (P := c.P) (w := w) (cd := cd) (n := p.length) hm hl
  simp only [execOp, Instr.sliceAt, Instr.slice, Instr.sliceBounds, Option.map_some, Option.map_none, hE.ev hg hx, hE.ev hg hy]
  simp [underlying, program, Sem.run, hu, h1, bytes_cut, hs]
theorem v_strBoth {m m2 : Int} {l h : Nat} {p : List UInt8} (hu : c.P.underlying t = some .string) (hx : ev g E x = some (Str p)) (hy : ev g E y = some (I m)) (hm : m = l) (hz2 : ev g E z = some (I m2)) (hm2 : m2 = h) (hl : l ≤ h) (hh : h ≤ p.length) :
    OpV c g E L ⟨d, .slice t x (some y) (some z) none, ty, pos, af, gu⟩ (Str ((p.take h).drop l)) := .mk fun a w hE hg hS => by
  have hs : (⟨⟨p⟩⟩ : ByteArray).size = p.length := rfl
  have h1 := fun cd => run_bound (P := c.P) (w := w) (cd := cd) hm hl
  have h2 := fun cd => run_bound (P := c.P) (w := w) (cd := cd) (n := p.length) hm2 hh
  simp only [execOp, Instr.sliceAt, Instr.slice, Instr.sliceBounds, Option.map_some, Option.map_none, hE.ev hg hx, hE.ev hg hy, hE.ev hg hz2]
  simp [underlying, program, Sem.run, hu, h1, h2, bytes_cut, hs]
end
end Go.Sl
