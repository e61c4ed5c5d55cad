/- The layer, part B: several texts in one. No condition. -/
import Derived.Test.YthdjckbjjfiopacSlA
import Derived.Laws.BytesString
/- What single operations do (7): operations that a guard skips, picks whose choice is known. No condition. -/
namespace Go.Sl
set_option linter.unusedVariables false
set_option linter.unusedSimpArgs false
section
variable {c : Cx} {g : Option (Nat × Bool)} {E : Env} {L L' : List HProp} {d : Option Tmp} {ty : TypeId} {pos : String} {af : Array Edge} {gu : Option (Nat × Bool)} {K : List KI}
variable {x y z : Operand} {t u e : TypeId} {k : IntKind} {v v1 v2 : Value} {s : Option Addr} {b o i j n sz cap off : Nat}
variable {all rest : List Oper} {dd : Nat} {op : Op} {N : Value → List HProp → Prop}
def notB (v : Value) (want : Bool) : Bool := match v with | .bool b => b != want | _ => true
/-- a guard that is known to hold it off, or that was held off itself -/
theorem g_no {i s : Nat} {vs : Value} {want : Bool} (hi : (all[i]?).bind (·.dst) = some s) (hs : look none E s = some vs) (hw : notB vs want = true) (hd : dOk c.n dd E = true)
    (k : G c (.ops all rest :: K) ((dd, none, undef) :: E) L) : G c (.ops all (⟨some dd, op, ty, pos, af, some (i, want)⟩ :: rest) :: K) E L := fun a w hE hS => by
  have h1 := hE.look (gd_none a) hs
  have hy : yielded all.toArray a.tmps i ≠ some want := by
    cases vs <;> simp [yielded, hi, h1, notB] at hw ⊢
    all_goals (rename_i b; cases b <;> cases want <;> simp at hw ⊢)
  refine wpList_step fun nx hk => ?_
  rw [if_neg (by simp [Region.wanted, hy])]
  exact hk _ _ (k _ w (hE.put1 hd) hS)
theorem v_pk1 {q : Bool} (hz : ev g E z = some (.bool q)) (hq : q = true) (hx : ev g E x = some v1) : OpV c g E L ⟨d, .pick z x y, ty, pos, af, gu⟩ v1 := .mk fun a w hE hg hS => by
  simp [execOp, hE.ev hg hz, hE.ev hg hx, asBool, hq]
theorem v_pk2 {q : Bool} (hz : ev g E z = some (.bool q)) (hq : q = false) (hy : ev g E y = some v1) : OpV c g E L ⟨d, .pick z x y, ty, pos, af, gu⟩ v1 := .mk fun a w hE hg hS => by
  simp [execOp, hE.ev hg hz, hE.ev hg hy, asBool, hq]
/-- the low n bits of an int -/
theorem v_mask (n : Nat) {a m : Int} {yt : TypeId} (hx : ev g E x = some (I a)) (hn : n ≤ 62) (hm : m = 2 ^ n - 1) : OpV c g E L ⟨d, .binOp .and t x (.const (.int .i64 m)) yt, ty, pos, af, gu⟩ (I (a % 2 ^ n)) := by
  refine v_bits (.inl rfl) hx rfl fun P w => ?_
  have h1 : (2 : Int) ^ n = ((2 ^ n : Nat) : Int) := by simp
  have hp : 2 ^ n ≤ 2 ^ 62 := Nat.pow_le_pow_right (by decide) hn
  have hp1 : 1 ≤ 2 ^ n := Nat.one_le_two_pow
  have h2 : (BitVec.ofInt IntKind.i64.bits m).toNat = 2 ^ n - 1 := by
    rw [BitVec.toNat_ofInt, hm, h1]
    have : IntKind.i64.bits = 64 := rfl
    rw [this, Int.emod_eq_of_lt (by omega) (by simp; omega)]
    omega
  have h3 : ((BitVec.ofInt IntKind.i64.bits a &&& BitVec.ofInt IntKind.i64.bits m).toNat : Int) = a % 2 ^ n := by
    rw [BitVec.toNat_and, h2, Nat.and_two_pow_sub_one_eq_mod, BitVec.toNat_ofInt]
    have e : IntKind.i64.bits = 64 := rfl
    rw [e, Int.natCast_emod, Int.toNat_of_nonneg (Int.emod_nonneg _ (by simp)), h1]
    refine Int.emod_emod_of_dvd _ ?_
    have : ((2 ^ n : Nat) : Int) ∣ ((2 ^ 64 : Nat) : Int) := Int.natCast_dvd_natCast.2 (Nat.pow_dvd_pow 2 (by omega))
    exact this
  have h4 : 0 ≤ a % 2 ^ n := Int.emod_nonneg _ (by rw [h1]; omega)
  have h5 : a % 2 ^ n < 2 ^ n := Int.emod_lt_of_pos _ (by rw [h1]; omega)
  simp only [Op.intBits, h3]
  rw [w64 (by omega)]
  rfl
end
end Go.Sl

/- What single operations do (8): makeSlice, copy, slice expressions, empty slice literals, bytes to strings. No condition. -/
namespace Go.Sl
set_option linter.unusedVariables false
set_option linter.unusedSimpArgs false
section
variable {c : Cx} {g : Option (Nat × Bool)} {E : Env} {L L' : List HProp} {d : Option Tmp} {ty : TypeId} {pos : String} {af : Array Edge} {gu : Option (Nat × Bool)} {K : List KI}
variable {x y z : Operand} {t u e : TypeId} {k : IntKind} {v v1 v2 : Value} {s : Option Addr} {b o i j n sz cap off : Nat}

theorem Rows.rep {zr : Array Value} {T : TypeId} (n : Nat) (h0 : 0 < zr.size) : Rows (.cells ((Array.range (n * zr.size)).map (zr[· % zr.size]!)) T (0, 0)) 0 zr.size (List.replicate n zr.toList) := fun j row hj f v hf => by
  simp only [List.getElem?_replicate] at hj
  split at hj
  · rename_i hjn
    injection hj with hj; subst hj
    have hf' : f < zr.size := by simpa using (List.getElem?_eq_some_iff.1 hf).1
    have hlt : j * zr.size + f < n * zr.size := by
      have : (j + 1) * zr.size ≤ n * zr.size := Nat.mul_le_mul_right _ hjn
      rw [Nat.add_mul, Nat.one_mul] at this; omega
    simp only [objCell, Nat.zero_add]
    rw [Array.getElem?_map, Array.getElem?_range, if_pos hlt]
    simp only [Option.map_some]
    rw [Nat.mul_comm, Nat.mul_add_mod, Nat.mod_eq_of_lt hf']
    rw [getElem!_pos zr f hf']
    obtain ⟨h1, h2⟩ := List.getElem?_eq_some_iff.1 hf
    rw [← h2]; simp
  · cases hj
theorem l_makeSlice {zv : Value} {info : TypeInfo} {m : Int} (n : Nat) (hu : c.P.underlying t = some (.slice e)) (hz : ∀ w, (sizeOf e).run c.P w = .ok sz w) (hzv : ∀ w, (zeroValue e).run c.P w = .ok zv w) (hti : ∀ w, (typeInfo e).run c.P w = .ok info w)
    (hzs : zv.cells.size = sz) (h0 : 0 < sz) (hx : ev g E x = some (I m)) (hy : ev g E y = some (I m)) (hn : m = n) (hb : n ≤ 1048576 ∧ info.bytes ≤ 4096) :
    OpL c g E L ⟨d, .makeSlice t x y, ty, pos, af, gu⟩ fun v L' => ∃ b, v = sl (some ⟨b, 0, none⟩) n n ∧ L' = owL e sz (some ⟨b, 0, none⟩) n (List.replicate n zv.cells.toList) :: L :=
  .of_run fun a w hE hg hS => by
    subst hn
    subst hzs
    have hw : IntKind.i64.wrap (n : Int) = n := w64 (by omega)
    have h48 : (info.bytes : Int) * n ≤ 2 ^ 48 := by
      have h1 : info.bytes * n ≤ 4096 * 1048576 := Nat.mul_le_mul hb.2 hb.1
      have h2 : ((info.bytes * n : Nat) : Int) = (info.bytes : Int) * n := by simp
      rw [← h2]; omega
    refine ⟨sl (some ⟨w.heap.size, 0, none⟩) n n, { w with heap := w.heap.push (.cells ((Array.range (n * zv.cells.size)).map (zv.cells[· % zv.cells.size]!)) e (0, 0)) }, owL e zv.cells.size (some ⟨w.heap.size, 0, none⟩) n (List.replicate n zv.cells.toList) :: L, ?_, ?_, _, rfl, rfl⟩
    · have h48' : ¬ ((281474976710656 : Int) < (info.bytes : Int) * n) := by omega
      have hi : ∀ w' : World, (asInt (I n)).run c.P w' = .ok (n : Int) w' := fun w' => by simp [asInt, asIntOf, Sem.run]
      have e1 := hE.ev hg hx
      have e2 := hE.ev hg hy
      have hask := fun (w : World) (k : Nat) => askRoom_run (P := c.P) (w := w) k
      have hnn : ¬ ((n : Int) < 0) := by omega
      have hw0 : IntKind.i64.wrap 0 = 0 := w64 (by omega)
      by_cases hn0 : n = 0
      · subst hn0
        simp [execOp, Instr.makeSlice, underlying, program, Sem.run, hu, hz, hti, e1, e2, asInt, asIntOf, hw0, hask, newRow, newObj, sl]
        have er : ∀ f : Nat → Value, Array.map f (Array.range 0) = #[] := fun f => Array.eq_empty_of_size_eq_zero (by simp)
        rw [er, er]
      · have hnz : ¬ n * zv.cells.size = 0 := by
          have := Nat.mul_pos (show 0 < n by omega) h0; omega
        simp [execOp, Instr.makeSlice, underlying, program, Sem.run, hu, hz, hzv, hti, e1, e2, asInt, asIntOf, hw, h48', hask, newRow, newObj, sl, hnz]
        intro h; omega
    · refine (hS.alloc _).weak fun m hm => .inr ⟨_, _, rfl, hm, by simp, by simp, fun row hr => ?_, Rows.rep n h0⟩
      obtain ⟨_, rfl⟩ := List.mem_replicate.1 hr
      simp
/-- where a view of a slice lies -/
def At (ya s : Option Addr) (p sz m : Nat) : Prop := (ya = s ∧ p = 0) ∨ ya = s.map (·.add (p * sz)) ∨ m = 0
theorem copy_rows {cs : Array Value} {T : TypeId} {rows news : List (List Value)} {l : Nat} (h0 : 0 < sz) (hcs : cs.size = cap * sz) (hcap : rows.length ≤ cap) (hfit : l + news.length ≤ rows.length) (hl : ∀ r ∈ rows, r.length = sz) (hnl : ∀ r ∈ news, r.length = sz) (hr : Rows (.cells cs T (0, 0)) 0 sz rows) :
    l * sz + news.flatten.length ≤ cs.size ∧ Rows (.cells (splice cs (l * sz) news.flatten) T (0, 0)) 0 sz (rows.take l ++ news ++ rows.drop (l + news.length)) := by
  have hle : l * sz + news.flatten.length ≤ cs.size := by
    rw [flatten_len news hnl, hcs, ← Nat.add_mul]
    exact Nat.mul_le_mul_right _ (by omega)
  refine ⟨hle, fun j row hj f v hf => ?_⟩
  have key : ∀ {j : Nat} {row : List Value} {f : Nat} {v : Value}, rows[j]? = some row → row[f]? = some v → (j < l ∨ l + news.length ≤ j) → (splice cs (l * sz) news.flatten)[j * sz + f]? = some v := fun {j row f v} hj hf hjl => by
    have := hr j row hj f v hf
    simp only [objCell, Nat.zero_add] at this
    have hf' : f < sz := by rw [← hl row (List.mem_of_getElem? hj)]; exact (List.getElem?_eq_some_iff.1 hf).1
    rw [splice_at _ _ _ hle, if_neg]
    · exact this
    · rw [flatten_len news hnl]
      rintro ⟨h1, h2⟩
      rcases hjl with h | h
      · have : (j + 1) * sz ≤ l * sz := Nat.mul_le_mul_right _ h
        rw [Nat.add_mul, Nat.one_mul] at this; omega
      · have : (l + news.length) * sz ≤ j * sz := Nat.mul_le_mul_right _ h
        rw [Nat.add_mul] at this; omega
  simp only [objCell, Nat.zero_add]
  have hlt : l ≤ rows.length := by omega
  rcases Nat.lt_or_ge j l with h | h
  · rw [List.append_assoc, List.getElem?_append_left (by simp; omega), List.getElem?_take_of_lt h] at hj
    exact key hj hf (.inl h)
  · rcases Nat.lt_or_ge j (l + news.length) with h2 | h2
    · rw [List.getElem?_append_left (by simp; omega), List.getElem?_append_right (by simp; omega)] at hj
      simp only [List.length_take, Nat.min_eq_left hlt] at hj
      have hf' : f < sz := by rw [← hnl row (List.mem_of_getElem? hj)]; exact (List.getElem?_eq_some_iff.1 hf).1
      obtain ⟨q, rfl⟩ : ∃ q, j = l + q := ⟨j - l, by omega⟩
      have hq : q < news.length := by omega
      have hqs : (q + 1) * sz ≤ news.length * sz := Nat.mul_le_mul_right _ hq
      rw [Nat.add_mul, Nat.one_mul] at hqs
      rw [splice_at _ _ _ hle, if_pos (by rw [flatten_len news hnl, Nat.add_mul]; omega)]
      rw [Nat.add_mul, show l * sz + q * sz + f - l * sz = q * sz + f by omega, flatten_at h0 news hnl]
      rw [show (q * sz + f) / sz = q by rw [Nat.mul_comm, Nat.mul_add_div h0, Nat.div_eq_of_lt hf']; rfl, show (q * sz + f) % sz = f by rw [Nat.mul_comm, Nat.mul_add_mod, Nat.mod_eq_of_lt hf']]
      rw [show l + q - l = q by omega] at hj
      rw [hj]; exact hf
    · rw [List.getElem?_append_right (by simp; omega)] at hj
      simp only [List.length_append, List.length_take, Nat.min_eq_left hlt, List.getElem?_drop] at hj
      rw [show l + news.length + (j - (l + news.length)) = j by omega] at hj
      exact key hj hf (.inr h2)
theorem At.addr {ya : Option Addr} {p m off : Nat} (h : At ya (some ⟨b, off, none⟩) p sz m) (hm : 0 < m) : ya = some ⟨b, off + p * sz, none⟩ := by
  rcases h with ⟨rfl, rfl⟩ | rfl | h
  · simp
  · simp [Addr.add]
  · omega
theorem Rows.part {ob : Obj} {off p q : Nat} {rows : List (List Value)} (h : Rows ob off sz rows) : Rows ob (off + p * sz) sz ((rows.drop p).take q) := fun j row hj f v hf => by
  have hjq : j < q := by
    have := (List.getElem?_eq_some_iff.1 hj).1
    simp at this; omega
  rw [List.getElem?_take_of_lt hjq, List.getElem?_drop] at hj
  have := h _ row hj f v hf
  rwa [Nat.add_mul, Nat.add_assoc, ← Nat.add_assoc off] at this
theorem exec_copy {a : Act} {w : World} {P : Program} {X Y : Value} {r : Result Value} (hx : a.eval x = X) (hy : a.eval y = Y) (h : (Builtin.copy_ #[t, u] ty #[X, Y]).run P w = r) :
    (execOp a.eval ⟨d, .call { callee := .builtin .copy, args := #[x, y], argTypes := #[t, u] }, ty, pos, af, gu⟩).run P w = r.andThen fun v w' => .ok (.value v) w' := by
  simp [execOp, resolve, invoke, builtin, hx, hy, h]
theorem run_first' {P : Program} {w : World} {m : Nat} {rows : List (List Value)} (h0 : 0 < sz) (hl : ∀ r ∈ rows, r.length = sz) (hn : rows.length = n) (h : rows = [] ∨ ∃ b off o, s = some ⟨b, off, none⟩ ∧ w.heap[b]? = some o ∧ Rows o off sz rows) :
    (Builtin.firstCells sz n (sl s m cap)).run P w = .ok rows.flatten.toArray w := by
  have := run_first (P := P) (w := w) (cap := cap) (s := s) h0 hl hn h
  cases s <;> simpa [Builtin.firstCells, sl] using this
theorem l_copy {s2 xa ya : Option Addr} {l p q m cx cy : Nat} {T : Nat} {rows rows2 : List (List Value)} {F : List HProp} (hu : c.P.underlying t = some (.slice T)) (hz : ∀ w, (sizeOf T).run c.P w = .ok sz w) (h0 : 0 < sz)
    (hx : ev g E x = some (sl xa q cx)) (hy : ev g E y = some (sl ya m cy)) [R : OwR L s T sz cap rows F] [Y : SlR L s2 sz rows2] (hxa : At xa s l sz q) (hya : At ya s2 p sz m) (hk : l + q ≤ rows.length) (hm : p + m ≤ rows2.length)
    (hnl : ∀ r ∈ rows2, r.length = sz) (h1 : ∀ r ∈ rows2, ones r = true) :
    OpL c g E L ⟨d, .call { callee := .builtin .copy, args := #[x, y], argTypes := #[t, u] }, ty, pos, af, gu⟩ fun v L' => v = I (Nat.min m q) ∧ L' = owL T sz s cap (rows.take l ++ ((rows2.drop p).take (Nat.min m q)) ++ rows.drop (l + Nat.min m q)) :: F :=
  .of_run fun a w hE hg hS => by
    have hS1 := R.sat hS
    have hY := Y.out _ _ hS
    have e1 := hE.ev hg hx
    have e2 := hE.ev hg hy
    generalize hr : Nat.min m q = r
    have hr1 : r ≤ m := by rw [← hr]; exact Nat.min_le_left _ _
    have hr2 : r ≤ q := by rw [← hr]; exact Nat.min_le_right _ _
    have hnews : ∀ x ∈ (rows2.drop p).take r, x.length = sz := fun x hx => hnl x (List.mem_of_mem_drop (List.mem_of_mem_take hx))
    have hlen : ((rows2.drop p).take r).length = r := by simp; omega
    have hones : ones ((rows2.drop p).take r).flatten = true := ones_of fun v hv => by
      obtain ⟨x, hx, hv⟩ := List.mem_flatten.1 hv
      exact ones_mem (h1 x (List.mem_of_mem_drop (List.mem_of_mem_take hx))) v hv
    have hfirst : (Builtin.firstCells sz r (sl ya m cy)).run c.P w = .ok ((rows2.drop p).take r).flatten.toArray w := by
      refine run_first' h0 hnews hlen ?_
      by_cases hr0 : r = 0
      · left; rw [hr0]; rfl
      · right
        rcases hY with h | ⟨b, off, o, rfl, hh, hR⟩
        · subst h; simp at hm; omega
        · exact ⟨b, off + p * sz, o, hya.addr (by omega), hh, hR.part⟩
    have hlo : (Builtin.lenOf (Value.slice ya m cy)).run c.P w = .ok m w := lenOf_sl
    have hfi : (Builtin.firstCells sz r (Value.slice ya m cy)).run c.P w = .ok ((rows2.drop p).take r).flatten.toArray w := hfirst
    by_cases hr0 : r = 0
    · subst hr0
      refine ⟨I ((0 : Nat) : Int), w, owL T sz s cap rows :: F, ?_, hS1, rfl, by simp⟩
      refine (exec_copy (r := .ok (I ((0 : Nat) : Int)) w) e1 e2 ?_).trans rfl
      cases xa <;> simp [Builtin.copy_, underlying, program, Sem.run, hu, hz, sl, goInt, storeCells, hlo, hr, hfi]
    · rcases owL_open hS1 with ⟨rfl, rfl, rfl, hF⟩ | ⟨b, cs, rfl, a1, a2, a3, a4, hP⟩
      · simp at hk; omega
      · obtain ⟨hle, hrows⟩ := copy_rows (T := T) (l := l) (news := (rows2.drop p).take r) h0 a1 a2 (by rw [hlen]; omega) a3 hnews a4
        have hst := run_storeCells (P := c.P) b (l * sz) T ((rows2.drop p).take r).flatten w cs 0 hP.at_ (by omega) hones
        have hxa' := hxa.addr (by omega)
        subst hxa'
        refine ⟨I (r : Int), setB w b (.cells (splice cs (l * sz) ((rows2.drop p).take r).flatten) T (0, 0)), _, (exec_copy (r := .ok (I (r : Int)) _) e1 e2 ?_).trans rfl, ?_, rfl, rfl⟩
        · simp [Builtin.copy_, underlying, program, Sem.run, hu, hz, sl, goInt, hlo, hr, hfi, hst]
        · rw [hlen] at hrows
          refine owL_shut (hP.set (o' := .cells (splice cs (l * sz) ((rows2.drop p).take r).flatten) T (0, 0)) rfl) (by rw [splice_size, a1]) (by simp; omega) ?_ hrows
          intro x hx
          rcases List.mem_append.1 hx with hx | hx
          · rcases List.mem_append.1 hx with hx | hx
            · exact a3 x (List.mem_of_mem_take hx)
            · exact hnews x hx
          · exact a3 x (List.mem_of_mem_drop hx)
/-- an empty literal -/
theorem l_build0 (hu : c.P.underlying t = some (.slice e)) (hz : ∀ w, (sizeOf e).run c.P w = .ok sz w) :
    OpL c g E L ⟨d, .buildSlice t 0 #[], ty, pos, af, gu⟩ fun v L' => ∃ b, v = sl (some ⟨b, 0, none⟩) 0 0 ∧ L' = owL e sz (some ⟨b, 0, none⟩) 0 [] :: L :=
  .of_run fun a w hE hg hS => by
    refine ⟨sl (some ⟨w.heap.size, 0, none⟩) 0 0, { w with heap := w.heap.push (.cells #[] e (0, 0)) }, owL e sz (some ⟨w.heap.size, 0, none⟩) 0 [] :: L, ?_, ?_, _, rfl, rfl⟩
    · have er : ∀ f : Nat → Value, Array.map f (Array.range 0) = #[] := fun f => Array.eq_empty_of_size_eq_zero (by simp)
      simp [execOp, Instr.buildSlice, underlying, program, Sem.run, hu, hz, newRow, newObj, sl, Instr.fill, er]
    · exact (hS.alloc _).weak fun m hm => .inr ⟨_, _, rfl, hm, by simp, by simp, by simp, fun j row hj => by simp at hj⟩
/-! slice expressions -/
theorem run_bound {P : Program} {w : World} {i : Nat} {m : Int} {cd : BoundsCode} (h : m = i) (hn : i ≤ n) : (Instr.sliceBound (I m) n cd).run P w = .ok i w := by
  subst h
  simp [Instr.sliceBound, asIntOf, Sem.run, hn]
theorem v_slLo {m : Int} {l : Nat} (hu : c.P.underlying t = some (.slice e)) (hz : ∀ w, (sizeOf e).run c.P w = .ok sz w) (hx : ev g E x = some (sl s n cap)) (hy : ev g E y = some (I m)) (hm : m = l) (hl : l ≤ n) :
    OpV c g E L ⟨d, .slice t x (some y) none none, ty, pos, af, gu⟩ (sl (if cap = l then s else s.map (·.add (l * sz))) (n - l) (cap - l)) := .mk fun a w hE hg hS => by
  have h1 := fun cd => run_bound (P := c.P) (w := w) (cd := cd) hm hl
  simp only [execOp, Instr.sliceAt, Instr.slice, Instr.sliceBounds, Option.map_some, Option.map_none, hE.ev hg hx, hE.ev hg hy, sl]
  simp [underlying, program, Sem.run, hu, hz, h1]
theorem v_slHi {m : Int} {h : Nat} (hu : c.P.underlying t = some (.slice e)) (hz : ∀ w, (sizeOf e).run c.P w = .ok sz w) (hx : ev g E x = some (sl s n cap)) (hy : ev g E y = some (I m)) (hm : m = h) (hl : h ≤ cap) :
    OpV c g E L ⟨d, .slice t x none (some y) none, ty, pos, af, gu⟩ (sl s h cap) := .mk fun a w hE hg hS => by
  have h1 := fun cd => run_bound (P := c.P) (w := w) (cd := cd) hm hl
  simp only [execOp, Instr.sliceAt, Instr.slice, Instr.sliceBounds, Option.map_some, Option.map_none, hE.ev hg hx, hE.ev hg hy, sl]
  simp [underlying, program, Sem.run, hu, hz, h1]
  intro _; cases s <;> simp [Addr.add]
theorem v_slBoth {m m2 : Int} {l h : Nat} (hu : c.P.underlying t = some (.slice e)) (hz : ∀ w, (sizeOf e).run c.P w = .ok sz w) (hx : ev g E x = some (sl s n cap)) (hy : ev g E y = some (I m)) (hm : m = l) (hz2 : ev g E z = some (I m2)) (hm2 : m2 = h) (hl : l ≤ h) (hh : h ≤ cap) :
    OpV c g E L ⟨d, .slice t x (some y) (some z) none, ty, pos, af, gu⟩ (sl (if cap = l then s else s.map (·.add (l * sz))) (h - l) (cap - l)) := .mk fun a w hE hg hS => by
  have h1 := fun cd => run_bound (P := c.P) (w := w) (cd := cd) hm hl
  have h2 := fun cd => run_bound (P := c.P) (w := w) (cd := cd) hm2 hh
  simp only [execOp, Instr.sliceAt, Instr.slice, Instr.sliceBounds, Option.map_some, Option.map_none, hE.ev hg hx, hE.ev hg hy, hE.ev hg hz2, sl]
  simp [underlying, program, Sem.run, hu, hz, h1, h2]
theorem bytes_cut (p : List UInt8) (l h : Nat) : (⟨⟨p⟩⟩ : ByteArray).extract l h = ⟨⟨(p.take h).drop l⟩⟩ := by
  apply ByteArray.ext
  rw [ByteArray.data_extract]
  simp [List.extract_eq_take_drop, List.drop_take]
theorem v_strLo {m : Int} {l : Nat} {p : List UInt8} (hu : c.P.underlying t = some .string) (hx : ev g E x = some (Str p)) (hy : ev g E y = some (I m)) (hm : m = l) (hl : l ≤ p.length) :
    OpV c g E L ⟨d, .slice t x (some y) none none, ty, pos, af, gu⟩ (Str (p.drop l)) := .mk fun a w hE hg hS => by
  have hs : (⟨⟨p⟩⟩ : ByteArray).size = p.length := rfl
  have h1 := fun cd => run_bound (P := c.P) (w := w) (cd := cd) (n := p.length) hm hl
  simp only [execOp, Instr.sliceAt, Instr.slice, Instr.sliceBounds, Option.map_some, Option.map_none, hE.ev hg hx, hE.ev hg hy]
  simp [underlying, program, Sem.run, hu, h1, bytes_cut, hs]
theorem v_strHi {m : Int} {h : Nat} {p : List UInt8} (hu : c.P.underlying t = some .string) (hx : ev g E x = some (Str p)) (hy : ev g E y = some (I m)) (hm : m = h) (hl : h ≤ p.length) :
    OpV c g E L ⟨d, .slice t x none (some y) none, ty, pos, af, gu⟩ (Str (p.take h)) := .mk fun a w hE hg hS => by
  have hs : (⟨⟨p⟩⟩ : ByteArray).size = p.length := rfl
  have h1 := fun cd => run_bound (P := c.P) (w := w) (cd := cd) (n := p.length) hm hl
  simp only [execOp, Instr.sliceAt, Instr.slice, Instr.sliceBounds, Option.map_some, Option.map_none, hE.ev hg hx, hE.ev hg hy]
  simp [underlying, program, Sem.run, hu, h1, bytes_cut, hs]
theorem v_strBoth {m m2 : Int} {l h : Nat} {p : List UInt8} (hu : c.P.underlying t = some .string) (hx : ev g E x = some (Str p)) (hy : ev g E y = some (I m)) (hm : m = l) (hz2 : ev g E z = some (I m2)) (hm2 : m2 = h) (hl : l ≤ h) (hh : h ≤ p.length) :
    OpV c g E L ⟨d, .slice t x (some y) (some z) none, ty, pos, af, gu⟩ (Str ((p.take h).drop l)) := .mk fun a w hE hg hS => by
  have hs : (⟨⟨p⟩⟩ : ByteArray).size = p.length := rfl
  have h1 := fun cd => run_bound (P := c.P) (w := w) (cd := cd) hm hl
  have h2 := fun cd => run_bound (P := c.P) (w := w) (cd := cd) (n := p.length) hm2 hh
  simp only [execOp, Instr.sliceAt, Instr.slice, Instr.sliceBounds, Option.map_some, Option.map_none, hE.ev hg hx, hE.ev hg hy, hE.ev hg hz2]
  simp [underlying, program, Sem.run, hu, h1, h2, bytes_cut, hs]
end
end Go.Sl

/- What single operations do (9): bytes to strings, slices compared with nil. No condition. -/
namespace Go.Sl
set_option linter.unusedVariables false
set_option linter.unusedSimpArgs false
def bytesR (l : List UInt8) : List (List Value) := l.map fun b => [By b.toNat]
theorem bytesR_len (l : List UInt8) : (bytesR l).length = l.length := by simp [bytesR]
theorem bytesR_rep (n : Nat) : List.replicate n [By 0] = bytesR (List.replicate n 0) := by simp [bytesR]
theorem bytesR_flat (l : List UInt8) : (bytesR l).flatten = (l.map fun b => (b.toNat : Int)).map (Value.int .u8) := by
  induction l with
  | nil => rfl
  | cons b l ih => simpa [bytesR] using ih
theorem push_bytes (l : List UInt8) : ∀ (p : List UInt8), (l.map fun b => (b.toNat : Int)).foldl (fun (r : ByteArray) n => r.push (UInt8.ofNat n.toNat)) ⟨⟨p⟩⟩ = ⟨⟨p ++ l⟩⟩ := by
  induction l with
  | nil => intro p; simp
  | cons b l ih =>
    intro p
    have e : (⟨⟨p⟩⟩ : ByteArray).push (UInt8.ofNat ((b.toNat : Int)).toNat) = ⟨⟨p ++ [b]⟩⟩ := by
      have : UInt8.ofNat ((b.toNat : Int)).toNat = b := by simp
      rw [this]; simp [ByteArray.push]
    simp only [List.map_cons, List.foldl_cons, e, ih]
    simp
section
variable {c : Cx} {g : Option (Nat × Bool)} {E : Env} {L L' : List HProp} {d : Option Tmp} {ty : TypeId} {pos : String} {af : Array Edge} {gu : Option (Nat × Bool)} {K : List KI}
variable {x y z : Operand} {t u e : TypeId} {k : IntKind} {v v1 v2 : Value} {s : Option Addr} {b o i j n sz cap off : Nat}
theorem v_bytesStr {l : List UInt8} {rows : List (List Value)} (hu : c.P.underlying t = some (.slice e)) (he : c.P.underlying e = some (.int .u8)) (hu2 : c.P.underlying u = some .string) (hx : ev g E x = some (sl s n cap)) [Y : SlR L s 1 rows] (hr : rows = bytesR l) (hn : n = l.length) :
    OpV c g E L ⟨d, .convert t u x, ty, pos, af, gu⟩ (Str l) := .mk fun a w hE hg hS => by
  have hY := Y.out _ _ hS
  subst hr hn
  have e1 := hE.ev hg hx
  have key : (Conv.bytesToString (sl s l.length cap)).run c.P w = .ok (Str l) w := by
    cases s with
    | none =>
      rcases hY with h | ⟨b, off, o, h, _⟩
      · have : l = [] := by simpa [bytesR] using h
        subst this
        simp [Conv.bytesToString, sl, Sem.run]; rfl
      · cases h
    | some a =>
      have hl : (loadCells a l.length).run c.P w = .ok ((l.map fun b => (b.toNat : Int)).map (Value.int .u8)).toArray w := by
        have := run_first' (P := c.P) (w := w) (cap := cap) (m := l.length) (n := l.length) (sz := 1) (rows := bytesR l) (s := some a) (by decide) (by simp [bytesR]) (bytesR_len l) hY
        rw [bytesR_flat] at this
        simpa [Builtin.firstCells, sl] using this
      have := run_bytesToString w a l.length cap _ hl
      rw [show ByteArray.empty = ⟨⟨[]⟩⟩ from rfl, push_bytes] at this
      simpa [sl] using this
  simp only [execOp, e1, sl]
  simp [convert, underlying, program, Sem.run, hu, hu2, he]
  have key2 : (Conv.bytesToString (Value.slice s l.length cap)).run c.P w = .ok (Str l) w := key
  simp [key2]
theorem wu64 {n : Int} (h : 0 ≤ n ∧ n < 18446744073709551616) : IntKind.u64.wrap n = n := by
  show n % 2 ^ 64 = n
  omega
theorem v_maskU (n : Nat) {a m : Int} {yt : TypeId} (hx : ev g E x = some (.int .u64 a)) (ha : 0 ≤ a ∧ a < 18446744073709551616) (hn : n ≤ 63) (hm : m = 2 ^ n - 1) : OpV c g E L ⟨d, .binOp .and t x (.const (.int .u64 m)) yt, ty, pos, af, gu⟩ (.int .u64 (a % 2 ^ n)) := by
  refine v_bits (.inl rfl) hx rfl fun P w => ?_
  have h1 : (2 : Int) ^ n = ((2 ^ n : Nat) : Int) := by simp
  have hp : 2 ^ n ≤ 2 ^ 63 := Nat.pow_le_pow_right (by decide) hn
  have hp1 : 1 ≤ 2 ^ n := Nat.one_le_two_pow
  have e : IntKind.u64.bits = 64 := rfl
  have h2 : (BitVec.ofInt IntKind.u64.bits m).toNat = 2 ^ n - 1 := by
    rw [BitVec.toNat_ofInt, hm, h1, e, Int.emod_eq_of_lt (by omega) (by simp; omega)]
    omega
  have h3 : ((BitVec.ofInt IntKind.u64.bits a &&& BitVec.ofInt IntKind.u64.bits m).toNat : Int) = a % 2 ^ n := by
    rw [BitVec.toNat_and, h2, Nat.and_two_pow_sub_one_eq_mod, BitVec.toNat_ofInt, e, Int.natCast_emod, Int.toNat_of_nonneg (Int.emod_nonneg _ (by simp)), h1, Int.emod_eq_of_lt ha.1 (by simpa using ha.2)]
  have h4 : 0 ≤ a % 2 ^ n := Int.emod_nonneg _ (by rw [h1]; omega)
  have h5 : a % 2 ^ n < 2 ^ n := Int.emod_lt_of_pos _ (by rw [h1]; omega)
  simp only [Op.intBits, h3]
  rw [wu64 (by omega)]
  rfl
/-- a slice compared with nil -/
theorem v_slEq (hu : c.P.underlying t = some (.slice e)) (hx : ev g E x = some (sl s n cap)) : OpV c g E L ⟨d, .binOp .eql t x (.const (.slice none 0 0)) u, ty, pos, af, gu⟩ (Bo s.isNone) := .mk fun a w hE hg hS => by
  have h3 : a.eval (.const (.slice none 0 0)) = .slice none 0 0 := rfl
  have h4 : (Op.equal t (sl s n cap) (.slice none 0 0)).run c.P w = .ok s.isNone w := by
    show (Op.equalIn (9999 + 1) _ _ _).run _ _ = _
    unfold Op.equalIn
    cases s <;> simp [underlying, program, Sem.run, hu, sl]
  simp only [execOp, hE.ev hg hx, h3, sl, eqGuard, binOp] at h4 ⊢
  simp [h4, Sem.run]
end
end Go.Sl

/- Assertions made of several others, opened and shut. No condition. -/
namespace Go.Sl
set_option linter.unusedVariables false
set_option linter.unusedSimpArgs false
theorem Sat.dropAll {w0 w : World} : ∀ {L X : List HProp}, Sat w0 w (L ++ X) → Sat w0 w X
  | [], X, h => h
  | A :: L, X, h => Sat.dropAll (L := L) (Sat.tail h)
instance Sub.none {L : List HProp} : Sub L [] := ⟨fun w0 w X h => by simpa using Sat.dropAll h⟩
def hlist : List HProp → HProp
  | [] => hpure True
  | A :: As => hstar A (hlist As)
theorem Sat.list {w0 w : World} : ∀ {As X : List HProp}, Sat w0 w (hlist As :: X) → Sat w0 w (As ++ X)
  | [], X, h => h.tail
  | A :: As, X, h => by
    have h1 : Sat w0 w (hlist As :: (X ++ [A])) := (Sat.star h).moveEnd
    have h2 := Sat.list h1
    rw [← List.append_assoc] at h2
    exact h2.endFront
theorem Sat.list_mk {w0 w : World} : ∀ {As X : List HProp}, Sat w0 w (As ++ X) → Sat w0 w (hlist As :: X)
  | [], X, h => Sat.pure_mk trivial h
  | A :: As, X, h => by
    have h1 : Sat w0 w (As ++ (X ++ [A])) := by
      have := Sat.moveEnd h
      simpa using this
    have h2 : Sat w0 w ((hlist As :: X) ++ [A]) := Sat.list_mk h1
    exact h2.endFront.two
/-- an assertion that holds for some z, and is made of those of A z -/
def hx {α : Type} (A : α → List HProp) : HProp := hex fun z => hlist (A z)
theorem Sat.hx {w0 w : World} {α : Type} {A : α → List HProp} {X : List HProp} (h : Sat w0 w (hx A :: X)) : ∃ z, Sat w0 w (A z ++ X) := let ⟨z, hz⟩ := Sat.ex h; ⟨z, hz.list⟩
theorem Sat.hx_mk {w0 w : World} {α : Type} {A : α → List HProp} {X : List HProp} (z : α) (h : Sat w0 w (A z ++ X)) : Sat w0 w (Go.Sl.hx A :: X) := Sat.ex_mk z h.list_mk
section
variable {c : Cx} {g : Option (Nat × Bool)} {E : Env} {L L' : List HProp} {K : List KI}
theorem g_open {α : Type} {A : α → List HProp} {F : List HProp} (B : HProp) (hB : B = hx A) [R : Rem L B F] (k : ∀ z, G c K E (A z ++ F)) : G c K E L := fun a w hE hS => by
  have h := R.sat hS
  rw [hB] at h
  obtain ⟨z, hz⟩ := h.hx
  exact k z a w hE hz
theorem g_shut {α : Type} {A : α → List HProp} {F : List HProp} (B : HProp) (hB : B = hx A) (z : α) [S : Split L (A z) F] (k : G c K E (B :: F)) : G c K E L := fun a w hE hS => by
  refine k a w hE ?_
  rw [hB]
  exact Sat.hx_mk z (S.sat hS)
/-- the rows of an owned slice, written in another way -/
theorem g_owEq {T sz cap : Nat} {rows : List (List Value)} {F : List HProp} (s : Option Addr) (rows' : List (List Value)) [R : OwR L s T sz cap rows F] (h : rows = rows') (k : G c K E (owL T sz s cap rows' :: F)) : G c K E L := fun a w hE hS => by
  subst h
  exact k a w hE (R.sat hS)
theorem g_pack {α : Type} {A : α → List HProp} {F : List HProp} (Pre : List HProp) (B : HProp) (z : α) (hB : B = hx A) (hA : A z = Pre) [S : Split L Pre F] (k : G c K E (B :: F)) : G c K E L := fun a w hE hS => by
  refine k a w hE ?_
  rw [hB]
  exact Sat.hx_mk z (hA ▸ S.sat hS)
end
end Go.Sl

/- Regions that draw, whose last operation comes after all the others: what the others lean on need not hold behind it. No condition. -/
namespace Go.Sl
set_option linter.unusedVariables false
set_option linter.unusedSimpArgs false
section
variable {P : Program} {ops : Array Oper} {C : World → Prop} {Q Q1 Q2 : Post} {z : Nat}
theorem wpOp_exit {i : Nat} {a : Act} {w : World} {K : Act → World → Prop} (hp : ∀ ch a w, Q1 (.panic ch) a w → Q2 (.panic ch) a w) (hl : LetsOut Q1 → LetsOut Q2) (h : wpOp P ops Q1 i K a w) : wpOp P ops Q2 i K a w := by
  have key : ∀ (o : Oper) (r : Result Next), o.upon P a K Q1 r → o.upon P a K Q2 r := fun o r h => by
    cases r with
    | ok n w' =>
      cases n <;> simp only [Oper.upon] at h ⊢
      case enter f args => exact h.mono fun e w'' he => by cases e <;> first | exact he | exact hp _ _ _ he | exact hl he
      all_goals exact h
    | halt x w' => cases x <;> simp only [Oper.upon] at h ⊢ <;> first | exact hp _ _ _ h | exact h
  unfold wpOp at *
  split
  · simpa [*] using h
  · rename_i o ho
    simp only [ho] at h
    split
    · rename_i hw
      simp only [hw, if_true] at h
      exact h.imp (key o _) (fun h => ⟨h.1, hl h.2⟩)
    · rename_i hw
      simp only [hw] at h
      exact h
def wpAnyZ (P : Program) (ops : Array Oper) (C : World → Prop) (z : Nat) (Q : Post) : Nat → Array Bool → Act → World → Prop
  | 0, listed, a, w => (listed.getD z false = true ∨ C w) ∧ Region.ready .any ops listed = [] ∧ Q .normal a w
  | fuel + 1, listed, a, w =>
    (listed.getD z false = true ∨ C w) ∧ (Region.ready .any ops listed = [] → Q .normal a w) ∧
    ∀ i ∈ Region.ready .any ops listed, wpOp P ops Q i (wpAnyZ P ops C z Q fuel (listed.setIfInBounds i true)) a w
theorem wpAnyZ.cls {fuel : Nat} {listed : Array Bool} {a : Act} {w : World} (h : wpAnyZ P ops C z Q fuel listed a w) : listed.getD z false = true ∨ C w := by
  cases fuel <;> exact h.1
theorem wpAny_of_Z : ∀ (fuel : Nat) (listed : Array Bool) (a : Act) (w : World), wpAnyZ P ops C z Q fuel listed a w → wpAny P .any ops Q fuel listed a w
  | 0, _, _, _, h => h.2
  | fuel + 1, _, _, _, h => ⟨h.2.1, fun i hi => wpOp_mono (fun a w => wpAny_of_Z fuel _ a w) (h.2.2 i hi)⟩
/-- operation z comes after operation i, at once or by way of one other -/
def chain (ops : Array Oper) : Nat → Nat → Nat → Prop
  | 0, _, _ => False
  | f + 1, k, i => ∃ ok, ops[k]? = some ok ∧ ∃ e ∈ ok.after, Region.binds .any e = true ∧ (e.on = i ∨ chain ops f e.on i)
def comesAfter (ops : Array Oper) (z i : Nat) : Prop := ∀ oz, ops[z]? = some oz → ∃ e ∈ oz.after, Region.binds .any e = true ∧ (e.on = i ∨ chain ops 6 e.on i)
def closed (ops : Array Oper) (listed : Array Bool) : Prop := ∀ k ok, ops[k]? = some ok → listed.getD k false = true → ∀ e ∈ ok.after, Region.binds .any e = true → listed.getD e.on false = true
theorem getD_set_true {listed : Array Bool} {j k : Nat} (h : listed.getD k false = true) : (listed.setIfInBounds j true).getD k false = true := by
  by_cases hjk : j = k
  · subst hjk
    rcases Nat.lt_or_ge j listed.size with h' | h'
    · simp [h']
    · simp [Array.getElem?_eq_none h'] at h
  · rw [getD_set_ne false hjk]; exact h
theorem closed_set {listed : Array Bool} {j : Nat} (hc : closed ops listed) (hj : j ∈ Region.ready .any ops listed) : closed ops (listed.setIfInBounds j true) := fun k ok hk hl e he hb => by
  obtain ⟨_, oj, hoj, hall⟩ := mem_ready.1 hj
  by_cases hjk : j = k
  · subst hjk
    rw [hoj] at hk; injection hk with hk; subst hk
    exact getD_set_true (hall e he hb)
  · rw [getD_set_ne false hjk] at hl
    exact getD_set_true (hc k ok hk hl e he hb)
theorem chain_listed {listed : Array Bool} (hcl : closed ops listed) : ∀ {f k i : Nat}, listed.getD k false = true → chain ops f k i → listed.getD i false = true
  | 0, _, _, _, h => h.elim
  | f + 1, k, i, hk, ⟨ok, hok, e, he, hb, h⟩ => by
    have h1 := hcl k ok hok hk e he hb
    rcases h with h | h
    · rw [← h]; exact h1
    · exact chain_listed hcl h1 h
theorem wpAnyZ_first {i : Nat} {oi : Oper} {v : Value} (hi : ops[i]? = some oi) (hsel : ∀ (j : Nat) (o : Oper) cs b, ops[j]? = some o → o.op ≠ .select cs b)
    (hQ : ∀ c a w, Q (.panic c) (a.put oi.dst v) w → Q (.panic c) a w) (hiz : i ≠ z) (hz : comesAfter ops z i) :
    ∀ (fuel : Nat) (listed : Array Bool) (a : Act) (w : World),
      (∀ j oj, ops[j]? = some oj → j ≠ i → listed.getD j true = false → (∀ e ∈ oj.after, Region.binds .any e = true → e.on ≠ i) → oi.apart ops oj = true) →
      i ∈ Region.ready .any ops listed → closed ops listed → listed.getD z false = false → YieldsC P ops C oi v a → C w →
      wpAnyZ P ops C z Q fuel (listed.setIfInBounds i true) (a.put oi.dst v) w → wpAnyZ P ops C z Q (fuel + 1) listed a w := by
  intro fuel
  induction fuel with
  | zero =>
    intro listed a w _ hr _ _ hy hw H
    refine ⟨.inr hw, fun h => (by rw [h] at hr; cases hr), fun j hj => ?_⟩
    by_cases hji : j = i
    · subst hji; exact hy.wpOp hi hw H
    · have := ready_mono hj hji
      rw [H.2.1] at this
      cases this
  | succ fuel ih =>
    intro listed a w hfree hr hcl hlz hy hw H
    refine ⟨.inr hw, fun h => (by rw [h] at hr; cases hr), fun j hj => ?_⟩
    by_cases hji : j = i
    · subst hji; exact hy.wpOp hi hw H
    · have h1 := H.2.2 j (ready_mono hj hji)
      obtain ⟨hjun, oj, hoj, hall⟩ := mem_ready.1 hj
      have hnot : ∀ e ∈ oj.after, Region.binds .any e = true → e.on ≠ i := fun e he hb heq => by
        have h1 := hall e he hb
        have h0 := (mem_ready.1 hr).1
        rw [heq] at h1
        rcases Nat.lt_or_ge i listed.size with h' | h'
        · simp [h'] at h0 h1; rw [h0] at h1; cases h1
        · simp [Array.getElem?_eq_none h'] at h1
      have hjz : j ≠ z := fun e => by
        subst e
        obtain ⟨e, he, hb, h⟩ := hz oj hoj
        rcases h with h | h
        · exact hnot e he hb h
        · have h5 := hall e he hb
          have h6 : listed.getD i false = true := chain_listed hcl h5 h
          have h0 := (mem_ready.1 hr).1
          rcases Nat.lt_or_ge i listed.size with h' | h'
          · simp [h'] at h0 h6; rw [h0] at h6; cases h6
          · simp [Array.getElem?_eq_none h'] at h0
      have h2 := wpOp_putC hoj (hfree j oj hoj hji hjun hnot) (fun cs b => hsel i oi cs b hi) (fun cs b => hsel j oj cs b hoj) hQ hy h1
      have hfree' : ∀ k ok, ops[k]? = some ok → k ≠ i → (listed.setIfInBounds j true).getD k true = false →
          (∀ e ∈ ok.after, Region.binds .any e = true → e.on ≠ i) → oi.apart ops ok = true := fun k ok hk hki hun hno => by
        refine hfree k ok hk hki ?_ hno
        by_cases hjk : j = k
        · subst hjk; exact hjun
        · rw [getD_set_ne true hjk] at hun; exact hun
      have hlz' : (listed.setIfInBounds j true).getD z false = false := by rw [getD_set_ne false hjz]; exact hlz
      refine wpOp_mono (fun a' w' h3 => ih (listed.setIfInBounds j true) a' w' hfree' (ready_mono hr (Ne.symm hji)) (closed_set hcl hj) hlz' h3.1 ?_ ?_) h2
      · rcases h3.2.cls with h | h
        · rw [getD_set_ne false hjz, getD_set_ne false hiz] at h
          rw [h] at hlz; cases hlz
        · exact h
      · rw [Array.setIfInBounds_comm _ _ hji]
        exact h3.2
theorem wpAnyZ_of_plan (hs : Region.noSelect ops = true) (hQ : ∀ c a d v w, Q (.panic c) (a.put d v) w → Q (.panic c) a w) (hp1 : ∀ ch a w, Q1 (.panic ch) a w → Q (.panic ch) a w) (hl1 : LetsOut Q1 → LetsOut Q) (hn1 : ∀ a w, Q1 .normal a w → wpOp P ops Q z (fun a w => Q .normal a w) a w) :
    ∀ (l : List (Nat × Bool)) (listed : Array Bool) (a : Act) (w : World),
    planOk ops (l ++ [(z, true)]) listed = true → (∀ p ∈ l, p.1 ≠ z ∧ comesAfter ops z p.1) → closed ops listed → listed.getD z true = false → wpPlan P ops C Q1 l a w → wpAnyZ P ops C z Q (l.length + 1) listed a w
  | [], listed, a, w, hp, _, _, hlz, h => by
    simp only [List.nil_append, planOk, Bool.and_eq_true, beq_iff_eq] at hp
    refine ⟨.inr h.1, fun h0 => (by rw [hp.1] at h0; cases h0), fun j hj => ?_⟩
    rw [hp.1] at hj
    have : j = z := by simpa using hj
    subst this
    have hlt : j < listed.size := by
      rcases Nat.lt_or_ge j listed.size with h' | h'
      · exact h'
      · simp [Array.getElem?_eq_none h'] at hlz
    refine wpOp_mono (fun a w hq => ⟨.inl ?_, by simpa using hp.2, hq⟩) (hn1 a w h.2)
    simp [hlt]
  | (i, false) :: l, listed, a, w, hp, hz, hcl, hlz, h => by
    simp only [List.cons_append, planOk, Bool.and_eq_true] at hp
    obtain ⟨⟨hr, hf⟩, hp'⟩ := hp
    obtain ⟨hw, o, v, ho, hy, h⟩ := h
    obtain ⟨hiz, hzi⟩ := hz (i, false) (by simp)
    have hlz2 : listed.getD z false = false := by
      rcases Nat.lt_or_ge z listed.size with h' | h'
      · simp [h'] at hlz ⊢; exact hlz
      · simp [Array.getElem?_eq_none h'] at hlz
    exact wpAnyZ_first ho (Region.noSelect_spec hs) (fun c a w => hQ c a _ _ w) hiz hzi (l.length + 1) listed a w (Region.free_spec ho hf) (by simpa using hr) hcl hlz2 hy hw
      (wpAnyZ_of_plan hs hQ hp1 hl1 hn1 l _ _ _ hp' (fun p hp => hz p (by simp [hp])) (closed_set hcl (by simpa using hr)) (by rw [getD_set_ne true hiz]; exact hlz) h)
  | (i, true) :: l, listed, a, w, hp, hz, hcl, hlz, h => by
    simp only [List.cons_append, planOk, Bool.and_eq_true, beq_iff_eq] at hp
    obtain ⟨hiz, hzi⟩ := hz (i, true) (by simp)
    refine ⟨.inr h.1, fun h0 => (by rw [hp.1] at h0; cases h0), fun j hj => ?_⟩
    rw [hp.1] at hj
    have : j = i := by simpa using hj
    subst this
    exact wpOp_exit hp1 hl1 (wpOp_mono (fun a w => wpAnyZ_of_plan hs hQ hp1 hl1 hn1 l _ a w hp.2 (fun p hp => hz p (by simp [hp])) (closed_set hcl (by rw [hp.1]; simp)) (by rw [getD_set_ne true hiz]; exact hlz)) h.2)
def chainB (ops : Array Oper) : Nat → Nat → Nat → Bool
  | 0, _, _ => false
  | f + 1, k, i => match ops[k]? with
    | some ok => (ok.after.any fun e => Region.binds .any e && Nat.beq e.on i) || ok.after.any fun e => Region.binds .any e && chainB ops f e.on i
    | none => false
theorem chainB_spec {ops : Array Oper} : ∀ {f k i : Nat}, chainB ops f k i = true → chain ops f k i
  | 0, _, _, h => by cases h
  | f + 1, k, i, h => by
    unfold chainB at h
    split at h
    · rename_i ok hok
      rw [Bool.or_eq_true, Array.any_eq_true, Array.any_eq_true] at h
      rcases h with ⟨j, hj, h⟩ | ⟨j, hj, h⟩
      · rw [Bool.and_eq_true] at h
        exact ⟨ok, hok, ok.after[j], Array.getElem_mem hj, h.1, .inl (Nat.eq_of_beq_eq_true h.2)⟩
      · rw [Bool.and_eq_true] at h
        exact ⟨ok, hok, ok.after[j], Array.getElem_mem hj, h.1, .inr (chainB_spec h.2)⟩
    · cases h
def afterB (ops : Array Oper) (z i : Nat) : Bool := match ops[z]? with
  | some oz => chainB ops 7 z i
  | none => true
theorem afterB_spec {i : Nat} (h : afterB ops z i = true) : comesAfter ops z i := fun oz hz => by
  simp only [afterB, hz] at h
  obtain ⟨ok, hok, e, he, hb, h⟩ := chainB_spec h
  rw [hz] at hok
  injection hok with hok
  subst hok
  exact ⟨e, he, hb, h⟩
theorem wp_region_planZ {id : Nat} {a : Act} {w : World} {l : List (Nat × Bool)} (hm : P.follows .mixedOrders = true) (hs : Region.noSelect ops = true) (hl : l.length + 1 = ops.size) (hzl : z < ops.size)
    (hQ : ∀ c a d v w, Q (.panic c) (a.put d v) w → Q (.panic c) a w) (hp1 : ∀ ch a w, Q1 (.panic ch) a w → Q (.panic ch) a w) (hl1 : LetsOut Q1 → LetsOut Q) (hn1 : ∀ a w, Q1 .normal a w → wpOp P ops Q z (fun a w => Q .normal a w) a w)
    (hp : planOk ops (l ++ [(z, true)]) (Array.replicate ops.size false) = true) (hz : l.all (fun p => !(Nat.beq p.1 z) && afterB ops z p.1) = true)
    (h : wpPlan P ops C Q1 l a { w with drawn := w.drawn + 1 }) : (Code.region id ops true).wp P Q a w :=
  wp_region_any hm (wpAny_of_Z (C := C) (z := z) _ _ _ _ (by
    rw [← hl]; rw [← hl] at hp hzl
    refine wpAnyZ_of_plan hs hQ hp1 hl1 hn1 l _ a _ hp (fun p hp => ?_) (fun k ok _ hl => by simp [Array.getElem?_replicate] at hl; split at hl <;> simp at hl) (by simp [hzl]) h
    have := List.all_eq_true.1 hz p hp
    simp only [Bool.and_eq_true, Bool.not_eq_true'] at this
    exact ⟨Nat.ne_of_beq_eq_false this.1, afterB_spec this.2⟩))
end
section
variable {c : Cx} {E : Env} {L : List HProp} {K : List KI}
theorem g_drawZ {id : Nat} {l : List Oper} {Lf : List HProp} {oz : Oper} (pl : List (Nat × Bool)) (z : Nat) (hz0 : l[z]? = some oz) (hm : c.P.follows .mixedOrders = true) (hs : Region.noSelect l.toArray = true) (hl : pl.length + 1 = l.length)
    (hp : planOk l.toArray (pl ++ [(z, true)]) (Array.replicate l.length false) = true) (hz : pl.all (fun p => !(Nat.beq p.1 z) && afterB l.toArray z p.1) = true)
    (h : G c (.plan l (fun w => Sat c.w0 w Lf) pl :: .ops l [oz] :: K) E L) : G c (.code (.region id l.toArray true) :: K) E L := fun a w hE hS => by
  have hzl : z < l.length := (List.getElem?_eq_some_iff.1 hz0).1
  refine wp_region_planZ (Q1 := kq c.P c.Q (.ops l [oz] :: K)) (z := z) (l := pl) hm hs (by simpa using hl) (by simpa using hzl) (fun ch a d v w hq => absurd hq kq_panic) (fun ch a w h => h) (fun h => h) (fun a w h => ?_) (by simpa using hp) hz (h a _ hE (hS.drew _))
  have hz1 : l.toArray[z]? = some oz := by simpa using hz0
  unfold wpOp
  rw [hz1]
  exact h
end
section
variable {c : Cx} {g : Option (Nat × Bool)} {E : Env} {L L' : List HProp} {d : Option Tmp} {ty : TypeId} {pos : String} {af : Array Edge} {gu : Option (Nat × Bool)}
variable {x y : Operand} {t : TypeId} {v : Value} {s : Option Addr} {j sz cap : Nat}
theorem l_storeS0 {rows : List (List Value)} {row : List Value} {T : Nat} {F : List HProp} (hz : ∀ w, (sizeOf t).run c.P w = .ok 1 w) (hx : ev g E x = some (adr s (j * sz))) (hy : ev g E y = some v) (h1 : one v = true) [R : OwR L s T sz cap rows F] (hj : rows[j]? = some row) (hf : 0 < sz) :
    OpL c g E L ⟨d, .store t x y, ty, pos, af, gu⟩ fun _ L' => L' = owL T sz s cap (rows.set j (row.set 0 v)) :: F := l_storeS hz (f := 0) (by simpa using hx) hy h1 hj hf
end
end Go.Sl

/- What single operations do (10): pointers compared with nil. No condition. -/
namespace Go.Sl
set_option linter.unusedVariables false
set_option linter.unusedSimpArgs false
section
variable {c : Cx} {g : Option (Nat × Bool)} {E : Env} {L L' : List HProp} {d : Option Tmp} {ty : TypeId} {pos : String} {af : Array Edge} {gu : Option (Nat × Bool)}
variable {x y : Operand} {t u e : TypeId} {p : Option Addr}
theorem run_pnil {P : Program} {w : World} (hu : P.underlying t = some (.pointer e)) : (Op.equal t (.pointer p) (.pointer none)).run P w = .ok p.isNone w := by
  show (Op.equalIn (9999 + 1) _ _ _).run _ _ = _
  unfold Op.equalIn
  cases p <;> simp [underlying, program, Sem.run, hu]
theorem v_pnil (hu : c.P.underlying t = some (.pointer e)) (hx : ev g E x = some (.pointer p)) : OpV c g E L ⟨d, .binOp .eql t x (.const (.pointer none)) u, ty, pos, af, gu⟩ (Bo p.isNone) := .mk fun a w hE hg hS => by
  have h3 : a.eval (.const (.pointer none)) = .pointer none := rfl
  have h4 := run_pnil (P := c.P) (w := w) (p := p) hu
  simp only [execOp, hE.ev hg hx, h3, eqGuard, binOp] at h4 ⊢
  simp [h4, Sem.run]
end
end Go.Sl

/- A loud operation under a guard that is known, in a region that draws. No condition. -/
namespace Go.Sl
set_option linter.unusedVariables false
set_option linter.unusedSimpArgs false
section
variable {c : Cx} {E : Env} {L : List HProp} {d : Nat} {ty : TypeId} {pos : String} {af : Array Edge} {K : List KI} {all : List Oper} {op : Op} {N : Value → List HProp → Prop} {Lf : List HProp} {pl : List (Nat × Bool)}
theorem d_gl {i j s : Nat} {b want : Bool} (hi : all[i]? = some ⟨some d, op, ty, pos, af, some (j, want)⟩) (hj : (all[j]?).bind (·.dst) = some s) (hs : look none E s = some (.bool b)) (hw : b = want) [SC : Sub L Lf]
    (h : OpL c none E L ⟨some d, op, ty, pos, af, some (j, want)⟩ N) (hd : dOk c.n d E = true)
    (k : ∀ v L', N v L' → G c (.plan all (fun w => Sat c.w0 w Lf) pl :: K) ((d, none, v) :: E) L') : G c (.plan all (fun w => Sat c.w0 w Lf) ((i, true) :: pl) :: K) E L := fun a w hE hS => by
  have hy := yielded_of (a := a) hj hE hs
  refine ⟨SC.sat hS, ?_⟩
  unfold wpOp
  simp only [List.getElem?_toArray, hi]
  rw [if_pos (by simp [Region.wanted, hy, hw])]
  exact .inl (h.out a w hE (gd_none a) hS _ _ fun v w' L' hS' hN => k v L' hN _ w' (hE.put1 hd) hS')
theorem d_gv1 {i j s : Nat} {b want : Bool} {v : Value} (hi : all[i]? = some ⟨some d, op, ty, pos, af, some (j, want)⟩) (hj : (all[j]?).bind (·.dst) = some s) (hs : look none E s = some (.bool b)) (hw : b = want) [SC : Sub L Lf]
    (h : OpV c none E Lf ⟨some d, op, ty, pos, af, some (j, want)⟩ v) (hd : dOk c.n d E = true)
    (k : G c (.plan all (fun w => Sat c.w0 w Lf) pl :: K) ((d, none, v) :: E) L) : G c (.plan all (fun w => Sat c.w0 w Lf) ((i, false) :: pl) :: K) E L := fun a w hE hS => by
  have hy := yielded_of (a := a) hj hE hs
  exact ⟨SC.sat hS, _, v, by simpa using hi, .inl ⟨by simp [Region.wanted, hy, hw], fun w' hw' => .inl (h.out a w' hE (gd_none a) hw')⟩, k _ w (hE.put1 hd) hS⟩
end
end Go.Sl

/- What single operations do: calls of function values, appends that overlap, clear. No condition. -/
namespace Go.Sl
set_option linter.unusedVariables false
set_option linter.unusedSimpArgs false
section
variable {c : Cx} {g : Option (Nat × Bool)} {E : Env} {L L' : List HProp} {d : Option Tmp} {ty : TypeId} {pos : String} {af : Array Edge} {gu : Option (Nat × Bool)}
variable {x y z y3 : Operand} {t u e : TypeId} {k : IntKind} {v : Value} {s : Option Addr} {b o i j n sz cap off : Nat}
/-- a call of a function value whose function is known, by its contract -/
theorem l_callV {f : FuncId} {xs : List Operand} {fi cap vs : List Value} {ats : Array TypeId} {Pre F : List HProp} {R : List HProp → Value → List HProp → Prop} (hcall : ∀ args w, (callFunc f args).run c.P w = .ok (.enter f args) w) (hf : ev g E x = some (.func (.func f) fi.toArray cap.toArray)) (hx : evs g E xs = some vs) (h : ∀ F, Ct c.P f (fi ++ vs ++ cap) (Pre ++ F) (R F)) [S : Split L Pre F] :
    OpL c g E L ⟨d, .call { callee := .value x, args := xs.toArray, argTypes := ats }, ty, pos, af, gu⟩ (R F) := by
  constructor
  intro a w hE hg hS nx Q hn
  unfold Oper.wp
  have hr : (execOp a.eval ⟨d, .call { callee := .value x, args := xs.toArray, argTypes := ats }, ty, pos, af, gu⟩).run c.P w = .ok (.enter f (fi ++ vs ++ cap).toArray) w := by
    simp [execOp, resolve, hE.ev hg hf, Deferred.ofValue, invoke, hcall, ← hE.evs hg hx]
  rw [hr]
  refine (h F c.w0 w (S.sat hS)).mono fun e w' he => ?_
  cases e with
  | returned v => obtain ⟨L', h1, h2⟩ := he; exact hn v w' L' h1 h2
  | panicked ch => exact he.elim
  | outgrown => exact he.elim
theorem Rows.take {ob : Obj} {off : Nat} {rows : List (List Value)} (h : Rows ob off sz rows) (i : Nat) : Rows ob off sz (rows.take i) := fun j row hj f v hf => by
  have hji : j < i := by have := (List.getElem?_eq_some_iff.1 hj).1; simp at this; omega
  rw [List.getElem?_take_of_lt hji] at hj
  exact h j row hj f v hf
/-- rows of the same array laid behind the first i of its rows: where there is room -/
theorem l_appendOv {ya : Option Addr} {p m cy : Nat} {T : Nat} {rows : List (List Value)} {F : List HProp} (hu : c.P.underlying t = some (.slice T)) (hz : ∀ w, (sizeOf T).run c.P w = .ok sz w) (h0 : 0 < sz)
    (hx : ev g E x = some (sl s i cap)) (hy : ev g E y = some (sl ya m cy)) [R : OwR L s T sz cap rows F] (hya : At ya s p sz m) (hi : i ≤ rows.length) (hp : p + m ≤ rows.length) (him : i + m ≤ rows.length) (hr0 : 0 < rows.length) (h1 : ∀ r ∈ rows, ones r = true) :
    OpL c g E L ⟨d, .call { callee := .builtin .append, args := #[x, y], argTypes := #[t, t] }, ty, pos, af, gu⟩ fun v L' => v = sl s (i + m) cap ∧ L' = owL T sz s cap (rows.take i ++ (rows.drop p).take m) :: F :=
  .of_run fun a w hE hg hS => by
    have hS1 := R.sat hS
    have ex := fun w' v h => exec_append (d := d) (ty := ty) (pos := pos) (af := af) (gu := gu) (t := t) (u := t) (r := .ok v w') (P := c.P) (w := w) (hE.ev hg hx) (hE.ev hg hy) h
    rcases owL_open hS1 with ⟨rfl, rfl, rfl, hF⟩ | ⟨b, cs, rfl, a1, a2, a3, a4, hP⟩
    · simp at hr0
    · have hnews : ∀ r ∈ (rows.drop p).take m, r.length = sz := fun r hr => a3 r (List.mem_of_mem_drop (List.mem_of_mem_take hr))
      have hlen : ((rows.drop p).take m).length = m := by simp; omega
      have htk : (rows.take i).length = i := by simp; omega
      have fl1 : ones ((rows.drop p).take m).flatten = true := ones_of fun v hv => by
        obtain ⟨r, hr, hv⟩ := List.mem_flatten.1 hv
        exact ones_mem (h1 r (List.mem_of_mem_drop (List.mem_of_mem_take hr))) v hv
      have hfi : (Builtin.firstCells sz m (sl ya m cy)).run c.P w = .ok ((rows.drop p).take m).flatten.toArray w := by
        refine run_first' h0 hnews hlen ?_
        by_cases hm0 : m = 0
        · left; subst hm0; rfl
        · exact .inr ⟨b, 0 + p * sz, _, hya.addr (by omega), hP.at_, a4.part⟩
      obtain ⟨hle, hrows⟩ := app_rows_fit (T := T) (rows := rows.take i) (news := (rows.drop p).take m) h0 a1 (by rw [htk, hlen]; omega) (fun r hr => a3 r (List.mem_of_mem_take hr)) hnews (a4.take i)
      rw [htk] at hle hrows
      have hst := run_storeCells (P := c.P) b (i * sz) T ((rows.drop p).take m).flatten w cs 0 hP.at_ (by omega) fl1
      refine ⟨sl (some ⟨b, 0, none⟩) (i + m) cap, setB w b (.cells (splice cs (i * sz) ((rows.drop p).take m).flatten) T (0, 0)), _, ex _ _ ?_, ?_, rfl, rfl⟩
      · exact run_append_fit (base := some ⟨b, 0, none⟩) hu hz lenOf_sl hfi (by omega) (by simpa [add_mk] using hst)
      · refine owL_shut (hP.set (o' := .cells (splice cs (i * sz) ((rows.drop p).take m).flatten) T (0, 0)) rfl) (by rw [splice_size, a1]) (by simp; omega) ?_ hrows
        intro r hr
        rcases List.mem_append.1 hr with h | h
        · exact a3 r (List.mem_of_mem_take h)
        · exact hnews r h
theorem ones_zero {zv : Array Value} (h : ones zv.toList = true) (n : Nat) : ones (Builtin.zeroCells zv n).toList = true := ones_of fun v hv => by
  simp only [Builtin.zeroCells, Array.toList_map, List.mem_map, Array.mem_toList_iff, Array.mem_range] at hv
  obtain ⟨q, hq, rfl⟩ := hv
  have hp : 0 < zv.size := by
    rcases Nat.eq_zero_or_pos zv.size with h | h
    · rw [h] at hq; simp at hq
    · exact h
  have hlt := Nat.mod_lt q hp
  rw [getElem!_pos zv _ hlt]
  exact ones_mem h _ (by simp)
/-- clear of places behind the rows of an owned slice -/
theorem l_clearTail {xa : Option Addr} {l m cx : Nat} {zv : Value} {T : Nat} {rows : List (List Value)} {F : List HProp} (s : Option Addr) (hu : c.P.underlying t = some (.slice T)) (hzv : ∀ w, (zeroValue T).run c.P w = .ok zv w) (hzs : zv.cells.size = sz) (hz1 : ones zv.cells.toList = true)
    (hx : ev g E x = some (sl xa m cx)) [R : OwR L s T sz cap rows F] (hxa : At xa s l sz m) (hl : rows.length ≤ l) (hm : l + m ≤ cap) :
    OpL c g E L ⟨d, .call { callee := .builtin .clear, args := #[x], argTypes := #[t] }, ty, pos, af, gu⟩ fun v L' => v = .tuple #[] ∧ L' = owL T sz s cap rows :: F :=
  .of_run fun a w hE hg hS => by
    have hS1 := R.sat hS
    have e1 := hE.ev hg hx
    by_cases hm0 : m = 0
    · subst hm0
      refine ⟨.tuple #[], w, _, ?_, hS1, rfl, rfl⟩
      cases xa <;> simp [execOp, resolve, invoke, builtin, e1, Builtin.clear_, underlying, program, Sem.run, hu, sl]
    · rcases owL_open hS1 with ⟨rfl, rfl, rfl, hF⟩ | ⟨b, cs, rfl, a1, a2, a3, a4, hP⟩
      · omega
      · have hxa' := hxa.addr (by omega)
        subst hxa'
        have hzl : (Builtin.zeroCells zv.cells m).toList.length = m * sz := by rw [Array.length_toList, zeroCells_size, hzs]
        have hle : l * sz + (Builtin.zeroCells zv.cells m).toList.length ≤ cs.size := by rw [hzl, a1, ← Nat.add_mul]; exact Nat.mul_le_mul_right _ hm
        have hst := run_storeCells (P := c.P) b (0 + l * sz) T (Builtin.zeroCells zv.cells m).toList w cs 0 hP.at_ (by omega) (ones_zero hz1 m)
        refine ⟨.tuple #[], setB w b (.cells (splice cs (0 + l * sz + 0) (Builtin.zeroCells zv.cells m).toList) T (0, 0)), owL T sz (some ⟨b, 0, none⟩) cap rows :: F, ?_, ?_, rfl, rfl⟩
        · obtain ⟨q, rfl⟩ : ∃ q, m = q + 1 := ⟨m - 1, by omega⟩
          have hst2 := hst
          simp only [Nat.zero_add, Nat.add_zero] at hst2
          simp [execOp, resolve, invoke, builtin, e1, Builtin.clear_, underlying, program, Sem.run, hu, sl, hzv, hst2]
        · refine owL_shut (hP.set (o' := .cells (splice cs (0 + l * sz + 0) (Builtin.zeroCells zv.cells m).toList) T (0, 0)) rfl) (by rw [splice_size, a1]) a2 a3 fun q row hq f v hf => ?_
          have := a4 q row hq f v hf
          simp only [objCell, Nat.zero_add, Nat.add_zero] at this ⊢
          have hq' := (List.getElem?_eq_some_iff.1 hq).1
          have hf' : f < sz := by rw [← a3 row (List.mem_of_getElem? hq)]; exact (List.getElem?_eq_some_iff.1 hf).1
          have h5 : (q + 1) * sz ≤ l * sz := Nat.mul_le_mul_right _ (by omega)
          rw [Nat.add_mul, Nat.one_mul] at h5
          rw [splice_at _ _ _ hle, if_neg (by omega)]
          exact this
theorem v_sl3 {m m2 m3 : Int} {l h q : Nat} (hu : c.P.underlying t = some (.slice e)) (hz : ∀ w, (sizeOf e).run c.P w = .ok sz w) (hx : ev g E x = some (sl s n cap)) (hy : ev g E y = some (I m)) (hm : m = l) (hz2 : ev g E z = some (I m2)) (hm2 : m2 = h) (hz3 : ev g E y3 = some (I m3)) (hm3 : m3 = q) (hl : l ≤ h) (hh : h ≤ q) (hq : q ≤ cap) :
    OpV c g E L ⟨d, .slice t x (some y) (some z) (some y3), ty, pos, af, gu⟩ (sl (if q = l then s else s.map (·.add (l * sz))) (h - l) (q - l)) := .mk fun a w hE hg hS => by
  have h1 := fun cd => run_bound (P := c.P) (w := w) (cd := cd) hm hl
  have h2 := fun cd => run_bound (P := c.P) (w := w) (cd := cd) hm2 hh
  have h3 := fun cd => run_bound (P := c.P) (w := w) (cd := cd) hm3 hq
  simp only [execOp, Instr.sliceAt, Instr.slice, Instr.sliceBounds, Option.map_some, Option.map_none, hE.ev hg hx, hE.ev hg hy, hE.ev hg hz2, hE.ev hg hz3, sl]
  simp [underlying, program, Sem.run, hu, hz, h1, h2, h3]
end
end Go.Sl
