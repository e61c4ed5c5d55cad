/- What single operations do (4): literals of slices, append. No condition. -/
import Derived.Test.YthdjckbjjfiopacSl7
namespace Go.Sl
set_option linter.unusedVariables false
set_option linter.unusedSimpArgs false

theorem foldl_splice (l : List Value) : ∀ (off k : Nat) (cs : Array Value), (l.zipIdx k).foldl (fun cs (p : Value × Nat) => cs.setIfInBounds (off + p.2) p.1) cs = splice cs (off + k) l := by
  induction l with
  | nil => intros; rfl
  | cons v l ih => intro off k cs; simp [List.zipIdx_cons, splice, ih, Nat.add_assoc]
theorem zipIdx_splice (a cs : Array Value) (off : Nat) : a.zipIdx.foldl (fun cs (p : Value × Nat) => cs.setIfInBounds (off + p.2) p.1) cs = splice cs off a.toList := by
  have := foldl_splice a.toList off 0 cs
  rw [← Array.foldl_toList]
  simpa using this

/-- parts k, k+1, .. -/
def numbered (k : Nat) : List Value → List (Nat × Value)
  | [] => []
  | v :: vs => (k, v) :: numbered (k + 1) vs
theorem fill_ok (sz : Nat) : ∀ (vs : List Value) (k : Nat) (cells : Array Value), (∀ v ∈ vs, v.cells.size = sz) → (k + vs.length) * sz ≤ cells.size →
    ∃ cells', Instr.fill (fun i => some (i * sz, sz)) cells (numbered k vs) = some cells' ∧ cells'.size = cells.size ∧ (∀ j v, vs[j]? = some v → ∀ f u, v.cells[f]? = some u → cells'[(k + j) * sz + f]? = some u) ∧ (∀ p, p < k * sz → cells'[p]? = cells[p]?)
  | [], k, cells, _, _ => ⟨cells, rfl, rfl, fun j v h => by simp at h, fun _ _ => rfl⟩
  | v :: vs, k, cells, hv, hsz => by
    have h0 := hv v (by simp)
    have hk : (k + (vs.length + 1)) * sz = k * sz + vs.length * sz + sz := by rw [Nat.add_mul, Nat.add_mul, Nat.one_mul]; omega
    simp only [List.length_cons] at hsz
    have hlen : k * sz + sz ≤ cells.size := by omega
    have hle : (k + 1 + vs.length) * sz ≤ (splice cells (k * sz) v.cells.toList).size := by
      have e : (k + 1 + vs.length) * sz = k * sz + vs.length * sz + sz := by rw [Nat.add_mul, Nat.add_mul, Nat.one_mul]; omega
      rw [splice_size]; omega
    obtain ⟨cells', h1, h2, h3, h4⟩ := fill_ok sz vs (k + 1) (splice cells (k * sz) v.cells.toList) (fun u hu => hv u (by simp [hu])) hle
    have ek : (k + 1) * sz = k * sz + sz := by rw [Nat.add_mul, Nat.one_mul]
    refine ⟨cells', ?_, by rw [h2, splice_size], fun j u hj f x hf => ?_, fun p hp => ?_⟩
    · unfold numbered Instr.fill
      have : ¬ (v.cells.size ≠ sz ∨ k * sz + v.cells.size > cells.size) := by rw [h0]; omega
      have h5 := zipIdx_splice v.cells cells (k * sz)
      simp only []
      rw [if_neg (by simpa using this)]
      rw [h5]; exact h1
    · cases j with
      | zero =>
        simp at hj; subst hj
        have hf' : f < sz := by rw [← h0]; exact (Array.getElem?_eq_some_iff.1 hf).1
        rw [Nat.add_zero, h4 _ (by omega), splice_at _ _ _ (by simp [h0]; omega), if_pos (by simp [h0]; omega)]
        simpa using hf
      | succ j =>
        have := h3 j u (by simpa using hj) f x hf
        rwa [show k + (j + 1) = k + 1 + j by omega]
    · rw [h4 p (by omega), splice_at _ _ _ (by simp [h0]; omega), if_neg (by omega)]

def evp (g : Option (Nat × Bool)) (E : Env) : Nat → List (Nat × Operand) → Option (List Value)
  | _, [] => some []
  | k, (i, x) :: ps => match Nat.beq i k with
    | true => match ev g E x with
      | some v => match evp g E (k + 1) ps with | some vs => some (v :: vs) | none => none
      | none => none
    | false => none
theorem evp_eq {n : Nat} {E : Env} {a : Act} {g : Option (Nat × Bool)} (h : EOk n E a) (hg : gd g a) : ∀ {ps : List (Nat × Operand)} {k : Nat} {vs : List Value}, evp g E k ps = some vs → ps.map (fun p => (p.1, a.eval p.2)) = numbered k vs
  | [], k, vs, hl => by injection hl with hl; subst hl; rfl
  | (i, x) :: ps, k, vs, hl => by
    unfold evp at hl
    split at hl
    · rename_i hb
      have := Nat.eq_of_beq_eq_true hb
      subst this
      split at hl
      · rename_i v hv
        split at hl
        · rename_i us hus
          injection hl with hl; subst hl
          simp [numbered, h.ev hg hv, evp_eq h hg hus]
        · cases hl
      · cases hl
    · cases hl

section
variable {c : Cx} {g : Option (Nat × Bool)} {E : Env} {L L' : List HProp} {d : Option Tmp} {ty : TypeId} {pos : String} {af : Array Edge} {gu : Option (Nat × Bool)}
variable {x y z : Operand} {t u e : TypeId} {k : IntKind} {v : Value} {s : Option Addr} {b o i j n sz cap off : Nat}

theorem l_buildSlice {vs : List Value} {parts : List (Nat × Operand)} {zv : Value} (rows : List (List Value)) (hu : c.P.underlying t = some (.slice e)) (hz : ∀ w, (sizeOf e).run c.P w = .ok sz w) (hzv : ∀ w, (zeroValue e).run c.P w = .ok zv w) (hx : evp g E 0 parts = some vs) (hn : vs.length = n)
    (hr : vs.map (fun v => v.cells.toList) = rows) (hsz : ∀ r ∈ rows, r.length = sz) (hb : n * sz ≤ 16777216) (h0 : 0 < n * sz) :
    OpL c g E L ⟨d, .buildSlice t n parts.toArray, ty, pos, af, gu⟩ fun v L' => ∃ b, v = sl (some ⟨b, 0, none⟩) n n ∧ L' = owL e sz (some ⟨b, 0, none⟩) n rows :: L :=
  .of_run fun a w hE hg hS => by
    have hp := evp_eq hE hg hx
    have hvs : ∀ v ∈ vs, v.cells.size = sz := fun v hv => by
      have := hsz v.cells.toList (by rw [← hr]; exact List.mem_map_of_mem hv)
      simpa using this
    obtain ⟨cells, h1, h2, h3, h4⟩ := fill_ok sz vs 0 ((Array.range (n * sz)).map (zv.cells[· % zv.cells.size]!)) hvs (by simp [hn])
    have hrow : Rows (.cells cells e (0, 0)) 0 sz rows := fun j row hj f u hf => by
      subst hr
      simp only [List.getElem?_map, Option.map_eq_some_iff] at hj
      obtain ⟨v, hv, rfl⟩ := hj
      have := h3 j v hv f u (by simpa using hf)
      simpa [objCell] using this
    refine ⟨sl (some ⟨w.heap.size, 0, none⟩) n n, { w with heap := w.heap.push (.cells cells e (0, 0)) }, owL e sz (some ⟨w.heap.size, 0, none⟩) n rows :: L, ?_, ?_, _, rfl, rfl⟩
    · have hb' : ¬ n * sz > 2 ^ 24 := by omega
      have h0' : n * sz ≠ 0 := by omega
      simp only [execOp, Instr.buildSlice]
      simp [underlying, program, Sem.run, hu, hz, hzv, hb', h0', hp, h1, newRow, newObj, sl]
    · refine (hS.alloc _).weak fun m hm => .inr ⟨_, cells, rfl, hm, by rw [h2]; simp, ?_, hsz, hrow⟩
      rw [← hr]; simp [hn]

theorem flatten_at {sz : Nat} (h0 : 0 < sz) : ∀ (rows : List (List Value)), (∀ r ∈ rows, r.length = sz) → ∀ k, rows.flatten[k]? = (rows[k / sz]?).bind (·[k % sz]?)
  | [], _, k => by simp
  | r :: rows, h, k => by
    have hr := h r (by simp)
    have ih := flatten_at h0 rows (fun u hu => h u (by simp [hu]))
    simp only [List.flatten_cons]
    by_cases hk : k < sz
    · rw [List.getElem?_append_left (by omega), Nat.div_eq_of_lt hk, Nat.mod_eq_of_lt hk]
      rfl
    · rw [List.getElem?_append_right (by omega), hr, ih]
      have e1 : k / sz = (k - sz) / sz + 1 := by rw [← Nat.div_eq_sub_div h0 (by omega)]
      have e2 : k % sz = (k - sz) % sz := Nat.mod_eq_sub_mod (by omega)
      rw [e1, e2]
      simp
theorem flatten_len {sz : Nat} : ∀ (rows : List (List Value)), (∀ r ∈ rows, r.length = sz) → rows.flatten.length = rows.length * sz
  | [], _ => by simp
  | r :: rows, h => by
    simp [flatten_len rows (fun u hu => h u (by simp [hu])), h r (by simp), Nat.add_mul, Nat.add_comm]
theorem Rows.flat {ob : Obj} {off sz : Nat} {rows : List (List Value)} (h : Rows ob off sz rows) (h0 : 0 < sz) (hl : ∀ r ∈ rows, r.length = sz) {k : Nat} {v : Value} (hk : rows.flatten[k]? = some v) : objCell ob (off + k) = some v := by
  rw [flatten_at h0 rows hl] at hk
  simp only [Option.bind_eq_some_iff] at hk
  obtain ⟨row, h1, h2⟩ := hk
  have := h _ row h1 _ v h2
  rwa [Nat.mul_comm, Nat.div_add_mod] at this

theorem owL_open {w0 w : World} {T : TypeId} {rows : List (List Value)} (h : Sat w0 w (owL T sz s cap rows :: L)) : (s = none ∧ rows = [] ∧ cap = 0 ∧ Sat w0 w L) ∨
    ∃ b cs, s = some ⟨b, 0, none⟩ ∧ cs.size = cap * sz ∧ rows.length ≤ cap ∧ (∀ row ∈ rows, row.length = sz) ∧ Rows (.cells cs T (0, 0)) 0 sz rows ∧ Sat w0 w (pt b (.cells cs T (0, 0)) :: L) := by
  have h' := h
  obtain ⟨h1, h2, h3, h4, f, hf, hd⟩ := h
  rcases (hf 0 _ rfl).1 with ⟨a1, a2, a3⟩ | ⟨b, cs, a1, a2, a3, a4, a5, a6⟩
  · exact .inl ⟨a1, a2, a3, h'.tail⟩
  · refine .inr ⟨b, cs, a1, a3, a4, a5, a6, h1, h2, h3, h4, f, fun i A hA => ?_, hd⟩
    cases i with
    | zero => simp at hA; subst hA; exact ⟨a2, (hf 0 _ rfl).2⟩
    | succ i => exact hf (i + 1) A (by simpa using hA)
theorem owL_shut {w0 w : World} {T : TypeId} {rows : List (List Value)} {cs : Array Value} (h : Sat w0 w (pt b (.cells cs T (0, 0)) :: L)) (h1 : cs.size = cap * sz) (h2 : rows.length ≤ cap) (h3 : ∀ row ∈ rows, row.length = sz) (h4 : Rows (.cells cs T (0, 0)) 0 sz rows) :
    Sat w0 w (owL T sz (some ⟨b, 0, none⟩) cap rows :: L) := h.weak fun m hm => .inr ⟨b, cs, rfl, hm, h1, h2, h3, h4⟩
theorem owL_nil {w0 w : World} (T sz : Nat) (h : Sat w0 w L) : Sat w0 w (owL T sz none 0 [] :: L) := (h.pure_mk trivial).weak (A := hpure True) fun m _ => .inl ⟨rfl, rfl, rfl⟩
/-- an owned slice, given up to reading -/
theorem owL_ro {w0 w : World} {T : TypeId} {rows : List (List Value)} (h : Sat w0 w (owL T sz s cap rows :: L)) : Sat w0 w (roL sz s rows :: L) := by
  rcases owL_open h with ⟨rfl, rfl, rfl, h'⟩ | ⟨b, cs, rfl, a1, a2, a3, a4, h'⟩
  · exact (Sat.pure_mk (φ := True) trivial h').weak fun m _ => Or.inl rfl
  · exact h'.freeze.weak fun m hm => .inr ⟨b, 0, _, rfl, hm, a4⟩

/-- the owned slice s among them -/
class OwR (L : List HProp) (s : Option Addr) (T sz cap : outParam Nat) (rows : outParam (List (List Value))) (F : outParam (List HProp)) : Prop where
  out : ∃ i, L[i]? = some (owL T sz s cap rows) ∧ F = L.eraseIdx i
instance (priority := high) OwR.head {T : Nat} {rows : List (List Value)} : OwR (owL T sz s cap rows :: L) s T sz cap rows L := ⟨0, rfl, rfl⟩
instance (priority := low) OwR.tail {A : HProp} {T : Nat} {rows : List (List Value)} {F : List HProp} [h : OwR L s T sz cap rows F] : OwR (A :: L) s T sz cap rows (A :: F) := ⟨let ⟨i, h1, h2⟩ := h.out; ⟨i + 1, by simpa using h1, by simp [h2]⟩⟩
theorem OwR.sat {w0 w : World} {T : Nat} {rows : List (List Value)} {F : List HProp} (r : OwR L s T sz cap rows F) (h : Sat w0 w L) : Sat w0 w (owL T sz s cap rows :: F) := by
  obtain ⟨i, h1, rfl⟩ := r.out
  exact h.front h1

theorem growBy_le (newLen : Nat) : ∀ (r c : Nat), c < newLen → Builtin.growBy newLen r c ≤ 2 * newLen + 192
  | 0, c, h => by simp [Builtin.growBy]; omega
  | r + 1, c, h => by
    unfold Builtin.growBy
    split
    · omega
    · by_cases h2 : c + (c + 768) / 4 < newLen
      · exact growBy_le newLen r _ h2
      · cases r with
        | zero => simp [Builtin.growBy]; omega
        | succ r => unfold Builtin.growBy; rw [if_pos (by omega)]; omega
theorem nextcap_le (newLen oldCap : Nat) (h : oldCap < newLen) : Builtin.nextslicecap newLen oldCap ≤ 2 * newLen + 192 := by
  unfold Builtin.nextslicecap
  split
  · omega
  · split
    · omega
    · exact growBy_le _ _ _ h
theorem run_first {P : Program} {w : World} {rows : List (List Value)} (h0 : 0 < sz) (hl : ∀ r ∈ rows, r.length = sz) (hn : rows.length = n) (h : rows = [] ∨ ∃ b off o, s = some ⟨b, off, none⟩ ∧ w.heap[b]? = some o ∧ Rows o off sz rows) :
    (Builtin.firstCells sz n (sl s n cap)).run P w = .ok rows.flatten.toArray w := by
  rcases h with rfl | ⟨b, off, o, rfl, hh, hR⟩
  · simp at hn; subst hn
    cases s with
    | none => simp [Builtin.firstCells, sl, Sem.run_pure]
    | some p => simp [Builtin.firstCells, sl, loadCells, loadCellsFrom]
  · have := run_loadCells (P := P) (w := w) b (n * sz) 0 off #[] rows.flatten (by rw [flatten_len rows hl, hn]) (fun k v hk => by
      have := cell_of hh (hR.flat h0 hl hk)
      simpa using this)
    simpa [Builtin.firstCells, sl, loadCells] using this

theorem Rows.app {o : Obj} {off : Nat} {r1 r2 : List (List Value)} (h1 : Rows o off sz r1) (h2 : Rows o (off + r1.length * sz) sz r2) : Rows o off sz (r1 ++ r2) := fun j row hj f v hf => by
  rcases Nat.lt_or_ge j r1.length with hlt | hge
  · rw [List.getElem?_append_left hlt] at hj
    exact h1 j row hj f v hf
  · rw [List.getElem?_append_right hge] at hj
    have := h2 _ row hj f v hf
    have e : off + r1.length * sz + ((j - r1.length) * sz + f) = off + (j * sz + f) := by
      obtain ⟨q, rfl⟩ : ∃ q, j = r1.length + q := ⟨j - r1.length, by omega⟩
      rw [show r1.length + q - r1.length = q by omega, Nat.add_mul]; omega
    rwa [e] at this
/-- the cells of rows that are laid one behind the other -/
theorem Rows.of_flat {cs : Array Value} {T : TypeId} {off : Nat} {rows : List (List Value)} (h0 : 0 < sz) (hl : ∀ r ∈ rows, r.length = sz) (h : ∀ k v, rows.flatten[k]? = some v → cs[off + k]? = some v) : Rows (.cells cs T (0, 0)) off sz rows := fun j row hj f v hf => by
  have hf' : f < sz := by rw [← hl row (List.mem_of_getElem? hj)]; exact (List.getElem?_eq_some_iff.1 hf).1
  refine h _ v ?_
  rw [flatten_at h0 rows hl, show (j * sz + f) / sz = j by rw [Nat.mul_comm, Nat.mul_add_div h0, Nat.div_eq_of_lt hf']; rfl, show (j * sz + f) % sz = f by rw [Nat.mul_comm, Nat.mul_add_mod, Nat.mod_eq_of_lt hf']]
  simp [hj, hf]
theorem lenOf_sl {P : Program} {w : World} : (Builtin.lenOf (sl s n cap)).run P w = .ok n w := by simp [Builtin.lenOf, sl, Sem.run_pure]

theorem askRoom_run {P : Program} {w : World} (k : Nat) : (askRoom k).run P w = .ok () w := by
  unfold askRoom
  split <;> rfl
theorem run_append_fit {P : Program} {w w' : World} {base : Option Addr} {X : Value} {m : Nat} {new : Array Value} (hu : P.underlying t = some (.slice e)) (hz : ∀ w, (sizeOf e).run P w = .ok sz w) (hl : (Builtin.lenOf X).run P w = .ok m w) (hf : (Builtin.firstCells sz m X).run P w = .ok new w) (hfit : n + m ≤ cap)
    (hs : (match base with | some a => storeCells (a.add (n * sz)) new.toList | none => (pure () : Sem Unit)).run P w = .ok () w') : (Builtin.append_ #[t, t] ty #[.slice base n cap, X]).run P w = .ok (.slice base (n + m) cap) w' := by
  unfold Builtin.append_
  cases base with
  | none =>
    have e : w = w' := by injection hs
    subst e
    simp [underlying, program, Sem.run, hu, hz, hl, hf, hfit]
  | some a => simp only [] at hs; simp [underlying, program, Sem.run, hu, hz, hl, hf, hfit, hs]
theorem run_append_grow {P : Program} {w : World} {base : Option Addr} {X zv : Value} {m : Nat} {old new : Array Value} {info : TypeInfo} (hu : P.underlying t = some (.slice e)) (hz : ∀ w, (sizeOf e).run P w = .ok sz w) (hzv : ∀ w, (zeroValue e).run P w = .ok zv w) (hti : ∀ w, (typeInfo e).run P w = .ok info w)
    (hl : (Builtin.lenOf X).run P w = .ok m w) (hf : (Builtin.firstCells sz m X).run P w.drew = .ok new w.drew) (ho : (Builtin.firstCells sz n (.slice base n cap)).run P w.drew = .ok old w.drew) (hfit : cap < n + m) (hb : n + m ≤ 1073741824 ∧ 0 < info.bytes ∧ info.bytes ≤ 4096) :
    ∃ newCap, n + m ≤ newCap ∧ (Builtin.append_ #[t, t] ty #[.slice base n cap, X]).run P w = .ok (.slice (some ⟨w.heap.size, 0, none⟩) (n + m) newCap) (w.drew.alloc (.cells (old ++ new ++ Builtin.zeroCells zv.cells (newCap - (n + m))) e (0, 0))) := by
  have c1 : ¬ n + m ≤ cap := by omega
  have c3 : ¬ (Builtin.nextslicecap (n + m) cap * info.bytes > 2 ^ 48) := by
    have h1 := nextcap_le (n + m) cap hfit
    have h2 : Builtin.nextslicecap (n + m) cap * info.bytes ≤ (2 * 1073741824 + 192) * 4096 := Nat.mul_le_mul (by omega) hb.2.2
    omega
  have hask := fun (w : World) (k : Nat) => askRoom_run (P := P) (w := w) k
  refine ⟨(Question.appendCap (n + m) cap e).cut (w.tape w.drawn (.appendCap (n + m) cap e)), by simp [Question.cut], ?_⟩
  have e0 : info.bytes ≠ 0 := by omega
  unfold Builtin.append_
  simp [underlying, program, Sem.run, hu, hz, hl, c1, hti, choose, Question.forced]
  rw [if_neg (by omega), if_neg (by simpa using c3)]
  simp [hask, hf, ho, hzv, newRow, newObj, Sem.run, Question.cut]
end
end Go.Sl
