/- What single operations do (5): append onto a slice that is owned. No condition. -/
import Derived.Test.YthdjckbjjfiopacSl8
namespace Go.Sl
set_option linter.unusedVariables false
set_option linter.unusedSimpArgs false
section
variable {c : Cx} {g : Option (Nat × Bool)} {E : Env} {L L' : List HProp} {d : Option Tmp} {ty : TypeId} {pos : String} {af : Array Edge} {gu : Option (Nat × Bool)}
variable {x y z : Operand} {t u e : TypeId} {k : IntKind} {v : Value} {s : Option Addr} {b o i j n sz cap off : Nat}

theorem exec_append {a : Act} {w : World} {P : Program} {X Y : Value} {r : Result Value} (hx : a.eval x = X) (hy : a.eval y = Y) (h : (Builtin.append_ #[t, u] ty #[X, Y]).run P w = r) :
    (execOp a.eval ⟨d, .call { callee := .builtin .append, args := #[x, y], argTypes := #[t, u] }, ty, pos, af, gu⟩).run P w = r.andThen fun v w' => .ok (.value v) w' := by
  simp [execOp, resolve, invoke, builtin, hx, hy, h]
/-- the rows behind the old ones, where there is room -/
theorem app_rows_fit {cs : Array Value} {T : TypeId} {rows news : List (List Value)} (h0 : 0 < sz) (hcs : cs.size = cap * sz) (hfit : rows.length + news.length ≤ cap) (hl : ∀ r ∈ rows, r.length = sz) (hnl : ∀ r ∈ news, r.length = sz) (hr : Rows (.cells cs T (0, 0)) 0 sz rows) :
    rows.length * sz + news.flatten.length ≤ cs.size ∧ Rows (.cells (splice cs (rows.length * sz) news.flatten) T (0, 0)) 0 sz (rows ++ news) := by
  have hle : rows.length * sz + news.flatten.length ≤ cs.size := by
    rw [flatten_len news hnl, hcs, ← Nat.add_mul]
    exact Nat.mul_le_mul_right _ hfit
  refine ⟨hle, Rows.app (fun j row hj f v hf => ?_) (Rows.of_flat h0 hnl fun k v hk => ?_)⟩
  · have := hr j row hj f v hf
    simp only [objCell, Nat.zero_add] at this ⊢
    have hj' := (List.getElem?_eq_some_iff.1 hj).1
    have hf' : f < sz := by rw [← hl row (List.mem_of_getElem? hj)]; exact (List.getElem?_eq_some_iff.1 hf).1
    have : j * sz + f < rows.length * sz := by
      have : (j + 1) * sz ≤ rows.length * sz := Nat.mul_le_mul_right _ hj'
      rw [Nat.add_mul, Nat.one_mul] at this; omega
    rw [splice_at _ _ _ hle, if_neg (by omega)]
    assumption
  · have hk' := (List.getElem?_eq_some_iff.1 hk).1
    rw [splice_at _ _ _ hle, if_pos (by omega), Nat.zero_add, Nat.add_sub_cancel_left]
    exact hk
/-- and in a new array -/
theorem app_rows_new {T : TypeId} {rows news : List (List Value)} {rest : Array Value} (h0 : 0 < sz) (hl : ∀ r ∈ rows, r.length = sz) (hnl : ∀ r ∈ news, r.length = sz) :
    Rows (.cells (rows.flatten.toArray ++ news.flatten.toArray ++ rest) T (0, 0)) 0 sz (rows ++ news) := by
  refine Rows.of_flat h0 (by intro r hr; rcases List.mem_append.1 hr with h | h; exact hl r h; exact hnl r h) fun k v hk => ?_
  have hlt := (List.getElem?_eq_some_iff.1 hk).1
  rw [Nat.zero_add, Array.getElem?_append_left (by simp at hlt ⊢; omega)]
  simpa using hk
theorem zeroCells_size (zv : Array Value) (k : Nat) : (Builtin.zeroCells zv k).size = k * zv.size := by simp [Builtin.zeroCells]

theorem l_append {s2 : Option Addr} {m cap2 : Nat} {zv : Value} {info : TypeInfo} {T : Nat} {rows news : List (List Value)} {F : List HProp} (hu : c.P.underlying t = some (.slice T)) (hz : ∀ w, (sizeOf T).run c.P w = .ok sz w) (hzv : ∀ w, (zeroValue T).run c.P w = .ok zv w) (hzs : zv.cells.size = sz) (hti : ∀ w, (typeInfo T).run c.P w = .ok info w) (h0 : 0 < sz)
    (hx : ev g E x = some (sl s n cap)) (hy : ev g E y = some (sl s2 m cap2)) [R : OwR L s T sz cap rows F] (hn : rows.length = n) [Y : SlR F s2 sz news] (hm : news.length = m) (hnl : ∀ r ∈ news, r.length = sz) (h1 : ∀ r ∈ news, ones r = true)
    (hb : n + m ≤ 1073741824 ∧ 0 < info.bytes ∧ info.bytes ≤ 4096) :
    OpL c g E L ⟨d, .call { callee := .builtin .append, args := #[x, y], argTypes := #[t, t] }, ty, pos, af, gu⟩ fun v L' => ∃ s' cap', v = sl s' (n + m) cap' ∧ L' = owL T sz s' cap' (rows ++ news) :: F :=
  .of_run fun a w hE hg hS => by
    subst hn hm
    have hS1 := R.sat hS
    have hY := Y.out _ _ hS1.tail
    have hnews : ∀ w' : World, w'.heap = w.heap → (Builtin.firstCells sz news.length (sl s2 news.length cap2)).run c.P w' = .ok news.flatten.toArray w' := fun w' hw' => run_first h0 hnl rfl (by rw [hw']; exact hY)
    have fl1 : ones news.flatten = true := ones_of fun v hv => by
      obtain ⟨r, hr, hv⟩ := List.mem_flatten.1 hv
      exact ones_mem (h1 r hr) v hv
    have ex := fun w' v h => exec_append (d := d) (ty := ty) (pos := pos) (af := af) (gu := gu) (t := t) (u := t) (r := .ok v w') (P := c.P) (w := w) (hE.ev hg hx) (hE.ev hg hy) h
    by_cases hfit : rows.length + news.length ≤ cap
    · rcases owL_open hS1 with ⟨rfl, rfl, rfl, hF⟩ | ⟨b, cs, rfl, a1, a2, a3, a4, hP⟩
      · have hnews0 : news = [] := List.length_eq_zero_iff.1 (by omega)
        subst hnews0
        refine ⟨sl none (0 + 0) 0, w, _, ex w _ ?_, hS1, none, 0, rfl, by simp⟩
        exact run_append_fit (base := none) hu hz lenOf_sl (hnews w rfl) (by simp) rfl
      · obtain ⟨hle, hrows⟩ := app_rows_fit (T := T) h0 a1 hfit a3 hnl a4
        have hst := run_storeCells (P := c.P) b (rows.length * sz) T news.flatten w cs 0 hP.at_ (by omega) fl1
        refine ⟨sl (some ⟨b, 0, none⟩) (rows.length + news.length) cap, setB w b (.cells (splice cs (rows.length * sz) news.flatten) T (0, 0)), _, ex _ _ ?_, ?_, some ⟨b, 0, none⟩, cap, rfl, rfl⟩
        · exact run_append_fit (base := some ⟨b, 0, none⟩) hu hz lenOf_sl (hnews w rfl) hfit (by simpa [add_mk] using hst)
        · refine owL_shut (hP.set (o' := .cells (splice cs (rows.length * sz) news.flatten) T (0, 0)) rfl) (by rw [splice_size, a1]) (by simpa using hfit) ?_ hrows
          intro r hr
          rcases List.mem_append.1 hr with h | h
          · exact a3 r h
          · exact hnl r h
    · have hold : (∀ r ∈ rows, r.length = sz) ∧ (rows = [] ∨ ∃ b off o, s = some ⟨b, off, none⟩ ∧ w.heap[b]? = some o ∧ Rows o off sz rows) := by
        rcases owL_open hS1 with ⟨rfl, rfl, rfl, hF⟩ | ⟨b, cs, rfl, a1, a2, a3, a4, hP⟩
        · exact ⟨by simp, .inl rfl⟩
        · exact ⟨a3, .inr ⟨b, 0, _, rfl, hP.at_, a4⟩⟩
      have hfo : (Builtin.firstCells sz rows.length (sl s rows.length cap)).run c.P w.drew = .ok rows.flatten.toArray w.drew := run_first h0 hold.1 rfl hold.2
      obtain ⟨newCap, hc, hrun⟩ := run_append_grow (ty := ty) (t := t) (cap := cap) (n := rows.length) hu hz hzv hti lenOf_sl (hnews w.drew rfl) hfo (by omega) hb
      refine ⟨_, _, _, ex _ _ hrun, ?_, some ⟨w.heap.size, 0, none⟩, newCap, rfl, rfl⟩
      have hS2 : Sat c.w0 (w.drew.alloc (.cells (rows.flatten.toArray ++ news.flatten.toArray ++ Builtin.zeroCells zv.cells (newCap - (rows.length + news.length))) T (0, 0))) _ := (hS1.tail.drew (w.drawn + 1)).alloc _
      refine owL_shut hS2 ?_ (by simpa using hc) ?_ (app_rows_new h0 hold.1 hnl)
      · simp only [Array.size_append, List.size_toArray, flatten_len rows hold.1, flatten_len news hnl, zeroCells_size, hzs]
        rw [← Nat.add_mul, ← Nat.add_mul]
        congr 1
        omega
      · intro r hr
        rcases List.mem_append.1 hr with h | h
        · exact hold.1 r h
        · exact hnl r h
end
end Go.Sl
