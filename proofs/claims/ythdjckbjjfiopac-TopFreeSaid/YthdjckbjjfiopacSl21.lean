/- What single operations do: functions of the model, copies of parts, appends of noughts. No condition. -/
import Derived.Test.YthdjckbjjfiopacSl20
import Derived.Laws.Externs
namespace Go.Sl
set_option linter.unusedVariables false
set_option linter.unusedSimpArgs false
section
variable {c : Cx} {g : Option (Nat × Bool)} {E : Env} {L L' : List HProp} {d : Option Tmp} {ty : TypeId} {pos : String} {af : Array Edge} {gu : Option (Nat × Bool)} {K : List KI}
variable {x y z : Operand} {t u e : TypeId} {k : IntKind} {v v1 v2 : Value} {s : Option Addr} {b o i j n sz cap off : Nat}
/-- a call of a function that the model answers itself -/
theorem l_callX {f : FuncId} {xs : List Operand} {vs : List Value} {ats : Array TypeId} (hcall : ∀ w, (callFunc f vs.toArray).run c.P w = .ok (.value v) w) (hx : evs g E xs = some vs) :
    OpL c g E L ⟨d, .call { callee := .value (.func f), args := xs.toArray, argTypes := ats }, ty, pos, af, gu⟩ fun v' L' => v' = v ∧ L' = L :=
  .of_run fun a w hE hg hS => by
    have hc := hcall w
    rw [← hE.evs hg hx] at hc
    exact ⟨v, w, L, by simp [execOp, resolve, Act.eval, Deferred.ofValue, invoke, hc], hS, rfl, rfl⟩
theorem l_copyW {s2 xa ya : Option Addr} {l p q m cx cy : Nat} {T : Nat} {rows rows2 : List (List Value)} {F : List HProp} (hu : c.P.underlying t = some (.slice T)) (hz : ∀ w, (sizeOf T).run c.P w = .ok sz w) (h0 : 0 < sz)
    (hx : ev g E x = some (sl xa q cx)) (hy : ev g E y = some (sl ya m cy)) [R : OwR L s T sz cap rows F] [Y : SlR L s2 sz rows2] (hxa : At xa s l sz q) (hya : At ya s2 p sz m) (hk : l + Nat.min m q ≤ rows.length) (hm : p + Nat.min m q ≤ rows2.length)
    (hnl : ∀ r ∈ (rows2.drop p).take (Nat.min m q), r.length = sz) (h1 : ∀ r ∈ (rows2.drop p).take (Nat.min m q), ones r = true) :
    OpL c g E L ⟨d, .call { callee := .builtin .copy, args := #[x, y], argTypes := #[t, u] }, ty, pos, af, gu⟩ fun v L' => v = I (Nat.min m q) ∧ L' = owL T sz s cap (rows.take l ++ ((rows2.drop p).take (Nat.min m q)) ++ rows.drop (l + Nat.min m q)) :: F :=
  .of_run fun a w hE hg hS => by
    have hS1 := R.sat hS
    have hY := Y.out _ _ hS
    have e1 := hE.ev hg hx
    have e2 := hE.ev hg hy
    generalize hr : Nat.min m q = r at *
    have hr1 : r ≤ m := by rw [← hr]; exact Nat.min_le_left _ _
    have hr2 : r ≤ q := by rw [← hr]; exact Nat.min_le_right _ _
    have hnews : ∀ x ∈ (rows2.drop p).take r, x.length = sz := hnl
    have hlen : ((rows2.drop p).take r).length = r := by simp; omega
    have hones : ones ((rows2.drop p).take r).flatten = true := ones_of fun v hv => by
      obtain ⟨x, hx, hv⟩ := List.mem_flatten.1 hv
      exact ones_mem (h1 x hx) v hv
    have hfirst : (Builtin.firstCells sz r (sl ya m cy)).run c.P w = .ok ((rows2.drop p).take r).flatten.toArray w := by
      refine run_first' h0 hnews hlen ?_
      by_cases hr0 : r = 0
      · left; rw [hr0]; rfl
      · right
        rcases hY with h | ⟨b, off, o, rfl, hh, hR⟩
        · subst h; simp at hm; omega
        · exact ⟨b, off + p * sz, o, hya.addr (by omega), hh, hR.part⟩
    have hlo : (Builtin.lenOf (Value.slice ya m cy)).run c.P w = .ok m w := lenOf_sl
    have hfi : (Builtin.firstCells sz r (Value.slice ya m cy)).run c.P w = .ok ((rows2.drop p).take r).flatten.toArray w := hfirst
    by_cases hr0 : r = 0
    · subst hr0
      refine ⟨I ((0 : Nat) : Int), w, owL T sz s cap rows :: F, ?_, hS1, rfl, by simp⟩
      refine (exec_copy (r := .ok (I ((0 : Nat) : Int)) w) e1 e2 ?_).trans rfl
      cases xa <;> simp [Builtin.copy_, underlying, program, Sem.run, hu, hz, sl, goInt, storeCells, hlo, hr, hfi]
    · rcases owL_open hS1 with ⟨rfl, rfl, rfl, hF⟩ | ⟨b, cs, rfl, a1, a2, a3, a4, hP⟩
      · simp at hk; omega
      · obtain ⟨hle, hrows⟩ := copy_rows (T := T) (l := l) (news := (rows2.drop p).take r) h0 a1 a2 (by rw [hlen]; omega) a3 hnews a4
        have hst := run_storeCells (P := c.P) b (l * sz) T ((rows2.drop p).take r).flatten w cs 0 hP.at_ (by omega) hones
        have hxa' := hxa.addr (by omega)
        subst hxa'
        refine ⟨I (r : Int), setB w b (.cells (splice cs (l * sz) ((rows2.drop p).take r).flatten) T (0, 0)), _, (exec_copy (r := .ok (I (r : Int)) _) e1 e2 ?_).trans rfl, ?_, rfl, rfl⟩
        · simp [Builtin.copy_, underlying, program, Sem.run, hu, hz, sl, goInt, hlo, hr, hfi, hst]
        · rw [hlen] at hrows
          refine owL_shut (hP.set (o' := .cells (splice cs (l * sz) ((rows2.drop p).take r).flatten) T (0, 0)) rfl) (by rw [splice_size, a1]) (by simp; omega) ?_ hrows
          intro x hx
          rcases List.mem_append.1 hx with hx | hx
          · rcases List.mem_append.1 hx with hx | hx
            · exact a3 x (List.mem_of_mem_take hx)
            · exact hnews x hx
          · exact a3 x (List.mem_of_mem_drop hx)
theorem zc_flat (zr : Array Value) (n : Nat) (h0 : 0 < zr.size) : Builtin.zeroCells zr n = (List.replicate n zr.toList).flatten.toArray := by
  have hl : ∀ r ∈ List.replicate n zr.toList, r.length = zr.size := fun r hr => by obtain ⟨_, rfl⟩ := List.mem_replicate.1 hr; simp
  apply Array.ext_getElem?
  intro k
  rw [show (List.replicate n zr.toList).flatten.toArray[k]? = (List.replicate n zr.toList).flatten[k]? by simp, flatten_at h0 _ hl]
  unfold Builtin.zeroCells
  rw [Array.getElem?_map]
  have hm := Nat.mod_lt k h0
  by_cases hk : k < n * zr.size
  · have hd : k / zr.size < n := by rw [Nat.div_lt_iff_lt_mul h0]; exact hk
    rw [Array.getElem?_range, if_pos hk, List.getElem?_replicate, if_pos hd]
    simp only [Option.map_some, Option.bind_some]
    rw [getElem!_pos zr _ hm]
    simp [hm]
  · have hd : ¬ k / zr.size < n := by rw [Nat.div_lt_iff_lt_mul h0]; exact hk
    rw [Array.getElem?_range, if_neg hk, List.getElem?_replicate, if_neg hd]
    rfl
/-- noughts behind the first rows of a slice, where there is no room: a new array; the old one stays -/
theorem l_appendMakeGrow {m : Nat} {m' : Int} {zv : Value} {info : TypeInfo} {T : Nat} {rows : List (List Value)} (hu : c.P.underlying t = some (.slice T)) (hu2 : c.P.underlying u = some (.int .i64)) (hz : ∀ w, (sizeOf T).run c.P w = .ok sz w) (hzv : ∀ w, (zeroValue T).run c.P w = .ok zv w) (hzs : zv.cells.size = sz) (hti : ∀ w, (typeInfo T).run c.P w = .ok info w) (h0 : 0 < sz)
    (hx : ev g E x = some (sl s i cap)) (hy : ev g E y = some (I m')) (hm : m' = (m : Int)) [Y : SlR L s sz rows] (hi : i ≤ rows.length) (hnl : ∀ r ∈ rows, r.length = sz) (hgr : cap < i + m) (hm1 : 0 < m)
    (hb : i + m ≤ 1048576 ∧ 0 < info.bytes ∧ info.bytes ≤ 4096) :
    OpL c g E L ⟨d, .call { callee := .builtin .append, args := #[x, y], argTypes := #[t, u] }, ty, pos, af, gu⟩ fun v L' => ∃ b' cap', v = sl (some ⟨b', 0, none⟩) (i + m) cap' ∧ L' = owL T sz (some ⟨b', 0, none⟩) cap' (rows.take i ++ List.replicate m zv.cells.toList) :: L :=
  .of_run fun a w hE hg hS => by
    subst hm hzs
    have e1 := hE.ev hg hx
    have e2 := hE.ev hg hy
    have hw : IntKind.i64.wrap (m : Int) = m := w64 (by omega)
    have hnl2 : ∀ r ∈ rows.take i, r.length = zv.cells.size := fun r hr => hnl r (List.mem_of_mem_take hr)
    have hzl : ∀ r ∈ List.replicate m zv.cells.toList, r.length = zv.cells.size := fun r hr => by obtain ⟨_, rfl⟩ := List.mem_replicate.1 hr; simp
    have htk : (rows.take i).length = i := by simp; omega
    have hfo : ∀ w' : World, w'.heap = w.heap → (Builtin.firstCells zv.cells.size i (sl s i cap)).run c.P w' = .ok (rows.take i).flatten.toArray w' := fun w' hw' => by
      refine run_first h0 hnl2 htk ?_
      rcases Y.out _ _ hS with h | ⟨b, off, o, h1, h2, h3⟩
      · left; rw [h]; simp
      · exact .inr ⟨b, off, o, h1, by rw [hw']; exact h2, h3.take i⟩
    have hfo' : (Builtin.firstCells zv.cells.size i (.slice s i cap)).run c.P w.drew = .ok (rows.take i).flatten.toArray w.drew := hfo w.drew rfl
    have c1 : ¬ i + m ≤ cap := by omega
    have c3 : ¬ (Builtin.nextslicecap (i + m) cap * info.bytes > 2 ^ 48) := by
      have h1 := nextcap_le (i + m) cap hgr
      have h2 : Builtin.nextslicecap (i + m) cap * info.bytes ≤ (2 * 1048576 + 192) * 4096 := Nat.mul_le_mul (by omega) hb.2.2
      omega
    have h48 : ¬ ((m : Int) * (info.bytes : Int) > 2 ^ 48) := by
      have h1 : m * info.bytes ≤ 1048576 * 4096 := Nat.mul_le_mul (by omega) hb.2.2
      have h2 : ((m * info.bytes : Nat) : Int) = (m : Int) * info.bytes := by simp
      rw [← h2]; omega
    have hmx : ¬ ((i + m : Nat) : Int) > IntKind.i64.max := by simp [IntKind.max, IntKind.signed, IntKind.bits]; omega
    have hask := fun (w : World) (k : Nat) => askRoom_run (P := c.P) (w := w) k
    have hm0 : 0 < m ∨ m = 0 := by omega
    obtain ⟨newCap, hc, hrun⟩ : ∃ newCap, i + m ≤ newCap ∧ (Builtin.append_ #[t, u] ty #[.slice s i cap, I (m : Int)]).run c.P w = .ok (.slice (some ⟨w.heap.size, 0, none⟩) (i + m) newCap) (w.drew.alloc (.cells ((rows.take i).flatten.toArray ++ Builtin.zeroCells zv.cells m ++ Builtin.zeroCells zv.cells (newCap - (i + m))) T (0, 0))) := by
      refine ⟨(Question.appendCap (i + m) cap T).cut (w.tape w.drawn (.appendCap (i + m) cap T)), by simp [Question.cut], ?_⟩
      have e0 : info.bytes ≠ 0 := by omega
      have hmn : ¬ ((m : Int) < 0) := by omega
      have hz0 : ¬ (m * zv.cells.size = 0) ∨ m = 0 := by
        rcases hm0 with h | h
        · left; have := Nat.mul_pos h h0; omega
        · exact .inr h
      unfold Builtin.append_
      rcases hz0 with hz0 | hz0
      · simp [underlying, program, Sem.run, hu, hu2, hz, c1, hti, choose, Question.forced, asInt, asIntOf, hw, h48, hmn]
        rw [if_neg (by omega), if_neg (by omega), if_neg (by simpa using c3)]
        simp [hask, hfo', hzv, newRow, newObj, Sem.run, Question.cut, hz0]
      · subst hz0
        exact absurd hm1 (by omega)
    refine ⟨_, _, _, (exec_append (d := d) (ty := ty) (pos := pos) (af := af) (gu := gu) (t := t) (u := u) (r := .ok _ _) (P := c.P) (w := w) e1 e2 hrun).trans rfl, ?_, w.heap.size, newCap, rfl, rfl⟩
    have hS2 : Sat c.w0 (w.drew.alloc (.cells ((rows.take i).flatten.toArray ++ Builtin.zeroCells zv.cells m ++ Builtin.zeroCells zv.cells (newCap - (i + m))) T (0, 0))) _ := (hS.drew (w.drawn + 1)).alloc _
    rw [zc_flat _ m h0] at hS2 ⊢
    refine owL_shut hS2 ?_ (by rw [List.length_append, htk, List.length_replicate]; exact hc) ?_ (app_rows_new h0 hnl2 hzl)
    · simp only [Array.size_append, List.size_toArray, flatten_len _ hnl2, flatten_len _ hzl, zeroCells_size, htk, List.length_replicate]
      rw [← Nat.add_mul, ← Nat.add_mul]
      congr 1
      omega
    · intro r hr
      rcases List.mem_append.1 hr with h | h
      · exact hnl2 r h
      · exact hzl r h
/-- one more row of what lies behind the rows -/
theorem g_extend {T : Nat} {rows : List (List Value)} {F : List HProp} (s : Option Addr) [R : OwR L s T sz cap rows F] (hlt : rows.length < cap) (h : ∀ r : List Value, r.length = sz → G c K E (owL T sz s cap (rows ++ [r]) :: F)) : G c K E L := fun a w hE hS => by
  have hS1 := R.sat hS
  rcases owL_open hS1 with ⟨rfl, rfl, rfl, hF⟩ | ⟨b, cs, rfl, a1, a2, a3, a4, hP⟩
  · omega
  · have hsz : rows.length * sz + sz ≤ cs.size := by
      rw [a1]
      have : (rows.length + 1) * sz ≤ cap * sz := Nat.mul_le_mul_right _ hlt
      rw [Nat.add_mul, Nat.one_mul] at this
      exact this
    refine h ((cs.toList.drop (rows.length * sz)).take sz) (by simp; omega) a w hE (owL_shut hP a1 (by simp; omega) (fun r hr => ?_) (Rows.app a4 fun q row hq f v hf => ?_))
    · rcases List.mem_append.1 hr with hr | hr
      · exact a3 r hr
      · simp at hr; subst hr; simp; omega
    · match q, hq with
      | 0, hq =>
        injection hq with hq
        subst hq
        have hfs : f < sz := by have := (List.getElem?_eq_some_iff.1 hf).1; simp at this; omega
        rw [List.getElem?_take_of_lt hfs, List.getElem?_drop] at hf
        simp only [objCell, Nat.zero_add, Nat.zero_mul]
        rw [← Array.getElem?_toList]
        exact hf
      | q + 1, hq => simp at hq
end
end Go.Sl
