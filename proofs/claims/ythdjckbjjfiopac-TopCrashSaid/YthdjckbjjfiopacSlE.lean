/- The layer, part E: bits, strings as bytes, what a strings.Builder does, pointers turned. No condition. -/
import Derived.Test.YthdjckbjjfiopacSlD
import Derived.Lib.UnsafeStr
namespace Go.Sl
set_option linter.unusedVariables false
set_option linter.unusedSimpArgs false
section
variable {c : Cx} {g : Option (Nat × Bool)} {E : Env} {L L' : List HProp} {d : Option Tmp} {ty : TypeId} {pos : String} {af : Array Edge} {gu : Option (Nat × Bool)} {K : List KI}
variable {x y z : Operand} {t u e : TypeId} {k : IntKind} {v v1 v2 : Value} {s : Option Addr} {b o i j n sz cap off : Nat}
/-- bits side by side -/
theorem v_bor (m q r : Nat) (hx : ev g E x = some (I (m : Int))) (hy : ev g E y = some (I ((2 ^ q * r : Nat) : Int))) (hm : m < 2 ^ q) (hb : m + 2 ^ q * r < 9223372036854775808) : OpV c g E L ⟨d, .binOp .or t x y u, ty, pos, af, gu⟩ (I ((m + 2 ^ q * r : Nat) : Int)) := .mk fun a w hE hg hS => by
  have h1 : IntKind.i64.wrap (((BitVec.ofInt IntKind.i64.bits (m : Int) ||| BitVec.ofInt IntKind.i64.bits ((2 ^ q * r : Nat) : Int)).toNat : Nat) : Int) = ((m + 2 ^ q * r : Nat) : Int) := by
    have e1 : (BitVec.ofInt IntKind.i64.bits (m : Int)).toNat = m := by
      show (BitVec.ofInt 64 (m : Int)).toNat = m
      rw [BitVec.toNat_ofInt]
      omega
    have e2 : (BitVec.ofInt IntKind.i64.bits ((2 ^ q * r : Nat) : Int)).toNat = 2 ^ q * r := by
      show (BitVec.ofInt 64 _).toNat = _
      rw [BitVec.toNat_ofInt]
      omega
    rw [BitVec.toNat_or, e1, e2, Nat.or_comm, ← Nat.two_pow_add_eq_or_of_lt hm, Nat.add_comm]
    show IntKind.wrap .i64 _ = _
    exact w64 (by omega)
  have hrun : (Op.intBits .or .i64 (m : Int) ((2 ^ q * r : Nat) : Int)).run c.P w = .ok (I ((m + 2 ^ q * r : Nat) : Int)) w := by
    show (Sem.pure (Value.int .i64 _)).run c.P w = _
    rw [h1]; rfl
  simp only [execOp, hE.ev hg hx, hE.ev hg hy, eqGuard, binOp]
  generalize ((2 ^ q * r : Nat) : Int) = A at *
  generalize ((m + 2 ^ q * r : Nat) : Int) = B at *
  simp [hrun]
theorem str_cells (p : List UInt8) : (Array.mk p).map (fun b => Value.int .u8 b.toNat) = (bytesR p).flatten.toArray := by
  apply Array.ext'
  simp [bytesR_flat, Function.comp_def]
theorem run_markS {P : Program} {w : World} {a : Addr} : ∃ w', (markStringish a).run P w = .ok () w' ∧ w'.os = w.os ∧ w'.tape = w.tape ∧ w'.output = w.output ∧ w'.heap.size = w.heap.size ∧ (∀ c, c ≠ a.block → w'.heap[c]? = w.heap[c]?) ∧
    ∀ cs T f, w.heap[a.block]? = some (.cells cs T f) → ∃ f', w'.heap[a.block]? = some (.cells cs T f') := by
  unfold markStringish
  cases hs : w.shape? a.block with
  | none =>
    refine ⟨w, by simp [hs], rfl, rfl, rfl, rfl, fun _ _ => rfl, fun cs T f h => ⟨f, h⟩⟩
  | some en =>
    obtain ⟨e, n⟩ := en
    refine ⟨w.freeze { block := a.block, off := n } 1, by simp [hs], ?_⟩
    unfold World.freeze
    rw [if_neg (by decide)]
    refine ⟨rfl, rfl, rfl, by simp, fun c hc => ?_, fun cs T f h => ?_⟩
    · simp only [Array.getElem?_modify]
      rw [if_neg (by omega)]
    · obtain ⟨lo, hi⟩ := f
      refine ⟨_, by simp only [Array.getElem?_modify]; rw [if_pos trivial, h]; rfl⟩
/-- a string as bytes of its own, that nobody writes -/
theorem l_strBytes {p : List UInt8} (hu : c.P.underlying t = some .string) (hu2 : c.P.underlying u = some (.slice e)) (he : c.P.underlying e = some (.int .u8)) (hx : ev g E x = some (Str p)) :
    OpL c g E L ⟨d, .convert t u x, ty, pos, af, gu⟩ fun v L' => ∃ b cap, v = sl (some ⟨b, 0, none⟩) p.length cap ∧ p.length ≤ cap ∧ L' = roL 1 (some ⟨b, 0, none⟩) (bytesR p) :: L :=
  .of_run fun a w hE hg hS => by
    obtain ⟨cap, hcap⟩ : ∃ q, (Question.appendCap p.length 0 e).cut (w.tape w.drawn (.appendCap p.length 0 e)) = q := ⟨_, rfl⟩
    have hle : p.length ≤ cap := by rw [← hcap]; simp [Question.cut]
    obtain ⟨w1, hw1⟩ : ∃ w1, w.drew.alloc (.cells ((bytesR p).flatten.toArray ++ Array.replicate (cap - p.length) (By 0)) e (0, 0)) = w1 := ⟨_, rfl⟩
    have hS1 : Sat c.w0 w1 (pt w.heap.size (.cells ((bytesR p).flatten.toArray ++ Array.replicate (cap - p.length) (By 0)) e (0, 0)) :: L) := by rw [← hw1]; exact (hS.drew (w.drawn + 1)).alloc _
    obtain ⟨w2, hm, m1, m2, m3, m4, m5, m6⟩ := run_markS (P := c.P) (w := w1) (a := ⟨w.heap.size, 0, none⟩)
    obtain ⟨f', hf'⟩ := m6 _ _ _ hS1.at_
    refine ⟨sl (some ⟨w.heap.size, 0, none⟩) p.length cap, w2, _, ?_, ?_, w.heap.size, cap, rfl, hle, rfl⟩
    · have hsz : ByteArray.size ⟨⟨p⟩⟩ = p.length := rfl
      have hrun : (Conv.stringToBytes e ⟨⟨p⟩⟩).run c.P w = .ok (sl (some ⟨w.heap.size, 0, none⟩) p.length cap) w2 := by
        unfold Conv.stringToBytes
        rw [hsz]
        simp only [Sem.run_bind, choose, Sem.run, Result.andThen_ok, Question.forced]
        rw [hcap, str_cells]
        simp only [newRow, newObj, Sem.run_bind, Sem.run_map, Sem.run, Result.andThen_ok]
        change ((markStringish ⟨w.heap.size, 0, none⟩).run c.P (w.drew.alloc (.cells ((bytesR p).flatten.toArray ++ Array.replicate (cap - p.length) (By 0)) e (0, 0)))).andThen (fun _ w' => .ok (sl (some ⟨w.heap.size, 0, none⟩) p.length cap) w') = _
        rw [hw1, hm]
        rfl
      simp only [execOp, hE.ev hg hx, convert]
      simp [underlying, program, Sem.run, hu, hu2, he, hrun]
    · have h3 := hS1.head (w' := w2) (L1 := [roL 1 (some ⟨w.heap.size, 0, none⟩) (bytesR p)]) m1 m2 m3 (by omega) (fun m hA hf => by
        refine ⟨fun _ => Res.one w.heap.size (.cells ((bytesR p).flatten.toArray ++ Array.replicate (cap - p.length) (By 0)) e f', true), OkL.one (.inr ⟨w.heap.size, 0, _, rfl, Res.one_self, ?_⟩) fun c' x hx => ?_, fun n hn hdj => ⟨fun c' x hx => ?_, fun i _ c' x y hx hy => ?_⟩⟩
        · intro j row hj f v hf'
          have hr : ∀ r ∈ bytesR p, r.length = 1 := by intro r hr; simp [bytesR] at hr; obtain ⟨_, _, rfl⟩ := hr; rfl
          have hR : Rows (.cells ((bytesR p).flatten.toArray ++ Array.replicate (cap - p.length) (By 0)) e (0, 0)) 0 1 (bytesR p) := Rows.of_flat (by decide) hr fun k v hk => by
            have hlt := (List.getElem?_eq_some_iff.1 hk).1
            rw [Nat.zero_add, Array.getElem?_append_left (by simpa using hlt)]
            simpa using hk
          exact hR j row hj f v hf'
        · obtain ⟨rfl, rfl⟩ := Res.one_eq hx; exact hf'
        · have hne : c' ≠ w.heap.size := by
            rintro rfl
            have := (hdj _ x _ hx hA).2
            cases this
          rw [m5 c' hne]; exact hn c' x hx
        · obtain ⟨rfl, rfl⟩ := Res.one_eq hx
          have := (hdj _ y _ hy hA).2
          cases this)
      exact h3

theorem run_firstS {P : Program} {w : World} (p : List UInt8) : (Builtin.firstCells 1 p.length (Str p)).run P w = .ok (bytesR p).flatten.toArray w := by
  have := Lib.run_firstCells_string (P := P) w 1 ⟨⟨p⟩⟩
  rw [show (ByteArray.mk ⟨p⟩).size = p.length from rfl] at this
  rw [this]
  congr 1
  apply Array.ext'
  simp [Lib.strCells, bytesR_flat, Function.comp_def]
theorem lenOf_S {P : Program} {w : World} (p : List UInt8) : (Builtin.lenOf (Str p)).run P w = .ok p.length w := by simp [Builtin.lenOf, Sem.run_pure]; rfl
theorem run_append_fitS {P : Program} {w w' : World} {base : Option Addr} {p : List UInt8} (hu : P.underlying t = some (.slice e)) (hu2 : P.underlying u = some .string) (hz : ∀ w, (sizeOf e).run P w = .ok 1 w) (hfit : n + p.length ≤ cap)
    (hs : (match base with | some a => storeCells (a.add (n * 1)) (bytesR p).flatten | none => (pure () : Sem Unit)).run P w = .ok () w') : (Builtin.append_ #[t, u] ty #[.slice base n cap, Str p]).run P w = .ok (.slice base (n + p.length) cap) w' := by
  have hf := run_firstS (P := P) (w := w) p
  have hl := lenOf_S (P := P) (w := w) p
  unfold Builtin.append_
  cases base with
  | none =>
    have e : w = w' := by injection hs
    subst e
    simp [underlying, program, Sem.run, hu, hu2, hz, hl, hf, hfit]
  | some a => simp only [Nat.mul_one] at hs; simp [underlying, program, Sem.run, hu, hu2, hz, hl, hf, hfit, hs]
theorem run_append_growS {P : Program} {w : World} {base : Option Addr} {zv : Value} {p : List UInt8} {old : Array Value} {info : TypeInfo} (hu : P.underlying t = some (.slice e)) (hu2 : P.underlying u = some .string) (hz : ∀ w, (sizeOf e).run P w = .ok 1 w) (hzv : ∀ w, (zeroValue e).run P w = .ok zv w) (hti : ∀ w, (typeInfo e).run P w = .ok info w)
    (ho : (Builtin.firstCells 1 n (.slice base n cap)).run P w.drew = .ok old w.drew) (hfit : cap < n + p.length) (hb : n + p.length ≤ 1073741824 ∧ 0 < info.bytes ∧ info.bytes ≤ 4096) :
    ∃ newCap, n + p.length ≤ newCap ∧ (Builtin.append_ #[t, u] ty #[.slice base n cap, Str p]).run P w = .ok (.slice (some ⟨w.heap.size, 0, none⟩) (n + p.length) newCap) (w.drew.alloc (.cells (old ++ (bytesR p).flatten.toArray ++ Builtin.zeroCells zv.cells (newCap - (n + p.length))) e (0, 0))) := by
  have hf := run_firstS (P := P) (w := w.drew) p
  have hl := lenOf_S (P := P) (w := w) p
  have c1 : ¬ n + p.length ≤ cap := by omega
  have c3 : ¬ (Builtin.nextslicecap (n + p.length) cap * info.bytes > 2 ^ 48) := by
    have h1 := nextcap_le (n + p.length) cap hfit
    have h2 : Builtin.nextslicecap (n + p.length) cap * info.bytes ≤ (2 * 1073741824 + 192) * 4096 := Nat.mul_le_mul (by omega) hb.2.2
    omega
  have hask := fun (w : World) (k : Nat) => askRoom_run (P := P) (w := w) k
  refine ⟨(Question.appendCap (n + p.length) cap e).cut (w.tape w.drawn (.appendCap (n + p.length) cap e)), by simp [Question.cut], ?_⟩
  have e0 : info.bytes ≠ 0 := by omega
  unfold Builtin.append_
  simp [underlying, program, Sem.run, hu, hu2, hz, hl, c1, hti, choose, Question.forced]
  rw [if_neg (by omega), if_neg (by simpa using c3)]
  simp [hask, hf, ho, hzv, newRow, newObj, Sem.run, Question.cut]
theorem bytesR_one : ∀ (p : List UInt8), ∀ r ∈ bytesR p, r.length = 1 := fun p r hr => by simp [bytesR] at hr; obtain ⟨_, _, rfl⟩ := hr; rfl
theorem bytesR_app (p q : List UInt8) : bytesR (p ++ q) = bytesR p ++ bytesR q := by simp [bytesR]
/-- a string's bytes, appended -/
theorem l_appStr {zv : Value} {info : TypeInfo} {T : Nat} {l p : List UInt8} {F : List HProp} (hu : c.P.underlying t = some (.slice T)) (hu2 : c.P.underlying u = some .string) (hz : ∀ w, (sizeOf T).run c.P w = .ok 1 w) (hzv : ∀ w, (zeroValue T).run c.P w = .ok zv w) (hzs : zv.cells.size = 1) (hti : ∀ w, (typeInfo T).run c.P w = .ok info w)
    (hx : ev g E x = some (sl s n cap)) (hy : ev g E y = some (Str p)) [R : OwR L s T 1 cap (bytesR l) F] (hn : l.length = n) (hb : n + p.length ≤ 1073741824 ∧ 0 < info.bytes ∧ info.bytes ≤ 4096) :
    OpL c g E L ⟨d, .call { callee := .builtin .append, args := #[x, y], argTypes := #[t, u] }, ty, pos, af, gu⟩ fun v L' => ∃ s' cap', v = sl s' (l ++ p).length cap' ∧ (p ≠ [] → s' ≠ none) ∧ L' = owL T 1 s' cap' (bytesR (l ++ p)) :: F :=
  .of_run fun a w hE hg hS => by
    subst hn
    rw [bytesR_app, List.length_append]
    have hS1 := R.sat hS
    have fl1 : ones (bytesR p).flatten = true := ones_of fun v hv => by
      rw [bytesR_flat] at hv
      simp at hv
      obtain ⟨_, _, rfl⟩ := hv
      rfl
    have ex := fun w' v h => exec_append (d := d) (ty := ty) (pos := pos) (af := af) (gu := gu) (t := t) (u := u) (r := .ok v w') (P := c.P) (w := w) (hE.ev hg hx) (hE.ev hg hy) h
    by_cases hfit : l.length + p.length ≤ cap
    · rcases owL_open hS1 with ⟨rfl, hl0, rfl, hF⟩ | ⟨b, cs, rfl, a1, a2, a3, a4, hP⟩
      · have hl : l.length = 0 := by omega
        have hp0 : p = [] := List.length_eq_zero_iff.1 (by omega)
        subst hp0
        refine ⟨sl none (l.length + 0) 0, w, _, ex w _ ?_, hS1, none, 0, rfl, fun h => absurd rfl h, by simp [bytesR]⟩
        exact run_append_fitS (base := none) hu hu2 hz hfit rfl
      · obtain ⟨hle, hrows⟩ := app_rows_fit (T := T) (news := bytesR p) (by decide) a1 (by rw [bytesR_len, bytesR_len]; exact hfit) a3 (bytesR_one p) a4
        rw [bytesR_len] at hle hrows a2
        have hst := run_storeCells (P := c.P) b (l.length * 1) T (bytesR p).flatten w cs 0 hP.at_ (by omega) fl1
        refine ⟨sl (some ⟨b, 0, none⟩) (l.length + p.length) cap, setB w b (.cells (splice cs (l.length * 1) (bytesR p).flatten) T (0, 0)), _, ex _ _ ?_, ?_, some ⟨b, 0, none⟩, cap, rfl, (fun _ h => by cases h), rfl⟩
        · exact run_append_fitS (base := some ⟨b, 0, none⟩) hu hu2 hz hfit (by simpa [add_mk] using hst)
        · refine owL_shut (hP.set (o' := .cells (splice cs (l.length * 1) (bytesR p).flatten) T (0, 0)) rfl) (by rw [splice_size, a1]) (by simpa [bytesR_len] using hfit) ?_ hrows
          intro r hr
          rcases List.mem_append.1 hr with h | h
          · exact bytesR_one l r h
          · exact bytesR_one p r h
    · have hold : bytesR l = [] ∨ ∃ b off o, s = some ⟨b, off, none⟩ ∧ w.heap[b]? = some o ∧ Rows o off 1 (bytesR l) := by
        rcases owL_open hS1 with ⟨rfl, h0, rfl, hF⟩ | ⟨b, cs, rfl, a1, a2, a3, a4, hP⟩
        · exact .inl h0
        · exact .inr ⟨b, 0, _, rfl, hP.at_, a4⟩
      have hfo : (Builtin.firstCells 1 l.length (sl s l.length cap)).run c.P w.drew = .ok (bytesR l).flatten.toArray w.drew := run_first (by decide) (bytesR_one l) (bytesR_len l) hold
      obtain ⟨newCap, hc, hrun⟩ := run_append_growS (ty := ty) (t := t) (u := u) (cap := cap) (n := l.length) (p := p) hu hu2 hz hzv hti hfo (by omega) hb
      refine ⟨_, _, _, ex _ _ hrun, ?_, some ⟨w.heap.size, 0, none⟩, newCap, rfl, (fun _ h => by cases h), rfl⟩
      have hS2 : Sat c.w0 (w.drew.alloc (.cells ((bytesR l).flatten.toArray ++ (bytesR p).flatten.toArray ++ Builtin.zeroCells zv.cells (newCap - (l.length + p.length))) T (0, 0))) _ := (hS1.tail.drew (w.drawn + 1)).alloc _
      refine owL_shut hS2 ?_ (by simpa [bytesR_len] using hc) ?_ (app_rows_new (by decide) (bytesR_one l) (bytesR_one p))
      · simp only [Array.size_append, List.size_toArray, flatten_len _ (bytesR_one l), flatten_len _ (bytesR_one p), zeroCells_size, hzs, bytesR_len]
        omega
      · intro r hr
        rcases List.mem_append.1 hr with h | h
        · exact bytesR_one l r h
        · exact bytesR_one p r h
/-- the bytes of a builder -/
theorem l_usd {T : Nat} {l : List UInt8} {F : List HProp} (hx : ev g E x = some (sl s n cap)) [R : OwR L s T 1 cap (bytesR l) F] (h0 : l ≠ [] ∨ s = none) :
    OpL c g E L ⟨d, .call { callee := .builtin .unsafeSliceData, args := #[x], argTypes := #[t] }, ty, pos, af, gu⟩ fun v L' => v = .pointer s ∧ L' = L :=
  .of_run fun a w hE hg hS => by
    refine ⟨.pointer s, w, L, ?_, hS, rfl, rfl⟩
    have hrun : (Builtin.unsafeSliceData_ #[t] ty #[sl s n cap]).run c.P w = .ok (.pointer s) w := by
      cases s with
      | none => rfl
      | some ad =>
        refine Lib.run_unsafeSliceData_row w _ _ ad n cap ?_
        rcases owL_open (R.sat hS) with ⟨h, _⟩ | ⟨b, cs, _, a1, a2, _⟩
        · cases h
        · rcases h0 with h | h
          · rw [bytesR_len] at a2
            have : l.length ≠ 0 := fun e => h (List.length_eq_zero_iff.1 e)
            omega
          · cases h
    simp [execOp, resolve, invoke, builtin, hE.ev hg hx, hrun]
theorem l_ustr {T : Nat} {l : List UInt8} {F : List HProp} {it : TypeId} (hp : c.P.underlying t = some (.pointer T)) (hc : c.P.cellsOf T = 1) (hx : ev g E x = some (.pointer s)) (hy : ev g E y = some (I (n : Int))) [R : OwR L s T 1 cap (bytesR l) F] (hn : l.length = n) (h0 : l ≠ [] ∨ s = none) (h63 : l.length ≤ 9223372036854775807) :
    OpL c g E L ⟨d, .call { callee := .builtin .unsafeString, args := #[x, y], argTypes := #[t, it] }, ty, pos, af, gu⟩ fun v L' => v = Str l ∧ L' = F :=
  .of_run fun a w hE hg hS => by
    subst hn
    have hS1 := R.sat hS
    have ex := fun w' v (h : (Builtin.unsafeString_ #[t, it] ty #[.pointer s, I (l.length : Int)]).run c.P w = .ok v w') => show (execOp a.eval ⟨d, .call { callee := .builtin .unsafeString, args := #[x, y], argTypes := #[t, it] }, ty, pos, af, gu⟩).run c.P w = .ok (.value v) w' by
      simp [execOp, resolve, invoke, builtin, hE.ev hg hx, hE.ev hg hy, h]
    rcases owL_open hS1 with ⟨rfl, hl0, rfl, hF⟩ | ⟨b, cs, rfl, a1, a2, a3, a4, hP⟩
    · have : l = [] := by simpa [bytesR] using hl0
      subst this
      exact ⟨Str [], w, F, ex w _ (Lib.run_unsafeString_none w t it ty none), hF, rfl, rfl⟩
    · have hne : l ≠ [] := by rcases h0 with h | h; exact h; cases h
      have hh := hP.at_
      have hsh : w.shape? b = some (T, cs.size) := by unfold World.shape?; rw [hh]
      have hcell : ∀ j x, l[j]? = some x → w.cell? ((⟨b, 0, none⟩ : Addr).add j) = some (.int .u8 x.toNat) := fun j x hj => by
        have := a4 j [By x.toNat] (by simp [bytesR, hj]) 0 _ rfl
        rw [add_mk]
        exact cell_of hh (by simpa using this)
      have hrun := Lib.run_unsafeString_row (P := c.P) w t it ty T hp hc b cs.size hsh l hne (by rw [a1]; rw [bytesR_len] at a2; omega) h63 hcell
      refine ⟨Str l, w.freeze ⟨b, 0, none⟩ l.length, F, ex _ _ hrun, ?_, rfl, rfl⟩
      have hlt : l.length ≠ 0 := fun e => hne (List.length_eq_zero_iff.1 e)
      have h3 := hP.head (w' := w.freeze ⟨b, 0, none⟩ l.length) (L1 := []) (by unfold World.freeze; rw [if_neg hlt]) (by unfold World.freeze; rw [if_neg hlt]) (by unfold World.freeze; rw [if_neg hlt]) (by unfold World.freeze; rw [if_neg hlt]; simp) (fun m hA hf => by
        refine ⟨fun _ => m, ⟨fun i A h => by simp at h, fun i j h => by simp at h⟩, fun n hn hdj => ⟨fun c' x hx => ?_, fun i h => by simp at h⟩⟩
        have hne' : b ≠ c' := by
          rintro rfl
          have := (hdj _ x _ hx hA).2
          cases this
        have := hn c' x hx
        unfold World.freeze
        rw [if_neg hlt]
        simp only [Array.getElem?_modify]
        rw [if_neg hne']; exact this)
      exact h3

theorem v_toUns {cs : Array Value} {T : TypeId} {f : Nat × Nat} (hu : c.P.underlying t = some (.pointer e)) (hu2 : c.P.underlying u = some .unsafePointer) (hz : ∀ w, (sizeOf e).run c.P w = .ok sz w) (h0 : 0 < sz) (hx : ev g E x = some (ptr b 0)) [hh : Has L b (.cells cs T f)] (hs : 0 < cs.size) :
    OpV c g E L ⟨d, .convert t u x, ty, pos, af, gu⟩ (ptr b 0) := .mk fun a w hE hg hS => by
  have h1 := hh.out _ _ hS
  have hsh : w.shape? b = some (T, cs.size) := by unfold World.shape?; rw [h1]
  have hsz : sz ≠ 0 := by omega
  have hcs : ¬ cs.size = 0 := by omega
  have hrun : (Conv.unsafePointer t u (ptr b 0)).run c.P w = .ok (ptr b 0) w := by
    unfold Conv.unsafePointer
    simp [underlying, program, Sem.run, hu, hu2, Conv.seenAt, viewAt, cellsIn, hsh, hz, hsz, hcs]
  simp [execOp, hE.ev hg hx, convert, underlying, program, Sem.run, hu, hu2, hrun]
theorem liesAt_one {P : Program} {e : TypeId} {cells : Nat} (hc : P.cellsOf e = cells) (h0 : 0 < cells) : liesAt P P.depth e (cells / cells) 0 e 1 = true := by
  have hd : P.depth = (2 * (P.types.size + Made.depth) + 1) + 1 := rfl
  rw [hd]
  simp only [liesAt, Bool.or_eq_true]
  left
  rw [hd]
  simp [rowAt, hc, sameLayout, Nat.div_self h0]
  omega
theorem cellsOf_run {P : Program} {w : World} (h : (sizeOf e).run P w = .ok sz w) : P.cellsOf e = sz := by
  unfold Program.cellsOf
  cases hi : P.info? e with
  | none => simp [sizeOf, typeInfo, program, Sem.run, hi] at h
  | some i => simp [sizeOf, typeInfo, program, Sem.run, hi] at h; simpa using h
theorem v_ofUns {cs : Array Value} {f : Nat × Nat} (hu : c.P.underlying t = some .unsafePointer) (hu2 : c.P.underlying u = some (.pointer e)) (hz : ∀ w, (sizeOf e).run c.P w = .ok sz w) (h0 : 0 < sz) (hx : ev g E x = some (ptr b 0)) [hh : Has L b (.cells cs e f)] (hs : cs.size = sz) :
    OpV c g E L ⟨d, .convert t u x, ty, pos, af, gu⟩ (ptr b 0) := .mk fun a w hE hg hS => by
  have h1 := hh.out _ _ hS
  have hsh : w.shape? b = some (e, cs.size) := by unfold World.shape?; rw [h1]
  have hc := cellsOf_run (hz w)
  have hl := liesAt_one hc h0
  have hsz : sz ≠ 0 := by omega
  have hrun : (Conv.unsafePointer t u (ptr b 0)).run c.P w = .ok (ptr b 0) w := by
    unfold Conv.unsafePointer
    simp [underlying, program, Sem.run, hu, hu2, Conv.seenAt, viewAt, hsh, variablesAt, hs, hc, hl, hz]
  simp [execOp, hE.ev hg hx, convert, underlying, program, Sem.run, hu, hu2, hrun]
theorem v_pneqSame {p : Addr} (hu : c.P.underlying t = some (.pointer e)) (hz : ∀ w, (sizeOf e).run c.P w = .ok sz w) (hx : ev g E x = some (.pointer (some p))) (hy : ev g E y = some (.pointer (some p))) : OpV c g E L ⟨d, .binOp .neq t x y u, ty, pos, af, gu⟩ (Bo false) := .mk fun a w hE hg hS => by
  have hrun : (Op.equal t (.pointer (some p)) (.pointer (some p))).run c.P w = .ok true w := by
    show (Op.equalIn (9999 + 1) _ _ _).run _ _ = _
    unfold Op.equalIn
    simp [underlying, program, Sem.run, hu, hz, samePointer, sameAddr]
  simp only [execOp, hE.ev hg hx, hE.ev hg hy, eqGuard, binOp] at hrun ⊢
  simp [hrun, Sem.run]
theorem v_pnnil {p : Option Addr} (hu : c.P.underlying t = some (.pointer e)) (hx : ev g E x = some (.pointer p)) : OpV c g E L ⟨d, .binOp .neq t x (.const (.pointer none)) u, ty, pos, af, gu⟩ (Bo (!p.isNone)) := .mk fun a w hE hg hS => by
  have h3 : a.eval (.const (.pointer none)) = .pointer none := rfl
  have h4 := run_pnil (P := c.P) (w := w) (p := p) hu
  simp only [execOp, hE.ev hg hx, h3, eqGuard, binOp] at h4 ⊢
  simp [h4, Sem.run]
/-- two integers that are the same -/
theorem v_neqS {a : Int} (hx : ev g E x = some (.int k a)) (hy : ev g E y = some (.int k a)) : OpV c g E L ⟨d, .binOp .neq t x y u, ty, pos, af, gu⟩ (.bool false) := by
  have h := v_neq (c := c) (g := g) (E := E) (L := L) (d := d) (ty := ty) (pos := pos) (af := af) (gu := gu) (t := t) (yt := u) hx hy
  simpa using h
end
end Go.Sl
