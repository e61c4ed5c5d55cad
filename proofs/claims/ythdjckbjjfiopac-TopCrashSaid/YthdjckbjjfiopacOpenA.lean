/- From how an argument reads to what the walk wants of it: actions, changes, puts. No condition. -/
import Derived.Test.YthdjckbjjfiopacOpen
import Derived.Test.YthdjckbjjfiopacActs
namespace Go.Proofs.Ythdjckbjjfiopac
open Go.Sl Go.Proofs Go.ChangeShapes Go.WideShapes Go.ChangeAt Go.RowKit
set_option linter.unusedVariables false
set_option linter.unusedSimpArgs false
section
variable {H : Type} {enc : TypeId × Value → H} {W : World} {t e : TypeId} {cs : List Value}
/-- cells that read as a value of a type -/
def Tr (enc : TypeId × Value → H) (W : World) (t : TypeId) (cs : List Value) : Prop := ∃ fuel x, DataW.trod enc Try.prog W 0 (fun _ => true) true fuel t cs = some x
theorem tr_int (ht : Try.prog.underlying t = some (.int .i64)) (h : Tr enc W t cs) : ∃ n, cs = [I n] ∧ ok64 n := by
  obtain ⟨fuel, x, h⟩ := h
  obtain ⟨n, h1, _, h2⟩ := DataW.trod_int ht h
  exact ⟨n, h1, int_ok h2⟩
theorem u64_ok {n : Int} (h : (Lit.int .u64 n).wf = true) : 0 ≤ n ∧ n < 18446744073709551616 := by
  have := h
  simp [Lit.wf, IntKind.min, IntKind.max, IntKind.signed, IntKind.bits] at this
  omega
theorem tr_u64 (ht : Try.prog.underlying t = some (.int .u64)) (h : Tr enc W t cs) : ∃ n, cs = [Uw n] ∧ (0 ≤ n ∧ n < 18446744073709551616) := by
  obtain ⟨fuel, x, h⟩ := h
  obtain ⟨n, h1, _, h2⟩ := DataW.trod_int ht h
  exact ⟨n, h1, u64_ok h2⟩
theorem tr_str (ht : Try.prog.underlying t = some .string) (h : Tr enc W t cs) : ∃ s : Bytes, cs = [Str s] ∧ s.length ≤ maxLen := by
  obtain ⟨fuel, x, h⟩ := h
  obtain ⟨s, h1, _, h2⟩ := DataW.trod_string ht h
  exact ⟨s.data.toList, by simpa using h1, by simpa using h2⟩
theorem tr_bool (ht : Try.prog.underlying t = some .bool) (h : Tr enc W t cs) : ∃ b, cs = [Bo b] := by
  obtain ⟨fuel, x, h⟩ := h
  obtain ⟨n, h1, _⟩ := DataW.trod_bool ht h
  exact ⟨n, h1⟩
theorem tr_field {fs : Array Field} {f : Field} {i off sz : Nat} (ht : Try.prog.underlying t = some (.struct fs)) (hf : fs[i]? = some f) (h1 : f.type = e) (h2 : f.offset = off) (hC : Try.prog.cellsOf e = sz) (h : Tr enc W t cs) : Tr enc W e ((cs.drop off).take sz) := by
  subst h1 h2 hC
  obtain ⟨fuel, x, h⟩ := h
  obtain ⟨xs, n, _, _, _, hl, hfs⟩ := DataW.trod_struct ht h
  have h3 := hfs i f hf
  have hi : i < fs.size := (Array.getElem?_eq_some_iff.1 hf).1
  exact ⟨n, xs[i]'(by omega), by rw [h3]; simp⟩
theorem tr_slice {α : Type} [Inhabited α] (sz : Nat) (en : α → List Value) (Q : α → Prop) (ht : Try.prog.underlying t = some (.slice e)) (hC : Try.prog.cellsOf e = sz) (hsz : sz ≠ 0)
    (hel : ∀ cs, cs.length = sz → Tr enc W e cs → ∃ x, cs = en x ∧ Q x) (h : Tr enc W t cs) :
    ∃ (s : Option Addr) (l : List α) (cap : Nat), cs = [sl s l.length cap] ∧ OldRows W s sz (l.map en) ∧ (∀ x ∈ l, Q x) ∧ l.length ≤ maxLen := by
  obtain ⟨fuel, x, h⟩ := h
  rcases Deep.open_slice ht h with ⟨rfl, _⟩ | ⟨a', len, cap, m, n, D, Pl, rfl, hb, hl, hm, hmm, hx, hi⟩
  · exact ⟨none, [], 0, rfl, .inl rfl, by simp, by simp⟩
  · have key : ∀ i, i < len → ∃ x : α, (∀ f v, (en x)[f]? = some v → W.cell? ((a'.add (i * sz)).add f) = some v) ∧ (en x).length = sz ∧ Q x := fun i hil => by
      obtain ⟨cs', hc, ht'⟩ := hi i (by simp at hmm; omega)
      rw [hC] at hc
      obtain ⟨_, hcl, hat⟩ := World.cells?_some hc
      obtain ⟨y, rfl, hq⟩ := hel cs' hcl ⟨n, _, ht'⟩
      refine ⟨y, fun f v hf => ?_, hcl, hq⟩
      have hfl := (List.getElem?_eq_some_iff.1 hf).1
      have := hat f (by omega)
      rw [this, hf]
    obtain ⟨f, hf⟩ := Deep.choose_lt key
    refine ⟨some a', (List.range len).map f, cap, by simp [sl], oldRows_of (len := len) (by simp) (fun i row hrow g v hg => ?_) (fun row hrow => ?_), fun x hx => ?_, by simp; omega⟩
    · simp only [List.map_map, List.getElem?_map, Option.map_eq_some_iff] at hrow
      obtain ⟨j, hj, rfl⟩ := hrow
      obtain ⟨hj1, hj2⟩ := List.getElem?_eq_some_iff.1 hj
      simp at hj1 hj2
      subst hj2
      exact (hf i hj1).1 g v hg
    · simp at hrow
      obtain ⟨i, hi', rfl⟩ := hrow
      intro h0
      have := (hf i hi').2.1
      rw [h0] at this
      exact hsz this.symm
    · simp at hx
      obtain ⟨i, hi', rfl⟩ := hx
      exact (hf i hi').2.2
theorem tr_of {v : Value} {d : DataW H} {p : List MemPlace} (h : DataW.Trod enc Try.prog W 0 (fun _ => true) true t v d p) : Tr enc W t v.cells.toList := let ⟨f, hf⟩ := h; ⟨f, _, hf⟩
end
theorem put_fields : ∃ (fs : Array Field) (f0 f1 : Field), Try.prog.underlying 38 = some (.struct fs) ∧ (fs[0]? = some f0 ∧ f0.type = 3 ∧ f0.offset = 0) ∧ (fs[1]? = some f1 ∧ f1.type = 9 ∧ f1.offset = 1) :=
  ⟨_, _, _, Try.underlying38, ⟨rfl, rfl, rfl⟩, ⟨rfl, rfl, rfl⟩⟩
theorem change_fields : ∃ (fs : Array Field) (f0 f1 f2 : Field), Try.prog.underlying 111 = some (.struct fs) ∧ (fs[0]? = some f0 ∧ f0.type = 9 ∧ f0.offset = 0) ∧ (fs[1]? = some f1 ∧ f1.type = 9 ∧ f1.offset = 1) ∧ (fs[2]? = some f2 ∧ f2.type = 4 ∧ f2.offset = 2) :=
  ⟨_, _, _, _, Try.underlying111, ⟨rfl, rfl, rfl⟩, ⟨rfl, rfl, rfl⟩, ⟨rfl, rfl, rfl⟩⟩
theorem act_fields : ∃ (fs : Array Field) (f0 f1 f2 f3 f4 f5 f6 f7 f8 : Field), Try.prog.underlying 51 = some (.struct fs) ∧ (fs[0]? = some f0 ∧ f0.type = 9 ∧ f0.offset = 0) ∧ (fs[1]? = some f1 ∧ f1.type = 9 ∧ f1.offset = 1) ∧ (fs[2]? = some f2 ∧ f2.type = 3 ∧ f2.offset = 2) ∧ (fs[3]? = some f3 ∧ f3.type = 3 ∧ f3.offset = 3) ∧ (fs[4]? = some f4 ∧ f4.type = 3 ∧ f4.offset = 4) ∧ (fs[5]? = some f5 ∧ f5.type = 3 ∧ f5.offset = 5) ∧ (fs[6]? = some f6 ∧ f6.type = 48 ∧ f6.offset = 6) ∧ (fs[7]? = some f7 ∧ f7.type = 23 ∧ f7.offset = 7) ∧ (fs[8]? = some f8 ∧ f8.type = 49 ∧ f8.offset = 8) :=
  ⟨_, _, _, _, _, _, _, _, _, _, Try.underlying51, ⟨rfl, rfl, rfl⟩, ⟨rfl, rfl, rfl⟩, ⟨rfl, rfl, rfl⟩, ⟨rfl, rfl, rfl⟩, ⟨rfl, rfl, rfl⟩, ⟨rfl, rfl, rfl⟩, ⟨rfl, rfl, rfl⟩, ⟨rfl, rfl, rfl⟩, ⟨rfl, rfl, rfl⟩⟩
theorem c_int : Try.prog.cellsOf 3 = 1 := by kernel_rfl
theorem c_str : Try.prog.cellsOf 9 = 1 := by kernel_rfl
theorem c_bool : Try.prog.cellsOf 4 = 1 := by kernel_rfl
theorem c_u64 : Try.prog.cellsOf 48 = 1 := by kernel_rfl
theorem c_puts : Try.prog.cellsOf 23 = 1 := by kernel_rfl
theorem c_chs : Try.prog.cellsOf 49 = 1 := by kernel_rfl
theorem c_put : Try.prog.cellsOf 38 = 2 := by kernel_rfl
theorem c_ch : Try.prog.cellsOf 111 = 3 := by kernel_rfl
theorem c_act : Try.prog.cellsOf 51 = 9 := by kernel_rfl
instance : Inhabited PutM := ⟨⟨0, []⟩⟩
instance : Inhabited ChangeM := ⟨⟨[], [], false⟩⟩
instance : Inhabited ActM := ⟨⟨[], [], 0, 0, 0, 0, 0, [], []⟩⟩
def putOk (p : PutM) : Prop := ok64 p.at_ ∧ p.data.length ≤ maxLen
def chOk (c : ChangeM) : Prop := c.key.length ≤ maxLen ∧ c.val.length ≤ maxLen
/-- what an action that was given satisfies -/
def actOkW (x : ActM) : Prop := (x.kind.length ≤ maxLen ∧ x.s.length ≤ maxLen) ∧ ok64 x.a ∧ ok64 x.b ∧ ok64 x.c ∧ ok64 x.d ∧ (0 ≤ x.k ∧ x.k < 18446744073709551616) ∧ (x.puts.length ≤ maxLen ∧ ∀ p ∈ x.puts, putOk p) ∧ (x.changes.length ≤ maxLen ∧ ∀ p ∈ x.changes, chOk p)
section
variable {H : Type} {enc : TypeId × Value → H} {W : World} {cs : List Value}
theorem tr_put (hl : cs.length = 2) (h : Tr enc W 38 cs) : ∃ x : PutM, cs = encP x ∧ putOk x := by
  match cs, hl with
  | [a, b], _ =>
    obtain ⟨fs, f0, f1, hu, ⟨g0, t0, o0⟩, ⟨g1, t1, o1⟩⟩ := put_fields
    have h0 : Tr enc W 3 [a] := tr_field hu g0 t0 o0 c_int h
    have h1 : Tr enc W 9 [b] := tr_field hu g1 t1 o1 c_str h
    obtain ⟨n, e0, w0⟩ := tr_int Try.underlying3 h0
    obtain ⟨s, e1, w1⟩ := tr_str Try.underlying9 h1
    injection e0 with e0
    injection e1 with e1
    subst e0 e1
    exact ⟨⟨n, s⟩, rfl, w0, w1⟩
theorem tr_change (hl : cs.length = 3) (h : Tr enc W 111 cs) : ∃ x : ChangeM, cs = encC x ∧ chOk x := by
  match cs, hl with
  | [a, b, c], _ =>
    obtain ⟨fs, f0, f1, f2, hu, ⟨g0, t0, o0⟩, ⟨g1, t1, o1⟩, ⟨g2, t2, o2⟩⟩ := change_fields
    have h0 : Tr enc W 9 [a] := tr_field hu g0 t0 o0 c_str h
    have h1 : Tr enc W 9 [b] := tr_field hu g1 t1 o1 c_str h
    have h2 : Tr enc W 4 [c] := tr_field hu g2 t2 o2 c_bool h
    obtain ⟨n, e0, w0⟩ := tr_str Try.underlying9 h0
    obtain ⟨s, e1, w1⟩ := tr_str Try.underlying9 h1
    obtain ⟨q, e2⟩ := tr_bool Try.underlying4 h2
    injection e0 with e0
    injection e1 with e1
    injection e2 with e2
    subst e0 e1 e2
    exact ⟨⟨n, s, q⟩, rfl, w0, w1⟩
theorem tr_puts (h : Tr enc W 23 cs) : ∃ (s : Option Addr) (l : List PutM) (cap : Nat), cs = [sl s l.length cap] ∧ OldRows W s 2 (putR l) ∧ (∀ x ∈ l, putOk x) ∧ l.length ≤ maxLen :=
  tr_slice 2 encP putOk Try.underlying23 c_put (by decide) (fun _ hl h => tr_put hl h) h
theorem tr_changes (h : Tr enc W 49 cs) : ∃ (s : Option Addr) (l : List ChangeM) (cap : Nat), cs = [sl s l.length cap] ∧ OldRows W s 3 (chR l) ∧ (∀ x ∈ l, chOk x) ∧ l.length ≤ maxLen :=
  tr_slice 3 encC chOk Try.underlying49 c_ch (by decide) (fun _ hl h => tr_change hl h) h
theorem tr_act (hl : cs.length = 9) (h : Tr enc W 51 cs) : ∃ x : ActM × ActZ, cs = encAct x.1 x.2 ∧ actOkW x.1 ∧ OldRows W x.2.1.1 2 (putR x.1.puts) ∧ OldRows W x.2.2.1 3 (chR x.1.changes) := by
  match cs, hl with
  | [v0, v1, v2, v3, v4, v5, v6, v7, v8], _ =>
    obtain ⟨fs, f0, f1, f2, f3, f4, f5, f6, f7, f8, hu, ⟨g0, t0, o0⟩, ⟨g1, t1, o1⟩, ⟨g2, t2, o2⟩, ⟨g3, t3, o3⟩, ⟨g4, t4, o4⟩, ⟨g5, t5, o5⟩, ⟨g6, t6, o6⟩, ⟨g7, t7, o7⟩, ⟨g8, t8, o8⟩⟩ := act_fields
    have h0 : Tr enc W 9 [v0] := tr_field hu g0 t0 o0 c_str h
    have h1 : Tr enc W 9 [v1] := tr_field hu g1 t1 o1 c_str h
    have h2 : Tr enc W 3 [v2] := tr_field hu g2 t2 o2 c_int h
    have h3 : Tr enc W 3 [v3] := tr_field hu g3 t3 o3 c_int h
    have h4 : Tr enc W 3 [v4] := tr_field hu g4 t4 o4 c_int h
    have h5 : Tr enc W 3 [v5] := tr_field hu g5 t5 o5 c_int h
    have h6 : Tr enc W 48 [v6] := tr_field hu g6 t6 o6 c_u64 h
    have h7 : Tr enc W 23 [v7] := tr_field hu g7 t7 o7 c_puts h
    have h8 : Tr enc W 49 [v8] := tr_field hu g8 t8 o8 c_chs h
    obtain ⟨x0, e0, w0⟩ := tr_str Try.underlying9 h0
    obtain ⟨x1, e1, w1⟩ := tr_str Try.underlying9 h1
    obtain ⟨x2, e2, w2⟩ := tr_int Try.underlying3 h2
    obtain ⟨x3, e3, w3⟩ := tr_int Try.underlying3 h3
    obtain ⟨x4, e4, w4⟩ := tr_int Try.underlying3 h4
    obtain ⟨x5, e5, w5⟩ := tr_int Try.underlying3 h5
    obtain ⟨x6, e6, w6⟩ := tr_u64 Try.underlying48 h6
    obtain ⟨s7, x7, c7, e7, r7, w7, l7⟩ := tr_puts h7
    obtain ⟨s8, x8, c8, e8, r8, w8, l8⟩ := tr_changes h8
    injection e0 with e0
    injection e1 with e1
    injection e2 with e2
    injection e3 with e3
    injection e4 with e4
    injection e5 with e5
    injection e6 with e6
    injection e7 with e7
    injection e8 with e8
    subst e0 e1 e2 e3 e4 e5 e6 e7 e8
    exact ⟨(⟨x0, x1, x2, x3, x4, x5, x6, x7, x8⟩, (s7, c7), (s8, c8)), rfl, ⟨⟨w0, w1⟩, w2, w3, w4, w5, w6, ⟨l7, w7⟩, ⟨l8, w8⟩⟩, r7, r8⟩
/-- actions that lie in old memory -/
def OldActs (W : World) (s : Option Addr) (l : List ActM) (f : Nat → ActZ) : Prop := OldRows W s 9 (actR l f) ∧ ∀ i x, l[i]? = some x → OldRows W (f i).1.1 2 (putR x.puts) ∧ OldRows W (f i).2.1 3 (chR x.changes)
theorem tr_acts (h : Tr enc W 22 cs) : ∃ (s : Option Addr) (l : List ActM) (f : Nat → ActZ) (cap : Nat), cs = [sl s l.length cap] ∧ OldActs W s l f ∧ (∀ x ∈ l, actOkW x) ∧ l.length ≤ maxLen := by
  obtain ⟨s, l, cap, e, hr, hq, hn⟩ := tr_slice (α := ActM × ActZ) 9 (fun x => encAct x.1 x.2) _ Try.underlying22 c_act (by decide) (fun _ hl h => tr_act hl h) h
  refine ⟨s, l.map Prod.fst, fun i => (l.getD i default).2, cap, by simpa using e, ⟨?_, fun i x hx => ?_⟩, fun x hx => ?_, by simpa using hn⟩
  · have : actR (l.map Prod.fst) (fun i => (l.getD i default).2) = l.map fun x => encAct x.1 x.2 := by
      apply List.ext_getElem?
      intro i
      simp only [actR, List.getElem?_mapIdx, List.getElem?_map, List.getD_eq_getElem?_getD]
      cases l[i]? <;> rfl
    rw [this]
    exact hr
  · simp only [List.getElem?_map, Option.map_eq_some_iff] at hx
    obtain ⟨y, hy, rfl⟩ := hx
    have h2 := (hq y (List.mem_of_getElem? hy)).2
    simp only [List.getD_eq_getElem?_getD, hy, Option.getD_some]
    exact h2
  · simp only [List.mem_map] at hx
    obtain ⟨y, hy, rfl⟩ := hx
    exact (hq y hy).1
theorem OldRows.roL {W : World} {a : Option Addr} {sz : Nat} {rows : List (List Value)} {m : Res} (h : OldRows W a sz rows) (hm : old W m) : Go.Sl.roL sz a rows m := by
  rcases h with rfl | ⟨b, off, o, rfl, hb, hr⟩
  · exact .inl rfl
  · exact .inr ⟨b, off, o, rfl, hm b o hb, hr⟩
theorem OldActs.sat {w0 w : World} {L : List HProp} {s : Option Addr} {l : List ActM} {f : Nat → ActZ} (h : OldActs w0 s l f) (hS : Sat w0 w (old w0 :: L)) : Sat w0 w (acts s l f :: old w0 :: L) :=
  (hS.dup (Pers.old w0)).weak fun m hm => ⟨h.1.roL hm, fun i x hx => ⟨(h.2 i x hx).1.roL hm, (h.2 i x hx).2.roL hm⟩⟩
theorem open_acts {v : Value} {d : DataW H} {p : List MemPlace} (hv : ∃ a len cap, v = .slice a len cap) (h : DataW.Trod enc Try.prog W 0 (fun _ => true) true 22 v d p) :
    ∃ (s : Option Addr) (l : List ActM) (f : Nat → ActZ) (cap : Nat), v = sl s l.length cap ∧ OldActs W s l f ∧ (∀ x ∈ l, actOkW x) ∧ l.length ≤ maxLen := by
  obtain ⟨a, len, cap, rfl⟩ := hv
  obtain ⟨s, l, f, cap', e, h1, h2, h3⟩ := tr_acts (tr_of h)
  simp [Value.cells] at e
  exact ⟨s, l, f, cap', by simp [sl, e], h1, h2, h3⟩
theorem open_changes {v : Value} {d : DataW H} {p : List MemPlace} (hv : ∃ a len cap, v = .slice a len cap) (h : DataW.Trod enc Try.prog W 0 (fun _ => true) true 49 v d p) :
    ∃ (s : Option Addr) (l : List ChangeM) (cap : Nat), v = sl s l.length cap ∧ OldRows W s 3 (chR l) ∧ (∀ x ∈ l, chOk x) ∧ l.length ≤ maxLen := by
  obtain ⟨a, len, cap, rfl⟩ := hv
  obtain ⟨s, l, cap', e, h1, h2, h3⟩ := tr_changes (tr_of h)
  simp [Value.cells] at e
  exact ⟨s, l, cap', by simp [sl, e], h1, h2, h3⟩
theorem open_str {v : Value} {d : DataW H} {p : List MemPlace} (hv : ∃ s, v = .string s) (h : DataW.Trod enc Try.prog W 0 (fun _ => true) true 9 v d p) : ∃ s : Bytes, v = Str s ∧ s.length ≤ maxLen := by
  obtain ⟨s, rfl⟩ := hv
  obtain ⟨s', e, h1⟩ := tr_str Try.underlying9 (tr_of h)
  simp [Value.cells] at e
  exact ⟨s', by rw [e], h1⟩
theorem open_change {v : Value} {d : DataW H} {p : List MemPlace} (hv : ∃ cs, v = .agg cs ∧ cs.size = Try.prog.cellsOf 111) (h : DataW.Trod enc Try.prog W 0 (fun _ => true) true 111 v d p) : ∃ c : ChangeM, v = .agg (encC c).toArray ∧ chOk c := by
  obtain ⟨cs, rfl, hc⟩ := hv
  rw [c_ch] at hc
  obtain ⟨c, e, h1⟩ := tr_change (cs := cs.toList) (by simpa using hc) (tr_of h)
  exact ⟨c, by rw [← e], h1⟩
end
end Go.Proofs.Ythdjckbjjfiopac
