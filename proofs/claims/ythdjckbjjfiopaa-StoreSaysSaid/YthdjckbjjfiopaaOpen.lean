/- From how an argument reads to what the walk wants of it. No condition. -/
import Derived.Test.YthdjckbjjfiopaaAreaSays
import Derived.Test.YthdjckbjjfiopaaRows
import Derived.WalkKit
import Derived.ProofKit
import Derived.OpenShut
import Derived.ShutString
import Derived.ChangeOld
import Derived.Deep.Slices
namespace Go.Proofs.Ythdjckbjjfiopaa
open Go.Sl Go.Proofs Go.ChangeShapes Go.WideShapes Go.ChangeAt Go.RowKit
set_option linter.unusedVariables false
set_option linter.unusedSimpArgs false
theorem own : ownKnob Try.prog.godebug = none := by kernel_rfl
theorem laidOut : laidOutB Try.prog = true := by kernel_rfl

/-- rows that lie in old memory -/
def OldRows (W : World) (a : Option Addr) (sz : Nat) (rows : List (List Value)) : Prop := rows = [] ∨ ∃ b off o, a = some ⟨b, off, none⟩ ∧ W.heap[b]? = some o ∧ Go.Sl.Rows o off sz rows
theorem OldRows.sat {w0 w : World} {L : List HProp} {a : Option Addr} {sz : Nat} {rows : List (List Value)} (h : OldRows w0 a sz rows) (hS : Sat w0 w (old w0 :: L)) : Sat w0 w (roL sz a rows :: old w0 :: L) := by
  rcases h with rfl | ⟨b, off, o, rfl, hb, hr⟩
  · exact (Sat.pure_mk (φ := True) trivial hS).weak fun m _ => Or.inl rfl
  · exact (hS.old_ro hb).weak fun m hm => Or.inr ⟨b, off, o, rfl, hm, hr⟩

theorem two_of {l : List Value} (h : l.length = 2) : ∃ a b, l = [a, b] := by
  match l, h with
  | [a, b], _ => exact ⟨a, b, rfl⟩
theorem int_ok {n : Int} (h : (Lit.int .i64 n).wf = true) : ok64 n := by
  have := h
  simp [Lit.wf, IntKind.min, IntKind.max, IntKind.signed, IntKind.bits] at this
  unfold ok64
  omega

theorem area_fields : ∃ (fs : Array Field) (f0 f1 : Field), Try.prog.underlying 170 = some (.struct fs) ∧ fs[0]? = some f0 ∧ fs[1]? = some f1 ∧ f0.type = 3 ∧ f0.offset = 0 ∧ f1.type = 3 ∧ f1.offset = 1 ∧ fs.size = 2 :=
  ⟨_, _, _, Try.underlying170, rfl, rfl, rfl, rfl, rfl, rfl, rfl⟩
instance : Inhabited Area := ⟨⟨0, 0⟩⟩
section
variable {H : Type} {enc : TypeId × Value → H} {W : World} {spare : Nat → Bool} {held : Bool}
/-- cells of an element, wherever they lie -/
theorem oldRows_of {sz len : Nat} {a : Addr} {rows : List (List Value)} (hl : rows.length = len) (h : ∀ i row, rows[i]? = some row → ∀ f v, row[f]? = some v → W.cell? ((a.add (i * sz)).add f) = some v) (hne : ∀ row ∈ rows, row ≠ []) : OldRows W (some a) sz rows := by
  by_cases h0 : rows = []
  · exact .inl h0
  · right
    obtain ⟨r0, rs, rfl⟩ := List.exists_cons_of_ne_nil h0
    obtain ⟨v0, vs, hr0⟩ := List.exists_cons_of_ne_nil (hne r0 (by simp))
    have hc := h 0 r0 rfl 0 v0 (by rw [hr0]; rfl)
    have hsp := World.cell?_spot hc
    simp [Addr.add] at hsp hc
    obtain ⟨b, off, spot⟩ := a
    simp only at hsp
    subst hsp
    cases hh : W.heap[b]? with
    | none => simp [World.cell?, hh] at hc
    | some o =>
      refine ⟨b, off, o, rfl, hh, fun j row hj f v hf => ?_⟩
      have hc2 := h j row hj f v hf
      rw [add_mk, add_mk] at hc2
      unfold World.cell? at hc2
      simp only [hh] at hc2
      cases o <;> simp at hc2
      simpa [objCell, Nat.add_assoc] using hc2
theorem open_areas {v : Value} {d : DataW H} {p : List MemPlace} (hv : ∃ a len cap, v = .slice a len cap) (h : DataW.Trod enc Try.prog W 0 (fun _ => true) true 22 v d p) :
    ∃ (s : Option Addr) (l : List Area) (cap : Nat), v = sl s l.length cap ∧ OldRows W s 2 (rowsA l) ∧ okA l := by
  obtain ⟨a, len, cap, rfl⟩ := hv
  obtain ⟨fuel, hf⟩ := h
  rcases Deep.open_slice Try.underlying22 hf with ⟨hcs, _⟩ | ⟨a', len', cap', m, n, D, Pl, hcs, hb, hl, hm, hmm, hx, hi⟩
  · simp [Value.cells] at hcs
    obtain ⟨rfl, rfl, rfl⟩ := hcs
    exact ⟨none, [], 0, rfl, .inl rfl, by simp [okA]⟩
  · simp [Value.cells] at hcs
    obtain ⟨rfl, rfl, rfl⟩ := hcs
    have hC : Try.prog.cellsOf 170 = 2 := by kernel_rfl
    have hCi : Try.prog.cellsOf 3 = 1 := by kernel_rfl
    have key : ∀ i, i < len → ∃ x : Area, W.cell? ((a'.add (i * 2)).add 0) = some (I x.fr) ∧ W.cell? ((a'.add (i * 2)).add 1) = some (I x.many) ∧ ok64 x.fr ∧ ok64 x.many := fun i hil => by
      obtain ⟨cs', hc, ht⟩ := hi i (by simp at hmm; omega)
      rw [hC] at hc
      obtain ⟨_, hcl, hat⟩ := World.cells?_some hc
      obtain ⟨fs, f0, f1, hus, g0, g1, t0, o0, t1, o1, hsz⟩ := area_fields
      obtain ⟨ys, n', _, _, hlen, hyl, hfs⟩ := DataW.trod_struct hus ht
      obtain ⟨c0, c1, rfl⟩ := two_of hcl
      have h0 := hfs 0 f0 g0
      have h1 := hfs 1 f1 g1
      rw [t0, o0, hCi] at h0
      rw [t1, o1, hCi] at h1
      simp only [List.drop_zero, List.take_succ_cons, List.take_zero, List.drop_succ_cons] at h0 h1
      have hy0 : ys[0]? = some (ys[0]'(by rw [hyl, hsz]; decide)) := by simp
      have hy1 : ys[1]? = some (ys[1]'(by rw [hyl, hsz]; decide)) := by simp
      rw [hy0] at h0
      rw [hy1] at h1
      obtain ⟨x0, e0, _, w0⟩ := DataW.trod_int Try.underlying3 h0
      obtain ⟨x1, e1, _, w1⟩ := DataW.trod_int Try.underlying3 h1
      simp at e0 e1
      subst e0 e1
      exact ⟨⟨x0, x1⟩, by simpa using hat 0 (by omega), by simpa using hat 1 (by omega), int_ok w0, int_ok w1⟩
    obtain ⟨f, hf⟩ := Deep.choose_lt key
    refine ⟨some a', (List.range len).map f, cap, by simp [sl], oldRows_of (len := len) (by simp [rowsA]) (fun i row hrow g v hg => ?_) (fun row hrow => ?_), fun x hx => ?_⟩
    · simp only [rowsA, List.map_map, List.getElem?_map, Option.map_eq_some_iff] at hrow
      obtain ⟨j, hj, rfl⟩ := hrow
      obtain ⟨hj1, hj2⟩ := List.getElem?_eq_some_iff.1 hj
      simp at hj1 hj2
      subst hj2
      have := hf i hj1
      match g, hg with
      | 0, hg => simp [encA] at hg; subst hg; exact this.1
      | 1, hg => simp [encA] at hg; subst hg; exact this.2.1
    · simp [rowsA] at hrow
      obtain ⟨x, _, rfl⟩ := hrow
      simp [encA]
    · simp at hx
      obtain ⟨i, hi', rfl⟩ := hx
      exact (hf i hi').2.2
/-- a contract of a law, as the row wants it -/
theorem law_of {f : Nat} {args : List Value} {W : World} {L : List HProp} (hS : Sat W W (L ++ [old W])) (h : ∀ F, Ct Try.prog f args (L ++ F) (R1 (.bool true) (L ++ F))) :
    Calls Try.prog f args.toArray W fun e w' => e = .returned (.bool true) ∧ RowKit.Below W.heap.size W w' :=
  (h [old W] W W hS).mono fun e w' he => by
    cases e with
    | returned v =>
      obtain ⟨L', h1, rfl, rfl⟩ := he
      exact ⟨rfl, (h1.endFront).below⟩
    | panicked ch => exact he.elim
    | outgrown => exact he.elim
end
end Go.Proofs.Ythdjckbjjfiopaa
