/- The layer, part D: regions that draw, where several operations may come up that do things: a plan that branches. No condition. -/
import Derived.Test.YthdjckbjjfiopacGreatDoorSlC
namespace Go.Sl
set_option linter.unusedVariables false
set_option linter.unusedSimpArgs false
/-- Our order, with branches: q a quiet operation, l a loud one, alt two choices, c a smaller class from here on. -/
inductive PT where
  | nil
  | q (i : Nat) (t : PT)
  | l (i : Nat) (t : PT)
  | alt (s t : PT)
  | c (t : PT)
def PT.heads : PT → List Nat
  | .l i _ => [i]
  | .alt s t => s.heads ++ t.heads
  | _ => []
section
variable {P : Program} {ops : Array Oper} {Q : Post}
def PT.ok (ops : Array Oper) : PT → Bool → Nat → Array Bool → Bool
  | .nil, top, n, listed => top && Nat.beq n 0 && (Region.ready .any ops listed).isEmpty
  | .q i t, top, n, listed => top && (match n with | 0 => false | m + 1 => (Region.ready .any ops listed).contains i && Region.free .any ops listed i && t.ok ops true m (listed.setIfInBounds i true))
  | .l i t, top, n, listed => (!top || Region.ready .any ops listed == [i]) && (match n with | 0 => false | m + 1 => t.ok ops true m (listed.setIfInBounds i true))
  | .alt s t, top, n, listed => (!top || (!(Region.ready .any ops listed).isEmpty && (Region.ready .any ops listed).all fun j => (s.heads ++ t.heads).contains j)) && s.ok ops false n listed && t.ok ops false n listed
  | .c t, top, n, listed => top && t.ok ops true n listed
def wpT (P : Program) (ops : Array Oper) (Q : Post) : PT → (World → Prop) → Act → World → Prop
  | .nil, C, a, w => C w ∧ Q .normal a w
  | .q i t, C, a, w => C w ∧ ∃ o v, ops[i]? = some o ∧ YieldsC P ops C o v a ∧ wpT P ops Q t C (a.put o.dst v) w
  | .l i t, C, a, w => C w ∧ wpOp P ops Q i (wpT P ops Q t C) a w
  | .alt s t, C, a, w => wpT P ops Q s C a w ∧ wpT P ops Q t C a w
  | .c t, C, a, w => ∃ C' : World → Prop, (∀ w, C' w → C w) ∧ wpT P ops Q t C' a w
theorem wpAnyC_mono {C C' : World → Prop} (h : ∀ w, C' w → C w) : ∀ (fuel : Nat) (listed : Array Bool) (a : Act) (w : World), wpAnyC P ops C' Q fuel listed a w → wpAnyC P ops C Q fuel listed a w
  | 0, _, _, _, H => ⟨h _ H.1, H.2⟩
  | fuel + 1, _, _, _, H => ⟨h _ H.1, H.2.1, fun i hi => wpOp_mono (fun a w => wpAnyC_mono h fuel _ a w) (H.2.2 i hi)⟩
theorem wpAnyC_of_T (hs : Region.noSelect ops = true) (hQ : ∀ c a d v w, Q (.panic c) (a.put d v) w → Q (.panic c) a w) : ∀ (t : PT),
    (∀ (C : World → Prop) n listed a w, t.ok ops true n listed = true → wpT P ops Q t C a w → wpAnyC P ops C Q n listed a w) ∧
    (∀ (C : World → Prop) n listed a w i, t.ok ops false n listed = true → wpT P ops Q t C a w → i ∈ t.heads → ∃ m, n = m + 1 ∧ C w ∧ wpOp P ops Q i (wpAnyC P ops C Q m (listed.setIfInBounds i true)) a w)
  | .nil => ⟨fun C n listed a w ho h => by
      simp only [PT.ok, Bool.and_eq_true, Bool.true_and] at ho
      have := Nat.eq_of_beq_eq_true ho.1
      subst this
      exact ⟨h.1, by simpa using ho.2, h.2⟩, fun C n listed a w i ho => by simp [PT.ok] at ho⟩
  | .q i t => ⟨fun C n listed a w ho h => by
      cases n with
      | zero => simp [PT.ok] at ho
      | succ m =>
        simp only [PT.ok, Bool.and_eq_true, Bool.true_and] at ho
        obtain ⟨⟨hr, hf⟩, hp'⟩ := ho
        obtain ⟨hw, o, v, hi, hy, h⟩ := h
        exact wpAnyC_first hi (Region.noSelect_spec hs) (fun c a w => hQ c a _ _ w) m listed a w (Region.free_spec hi hf) (by simpa using hr) hy hw
          ((wpAnyC_of_T hs hQ t).1 C m _ _ _ hp' h), fun C n listed a w i ho => by simp [PT.ok] at ho⟩
  | .l i t => ⟨fun C n listed a w ho h => by
      cases n with
      | zero => simp [PT.ok] at ho
      | succ m =>
        simp only [PT.ok, Bool.and_eq_true, Bool.not_true, Bool.false_or, beq_iff_eq] at ho
        refine ⟨h.1, fun h0 => (by rw [ho.1] at h0; cases h0), fun j hj => ?_⟩
        rw [ho.1] at hj
        have : j = i := by simpa using hj
        subst this
        exact wpOp_mono (fun a w => (wpAnyC_of_T hs hQ t).1 C m _ a w ho.2) h.2,
      fun C n listed a w j ho h hj => by
        cases n with
        | zero => simp [PT.ok] at ho
        | succ m =>
          simp only [PT.ok, Bool.and_eq_true, Bool.not_false, Bool.true_or, true_and] at ho
          have : j = i := by simpa [PT.heads] using hj
          subst this
          exact ⟨m, rfl, h.1, wpOp_mono (fun a w => (wpAnyC_of_T hs hQ t).1 C m _ a w ho) h.2⟩⟩
  | .alt s t => by
      have h2 : ∀ (C : World → Prop) n listed a w i, s.ok ops false n listed = true → t.ok ops false n listed = true → wpT P ops Q (.alt s t) C a w → i ∈ s.heads ++ t.heads → ∃ m, n = m + 1 ∧ C w ∧ wpOp P ops Q i (wpAnyC P ops C Q m (listed.setIfInBounds i true)) a w := by
        intro C n listed a w i h1 h2 h hi
        rcases List.mem_append.1 hi with hi | hi
        · exact (wpAnyC_of_T hs hQ s).2 C n listed a w i h1 h.1 hi
        · exact (wpAnyC_of_T hs hQ t).2 C n listed a w i h2 h.2 hi
      refine ⟨fun C n listed a w ho h => ?_, fun C n listed a w i ho h hi => ?_⟩
      · simp only [PT.ok, Bool.and_eq_true, Bool.not_true, Bool.false_or] at ho
        obtain ⟨⟨⟨hne, hall⟩, hs1⟩, ht1⟩ := ho
        cases hr : Region.ready .any ops listed with
        | nil => rw [hr] at hne; simp at hne
        | cons i0 rest =>
          rw [hr] at hall
          have hin : ∀ j ∈ i0 :: rest, j ∈ s.heads ++ t.heads := fun j hj => by
            have := List.all_eq_true.1 hall j hj
            simpa using this
          obtain ⟨m, rfl, hC, _⟩ := h2 C n listed a w i0 hs1 ht1 h (hin i0 (by simp))
          refine ⟨hC, fun h0 => (by rw [hr] at h0; cases h0), fun j hj => ?_⟩
          rw [hr] at hj
          obtain ⟨m', he, _, hw⟩ := h2 C (m + 1) listed a w j hs1 ht1 h (hin j hj)
          have : m' = m := by omega
          subst this
          exact hw
      · simp only [PT.ok, Bool.and_eq_true, Bool.not_false, Bool.true_or, true_and] at ho
        exact h2 C n listed a w i ho.1 ho.2 h (by simpa [PT.heads] using hi)
  | .c t => ⟨fun C n listed a w ho h => by
      simp only [PT.ok, Bool.true_and] at ho
      obtain ⟨C', hC, h⟩ := h
      exact wpAnyC_mono hC _ _ _ _ ((wpAnyC_of_T hs hQ t).1 C' n listed a w ho h), fun C n listed a w i ho => by simp [PT.ok] at ho⟩
theorem wp_region_T {C : World → Prop} {id : Nat} {a : Act} {w : World} {t : PT} (hm : P.follows .mixedOrders = true) (hs : Region.noSelect ops = true)
    (hQ : ∀ c a d v w, Q (.panic c) (a.put d v) w → Q (.panic c) a w) (hp : t.ok ops true ops.size (Array.replicate ops.size false) = true)
    (h : wpT P ops Q t C a { w with drawn := w.drawn + 1 }) : (Code.region id ops true).wp P Q a w :=
  wp_region_any hm (wpAny_of_C _ _ _ _ ((wpAnyC_of_T hs hQ t).1 C _ _ a _ hp h))
end
/-- what is left to do, as a list: the rest of a branching plan, then K -/
def KT (c : Cx) (all : List Oper) (Lf : List HProp) (t : PT) (K : List KI) : List KI := .fin (fun a w => wpT c.P all.toArray (kq c.P c.Q K) t (fun w => Sat c.w0 w Lf) a w) :: K
section
variable {c : Cx} {E : Env} {L Lf Lf' : List HProp} {d : Nat} {ty : TypeId} {pos : String} {af : Array Edge} {K : List KI} {all : List Oper} {op : Op} {v : Value} {N : Value → List HProp → Prop} {t s : PT}
theorem g_drawT {id : Nat} {l : List Oper} {Lf : List HProp} (t : PT) (hm : c.P.follows .mixedOrders = true) (hs : Region.noSelect l.toArray = true) (hp : t.ok l.toArray true l.length (Array.replicate l.length false) = true)
    (h : G c (KT c l Lf t K) E L) : G c (.code (.region id l.toArray true) :: K) E L := fun a w hE hS =>
  wp_region_T (t := t) hm hs (fun ch a d v w hq => absurd hq kq_panic) (by simpa using hp) (h a _ hE (hS.drew _))
theorem t_nil [SC : Sub L Lf] (h : G c K E L) : G c (KT c all Lf .nil K) E L := fun a w hE hS => ⟨SC.sat hS, h a w hE hS⟩
theorem t_v {i : Nat} (hi : all[i]? = some ⟨some d, op, ty, pos, af, none⟩) [SC : Sub L Lf] (h : OpV c none E Lf ⟨some d, op, ty, pos, af, none⟩ v) (hd : dOk c.n d E = true)
    (k : G c (KT c all Lf t K) ((d, none, v) :: E) L) : G c (KT c all Lf (.q i t) K) E L := fun a w hE hS =>
  ⟨SC.sat hS, _, v, by simpa using hi, .inl ⟨by simp [Region.wanted], fun w' hw' => .inl (h.out a w' hE (gd_none a) hw')⟩, k _ w (hE.put1 hd) hS⟩
theorem t_alt (h1 : G c (KT c all Lf s K) E L) (h2 : G c (KT c all Lf t K) E L) : G c (KT c all Lf (.alt s t) K) E L := fun a w hE hS => ⟨h1 a w hE hS, h2 a w hE hS⟩
end
end Go.Sl
