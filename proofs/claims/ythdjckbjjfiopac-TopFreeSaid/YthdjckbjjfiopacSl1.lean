/- Heap assertions: what parts of memory hold, each part owned or read-only; a list of assertions holds of a world where they speak of parts that do not clash. No condition. -/
import Derived.Calls
import Derived.Orders
import Derived.Below
import Derived.Laws.World
namespace Go.Sl
set_option linter.unusedVariables false

abbrev Res := Nat → Option (Obj × Bool)
abbrev HProp := Res → Prop
def Res.dj (m n : Res) : Prop := ∀ b x y, m b = some x → n b = some y → x.2 = true ∧ y.2 = true
def Res.fits (m : Res) (w : World) : Prop := ∀ b x, m b = some x → w.heap[b]? = some x.1
def Res.sub (m n : Res) : Prop := ∀ b x, m b = some x → n b = some x

def OkL (w : World) (L : List HProp) (f : Nat → Res) : Prop :=
  (∀ i A, L[i]? = some A → A (f i) ∧ (f i).fits w) ∧ ∀ i j, i < L.length → j < L.length → i ≠ j → (f i).dj (f j)

/-- The world came of w0 (same streams, tape; no fewer blocks), and the assertions hold of parts of it. -/
structure Sat (w0 w : World) (L : List HProp) : Prop where
  os : w.os = w0.os
  tape : w.tape = w0.tape
  output : w.output = w0.output
  size : w0.heap.size ≤ w.heap.size
  parts : ∃ f, OkL w L f

def hpure (φ : Prop) : HProp := fun _ => φ
def hex {α : Type} (A : α → HProp) : HProp := fun m => ∃ x, A x m
def hstar (A B : HProp) : HProp := fun m => ∃ m1 m2, m1.dj m2 ∧ m1.sub m ∧ m2.sub m ∧ A m1 ∧ B m2
/-- the block b is owned, and is o -/
def pt (b : Nat) (o : Obj) : HProp := fun m => m b = some (o, false)
/-- the block b is o, and nobody writes it any more -/
def ro (b : Nat) (o : Obj) : HProp := fun m => m b = some (o, true)
def old (w0 : World) : HProp := fun m => ∀ b o, w0.heap[b]? = some o → m b = some (o, true)
def Pers (A : HProp) : Prop := ∀ m, A m → ∃ m', Res.sub m' m ∧ (∀ b x, m' b = some x → x.2 = true) ∧ A m'

theorem Res.dj.symm {m n : Res} (h : m.dj n) : n.dj m := fun b x y hx hy => (h b y x hy hx).symm
theorem Res.dj.mono {m n m' n' : Res} (h : m.dj n) (h1 : m'.sub m) (h2 : n'.sub n) : m'.dj n' := fun b x y hx hy => h b x y (h1 b x hx) (h2 b y hy)
theorem Res.fits.mono {m m' : Res} {w : World} (h : m.fits w) (h1 : m'.sub m) : m'.fits w := fun b x hx => h b x (h1 b x hx)
theorem Res.sub.refl (m : Res) : m.sub m := fun _ _ h => h

def Res.union (m n : Res) : Res := fun b => (m b).or (n b)
def Res.one (b : Nat) (x : Obj × Bool) : Res := fun c => if c = b then some x else none
theorem Res.one_eq {b c : Nat} {x y : Obj × Bool} (h : Res.one b x c = some y) : c = b ∧ y = x := by
  unfold Res.one at h
  split at h
  · exact ⟨‹_›, by injection h with h; exact h.symm⟩
  · cases h
theorem Res.one_self {b : Nat} {x : Obj × Bool} : Res.one b x b = some x := by simp [Res.one]

section
variable {w0 w : World} {L : List HProp} {A B : HProp}

theorem Sat.start (w0 : World) : Sat w0 w0 [old w0] := by
  refine ⟨rfl, rfl, rfl, Nat.le_refl _, fun _ b => (w0.heap[b]?).map (·, true), ?_, ?_⟩
  · intro i A hA
    cases i with
    | zero =>
      simp at hA; subst hA
      exact ⟨fun b o h => by simp [h], fun b x h => by
        simp [Option.map_eq_some_iff] at h
        obtain ⟨o, ho, rfl⟩ := h
        exact ho⟩
    | succ i => simp at hA
  · intro i j hi hj hne
    simp at hi hj
    omega

/-- Any choice of the assertions, in any order, none twice. -/
theorem Sat.pick {L' : List HProp} (is : List Nat) (h : Sat w0 w L) (hL : is.map (L[·]?) = L'.map some) (hn : is.Nodup) : Sat w0 w L' := by
  obtain ⟨h1, h2, h3, h4, f, hf, hd⟩ := h
  have hget : ∀ (i : Nat) (A : HProp), L'[i]? = some A → ∃ k : Nat, is[i]? = some k ∧ L[k]? = some A := by
    intro i A hA
    have : (L'.map some)[i]? = some (some A) := by simp [hA]
    rw [← hL, List.getElem?_map] at this
    cases hk : is[i]? with
    | none => simp [hk] at this
    | some k => simp [hk] at this; exact ⟨k, rfl, this⟩
  have hlen : is.length = L'.length := by simpa using congrArg List.length hL
  refine ⟨h1, h2, h3, h4, fun i => f (is.getD i 0), ?_, ?_⟩
  · intro i A hA
    obtain ⟨k, hk, hA'⟩ := hget i A hA
    have : is.getD i 0 = k := by simp [List.getD, hk]
    simp only [this]
    exact hf k A hA'
  · intro i j hi hj hne
    obtain ⟨k, hk, hA⟩ := hget i L'[i] (by simp [hi])
    obtain ⟨l, hl, hB⟩ := hget j L'[j] (by simp [hj])
    have e1 : is.getD i 0 = k := by simp [List.getD, hk]
    have e2 : is.getD j 0 = l := by simp [List.getD, hl]
    simp only [e1, e2]
    refine hd k l ?_ ?_ ?_
    · exact (List.getElem?_eq_some_iff.1 hA).1
    · exact (List.getElem?_eq_some_iff.1 hB).1
    · intro e
      subst e
      obtain ⟨i1, e1⟩ := List.getElem?_eq_some_iff.1 hk
      obtain ⟨j1, e2⟩ := List.getElem?_eq_some_iff.1 hl
      have hp := List.pairwise_iff_getElem.1 hn
      rcases Nat.lt_or_gt_of_ne hne with hlt | hlt
      · exact hp i j i1 j1 hlt (e1.trans e2.symm)
      · exact hp j i j1 i1 hlt (e2.trans e1.symm)

/-- Replace the parts of the head: the general step. -/
theorem Sat.head {w' : World} {L1 : List HProp} (h : Sat w0 w (A :: L)) (hos : w'.os = w.os) (htape : w'.tape = w.tape) (hout : w'.output = w.output) (hsize : w.heap.size ≤ w'.heap.size)
    (k : ∀ m, A m → m.fits w → ∃ g : Nat → Res, OkL w' L1 g ∧ (∀ (n : Res), n.fits w → n.dj m → n.fits w' ∧ ∀ i, i < L1.length → (g i).dj n)) : Sat w0 w' (L1 ++ L) := by
  obtain ⟨h1, h2, h3, h4, f, hf, hd⟩ := h
  have hA := hf 0 A rfl
  obtain ⟨g, ⟨hg, hgd⟩, hn⟩ := k (f 0) hA.1 hA.2
  refine ⟨hos.trans h1, htape.trans h2, hout.trans h3, Nat.le_trans h4 hsize, fun i => if i < L1.length then g i else f (i - L1.length + 1), ?_, ?_⟩
  · intro i C hC
    by_cases hi : i < L1.length
    · rw [List.getElem?_append_left hi] at hC
      simp only [hi, if_true]
      exact hg i C hC
    · rw [List.getElem?_append_right (by omega)] at hC
      simp only [hi, if_false]
      have := hf (i - L1.length + 1) C (by simpa using hC)
      refine ⟨this.1, (hn _ this.2 ?_).1⟩
      have hlt := (List.getElem?_eq_some_iff.1 hC).1
      exact hd _ _ (by simp; omega) (by simp) (by omega)
  · intro i j hi hj hne
    have hlen : (L1 ++ L).length = L1.length + L.length := by simp
    by_cases h1 : i < L1.length <;> by_cases h2 : j < L1.length <;> simp only [h1, h2, if_true, if_false]
    · exact hgd i j h1 h2 hne
    · have hjl : j - L1.length + 1 < (A :: L).length := by simp; omega
      exact (hn _ (hf (j - L1.length + 1) ((A :: L)[j - L1.length + 1]) (by simp)).2 (hd _ _ hjl (by simp) (by omega))).2 i h1
    · have hil : i - L1.length + 1 < (A :: L).length := by simp; omega
      exact ((hn _ (hf (i - L1.length + 1) ((A :: L)[i - L1.length + 1]) (by simp)).2 (hd _ _ hil (by simp) (by omega))).2 j h2).symm
    · exact hd _ _ (by simp; omega) (by simp; omega) (by omega)

theorem OkL.one {w : World} {A : HProp} {m : Res} (h : A m) (hf : m.fits w) : OkL w [A] (fun _ => m) := by
  refine ⟨fun i B hB => ?_, fun i j hi hj hne => ?_⟩
  · cases i with
    | zero => simp at hB; subst hB; exact ⟨h, hf⟩
    | succ i => simp at hB
  · simp at hi hj; omega

theorem Sat.weak (h : Sat w0 w (A :: L)) (k : ∀ m, A m → B m) : Sat w0 w (B :: L) :=
  h.head (L1 := [B]) rfl rfl rfl (Nat.le_refl _) fun m hA hf => ⟨fun _ => m, OkL.one (k m hA) hf, fun n hn hd => ⟨hn, fun _ _ => hd.symm⟩⟩

theorem Sat.ex {α : Type} {A : α → HProp} (h : Sat w0 w (hex A :: L)) : ∃ x, Sat w0 w (A x :: L) := by
  obtain ⟨h1, h2, h3, h4, f, hf, hd⟩ := h
  obtain ⟨x, hx⟩ := (hf 0 _ rfl).1
  refine ⟨x, h1, h2, h3, h4, f, fun i C hC => ?_, hd⟩
  cases i with
  | zero => simp at hC; subst hC; exact ⟨hx, (hf 0 _ rfl).2⟩
  | succ i => exact hf (i + 1) C (by simpa using hC)
theorem Sat.ex_mk {α : Type} {A : α → HProp} (x : α) (h : Sat w0 w (A x :: L)) : Sat w0 w (hex A :: L) := h.weak fun _ hm => ⟨x, hm⟩

theorem Sat.tail (h : Sat w0 w (A :: L)) : Sat w0 w L := by
  simpa using h.head (L1 := []) rfl rfl rfl (Nat.le_refl _) fun m _ _ => ⟨fun _ => m, ⟨by simp, by simp⟩, fun _ hn _ => ⟨hn, by simp⟩⟩
theorem Sat.pure_ {φ : Prop} (h : Sat w0 w (hpure φ :: L)) : φ ∧ Sat w0 w L := ⟨by
  obtain ⟨_, _, _, _, f, hf, _⟩ := h
  exact (hf 0 _ rfl).1, h.tail⟩
theorem Sat.pure_mk {φ : Prop} (hp : φ) (h : Sat w0 w L) : Sat w0 w (hpure φ :: L) := by
  obtain ⟨h1, h2, h3, h4, f, hf, hd⟩ := h
  refine ⟨h1, h2, h3, h4, fun i => match i with | 0 => fun _ => none | i + 1 => f i, fun i C hC => ?_, fun i j hi hj hne => ?_⟩
  · cases i with
    | zero => simp at hC; subst hC; exact ⟨hp, fun b x hx => by cases hx⟩
    | succ i => exact hf i C (by simpa using hC)
  · cases i with
    | zero => exact fun b x y hx => by cases hx
    | succ i => cases j with
      | zero => exact fun b x y _ hy => by cases hy
      | succ j => exact hd i j (by simpa using hi) (by simpa using hj) (by omega)

theorem Sat.star (h : Sat w0 w (hstar A B :: L)) : Sat w0 w (A :: B :: L) :=
  h.head (L1 := [A, B]) rfl rfl rfl (Nat.le_refl _) fun m hA hf => by
    obtain ⟨m1, m2, hd, s1, s2, ha, hb⟩ := hA
    refine ⟨fun i => if i = 0 then m1 else m2, ⟨fun i C hC => ?_, fun i j hi hj hne => ?_⟩, fun n hn hdj => ⟨hn, fun i _ => ?_⟩⟩
    · match i with
      | 0 => simp at hC; subst hC; exact ⟨ha, hf.mono s1⟩
      | 1 => simp at hC; subst hC; exact ⟨hb, hf.mono s2⟩
      | i + 2 => simp at hC
    · simp at hi hj
      by_cases h0 : i = 0
      · have : j ≠ 0 := by omega
        simp only [h0, this, if_true, if_false]; exact hd
      · have : j = 0 := by omega
        simp only [h0, this, if_true, if_false]; exact hd.symm
    · dsimp only
      split
      · exact (hdj.mono (Res.sub.refl _) s1).symm
      · exact (hdj.mono (Res.sub.refl _) s2).symm

theorem Sat.two (h : Sat w0 w (A :: B :: L)) : Sat w0 w (hstar A B :: L) := by
  obtain ⟨h1, h2, h3, h4, f, hf, hd⟩ := h
  have hA := hf 0 _ rfl
  have hB := hf 1 _ rfl
  have d01 := hd 0 1 (by simp) (by simp) (by omega)
  have s2 : (f 1).sub ((f 0).union (f 1)) := by
    intro b x hx
    unfold Res.union
    cases h0 : f 0 b with
    | none => simp [hx]
    | some y =>
      have e1 := hA.2 b y h0
      have e2 := hB.2 b x hx
      have := d01 b y x h0 hx
      have : y = x := Prod.ext (by rw [e1] at e2; injection e2) (this.1.trans this.2.symm)
      simp [this]
  have s1 : (f 0).sub ((f 0).union (f 1)) := fun b x hx => by simp [Res.union, hx]
  refine ⟨h1, h2, h3, h4, fun i => match i with | 0 => (f 0).union (f 1) | i + 1 => f (i + 2), fun i C hC => ?_, fun i j hi hj hne => ?_⟩
  · cases i with
    | zero =>
      simp at hC; subst hC
      refine ⟨⟨f 0, f 1, d01, s1, s2, hA.1, hB.1⟩, fun b x hx => ?_⟩
      simp only [Res.union] at hx
      cases h0 : f 0 b with
      | none => rw [h0] at hx; exact hB.2 b x (by simpa using hx)
      | some y => rw [h0] at hx; exact hA.2 b x (by rw [h0]; simpa using hx)
    | succ i => exact hf (i + 2) C (by simpa using hC)
  · have dj : ∀ k, k + 1 < (hstar A B :: L).length → ((f 0).union (f 1)).dj (f (k + 2)) := fun k hk b x y hx hy => by
      simp only [Res.union] at hx
      cases h0 : f 0 b with
      | none => rw [h0] at hx; exact hd 1 (k + 2) (by simp) (by simp at hk ⊢; omega) (by omega) b x y (by simpa using hx) hy
      | some z => rw [h0] at hx; exact hd 0 (k + 2) (by simp) (by simp at hk ⊢; omega) (by omega) b x y (by rw [h0]; simpa using hx) hy
    cases i with
    | zero => cases j with
      | zero => omega
      | succ j => exact dj j hj
    | succ i => cases j with
      | zero => exact (dj i hi).symm
      | succ j => exact hd (i + 2) (j + 2) (by simp at hi ⊢; omega) (by simp at hj ⊢; omega) (by omega)

theorem Sat.at_ {b : Nat} {o : Obj} (h : Sat w0 w (pt b o :: L)) : w.heap[b]? = some o := by
  obtain ⟨_, _, _, _, f, hf, _⟩ := h
  have := hf 0 _ rfl
  exact this.2 b (o, false) this.1
theorem Sat.ro_at {b : Nat} {o : Obj} (h : Sat w0 w (ro b o :: L)) : w.heap[b]? = some o := by
  obtain ⟨_, _, _, _, f, hf, _⟩ := h
  have := hf 0 _ rfl
  exact this.2 b (o, true) this.1

theorem Sat.freeze {b : Nat} {o : Obj} (h : Sat w0 w (pt b o :: L)) : Sat w0 w (ro b o :: L) :=
  h.head (L1 := [ro b o]) rfl rfl rfl (Nat.le_refl _) fun m hA hf => by
    refine ⟨fun _ => Res.one b (o, true), OkL.one Res.one_self fun c x hx => ?_, fun n hn hdj => ⟨hn, fun i _ c x y hx hy => ?_⟩⟩
    · obtain ⟨rfl, rfl⟩ := Res.one_eq hx
      exact hf _ (o, false) hA
    · obtain ⟨rfl, rfl⟩ := Res.one_eq hx
      have := (hdj _ y (o, false) hy hA).2
      cases this

theorem Sat.set {b : Nat} {o o' : Obj} {w' : World} (h : Sat w0 w (pt b o :: L)) (hw : w' = { w with heap := w.heap.setIfInBounds b o' }) : Sat w0 w' (pt b o' :: L) := by
  subst hw
  refine h.head (L1 := [pt b o']) rfl rfl rfl (by simp) fun m hA hf => ?_
  have hb := hf b _ hA
  have hlt := (Array.getElem?_eq_some_iff.1 hb).1
  refine ⟨fun _ => Res.one b (o', false), OkL.one Res.one_self fun c x hx => ?_, fun n hn hdj => ⟨fun c x hx => ?_, fun i _ c x y hx hy => ?_⟩⟩
  · obtain ⟨rfl, rfl⟩ := Res.one_eq hx
    simp [hlt]
  · have hne : b ≠ c := by
      rintro rfl
      have := (hdj b x (o, false) hx hA).2
      cases this
    simp only [Array.getElem?_setIfInBounds_ne hne]
    exact hn c x hx
  · obtain ⟨rfl, rfl⟩ := Res.one_eq hx
    have := (hdj _ y (o, false) hy hA).2
    cases this

theorem Sat.alloc (h : Sat w0 w L) (o : Obj) : Sat w0 { w with heap := w.heap.push o } (pt w.heap.size o :: L) := by
  have h' : Sat w0 w (hpure True :: L) := h.pure_mk trivial
  refine h'.head (L1 := [pt w.heap.size o]) rfl rfl rfl (by simp) fun m _ hf => ?_
  have hlt : ∀ (n : Res), n.fits w → ∀ c x, n c = some x → c < w.heap.size := fun n hn c x hx => (Array.getElem?_eq_some_iff.1 (hn c x hx)).1
  refine ⟨fun _ => Res.one w.heap.size (o, false), OkL.one Res.one_self fun c x hx => ?_, fun n hn hdj => ⟨fun c x hx => ?_, fun i _ c x y hx hy => ?_⟩⟩
  · obtain ⟨rfl, rfl⟩ := Res.one_eq hx
    simp
  · have := hlt n hn c x hx
    simp only [Array.getElem?_push_lt this]
    simpa [this] using hn c x hx
  · obtain ⟨rfl, rfl⟩ := Res.one_eq hx
    have := hlt n hn _ y hy
    omega

theorem Sat.drew (h : Sat w0 w L) (k : Nat) : Sat w0 { w with drawn := k } L := ⟨h.os, h.tape, h.output, h.size, h.parts⟩

theorem Sat.dup (h : Sat w0 w (A :: L)) (hp : Pers A) : Sat w0 w (A :: A :: L) :=
  h.head (L1 := [A, A]) rfl rfl rfl (Nat.le_refl _) fun m hA hf => by
    obtain ⟨m', hs, hr, ha⟩ := hp m hA
    refine ⟨fun _ => m', ⟨fun i C hC => ?_, fun i j _ _ _ b x y hx hy => ⟨hr b x hx, hr b y hy⟩⟩, fun n hn hdj => ⟨hn, fun i _ => (hdj.mono (Res.sub.refl _) hs).symm⟩⟩
    have : C = A := by
      match i with
      | 0 => simpa using hC.symm
      | 1 => simpa using hC.symm
      | i + 2 => simp at hC
    subst this
    exact ⟨ha, hf.mono hs⟩

theorem Pers.ro (b : Nat) (o : Obj) : Pers (ro b o) := fun m h => ⟨Res.one b (o, true), fun c x hx => by
  obtain ⟨rfl, rfl⟩ := Res.one_eq hx; exact h, fun c x hx => by obtain ⟨rfl, rfl⟩ := Res.one_eq hx; rfl, Res.one_self⟩
theorem Pers.pure_ (φ : Prop) : Pers (hpure φ) := fun _ h => ⟨fun _ => none, (fun b x hx => nomatch hx), (fun b x hx => nomatch hx), h⟩
theorem Pers.ex {α : Type} {A : α → HProp} (h : ∀ x, Pers (A x)) : Pers (hex A) := fun m ⟨x, hx⟩ => let ⟨m', a, b, c⟩ := h x m hx; ⟨m', a, b, x, c⟩
theorem Pers.old (w0 : World) : Pers (old w0) := fun m h => ⟨fun b => (w0.heap[b]?).map (·, true), fun b x hx => by
  simp [Option.map_eq_some_iff] at hx; obtain ⟨o, ho, rfl⟩ := hx; exact h b o ho, fun b x hx => by
  simp [Option.map_eq_some_iff] at hx; obtain ⟨o, ho, rfl⟩ := hx; rfl, fun b o ho => by simp [ho]⟩

theorem Sat.old_ro {b : Nat} {o : Obj} {v0 : World} (h : Sat w0 w (old v0 :: L)) (hb : v0.heap[b]? = some o) : Sat w0 w (ro b o :: old v0 :: L) :=
  (h.dup (Pers.old v0)).weak fun _ hm => hm b o hb

theorem Sat.below (h : Sat w0 w (old w0 :: L)) : RowKit.Below w0.heap.size w0 w := by
  refine ⟨h.os, h.tape, h.output, h.size, fun b hb => ?_⟩
  have h1 : w0.heap[b]? = some w0.heap[b] := by simp [hb]
  rw [(h.old_ro h1).ro_at, h1]
end
end Go.Sl
