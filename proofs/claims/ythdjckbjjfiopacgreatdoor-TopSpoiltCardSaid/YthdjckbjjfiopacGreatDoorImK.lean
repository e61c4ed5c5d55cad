/- What image.kinds and image.counted compute: plain laws of their loops. No condition. -/
import Derived.Test.YthdjckbjjfiopacGreatDoorImL
namespace Go.Proofs.YthdjckbjjfiopacGreatDoor
open Go.Sl Go.Proofs
set_option linter.unusedVariables false
set_option linter.unusedSimpArgs false
/-! ### Kinds -/
def sayO (N : NdT) (F : IM) (o : Bool) (id kind : Int) : Bool := if id = 0 then o else o && ((N id).isSome && (decide ((li F id).getD 0 = 0) || decide ((li F id).getD 0 = kind)))
def sayF (F : IM) (id kind : Int) : IM := if id = 0 then F else sti F id kind
theorem isR_snoc {L : List Pt} {p : Pt} {q : Int} : isR (L ++ [p]) q ↔ isR L q ∨ (q ≠ 0 ∧ q = p.root) := by
  unfold isR
  simp only [List.mem_append, List.mem_singleton]
  constructor
  · rintro ⟨h0, x, hx | hx, e⟩
    · exact .inl ⟨h0, x, hx, e⟩
    · subst hx; exact .inr ⟨h0, e.symm⟩
  · rintro (⟨h0, x, hx, e⟩ | ⟨h0, e⟩)
    · exact ⟨h0, x, .inl hx, e⟩
    · exact ⟨h0, p, .inr rfl, e.symm⟩
theorem isR_nil (q : Int) : ¬ isR [] q := fun h => by obtain ⟨_, p, hp, _⟩ := h; cases hp
/-- after so many points -/
structure K1 (N : NdT) (L : List Pt) (o : Bool) (F : IM) : Prop where
  o : o = true ↔ ∀ q, isR L q → (N q).isSome = true
  f : ∀ q, li F q = if isR L q then some 1 else none
theorem K1_nil (N : NdT) : K1 N [] true [] := ⟨⟨fun _ q h => absurd h (isR_nil q), fun _ => rfl⟩, fun q => by rw [if_neg (isR_nil q)]; rfl⟩
theorem K1_snoc {N : NdT} {L : List Pt} {o : Bool} {F : IM} (h : K1 N L o F) (p : Pt) : K1 N (L ++ [p]) (sayO N F o p.root 1) (sayF F p.root 1) := by
  unfold sayO sayF
  by_cases h0 : p.root = 0
  · rw [if_pos h0, if_pos h0]
    have e : ∀ q, isR (L ++ [p]) q ↔ isR L q := fun q => by
      rw [isR_snoc]
      exact ⟨fun hh => hh.elim (fun x => x) fun hh => absurd (hh.2.trans h0) hh.1, .inl⟩
    exact ⟨by rw [h.o]; simp only [e], fun q => by rw [h.f]; simp only [e]⟩
  · rw [if_neg h0, if_neg h0]
    have h01 : (li F p.root).getD 0 = 0 ∨ (li F p.root).getD 0 = 1 := by
      rw [h.f]
      split
      · exact .inr rfl
      · exact .inl rfl
    have hb : (decide ((li F p.root).getD 0 = 0) || decide ((li F p.root).getD 0 = 1)) = true := by
      rcases h01 with e | e <;> simp [e]
    rw [hb, Bool.and_true]
    refine ⟨?_, fun q => ?_⟩
    · rw [Bool.and_eq_true, h.o]
      constructor
      · rintro ⟨h1, h2⟩ q hq
        rcases isR_snoc.1 hq with hq | ⟨_, rfl⟩
        · exact h1 q hq
        · exact h2
      · intro h1
        exact ⟨fun q hq => h1 q (isR_snoc.2 (.inl hq)), h1 _ (isR_snoc.2 (.inr ⟨h0, rfl⟩))⟩
    · rw [li_sti]
      by_cases hq : p.root = q
      · rw [if_pos hq, if_pos (isR_snoc.2 (.inr ⟨by rw [← hq]; exact h0, hq.symm⟩))]
      · rw [if_neg hq, h.f]
        have e : isR (L ++ [p]) q ↔ isR L q := by
          rw [isR_snoc]
          exact ⟨fun hh => hh.elim (fun x => x) fun hh => absurd hh.2.symm hq, .inl⟩
        simp only [e]
/-- the leaves seen so far: below the roots that are done, and the first kids of another -/
def dn (N : NdT) (L : List Pt) (done : List Int) (ks : List Int) (q : Int) : Prop := q ≠ 0 ∧ ((∃ r m, r ∈ done ∧ isR L r ∧ N r = some m ∧ q ∈ kd m) ∨ q ∈ ks)
structure KP (N : NdT) (L : List Pt) : Prop where
  r : ∀ q, isR L q → (N q).isSome = true
  l : ∀ q, isL N L q → (N q).isSome = true
  dj : ∀ q, isR L q → ¬ isL N L q
structure K2 (N : NdT) (L : List Pt) (done ks : List Int) (o : Bool) (F : IM) : Prop where
  no : o = false → ¬ KP N L
  r : o = true → ∀ q, isR L q → (N q).isSome = true
  l : o = true → ∀ q, dn N L done ks q → (N q).isSome = true ∧ ¬ isR L q
  f1 : o = true → ∀ q, isR L q → li F q = some 1
  f2 : o = true → ∀ q, ¬ isR L q → dn N L done ks q → li F q = some 2
  f0 : o = true → ∀ q, ¬ isR L q → ¬ dn N L done ks q → li F q = none
theorem dn_nil (N : NdT) (L : List Pt) (q : Int) : ¬ dn N L [] [] q := fun h => by
  rcases h.2 with ⟨r, m, hr, _⟩ | h
  · cases hr
  · cases h
theorem K2_start {N : NdT} {L : List Pt} {o : Bool} {F : IM} (h : K1 N L o F) : K2 N L [] [] o F :=
  ⟨(fun ho hk => by have := h.o.2 hk.r; rw [this] at ho; cases ho), fun ho => h.o.1 ho, fun _ q hq => absurd hq (dn_nil N L q), fun _ q hq => by rw [h.f, if_pos hq], fun _ q _ hq => absurd hq (dn_nil N L q), fun _ q hq _ => by rw [h.f, if_neg hq]⟩
theorem dn_same {N : NdT} {L : List Pt} {done : List Int} {id : Int} (h : ¬ isR L id) (q : Int) : dn N L (id :: done) [] q ↔ dn N L done [] q := by
  unfold dn
  constructor
  · rintro ⟨h0, ⟨r, m, hr, h1, h2⟩ | h3⟩
    · rcases List.mem_cons.1 hr with rfl | hr
      · exact absurd h1 h
      · exact ⟨h0, .inl ⟨r, m, hr, h1, h2⟩⟩
    · exact ⟨h0, .inr h3⟩
  · rintro ⟨h0, ⟨r, m, hr, h1, h2⟩ | h3⟩
    · exact ⟨h0, .inl ⟨r, m, List.mem_cons_of_mem _ hr, h1, h2⟩⟩
    · exact ⟨h0, .inr h3⟩
theorem K2_iff {N : NdT} {L : List Pt} {d d' k k' : List Int} {o : Bool} {F : IM} (h : K2 N L d k o F) (e : ∀ q, dn N L d' k' q ↔ dn N L d k q) : K2 N L d' k' o F :=
  ⟨h.no, h.r, fun ho q hq => h.l ho q ((e q).1 hq), h.f1, fun ho q h1 h2 => h.f2 ho q h1 ((e q).1 h2), fun ho q h1 h2 => h.f0 ho q h1 fun h3 => h2 ((e q).2 h3)⟩
theorem K2_off {N : NdT} {L : List Pt} {d d' k k' : List Int} {F F' : IM} (h : K2 N L d k false F) : K2 N L d' k' false F' :=
  ⟨h.no, (fun h => by cases h), (fun h => by cases h), (fun h => by cases h), (fun h => by cases h), (fun h => by cases h)⟩
/-- a node that isn't a root is passed over -/
theorem K2_skip {N : NdT} {L : List Pt} {done : List Int} {id : Int} {o : Bool} {F : IM} (h : K2 N L done [] o F) (hm : (li F id).getD 0 ≠ 1) : K2 N L (id :: done) [] o F := by
  cases o with
  | false => exact K2_off h
  | true =>
    refine K2_iff h (dn_same fun hr => hm ?_)
    rw [h.f1 rfl id hr]; rfl
theorem K2_root {N : NdT} {L : List Pt} {done : List Int} {id : Int} {F : IM} (h : K2 N L done [] true F) (hm : (li F id).getD 0 = 1) : isR L id := by
  refine Decidable.byContradiction fun hr => ?_
  by_cases hd : dn N L done [] id
  · rw [h.f2 rfl id hr hd] at hm; cases hm
  · rw [h.f0 rfl id hr hd] at hm; cases hm
theorem dn_ks {N : NdT} {L : List Pt} {done ks : List Int} {k q : Int} : dn N L done (ks ++ [k]) q ↔ dn N L done ks q ∨ (q ≠ 0 ∧ q = k) := by
  unfold dn
  simp only [List.mem_append, List.mem_singleton]
  constructor
  · rintro ⟨h0, h | h | h⟩
    · exact .inl ⟨h0, .inl h⟩
    · exact .inl ⟨h0, .inr h⟩
    · exact .inr ⟨h0, h⟩
  · rintro (⟨h0, h | h⟩ | ⟨h0, h⟩)
    · exact ⟨h0, .inl h⟩
    · exact ⟨h0, .inr (.inl h)⟩
    · exact ⟨h0, .inr (.inr h)⟩
/-- a kid of a root -/
theorem K2_kid {N : NdT} {L : List Pt} {done ks : List Int} {id k : Int} {m : Nd} {o : Bool} {F : IM} (h : K2 N L done ks o F) (hr : o = true → isR L id) (hN : N id = some m) (hk : k ∈ kd m) : K2 N L done (ks ++ [k]) (sayO N F o k 2) (sayF F k 2) := by
  cases o with
  | false =>
    have : sayO N F false k 2 = false := by unfold sayO; split <;> simp
    rw [this]
    exact K2_off h
  | true =>
    by_cases h0 : k = 0
    · rw [show sayO N F true k 2 = true by unfold sayO; rw [if_pos h0], show sayF F k 2 = F by unfold sayF; rw [if_pos h0]]
      refine K2_iff h fun q => ?_
      rw [dn_ks]
      exact ⟨fun hh => hh.elim (fun x => x) fun hh => absurd (hh.2.trans h0) hh.1, .inl⟩
    · have hL : isL N L k := ⟨h0, id, m, hr rfl, hN, hk⟩
      have e1 : sayF F k 2 = sti F k 2 := by unfold sayF; rw [if_neg h0]
      rw [e1]
      cases hs : sayO N F true k 2 with
      | false =>
        refine K2_off (h := (⟨fun _ hkp => ?_, (fun h => by cases h), (fun h => by cases h), (fun h => by cases h), (fun h => by cases h), (fun h => by cases h)⟩ : K2 N L done ks false F))
        unfold sayO at hs
        rw [if_neg h0, Bool.true_and, hkp.l k hL, Bool.true_and, Bool.or_eq_false_iff] at hs
        have hnr := fun hh => hkp.dj k hh hL
        by_cases hd : dn N L done ks k
        · have := h.f2 rfl k hnr hd
          rw [this] at hs
          simp at hs
        · have := h.f0 rfl k hnr hd
          rw [this] at hs
          simp at hs
      | true =>
        unfold sayO at hs
        rw [if_neg h0, Bool.true_and, Bool.and_eq_true] at hs
        have hnr : ¬ isR L k := fun hh => by
          rw [h.f1 rfl k hh] at hs
          simp at hs
        refine ⟨(fun h => by cases h), fun _ => h.r rfl, fun _ q hq => ?_, fun _ q hq => ?_, fun _ q h1 hq => ?_, fun _ q h1 hq => ?_⟩
        · rcases dn_ks.1 hq with hq | ⟨_, rfl⟩
          · exact h.l rfl q hq
          · exact ⟨hs.1, hnr⟩
        · rw [li_sti, if_neg (fun e => hnr (by rw [e]; exact hq))]
          exact h.f1 rfl q hq
        · rw [li_sti]
          split
          · rfl
          · rename_i hne
            rcases dn_ks.1 hq with hq | ⟨_, rfl⟩
            · exact h.f2 rfl q h1 hq
            · exact absurd rfl hne
        · have hq' : ¬ dn N L done ks q ∧ ¬ (q ≠ 0 ∧ q = k) := ⟨fun h => hq (dn_ks.2 (.inl h)), fun h => hq (dn_ks.2 (.inr h))⟩
          rw [li_sti, if_neg (fun e => hq'.2 ⟨by rw [← e]; exact h0, e.symm⟩)]
          exact h.f0 rfl q h1 hq'.1
theorem K2_done {N : NdT} {L : List Pt} {done : List Int} {id : Int} {m : Nd} {o : Bool} {F : IM} (h : K2 N L done (kd m) o F) (hr : o = true → isR L id) (hN : N id = some m) : K2 N L (id :: done) [] o F := by
  cases o with
  | false => exact K2_off h
  | true =>
    refine K2_iff h fun q => ?_
    unfold dn
    constructor
    · rintro ⟨h0, ⟨r, m', hr', h1, h2, h3⟩ | h4⟩
      · rcases List.mem_cons.1 hr' with rfl | hr'
        · rw [hN] at h2; injection h2 with h2; subst h2; exact ⟨h0, .inr h3⟩
        · exact ⟨h0, .inl ⟨r, m', hr', h1, h2, h3⟩⟩
      · cases h4
    · rintro ⟨h0, ⟨r, m', hr', h1, h2, h3⟩ | h4⟩
      · exact ⟨h0, .inl ⟨r, m', List.mem_cons_of_mem _ hr', h1, h2, h3⟩⟩
      · exact ⟨h0, .inl ⟨id, m, by simp, hr rfl, hN, h4⟩⟩
theorem dn_all {N : NdT} {L : List Pt} {done : List Int} (ha : ∀ r, (N r).isSome = true → r ∈ done) (q : Int) : dn N L done [] q ↔ isL N L q := by
  unfold dn isL
  constructor
  · rintro ⟨h0, ⟨r, m, _, h1, h2, h3⟩ | h4⟩
    · exact ⟨h0, r, m, h1, h2, h3⟩
    · cases h4
  · rintro ⟨h0, r, m, h1, h2, h3⟩
    exact ⟨h0, .inl ⟨r, m, ha r (by rw [h2]; rfl), h1, h2, h3⟩⟩
theorem K2_end {N : NdT} {L : List Pt} {done : List Int} {o : Bool} {F : IM} (h : K2 N L done [] o F) (ha : ∀ r, (N r).isSome = true → r ∈ done) (hs : sup 24 N) (hF : (F.map (·.1)).Nodup) : ((o && decide ((F.length : Int) = ((ids 24 N).length : Int))) = true ↔ KindsP N L) ∧ (o = true → ∀ q, (li F q).getD 0 = 1 ↔ isR L q) := by
  have ha' := dn_all (L := L) ha
  cases o with
  | false =>
    refine ⟨⟨(fun hh => by cases hh), fun hk => absurd ⟨hk.r, hk.l, hk.dj⟩ (h.no rfl)⟩, (fun hh => by cases hh)⟩
  | true =>
    have hkeys : ∀ q, q ∈ F.map (·.1) ↔ isR L q ∨ isL N L q := fun q => by
      rw [← li_keys]
      by_cases hr : isR L q
      · rw [h.f1 rfl q hr]; simp [hr]
      · by_cases hl : isL N L q
        · rw [h.f2 rfl q hr ((ha' q).2 hl)]; simp [hl]
        · rw [h.f0 rfl q hr fun hh => hl ((ha' q).1 hh)]; simp [hr, hl]
    have hsub : ∀ q ∈ F.map (·.1), q ∈ ids 24 N := fun q hq => by
      have hs1 : (N q).isSome = true := by
        rcases (hkeys q).1 hq with hr | hl
        · exact h.r rfl q hr
        · exact (h.l rfl q ((ha' q).2 hl)).1
      obtain ⟨x, hx⟩ := Option.isSome_iff_exists.1 hs1
      exact mem_ids.2 ⟨hs q x hx, hs1⟩
    have hlen := sub_eq_len hF (ids_nodup 24 N) hsub
    rw [List.length_map] at hlen
    refine ⟨?_, fun _ q => ?_⟩
    · rw [Bool.true_and, decide_eq_true_eq]
      constructor
      · intro hl
        have h2 := hlen.1 (by omega)
        refine ⟨h.r rfl, fun q hq => (h.l rfl q ((ha' q).2 hq)).1, fun q hr hl => (h.l rfl q ((ha' q).2 hl)).2 hr, fun q hq => ?_⟩
        obtain ⟨x, hx⟩ := Option.isSome_iff_exists.1 hq
        exact (hkeys q).1 (h2 q (mem_ids.2 ⟨hs q x hx, hq⟩))
      · intro hk
        have := hlen.2 fun q hq => (hkeys q).2 (hk.all q (mem_ids.1 hq).2)
        omega
    · by_cases hr : isR L q
      · rw [h.f1 rfl q hr]; simp [hr]
      · by_cases hl : isL N L q
        · rw [h.f2 rfl q hr ((ha' q).2 hl)]; simp [hr]
        · rw [h.f0 rfl q hr fun hh => hl ((ha' q).1 hh)]; simp [hr]
/-! ### Counts -/
/-- a map counts: what isn't there counts nothing -/
def cm (F : IM) (c : Int → Int) : Prop := (∀ q, (li F q).getD 0 = c q) ∧ (∀ q, (li F q).isSome = true ↔ c q ≠ 0) ∧ ∀ q, 0 ≤ c q
theorem cm_nil : cm [] fun _ => 0 := ⟨fun q => rfl, fun q => by simp [li], fun q => by simp⟩
theorem cm_add {F : IM} {c : Int → Int} (h : cm F c) (k : Int) : cm (sti F k (c k + 1)) (del c k 1) := by
  obtain ⟨h1, h2, h3⟩ := h
  refine ⟨fun q => ?_, fun q => ?_, fun q => ?_⟩
  · rw [li_sti]
    by_cases hq : k = q
    · subst hq; rw [if_pos rfl, del_same]; rfl
    · rw [if_neg hq, h1, del_ne _ _ (Ne.symm hq)]
  · rw [li_sti]
    by_cases hq : k = q
    · subst hq; rw [if_pos rfl, del_same]; have := h3 k; simp; omega
    · rw [if_neg hq, h2, del_ne _ _ (Ne.symm hq)]
  · have := h3 q
    unfold del
    split <;> omega
theorem cm_del0 {F : IM} {c : Int → Int} (h : cm F c) : cm (dli F 0) fun q => if q = 0 then 0 else c q := by
  obtain ⟨h1, h2, h3⟩ := h
  refine ⟨fun q => ?_, fun q => ?_, fun q => ?_⟩
  · rw [li_dli]
    by_cases hq : 0 = q
    · subst hq; rfl
    · rw [if_neg hq, h1]; simp only; rw [if_neg (Ne.symm hq)]
  · rw [li_dli]
    by_cases hq : 0 = q
    · subst hq; simp
    · rw [if_neg hq, h2]; simp only; rw [if_neg (Ne.symm hq)]
  · have := h3 q
    simp only
    split <;> omega
def cA (l : List Int) (q : Int) : Int := (l.count q : Int)
theorem cA_nil (q : Int) : cA [] q = 0 := rfl
theorem cA_snoc (l : List Int) (k q : Int) : cA (l ++ [k]) q = del (cA l) k 1 q := by
  unfold cA del
  rw [List.count_append, List.count_cons]
  by_cases h : q = k
  · subst h; simp
  · simp [h, Ne.symm h]
theorem cA_cons (l : List Int) (k q : Int) : cA (k :: l) q = cA l q + if q = k then 1 else 0 := by
  unfold cA
  rw [List.count_cons]
  by_cases h : q = k
  · subst h; simp
  · simp [h, Ne.symm h]
theorem cA_nn (l : List Int) (q : Int) : 0 ≤ cA l q := by unfold cA; omega
theorem cA_le (l : List Int) (q : Int) : cA l q ≤ l.length := by unfold cA; have := List.count_le_length (l := l) (a := q); omega
theorem cA_cnt {l : List Int} {q : Int} (h : q ≠ 0) : cA l q = cnt l q := by unfold cA cnt; rw [if_neg h]
theorem occ_cA (m : Nd) (q : Int) : occ (some m) q = cA (kd m) q := by
  unfold kd
  simp only [cA_cons, cA_nil, occ]
  (repeat' split) <;> omega
/-- what the kids from the i-th on count -/
def kR (m : Nd) (i : Nat) (q : Int) : Int := cA ((kd m).drop i) q
theorem kR_0 (m : Nd) (q : Int) : kR m 0 q = occ (some m) q := by rw [occ_cA]; rfl
theorem kR_4 (m : Nd) (q : Int) : kR m 4 q = 0 := rfl
theorem kR_s (m : Nd) (q : Int) : ∀ i, i < 4 → kR m i q = kR m (i + 1) q + if q = kat m i then 1 else 0
  | 0, _ => cA_cons _ _ _
  | 1, _ => cA_cons _ _ _
  | 2, _ => cA_cons _ _ _
  | 3, _ => cA_cons _ _ _
  | i + 4, h => absurd h (by omega)
theorem kR_nn (m : Nd) (i : Nat) (q : Int) : 0 ≤ kR m i q := cA_nn _ _
def fR (N : NdT) (L : List Pt) (q : Int) (p : Int × Value) : Int := if isR L p.1 then occ (N p.1) q else 0
def fL (N : NdT) (L : List Pt) (q : Int) (p : Int × Value) : Int := if isR L p.1 then 0 else occ (N p.1) q
theorem fR_nn (N : NdT) (L : List Pt) (q : Int) (p : Int × Value) : 0 ≤ fR N L q p := by unfold fR; split; exact occ_nn _ _; exact Int.le_refl _
theorem fL_nn (N : NdT) (L : List Pt) (q : Int) (p : Int × Value) : 0 ≤ fL N L q p := by unfold fL; split; exact Int.le_refl _; exact occ_nn _ _
theorem sumM_nn {f : Int × Value → Int} (h : ∀ p, 0 ≤ f p) : ∀ M, 0 ≤ sumM f M
  | [] => Int.le_refl _
  | p :: M => by have := sumM_nn h M; have := h p; simp only [sumM]; omega
theorem sumM_tb {N : NdT} {f : Int × Value → Int} {A : NdT} {q : Int} (h : ∀ k v, f (k, v) = if (N k).isSome then occ (A k) q else f (k, v)) (hA : ∀ k, N k = none → A k = none) : ∀ l : List Nat, sumM f (tbl encN l N) = sumL A q l
  | [] => rfl
  | k :: l => by
    unfold tbl
    rw [List.filterMap_cons]
    simp only [sumL]
    have ih := sumM_tb h hA l
    unfold tbl at ih
    cases hk : N (k : Int) with
    | none => simp only [Option.map_none]; rw [ih, hA _ hk]; simp [occ]
    | some m =>
      simp only [Option.map_some, sumM]
      rw [ih, h, hk]
      rfl
theorem sum_R (N : NdT) (L : List Pt) (q : Int) : sumM (fR N L q) (tb encN 24 N) = tot (rOf N L) q := by
  refine sumM_tb (fun k v => ?_) (fun k hk => ?_) _
  · cases hk : N k with
    | none => rfl
    | some m =>
      show fR N L q (k, v) = if true = true then occ (rOf N L k) q else _
      rw [if_pos rfl]
      unfold fR rOf
      simp only
      split <;> rfl
  · unfold rOf; split; exact hk; rfl
theorem sum_L (N : NdT) (L : List Pt) (q : Int) : sumM (fL N L q) (tb encN 24 N) = tot (lOf N L) q := by
  refine sumM_tb (fun k v => ?_) (fun k hk => ?_) _
  · cases hk : N k with
    | none => rfl
    | some m =>
      show fL N L q (k, v) = if true = true then occ (lOf N L k) q else _
      rw [if_pos rfl]
      unfold fL lOf
      simp only
      split <;> rfl
  · unfold lOf; split; rfl; exact hk
/-- counted so far: this much, and what is left makes the whole -/
structure Cnt (N : NdT) (L : List Pt) (rest : MM) (c1 c2 : Int → Int) : Prop where
  r : ∀ q, c1 q + sumM (fR N L q) rest = cA (L.map (·.root)) q + tot (rOf N L) q
  l : ∀ q, c2 q + sumM (fL N L q) rest = tot (lOf N L) q
/-- .. within a node -/
structure Cni (N : NdT) (L : List Pt) (rest : MM) (id : Int) (m : Nd) (i : Nat) (c1 c2 : Int → Int) : Prop where
  r : ∀ q, c1 q + (if isR L id then kR m i q else 0) + sumM (fR N L q) rest = cA (L.map (·.root)) q + tot (rOf N L) q
  l : ∀ q, c2 q + (if isR L id then 0 else kR m i q) + sumM (fL N L q) rest = tot (lOf N L) q
theorem Cnt_start {N : NdT} {L : List Pt} : Cnt N L (tb encN 24 N) (cA (L.map (·.root))) fun _ => 0 := ⟨fun q => by rw [sum_R], fun q => by rw [sum_L, Int.zero_add]⟩
theorem Cnt_in {N : NdT} {L : List Pt} {rest rest' : MM} {id : Int} {v : Value} {m : Nd} {c1 c2 : Int → Int} (h : Cnt N L rest c1 c2) (hp : rest.Perm ((id, v) :: rest')) (hm : N id = some m) : Cni N L rest' id m 0 c1 c2 := by
  refine ⟨fun q => ?_, fun q => ?_⟩
  · have := h.r q
    rw [sumM_perm hp] at this
    simp only [sumM, fR, hm] at this
    rw [kR_0]
    omega
  · have := h.l q
    rw [sumM_perm hp] at this
    simp only [sumM, fL, hm] at this
    rw [kR_0]
    omega
theorem Cni_R {N : NdT} {L : List Pt} {rest : MM} {id : Int} {m : Nd} {i : Nat} {c1 c2 : Int → Int} (h : Cni N L rest id m i c1 c2) (hi : i < 4) (hr : isR L id) : Cni N L rest id m (i + 1) (del c1 (kat m i) 1) c2 := by
  refine ⟨fun q => ?_, fun q => ?_⟩
  · have := h.r q
    rw [if_pos hr, kR_s m q i hi] at this
    rw [if_pos hr]
    unfold del
    split <;> simp_all <;> omega
  · have := h.l q
    rw [if_pos hr] at this ⊢
    exact this
theorem Cni_L {N : NdT} {L : List Pt} {rest : MM} {id : Int} {m : Nd} {i : Nat} {c1 c2 : Int → Int} (h : Cni N L rest id m i c1 c2) (hi : i < 4) (hr : ¬ isR L id) : Cni N L rest id m (i + 1) c1 (del c2 (kat m i) 1) := by
  refine ⟨fun q => ?_, fun q => ?_⟩
  · have := h.r q
    rw [if_neg hr] at this ⊢
    exact this
  · have := h.l q
    rw [if_neg hr, kR_s m q i hi] at this
    rw [if_neg hr]
    unfold del
    split <;> simp_all <;> omega
theorem Cni_out {N : NdT} {L : List Pt} {rest : MM} {id : Int} {m : Nd} {c1 c2 : Int → Int} (h : Cni N L rest id m 4 c1 c2) : Cnt N L rest c1 c2 := by
  refine ⟨fun q => ?_, fun q => ?_⟩
  · have := h.r q
    rw [kR_4] at this
    split at this <;> omega
  · have := h.l q
    rw [kR_4] at this
    split at this <;> omega
theorem Cni_bd {N : NdT} {L : List Pt} {rest : MM} {id : Int} {m : Nd} {i : Nat} {c1 c2 : Int → Int} (h : Cni N L rest id m i c1 c2) (hl : L.length ≤ 6) (q : Int) : c1 q ≤ 102 ∧ c2 q ≤ 96 := by
  have h1 := h.r q
  have h2 := h.l q
  have h3 := sumM_nn (fun p => fR_nn N L q p) rest
  have h4 := sumM_nn (fun p => fL_nn N L q p) rest
  have h5 := kR_nn m i q
  have h6 := cA_le (L.map (·.root)) q
  have h7 := tot_le (rOf N L) q
  have h8 := tot_le (lOf N L) q
  rw [List.length_map] at h6
  constructor
  · split at h1 <;> omega
  · split at h2 <;> omega
theorem Cnt_end {N : NdT} {L : List Pt} {c1 c2 : Int → Int} (h : Cnt N L [] c1 c2) : (∀ q, c1 q = cA (L.map (·.root)) q + tot (rOf N L) q) ∧ ∀ q, c2 q = tot (lOf N L) q := by
  refine ⟨fun q => ?_, fun q => ?_⟩
  · have := h.r q; simp only [sumM] at this; omega
  · have := h.l q; simp only [sumM] at this; omega
theorem cN_of {N : NdT} {L : List Pt} {c1 c2 : Int → Int} (h : Cnt N L [] c1 c2) {q : Int} (h0 : q ≠ 0) : (fun q => if q = 0 then 0 else c1 q) q = cN N L q ∧ (fun q => if q = 0 then 0 else c2 q) q = tot (lOf N L) q := by
  obtain ⟨h1, h2⟩ := Cnt_end h
  simp only
  rw [if_neg h0, if_neg h0, h1, h2, cA_cnt h0]
  exact ⟨rfl, rfl⟩
theorem count_end {B : BkT} {N : NdT} {L : List Pt} {c1 c2 : Int → Int} {F : IM} (h : Cnt N L [] c1 c2) (hz : ∀ q m, N q = some m → ¬ noKids m) (hn : ∀ q m, N q = some m → (fun q => if q = 0 then 0 else c1 q) q = m.refs) (hb : ∀ q x, B q = some x → (fun q => if q = 0 then 0 else c2 q) q = x.2) (hB : sup 40 B) (hN : sup 24 N) (hpos : ∀ q x, B q = some x → 0 < x.2) (hF : cm F fun q => if q = 0 then 0 else c2 q) (hd : (F.map (·.1)).Nodup) : (decide ((F.length : Int) = ((ids 40 B).length : Int)) = true) ↔ CountP B N L := by
  have hsub : ∀ q ∈ ids 40 B, q ∈ F.map (·.1) := fun q hq => by
    have hq' := mem_ids.1 hq
    obtain ⟨x, hx⟩ := Option.isSome_iff_exists.1 hq'.2
    rw [← li_keys, hF.2.1]
    have := hb q x hx
    have := hpos q x hx
    omega
  have hlen := sub_eq_len (ids_nodup 40 B) hd hsub
  rw [List.length_map] at hlen
  rw [decide_eq_true_eq]
  constructor
  · intro e
    have h2 := hlen.1 (by omega)
    refine ⟨hz, fun q m hm => ?_, fun q x hx => ?_, fun q h0 hq => ?_⟩
    · rw [← (cN_of h (by have := hN q m hm; omega)).1]; exact hn q m hm
    · rw [← (cN_of h (by have := hB q x hx; omega)).2]; exact hb q x hx
    · have h3 : q ∈ F.map (·.1) := by
        rw [← li_keys, hF.2.1, (cN_of h h0).2]
        exact hq
      exact (mem_ids.1 (h2 q h3)).2
  · intro hc
    have := hlen.2 fun q hq => by
      rw [← li_keys, hF.2.1] at hq
      by_cases h0 : q = 0
      · subst h0; exact absurd rfl hq
      · rw [(cN_of h h0).2] at hq
        have h3 := hc.all q h0 hq
        obtain ⟨x, hx⟩ := Option.isSome_iff_exists.1 h3
        exact mem_ids.2 ⟨hB q x hx, h3⟩
    omega
theorem count_no_n {B : BkT} {N : NdT} {L : List Pt} {c1 c2 : Int → Int} (h : Cnt N L [] c1 c2) (hN : sup 24 N) {q : Int} {m : Nd} (hm : N q = some m) (hne : (fun q => if q = 0 then 0 else c1 q) q ≠ m.refs) : ¬ CountP B N L := fun hc => hne (by
  rw [(cN_of h (by have := hN q m hm; omega)).1]; exact hc.n q m hm)
theorem count_no_b {B : BkT} {N : NdT} {L : List Pt} {c1 c2 : Int → Int} (h : Cnt N L [] c1 c2) (hB : sup 40 B) {q : Int} {x : Bk} (hx : B q = some x) (hne : (fun q => if q = 0 then 0 else c2 q) q ≠ x.2) : ¬ CountP B N L := fun hc => hne (by
  rw [(cN_of h (by have := hB q x hx; omega)).2]; exact hc.b q x hx)

end Go.Proofs.YthdjckbjjfiopacGreatDoor
