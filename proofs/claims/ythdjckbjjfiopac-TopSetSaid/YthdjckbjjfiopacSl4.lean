/- What single operations do, as steps. No condition. -/
import Derived.Test.YthdjckbjjfiopacSl2
import Derived.IntWalk
import Derived.Laws.Strings
namespace Go.Sl
set_option linter.unusedVariables false

/-! ### Finding an assertion in the list -/
/-- block b is known to be o -/
class Has (L : List HProp) (b : Nat) (o : outParam Obj) : Prop where
  out : ∀ w0 w, Sat w0 w L → w.heap[b]? = some o
instance (priority := high) Has.pt {b : Nat} {o : Obj} {L : List HProp} : Has (pt b o :: L) b o := ⟨fun _ _ h => h.at_⟩
instance (priority := high) Has.ro {b : Nat} {o : Obj} {L : List HProp} : Has (ro b o :: L) b o := ⟨fun _ _ h => h.ro_at⟩
instance (priority := low) Has.tail {A : HProp} {b : Nat} {o : Obj} {L : List HProp} [h : Has L b o] : Has (A :: L) b o := ⟨fun w0 w hS => h.out w0 w hS.tail⟩
/-- block b is owned, and is o; with o' in its place the list is L' -/
class Upd (L : List HProp) (b : Nat) (o : outParam Obj) (o' : Obj) (L' : outParam (List HProp)) : Prop where
  out : ∃ i, L[i]? = some (pt b o) ∧ L' = L.set i (pt b o')
instance (priority := high) Upd.pt {b : Nat} {o o' : Obj} {L : List HProp} : Upd (pt b o :: L) b o o' (pt b o' :: L) := ⟨0, rfl, rfl⟩
instance (priority := low) Upd.tail {A : HProp} {b : Nat} {o o' : Obj} {L L' : List HProp} [h : Upd L b o o' L'] : Upd (A :: L) b o o' (A :: L') := ⟨let ⟨i, h1, h2⟩ := h.out; ⟨i + 1, by simpa using h1, by simp [h2]⟩⟩
theorem map_eraseIdx {α β : Type} (f : α → β) : ∀ (l : List α) (i : Nat), (l.eraseIdx i).map f = (l.map f).eraseIdx i
  | [], i => by simp
  | a :: l, 0 => by simp
  | a :: l, i + 1 => by simp [map_eraseIdx f l i]
theorem Sat.front {w0 w : World} {A : HProp} {L : List HProp} {i : Nat} (h : Sat w0 w L) (hi : L[i]? = some A) : Sat w0 w (A :: L.eraseIdx i) := by
  have e : (List.range L.length).map (L[·]?) = L.map some := by
    apply List.ext_getElem
    · simp
    · intro j h1 h2
      simp at h1 ⊢
  refine h.pick (i :: (List.range L.length).eraseIdx i) ?_ ?_
  · simp only [List.map_cons, hi]
    congr 1
    rw [map_eraseIdx, e, map_eraseIdx]
  · refine List.Pairwise.cons (fun a ha => ?_) ?_
    · rw [List.mem_eraseIdx_iff_getElem] at ha
      obtain ⟨j, hj, hne, rfl⟩ := ha
      simpa using Ne.symm hne
    · exact List.Nodup.sublist (List.eraseIdx_sublist _ _) List.nodup_range
theorem Sat.setAt {w0 w : World} {L : List HProp} {i b : Nat} {o o' : Obj} (h : Sat w0 w L) (hi : L[i]? = some (pt b o)) : Sat w0 { w with heap := w.heap.setIfInBounds b o' } (L.set i (pt b o')) := by
  obtain ⟨h1, h2, h3, h4, f, hf, hd⟩ := h
  have hA := hf i _ hi
  have hil := (List.getElem?_eq_some_iff.1 hi).1
  have hb := hA.2 b _ hA.1
  have hlt := (Array.getElem?_eq_some_iff.1 hb).1
  have hno : ∀ j, j < L.length → j ≠ i → f j b = none := fun j hj hne => by
    cases hx : f j b with
    | none => rfl
    | some x =>
      have := (hd j i hj hil hne b x (o, false) hx hA.1).2
      cases this
  refine ⟨h1, h2, h3, by simpa using h4, fun j => if j = i then Res.one b (o', false) else f j, fun j A hjA => ?_, fun j k hj hk hne => ?_⟩
  · by_cases hji : j = i
    · subst hji
      rw [List.getElem?_set_self hil] at hjA
      injection hjA with hjA; subst hjA
      simp only [if_true]
      refine ⟨Res.one_self, fun c x hx => ?_⟩
      obtain ⟨rfl, rfl⟩ := Res.one_eq hx
      simp [hlt]
    · rw [List.getElem?_set_ne (Ne.symm hji)] at hjA
      simp only [hji, if_false]
      have hj := (List.getElem?_eq_some_iff.1 hjA).1
      refine ⟨(hf j A hjA).1, fun c x hx => ?_⟩
      have hne : b ≠ c := by
        rintro rfl
        rw [hno j hj hji] at hx; cases hx
      simp only [Array.getElem?_setIfInBounds_ne hne]
      exact (hf j A hjA).2 c x hx
  · have hj' : j < L.length := by simpa using hj
    have hk' : k < L.length := by simpa using hk
    have d1 : ∀ l, l < L.length → l ≠ i → (Res.one b (o', false)).dj (f l) := fun l hl hli c x y hx hy => by
      obtain ⟨rfl, rfl⟩ := Res.one_eq hx
      rw [hno l hl hli] at hy; cases hy
    by_cases hji : j = i
    · have hki : k ≠ i := by omega
      simp only [hji, hki, if_true, if_false]
      exact d1 k hk' hki
    · by_cases hki : k = i
      · simp only [hji, hki, if_true, if_false]
        exact (d1 j hj' hji).symm
      · simp only [hji, hki, if_false]
        exact hd j k hj' hk' hne

/-- A is among them; without it they are L' -/
class Rem (L : List HProp) (A : HProp) (L' : outParam (List HProp)) : Prop where
  out : ∃ i, L[i]? = some A ∧ L' = L.eraseIdx i
instance (priority := high) Rem.head {A : HProp} {L : List HProp} : Rem (A :: L) A L := ⟨0, rfl, rfl⟩
instance (priority := low) Rem.tail {A B : HProp} {L L' : List HProp} [h : Rem L A L'] : Rem (B :: L) A (B :: L') := ⟨let ⟨i, h1, h2⟩ := h.out; ⟨i + 1, by simpa using h1, by simp [h2]⟩⟩
theorem Rem.sat {w0 w : World} {A : HProp} {L L' : List HProp} (r : Rem L A L') (h : Sat w0 w L) : Sat w0 w (A :: L') := by
  obtain ⟨i, h1, rfl⟩ := r.out
  exact h.front h1
theorem Sat.moveEnd {w0 w : World} {A : HProp} {L : List HProp} (h : Sat w0 w (A :: L)) : Sat w0 w (L ++ [A]) := by
  refine h.pick ((List.range L.length).map (· + 1) ++ [0]) ?_ ?_
  · simp only [List.map_append, List.map_map, List.map_cons, List.map_nil]
    congr 1
    apply List.ext_getElem
    · simp
    · intro i h1 h2
      simp at h1 ⊢
  · refine List.pairwise_append.2 ⟨?_, by simp, ?_⟩
    · rw [List.pairwise_map]
      exact (List.pairwise_lt_range).imp fun h => by omega
    · intro a ha b hb
      simp at ha hb
      obtain ⟨x, _, rfl⟩ := ha
      omega
theorem Sat.endFront {w0 w : World} {A : HProp} {L : List HProp} (h : Sat w0 w (L ++ [A])) : Sat w0 w (A :: L) := by
  have := h.front (i := L.length) (A := A) (by simp)
  simpa [List.eraseIdx_append_of_length_le] using this
/-- All of Pre are among them; the rest is F -/
class Split (L : List HProp) (Pre : List HProp) (F : outParam (List HProp)) : Prop where
  out : ∀ w0 w X, Sat w0 w (L ++ X) → Sat w0 w (Pre ++ F ++ X)
instance Split.nil {L : List HProp} : Split L [] L := ⟨fun _ _ _ h => h⟩
instance Split.cons {L L1 F Pre : List HProp} {A : HProp} [r : Rem L A L1] [s : Split L1 Pre F] : Split L (A :: Pre) F := ⟨fun w0 w X h => by
  obtain ⟨i, h1, rfl⟩ := r.out
  have hil := (List.getElem?_eq_some_iff.1 h1).1
  have h2 := h.front (i := i) (A := A) (by rw [List.getElem?_append_left hil]; exact h1)
  rw [List.eraseIdx_append_of_lt_length hil] at h2
  have h3 := h2.moveEnd
  have h4 := s.out w0 w (X ++ [A]) (by simpa using h3)
  have h5 : Sat w0 w ((Pre ++ F ++ X) ++ [A]) := by simpa using h4
  simpa using h5.endFront⟩
theorem Split.sat {w0 w : World} {L Pre F : List HProp} (s : Split L Pre F) (h : Sat w0 w L) : Sat w0 w (Pre ++ F) := by
  simpa using s.out w0 w [] (by simpa using h)
/-- L2 is made of some of L, in some order -/
class Sub (L L2 : List HProp) : Prop where
  out : ∀ w0 w X, Sat w0 w (L ++ X) → Sat w0 w (L2 ++ X)
instance (priority := high) Sub.refl {L : List HProp} : Sub L L := ⟨fun _ _ _ h => h⟩
instance (priority := low) Sub.drop {A : HProp} {L L2 : List HProp} [s : Sub L L2] : Sub (A :: L) L2 := ⟨fun w0 w X h => s.out w0 w X (Sat.tail (by simpa using h))⟩
instance Sub.take {A : HProp} {L L1 L2 : List HProp} [r : Rem L A L1] [s : Sub L1 L2] : Sub L (A :: L2) := ⟨fun w0 w X h => by
  obtain ⟨i, h1, rfl⟩ := r.out
  have hil := (List.getElem?_eq_some_iff.1 h1).1
  have h2 := h.front (i := i) (A := A) (by rw [List.getElem?_append_left hil]; exact h1)
  rw [List.eraseIdx_append_of_lt_length hil] at h2
  have h3 := h2.moveEnd
  have h4 := s.out w0 w (X ++ [A]) (by simpa using h3)
  have h5 : Sat w0 w ((L2 ++ X) ++ [A]) := by simpa using h4
  simpa using h5.endFront⟩
theorem Sub.sat {w0 w : World} {L L2 : List HProp} (s : Sub L L2) (h : Sat w0 w L) : Sat w0 w L2 := by
  simpa using s.out w0 w [] (by simpa using h)
end Go.Sl
