/- Maps whose keys are whole numbers (2): delete, and a range over a map that stays as it is meanwhile. No condition. -/
import Derived.Test.YthdjckbjjfiopacSl24
namespace Go.Sl
set_option linter.unusedVariables false
set_option linter.unusedSimpArgs false

/-- block b walks over the map r: rest is still to come; cur was handed out last -/
def mit (b r : Nat) (es : Array MapEntry) (clk : Nat) (rest : MM) (cur : Option (Int × Value)) : HProp := fun m => ∃ (seen : Array Nat) (c0 : Nat), m b = some (.mapIter (some r) clk seen c0, false) ∧ clk ≤ c0 ∧
  ((leftOf es seen).toList.map fun e => (e.key, e.val)).Perm (rest.map fun p => (I p.1, p.2)) ∧ ∀ p, cur = some p → c0 = clk ∧ ∃ (s0 : Array Nat) (e : MapEntry), e ∈ es.toList ∧ seen = s0.push e.born ∧ e.key = I p.1 ∧ e.val = p.2
class HasE (L : List HProp) (r : Nat) (es : outParam (Array MapEntry)) (clk : outParam Nat) (M : outParam MM) : Prop where
  out : ∀ w0 w, Sat w0 w L → MOk es clk M ∧ w.heap[r]? = some (.map es clk)
instance (priority := high) HasE.head {r : Nat} {es : Array MapEntry} {clk : Nat} {M : MM} {L : List HProp} : HasE (mpE r es clk M :: L) r es clk M := ⟨fun w0 w h => by
  obtain ⟨_, _, _, _, f, hf, _⟩ := h
  have := hf 0 _ rfl
  exact ⟨this.1.1, this.2 r _ this.1.2⟩⟩
instance (priority := low) HasE.tail {A : HProp} {r : Nat} {es : Array MapEntry} {clk : Nat} {M : MM} {L : List HProp} [h : HasE L r es clk M] : HasE (A :: L) r es clk M := ⟨fun w0 w hS => h.out w0 w hS.tail⟩
class RemE (L : List HProp) (r : Nat) (es : outParam (Array MapEntry)) (clk : outParam Nat) (M : outParam MM) (F : outParam (List HProp)) : Prop where
  out : ∃ i, L[i]? = some (mpE r es clk M) ∧ F = L.eraseIdx i
instance (priority := high) RemE.head {r : Nat} {es : Array MapEntry} {clk : Nat} {M : MM} {L : List HProp} : RemE (mpE r es clk M :: L) r es clk M L := ⟨0, rfl, rfl⟩
instance (priority := low) RemE.tail {A : HProp} {r : Nat} {es : Array MapEntry} {clk : Nat} {M : MM} {L F : List HProp} [h : RemE L r es clk M F] : RemE (A :: L) r es clk M (A :: F) := ⟨let ⟨i, h1, h2⟩ := h.out; ⟨i + 1, by simpa using h1, by simp [h2]⟩⟩
class RemI (L : List HProp) (b : Nat) (r : outParam Nat) (es : outParam (Array MapEntry)) (clk : outParam Nat) (rest : outParam MM) (cur : outParam (Option (Int × Value))) (F : outParam (List HProp)) : Prop where
  out : ∃ i, L[i]? = some (mit b r es clk rest cur) ∧ F = L.eraseIdx i
instance (priority := high) RemI.head {b r : Nat} {es : Array MapEntry} {clk : Nat} {rest : MM} {cur : Option (Int × Value)} {L : List HProp} : RemI (mit b r es clk rest cur :: L) b r es clk rest cur L := ⟨0, rfl, rfl⟩
instance (priority := low) RemI.tail {A : HProp} {b r : Nat} {es : Array MapEntry} {clk : Nat} {rest : MM} {cur : Option (Int × Value)} {L F : List HProp} [h : RemI L b r es clk rest cur F] : RemI (A :: L) b r es clk rest cur (A :: F) := ⟨let ⟨i, h1, h2⟩ := h.out; ⟨i + 1, by simpa using h1, by simp [h2]⟩⟩

theorem mit_open {w0 w : World} {b r clk : Nat} {es : Array MapEntry} {rest : MM} {cur : Option (Int × Value)} {F : List HProp} (h : Sat w0 w (mit b r es clk rest cur :: F)) : ∃ (seen : Array Nat) (c0 : Nat), clk ≤ c0 ∧ ((leftOf es seen).toList.map fun e => (e.key, e.val)).Perm (rest.map fun p => (I p.1, p.2)) ∧
    (∀ p, cur = some p → c0 = clk ∧ ∃ (s0 : Array Nat) (e : MapEntry), e ∈ es.toList ∧ seen = s0.push e.born ∧ e.key = I p.1 ∧ e.val = p.2) ∧ Sat w0 w (pt b (.mapIter (some r) clk seen c0) :: F) := by
  have h' : Sat w0 w (hex (fun s : Array Nat × Nat => fun m => m b = some (.mapIter (some r) clk s.1 s.2, false) ∧ clk ≤ s.2 ∧
    ((leftOf es s.1).toList.map fun e => (e.key, e.val)).Perm (rest.map fun p => (I p.1, p.2)) ∧ ∀ p, cur = some p → s.2 = clk ∧ ∃ (s0 : Array Nat) (e : MapEntry), e ∈ es.toList ∧ s.1 = s0.push e.born ∧ e.key = I p.1 ∧ e.val = p.2) :: F) := h.weak fun m ⟨s, c, hm⟩ => ⟨(s, c), hm⟩
  obtain ⟨⟨s, c⟩, h⟩ := h'.ex
  have hf : clk ≤ c ∧ ((leftOf es s).toList.map fun e => (e.key, e.val)).Perm (rest.map fun p => (I p.1, p.2)) ∧ ∀ p, cur = some p → c = clk ∧ ∃ (s0 : Array Nat) (e : MapEntry), e ∈ es.toList ∧ s = s0.push e.born ∧ e.key = I p.1 ∧ e.val = p.2 := by
    obtain ⟨_, _, _, _, f, hf, _⟩ := h
    exact (hf 0 _ rfl).1.2
  exact ⟨s, c, hf.1, hf.2.1, hf.2.2, h.weak fun m hm => hm.1⟩
theorem mit_shut {w0 w : World} {b r clk c0 : Nat} {seen : Array Nat} {es : Array MapEntry} {rest : MM} {cur : Option (Int × Value)} {F : List HProp} (h : Sat w0 w (pt b (.mapIter (some r) clk seen c0) :: F)) (h1 : clk ≤ c0)
    (h2 : ((leftOf es seen).toList.map fun e => (e.key, e.val)).Perm (rest.map fun p => (I p.1, p.2))) (h3 : ∀ p, cur = some p → c0 = clk ∧ ∃ (s0 : Array Nat) (e : MapEntry), e ∈ es.toList ∧ seen = s0.push e.born ∧ e.key = I p.1 ∧ e.val = p.2) :
    Sat w0 w (mit b r es clk rest cur :: F) := h.weak fun m hm => ⟨seen, c0, hm, h1, h2, h3⟩
theorem left_all (es : Array MapEntry) : leftOf es #[] = es := by simp [leftOf]
theorem split_born : ∀ {l : List MapEntry} {e : MapEntry}, e ∈ l → (l.map (·.born)).Nodup → l.Perm (e :: l.filter fun x => !decide (x.born = e.born))
  | [], e, h, _ => by simp at h
  | a :: l, e, h, hn => by
    simp only [List.map_cons, List.nodup_cons] at hn
    rcases List.mem_cons.1 h with rfl | h
    · rw [List.filter_cons_of_neg (by simp)]
      refine List.Perm.cons _ (List.Perm.of_eq ?_)
      symm
      rw [List.filter_eq_self]
      intro x hx
      have : x.born ≠ e.born := fun e' => hn.1 (List.mem_map.2 ⟨x, hx, e'⟩)
      simp [this]
    · have hne : a.born ≠ e.born := fun e' => hn.1 (List.mem_map.2 ⟨e, h, e'.symm⟩)
      rw [List.filter_cons_of_pos (by simp [hne])]
      exact ((split_born h hn.2).cons a).trans (List.Perm.swap _ _ _)
theorem left_push (es : Array MapEntry) (seen : Array Nat) (b : Nat) : (leftOf es (seen.push b)).toList = (leftOf es seen).toList.filter fun x => !decide (x.born = b) := by
  simp only [leftOf, Array.toList_filter, List.filter_filter]
  congr 1
  funext x
  simp only [Array.contains_push]
  cases h : seen.contains x.born <;> simp [h, Bool.beq_eq_decide_eq]

section
variable {c : Cx} {g : Option (Nat × Bool)} {E : Env} {L L' F : List HProp} {d : Option Tmp} {ty : TypeId} {pos : String} {af : Array Edge} {gu : Option (Nat × Bool)} {K : List KI}
variable {x y z : Operand} {t u e : TypeId} {k : IntKind} {v zv : Value} {r b n clk : Nat} {q : Int} {M rest : MM} {es : Array MapEntry} {cur : Option (Int × Value)}

/-- a map's inner form, for the while of a range -/
theorem g_mapOpen (r : Nat) [R : RemM L r M F] (k : ∀ es clk, G c K E (mpE r es clk M :: F)) : G c K E L := fun a w hE hS => by
  obtain ⟨es, clk, hok, hS⟩ := R.sat hS
  exact k es clk a w hE (hS.weak fun m hm => ⟨hok, hm⟩)
theorem g_mapShut (r : Nat) [R : RemE L r es clk M F] (k : G c K E (mp r M :: F)) : G c K E L := fun a w hE hS => by
  obtain ⟨i, h1, rfl⟩ := R.out
  have h := hS.front h1
  exact k a w hE (Sat.ex_mk (A := fun p : Array MapEntry × Nat => fun m => MOk p.1 p.2 M ∧ m r = some (.map p.1 p.2, false)) (es, clk) h)
theorem l_range (hu : c.P.underlying t = some (.map u e)) (hx : ev g E x = some (.map (some r))) [h : HasE L r es clk M] :
    OpL c g E L ⟨d, .range t x, ty, pos, af, gu⟩ fun v L' => ∃ b, v = ptr b 0 ∧ L' = mit b r es clk M none :: L :=
  .of_run fun a w hE hg hS => by
    obtain ⟨hok, hw⟩ := h.out _ _ hS
    refine ⟨ptr w.heap.size 0, _, _, ?_, mit_shut (hS.alloc (.mapIter (some r) clk #[] clk)) (Nat.le_refl _) (by rw [left_all]; exact hok.perm) (fun p hp => by cases hp), _, rfl, rfl⟩
    simp [execOp, hE.ev hg hx, Instr.range, underlying, program, getObj, newObj, Sem.run, Sem.run_bind, hu, hw]
theorem l_next (hx : ev g E x = some (ptr b 0)) [R : RemI L b r es clk rest cur F] [h : HasE F r es clk M] :
    OpL c g E L ⟨d, .next x false, ty, pos, af, gu⟩ fun v L' => (rest = [] ∧ v = .tuple #[.bool false] ∧ L' = mit b r es clk [] none :: F) ∨
      ∃ p rest', rest.Perm (p :: rest') ∧ v = .tuple #[.bool true, I p.1, p.2] ∧ L' = mit b r es clk rest' (some p) :: F :=
  .of_run fun a w hE hg hS => by
    obtain ⟨i, h1, rfl⟩ := R.out
    obtain ⟨seen, c0, hc, hp, hcur, hS⟩ := mit_open (hS.front h1)
    obtain ⟨hok, hw⟩ := h.out _ _ hS.tail
    have hr := hS.at_
    rcases run_next_at (P := c.P) w ty b r clk c0 seen es clk hr hw hok.born hc with ⟨h0, hrun⟩ | ⟨en, hen, w1, hal, hrun⟩
    · have h0' : (leftOf es seen).toList = [] := by
        apply List.eq_nil_of_length_eq_zero; simpa using h0
      have hr0 : rest = [] := by
        have := hp.length_eq
        rw [h0'] at this
        exact List.eq_nil_of_length_eq_zero (by simpa using this.symm)
      subst hr0
      exact ⟨_, w, _, by simp [execOp, hE.ev hg hx, ptr, hrun], mit_shut hS hc hp (fun p hp => by cases hp), .inl ⟨rfl, rfl, rfl⟩⟩
    · have hS1 : Sat c.w0 w1 (pt b (.mapIter (some r) clk seen c0) :: L.eraseIdx i) := by
        rcases hal with rfl | rfl
        · exact hS
        · exact hS.drew _
      have hm : (en.key, en.val) ∈ rest.map fun p => (I p.1, p.2) := hp.mem_iff.1 (List.mem_map.2 ⟨en, hen, rfl⟩)
      obtain ⟨p, hpm, hpe⟩ := List.mem_map.1 hm
      injection hpe with e1 e2
      obtain ⟨s, t', hst⟩ := List.append_of_mem hpm
      have hperm : rest.Perm (p :: (s ++ t')) := by rw [hst]; exact List.perm_middle
      have hes : en ∈ es.toList := by
        have := hen
        simp only [leftOf, Array.toList_filter, List.mem_filter] at this
        exact this.1
      have hnd : ((leftOf es seen).toList.map (·.born)).Nodup := by
        simp only [leftOf, Array.toList_filter]
        exact List.Nodup.sublist (List.Sublist.map _ List.filter_sublist) hok.bnd
      have hl := split_born hen hnd
      have hrun' : (Instr.next (.pointer (some ⟨b, 0, none⟩)) false ty).run c.P w = .ok (.tuple #[.bool true, en.key, en.val]) (setB w1 b (.mapIter (some r) clk (seen.push en.born) clk)) := hrun
      refine ⟨.tuple #[.bool true, en.key, en.val], setB w1 b (.mapIter (some r) clk (seen.push en.born) clk), _, by simp [execOp, hE.ev hg hx, ptr, hrun'], mit_shut (rest := s ++ t') (cur := some p) (hS1.set rfl) (Nat.le_refl _) ?_ ?_, .inr ⟨p, s ++ t', hperm, by rw [e1, e2], rfl⟩⟩
      · rw [left_push]
        have h2 := ((hl.map fun e => (e.key, e.val)).symm.trans (hp.trans (hperm.map fun p => (I p.1, p.2))))
        simp only [List.map_cons, e1, e2] at h2
        exact h2.cons_inv
      · intro p' hp'
        injection hp' with hp'
        subst hp'
        exact ⟨rfl, seen, en, hes, rfl, e1.symm, e2.symm⟩
theorem v_entry {p : Int × Value} (hx : ev g E x = some (ptr b 0)) [R : RemI L b r es clk rest (some p) F] [h : HasE F r es clk M] : OpV c g E L ⟨d, .entry x, ty, pos, af, gu⟩ (.tuple #[I p.1, p.2]) := .mk fun a w hE hg hS => by
  obtain ⟨i, h1, rfl⟩ := R.out
  obtain ⟨seen, c0, hc, hp, hcur, hS⟩ := mit_open (hS.front h1)
  obtain ⟨hok, hw⟩ := h.out _ _ hS.tail
  obtain ⟨rfl, s0, en, hen, rfl, e1, e2⟩ := hcur p rfl
  have hrun := run_entry_at (P := c.P) w b r c0 s0 es c0 en hS.at_ hw hen hok.bnd
  rw [e1, e2] at hrun
  simp [execOp, hE.ev hg hx, ptr, hrun]
theorem eraseIdx_perm {α : Type} : ∀ {l : List α} {j : Nat} {e : α}, l[j]? = some e → l.Perm (e :: l.eraseIdx j)
  | [], j, e, h => by simp at h
  | a :: l, 0, e, h => by simp at h; subst h; exact .refl _
  | a :: l, j + 1, e, h => ((eraseIdx_perm (l := l) (j := j) (by simpa using h)).cons a).trans (List.Perm.swap _ _ _)
theorem MOk.del {j : Nat} {en : MapEntry} (h : MOk es clk M) (h1 : es.toList[j]? = some en) (h2 : en.key = I q) : MOk (es.eraseIdxIfInBounds j) clk (mdel M q) := by
  have hj : j < es.toList.length := (List.getElem?_eq_some_iff.1 h1).1
  have ej : es.toList[j] = en := (List.getElem?_eq_some_iff.1 h1).2
  have hl : (es.eraseIdxIfInBounds j).toList = es.toList.eraseIdx j := by
    have : j < es.size := by simpa using hj
    simp [Array.eraseIdxIfInBounds, this]
  have hp : es.toList.Perm (en :: es.toList.eraseIdx j) := eraseIdx_perm h1
  have hk : (es.toList.map (·.key)).Perm ((M.map (·.1)).map I) := by
    have := h.perm.map (·.1)
    simpa [List.map_map, Function.comp_def] using this
  refine ⟨?_, mdel_keys M q h.nodup, fun e he => h.born e ?_, ?_⟩
  · rw [hl]
    have h3 : ((en.key, en.val) :: (es.toList.eraseIdx j).map fun e => (e.key, e.val)).Perm (M.map fun p => (I p.1, p.2)) := ((hp.map fun e : MapEntry => (e.key, e.val)).symm).trans h.perm
    obtain ⟨p, hpm, e1, e2⟩ := h.key (List.mem_of_getElem? h1)
    have e3 : p.1 = q := I_inj (e1.symm.trans h2)
    obtain ⟨s, t', hst⟩ := List.append_of_mem hpm
    have hnd := h.nodup
    rw [hst, List.map_append, List.map_cons] at hnd
    rw [List.nodup_append] at hnd
    obtain ⟨n1, n2, n3⟩ := hnd
    rw [List.nodup_cons] at n2
    have hd : mdel M q = s ++ t' := by
      unfold mdel
      rw [hst, List.filter_append, List.filter_cons_of_neg (by simp [e3])]
      congr 1
      · rw [List.filter_eq_self]
        intro a ha
        have : a.1 ≠ p.1 := n3 a.1 (List.mem_map.2 ⟨a, ha, rfl⟩) p.1 (by simp)
        simp [← e3, this]
      · rw [List.filter_eq_self]
        intro a ha
        have : a.1 ≠ p.1 := fun e => n2.1 (e ▸ List.mem_map.2 ⟨a, ha, rfl⟩)
        simp [← e3, this]
    rw [hd]
    have h4 : (M.map fun p => (I p.1, p.2)).Perm ((en.key, en.val) :: (s ++ t').map fun p => (I p.1, p.2)) := by
      rw [hst, e1, e2]
      exact (List.perm_middle.map fun p : Int × Value => (I p.1, p.2))
    exact (h3.trans h4).cons_inv
  · rw [hl] at he; exact List.mem_of_mem_eraseIdx he
  · rw [hl]
    exact List.Nodup.sublist (List.Sublist.map _ (List.eraseIdx_sublist _ _)) h.bnd
theorem l_delete {ut : TypeId} (hu : c.P.underlying t = some (.map u e)) (hk : c.P.underlying u = some (.int .i64)) (hx : ev g E x = some (.map (some r))) (hy : ev g E y = some (I q)) [R : RemM L r M F] :
    OpL c g E L ⟨d, .call { callee := .builtin .delete, args := #[x, y], argTypes := #[t, ut] }, ty, pos, af, gu⟩ fun v L'' => v = .tuple #[] ∧ L'' = mp r (mdel M q) :: F :=
  .of_run fun a w hE hg hS => by
    obtain ⟨es, clk, hok, hS⟩ := R.sat hS
    have hw := hS.at_
    rcases hok.find .i64 q with ⟨j, en, h1, h2, h3, h4⟩ | ⟨h1, h2, h3⟩
    · refine ⟨_, setB w r (.map (es.eraseIdxIfInBounds j) clk), _, ?_, mp_shut (hS.set rfl) (hok.del h1 h2), rfl, rfl⟩
      simp [execOp, resolve, invoke, builtin, Builtin.delete_, hE.ev hg hx, hE.ev hg hy, underlying, program, getObj, Sem.run, Sem.run_bind, hu, hw, run_checkInt _ hk, run_findInt hk h4, run_setMap hw]
    · have hd : mdel M q = M := by
        unfold mdel
        rw [List.filter_eq_self]
        intro p hp
        have := lk_none.1 h1 p hp
        simp [this]
      refine ⟨_, setB w r (.map es clk), _, ?_, mp_shut (hS.set rfl) (hd.symm ▸ hok), rfl, rfl⟩
      simp [execOp, resolve, invoke, builtin, Builtin.delete_, hE.ev hg hx, hE.ev hg hy, underlying, program, getObj, Sem.run, Sem.run_bind, hu, hw, run_checkInt _ hk, run_findInt hk h3, run_setMap hw]
end
end Go.Sl
