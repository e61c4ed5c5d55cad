/- Maps whose keys are whole numbers: what they hold as a list of pairs, told up to order; make, look-up, update, delete, len, range. No condition. -/
import Derived.Test.YthdjckbjjfiopacSl23
import Derived.Maps.RangeRun
namespace Go.Sl
set_option linter.unusedVariables false
set_option linter.unusedSimpArgs false

abbrev MM := List (Int × Value)
structure MOk (es : Array MapEntry) (clk : Nat) (M : MM) : Prop where
  perm : (es.toList.map fun e => (e.key, e.val)).Perm (M.map fun p => (I p.1, p.2))
  nodup : (M.map (·.1)).Nodup
  born : ∀ e ∈ es.toList, e.born < clk
  bnd : (es.toList.map (·.born)).Nodup
/-- block r is a map with these entries, in whatever order -/
def mp (r : Nat) (M : MM) : HProp := hex fun p : Array MapEntry × Nat => fun m => MOk p.1 p.2 M ∧ m r = some (.map p.1 p.2, false)
/-- the same, its inner form told -/
def mpE (r : Nat) (es : Array MapEntry) (clk : Nat) (M : MM) : HProp := fun m => MOk es clk M ∧ m r = some (.map es clk, false)
def lk : MM → Int → Option Value
  | [], _ => none
  | (k, v) :: M, q => if k = q then some v else lk M q
/-- M with v at q -/
def mset (M : MM) (q : Int) (v : Value) : MM := if (lk M q).isSome then M.map fun p => if p.1 = q then (q, v) else p else M ++ [(q, v)]
def mdel (M : MM) (q : Int) : MM := M.filter fun p => !decide (p.1 = q)

theorem lk_none {M : MM} {q : Int} : lk M q = none ↔ ∀ p ∈ M, p.1 ≠ q := by
  induction M with
  | nil => simp [lk]
  | cons p M ih =>
    obtain ⟨k, v⟩ := p
    simp only [lk]
    split
    · rename_i h; simp [h]
    · rename_i h; simp [ih, h]
theorem lk_mem {M : MM} (h : (M.map (·.1)).Nodup) {q : Int} {v : Value} : lk M q = some v ↔ (q, v) ∈ M := by
  induction M with
  | nil => simp [lk]
  | cons p M ih =>
    obtain ⟨k, u⟩ := p
    simp only [List.map_cons, List.nodup_cons] at h
    simp only [lk]
    split
    · rename_i hk
      subst hk
      constructor
      · intro e; injection e with e; subst e; simp
      · intro hm
        rcases List.mem_cons.1 hm with e | hm
        · injection e with _ e; rw [e]
        · exact absurd (List.mem_map.2 ⟨_, hm, rfl⟩) h.1
    · rename_i hk
      rw [ih h.2]
      constructor
      · intro hm; exact List.mem_cons_of_mem _ hm
      · intro hm
        rcases List.mem_cons.1 hm with e | hm
        · injection e with e _; exact absurd e.symm hk
        · exact hm
theorem nodup_pairs {M : MM} (h : (M.map (·.1)).Nodup) : M.Nodup := by
  induction M with
  | nil => exact List.Pairwise.nil
  | cons p M ih =>
    simp only [List.map_cons, List.nodup_cons] at h
    exact List.nodup_cons.2 ⟨fun hm => h.1 (List.mem_map.2 ⟨_, hm, rfl⟩), ih h.2⟩
/-- two lists that answer alike are alike up to order -/
theorem perm_of_lk {M M' : MM} (h : (M.map (·.1)).Nodup) (h' : (M'.map (·.1)).Nodup) (he : ∀ q, lk M q = lk M' q) : M.Perm M' := by
  refine (List.perm_ext_iff_of_nodup (nodup_pairs h) (nodup_pairs h')).2 fun ⟨q, v⟩ => ?_
  rw [← lk_mem h, ← lk_mem h', he]
theorem lk_perm {M M' : MM} (h : (M.map (·.1)).Nodup) (hp : M.Perm M') (q : Int) : lk M q = lk M' q := by
  have h' : (M'.map (·.1)).Nodup := (hp.map (·.1)).nodup_iff.1 h
  cases e : lk M' q with
  | none => rw [lk_none] at e ⊢; exact fun p hm => e p (hp.mem_iff.1 hm)
  | some v => rw [lk_mem h'] at e; rw [lk_mem h]; exact hp.mem_iff.2 e
theorem MOk.perm_ {es : Array MapEntry} {clk : Nat} {M M' : MM} (h : MOk es clk M) (hp : M.Perm M') : MOk es clk M' := ⟨h.perm.trans (hp.map _), (hp.map (·.1)).nodup_iff.1 h.nodup, h.born, h.bnd⟩
theorem mset_keys (M : MM) (q : Int) (v : Value) (h : (M.map (·.1)).Nodup) : ((mset M q v).map (·.1)).Nodup := by
  unfold mset
  split
  · have : (M.map fun p => if p.1 = q then (q, v) else p).map (·.1) = M.map (·.1) := by
      rw [List.map_map]
      apply List.map_congr_left
      intro p _
      simp only [Function.comp_apply]
      split <;> simp_all
    rw [this]; exact h
  · rename_i hn
    simp only [Option.not_isSome_iff_eq_none] at hn
    rw [lk_none] at hn
    rw [List.map_append, List.nodup_append]
    refine ⟨h, by simp, fun a ha b hb => ?_⟩
    simp at hb; subst hb
    obtain ⟨p, hp, rfl⟩ := List.mem_map.1 ha
    exact hn p hp
theorem lk_append (M N : MM) (q : Int) : lk (M ++ N) q = (lk M q).or (lk N q) := by
  induction M with
  | nil => simp [lk]
  | cons p M ih => obtain ⟨k, v⟩ := p; simp only [List.cons_append, lk]; split <;> simp [ih]
theorem lk_mset (M : MM) (q : Int) (v : Value) (k : Int) : lk (mset M q v) k = if q = k then some v else lk M k := by
  unfold mset
  split
  · rename_i h
    have key : ∀ N : MM, (∀ k', k' = q → (lk N k').isSome → lk (N.map fun p => if p.1 = q then (q, v) else p) k' = some v) ∧ (∀ k', k' ≠ q → lk (N.map fun p => if p.1 = q then (q, v) else p) k' = lk N k') := by
      intro N
      induction N with
      | nil => exact ⟨fun k' _ h => by simp [lk] at h, fun k' _ => rfl⟩
      | cons p N ih =>
        obtain ⟨a, u⟩ := p
        refine ⟨fun k' e hs => ?_, fun k' e => ?_⟩
        · subst e
          by_cases ha : a = k'
          · simp [lk, ha]
          · simp [lk, ha] at hs ⊢; exact ih.1 k' rfl hs
        · by_cases ha : a = q
          · subst ha
            have : a ≠ k' := fun e' => e e'.symm
            simp [lk, this, ih.2 k' e]
          · by_cases hb : a = k'
            · subst hb; simp [lk, e]
            · simp [lk, ha, hb, ih.2 k' e]
    split
    · rename_i e; exact (key M).1 k e.symm (e ▸ h)
    · rename_i e; exact (key M).2 k fun e' => e e'.symm
  · rename_i h
    rw [lk_append]
    simp only [Option.not_isSome_iff_eq_none] at h
    split
    · rename_i e; subst e; simp [h, lk]
    · rename_i e; simp [lk, e]
theorem mdel_keys (M : MM) (q : Int) (h : (M.map (·.1)).Nodup) : ((mdel M q).map (·.1)).Nodup := List.Nodup.sublist (List.Sublist.map _ List.filter_sublist) h
theorem lk_mdel (M : MM) (q k : Int) : lk (mdel M q) k = if q = k then none else lk M k := by
  induction M with
  | nil => simp [mdel, lk]
  | cons p M ih =>
    obtain ⟨a, u⟩ := p
    unfold mdel at ih ⊢
    by_cases ha : a = q
    · subst ha
      rw [List.filter_cons_of_neg (by simp), ih]
      by_cases hk : a = k <;> simp [lk, hk]
    · rw [List.filter_cons_of_pos (by simp [ha])]
      simp only [lk, ih]
      by_cases hk : q = k
      · subst hk; simp [ha]
      · simp [hk]

theorem MOk.key {es : Array MapEntry} {clk : Nat} {M : MM} (h : MOk es clk M) {e : MapEntry} (he : e ∈ es.toList) : ∃ p ∈ M, e.key = I p.1 ∧ e.val = p.2 := by
  have : (e.key, e.val) ∈ M.map fun p => (I p.1, p.2) := h.perm.mem_iff.1 (List.mem_map.2 ⟨e, he, rfl⟩)
  obtain ⟨p, hp, he⟩ := List.mem_map.1 this
  injection he with h1 h2
  exact ⟨p, hp, h1.symm, h2.symm⟩
theorem I_inj {a b : Int} (h : I a = I b) : a = b := by injection h
theorem find_spec (kk : IntKind) (q : Int) : ∀ (l : List MapEntry) (i : Nat), (∀ e ∈ l, ∃ k, e.key = I k) →
    (∃ j e, l[j]? = some e ∧ e.key = I q ∧ Instr.findNow (.int kk) (I q) l i = some (some (i + j, e.val))) ∨ ((∀ e ∈ l, e.key ≠ I q) ∧ Instr.findNow (.int kk) (I q) l i = some none)
  | [], i, _ => .inr ⟨by simp, rfl⟩
  | e :: l, i, h => by
    obtain ⟨k, hk⟩ := h e (by simp)
    by_cases hq : k = q
    · subst hq
      exact .inl ⟨0, e, rfl, hk, by simp [Instr.findNow, hk, Instr.sameNow, I]⟩
    · have hs : Instr.sameNow (.int kk) (I q) e.key = some false := by rw [hk]; simp [Instr.sameNow, I, Ne.symm hq]
      rcases find_spec kk q l (i + 1) (fun e he => h e (by simp [he])) with ⟨j, e', h1, h2, h3⟩ | ⟨h1, h2⟩
      · exact .inl ⟨j + 1, e', by simpa using h1, h2, by simp only [Instr.findNow, hs, h3]; congr 3; omega⟩
      · refine .inr ⟨fun e' he' => ?_, by simp only [Instr.findNow, hs, h2]⟩
        rcases List.mem_cons.1 he' with rfl | he'
        · rw [hk]; exact fun e => hq (I_inj e)
        · exact h1 e' he'
theorem MOk.find {es : Array MapEntry} {clk : Nat} {M : MM} (h : MOk es clk M) (kk : IntKind) (q : Int) :
    (∃ j e, es.toList[j]? = some e ∧ e.key = I q ∧ lk M q = some e.val ∧ Instr.findNow (.int kk) (I q) es.toList 0 = some (some (j, e.val))) ∨
    (lk M q = none ∧ (∀ e ∈ es.toList, e.key ≠ I q) ∧ Instr.findNow (.int kk) (I q) es.toList 0 = some none) := by
  rcases find_spec kk q es.toList 0 (fun e he => let ⟨p, _, h, _⟩ := h.key he; ⟨p.1, h⟩) with ⟨j, e, h1, h2, h3⟩ | ⟨h1, h2⟩
  · obtain ⟨p, hp, e1, e2⟩ := h.key (List.mem_of_getElem? h1)
    refine .inl ⟨j, e, h1, h2, ?_, by simpa using h3⟩
    rw [lk_mem h.nodup]
    have : p.1 = q := I_inj (e1.symm.trans h2)
    rw [← this, e2]; exact hp
  · refine .inr ⟨?_, h1, h2⟩
    rw [lk_none]
    intro p hp hq
    have : (I p.1, p.2) ∈ es.toList.map fun e => (e.key, e.val) := h.perm.mem_iff.2 (List.mem_map.2 ⟨p, hp, rfl⟩)
    obtain ⟨e, he, e1⟩ := List.mem_map.1 this
    injection e1 with e1 _
    exact h1 e he (by rw [e1, hq])
theorem run_checkInt {P : Program} {w : World} {t : TypeId} {kk : IntKind} {q : Int} (b : Bool) (hu : P.underlying t = some (.int kk)) : (Instr.checkKey b 10000 t (I q)).run P w = .ok () w := by
  have key : ∀ n, (Instr.checkKey b (n + 1) t (I q)).run P w = .ok () w := fun n => by
    unfold Instr.checkKey
    simp [underlying, program, Sem.run, hu, I]
  exact key 9999
theorem run_findInt {P : Program} {w : World} {t : TypeId} {kk : IntKind} {q : Int} {es : List MapEntry} {r : Option (Nat × Value)} (hu : P.underlying t = some (.int kk)) (h : Instr.findNow (.int kk) (I q) es 0 = some r) : (Instr.findKey t (I q) es).run P w = .ok r w := by
  simp [Instr.findKey, underlying, program, Sem.run, hu, h]

/-- the map r is told in the list -/
class HasM (L : List HProp) (r : Nat) (M : outParam MM) : Prop where
  out : ∀ w0 w, Sat w0 w L → ∃ es clk, MOk es clk M ∧ w.heap[r]? = some (.map es clk)
instance (priority := high) HasM.head {r : Nat} {M : MM} {L : List HProp} : HasM (mp r M :: L) r M := ⟨fun w0 w h => by
  obtain ⟨⟨es, clk⟩, h⟩ := h.ex
  obtain ⟨_, _, _, _, f, hf, _⟩ := h
  have := hf 0 _ rfl
  exact ⟨es, clk, this.1.1, this.2 r _ this.1.2⟩⟩
instance (priority := high) HasM.headE {r : Nat} {es : Array MapEntry} {clk : Nat} {M : MM} {L : List HProp} : HasM (mpE r es clk M :: L) r M := ⟨fun w0 w h => by
  obtain ⟨_, _, _, _, f, hf, _⟩ := h
  have := hf 0 _ rfl
  exact ⟨es, clk, this.1.1, this.2 r _ this.1.2⟩⟩
instance (priority := low) HasM.tail {A : HProp} {r : Nat} {M : MM} {L : List HProp} [h : HasM L r M] : HasM (A :: L) r M := ⟨fun w0 w hS => h.out w0 w hS.tail⟩
/-- the map r is among them; without it they are F -/
class RemM (L : List HProp) (r : Nat) (M : outParam MM) (F : outParam (List HProp)) : Prop where
  out : ∃ i, L[i]? = some (mp r M) ∧ F = L.eraseIdx i
instance (priority := high) RemM.head {r : Nat} {M : MM} {L : List HProp} : RemM (mp r M :: L) r M L := ⟨0, rfl, rfl⟩
instance (priority := low) RemM.tail {A : HProp} {r : Nat} {M : MM} {L F : List HProp} [h : RemM L r M F] : RemM (A :: L) r M (A :: F) := ⟨let ⟨i, h1, h2⟩ := h.out; ⟨i + 1, by simpa using h1, by simp [h2]⟩⟩
theorem RemM.sat {w0 w : World} {r : Nat} {M : MM} {L F : List HProp} (R : RemM L r M F) (h : Sat w0 w L) : ∃ es clk, MOk es clk M ∧ Sat w0 w (pt r (.map es clk) :: F) := by
  obtain ⟨i, h1, rfl⟩ := R.out
  obtain ⟨⟨es, clk⟩, h⟩ := (h.front h1).ex
  have hok : MOk es clk M := by
    obtain ⟨_, _, _, _, f, hf, _⟩ := h
    exact (hf 0 _ rfl).1.1
  exact ⟨es, clk, hok, h.weak fun m hm => hm.2⟩
theorem mp_shut {w0 w : World} {r clk : Nat} {es : Array MapEntry} {M : MM} {F : List HProp} (h : Sat w0 w (pt r (.map es clk) :: F)) (hok : MOk es clk M) : Sat w0 w (mp r M :: F) := Sat.ex_mk (A := fun p : Array MapEntry × Nat => fun m => MOk p.1 p.2 M ∧ m r = some (.map p.1 p.2, false)) (es, clk) (h.weak fun m hm => ⟨hok, hm⟩)

section
variable {c : Cx} {g : Option (Nat × Bool)} {E : Env} {L L' F : List HProp} {d : Option Tmp} {ty : TypeId} {pos : String} {af : Array Edge} {gu : Option (Nat × Bool)} {K : List KI}
variable {x y z : Operand} {t u e : TypeId} {k : IntKind} {v zv : Value} {r b n : Nat} {q : Int} {M : MM}

theorem v_lenM (hu : c.P.underlying t = some (.map u e)) (hx : ev g E x = some (.map (some r))) [h : HasM L r M] : OpV c g E L ⟨d, .call { callee := .builtin .len, args := #[x], argTypes := #[t] }, ty, pos, af, gu⟩ (I M.length) := .mk fun a w hE hg hS => by
  obtain ⟨es, clk, hok, hw⟩ := h.out _ _ hS
  have hl : es.size = M.length := by simpa using hok.perm.length_eq
  simp [execOp, resolve, invoke, builtin, Builtin.len_, underlying, program, getObj, Sem.run, hu, hE.ev hg hx, goInt, hw, hl]
theorem v_lookup (hu : c.P.underlying t = some (.map u e)) (hk : c.P.underlying u = some (.int .i64)) (hzv : ∀ w, (zeroValue e).run c.P w = .ok zv w) (hx : ev g E x = some (.map (some r))) (hy : ev g E y = some (I q)) (hv : (lk M q).getD zv = v) [h : HasM L r M] :
    OpV c g E L ⟨d, .lookup t x y false, ty, pos, af, gu⟩ v := .mk fun a w hE hg hS => by
  subst hv
  obtain ⟨es, clk, hok, hw⟩ := h.out _ _ hS
  rcases hok.find .i64 q with ⟨j, en, h1, h2, h3, h4⟩ | ⟨h1, h2, h3⟩
  · simp [execOp, hE.ev hg hx, hE.ev hg hy, Instr.lookup, underlying, program, getObj, Sem.run, Sem.run_bind, hu, hw, run_checkInt _ hk, run_findInt hk h4, h3]
  · simp [execOp, hE.ev hg hx, hE.ev hg hy, Instr.lookup, underlying, program, getObj, Sem.run, Sem.run_bind, hu, hw, run_checkInt _ hk, run_findInt hk h3, h1, hzv]
theorem v_lookupOk {bb : Bool} (hu : c.P.underlying t = some (.map u e)) (hk : c.P.underlying u = some (.int .i64)) (hzv : ∀ w, (zeroValue e).run c.P w = .ok zv w) (hx : ev g E x = some (.map (some r))) (hy : ev g E y = some (I q)) (hv : (lk M q).getD zv = v) (hb : (lk M q).isSome = bb) [h : HasM L r M] :
    OpV c g E L ⟨d, .lookup t x y true, ty, pos, af, gu⟩ (.tuple #[v, .bool bb]) := .mk fun a w hE hg hS => by
  subst hv hb
  obtain ⟨es, clk, hok, hw⟩ := h.out _ _ hS
  rcases hok.find .i64 q with ⟨j, en, h1, h2, h3, h4⟩ | ⟨h1, h2, h3⟩
  · simp [execOp, hE.ev hg hx, hE.ev hg hy, Instr.lookup, underlying, program, getObj, Sem.run, Sem.run_bind, hu, hw, run_checkInt _ hk, run_findInt hk h4, h3]
  · simp [execOp, hE.ev hg hx, hE.ev hg hy, Instr.lookup, underlying, program, getObj, Sem.run, Sem.run_bind, hu, hw, run_checkInt _ hk, run_findInt hk h3, h1, hzv]
theorem MOk.nil : MOk #[] 0 [] := ⟨by simp, by simp, by simp, by simp⟩
theorem l_makeMap : OpL c g E L ⟨d, .makeMap t none, ty, pos, af, gu⟩ fun v L' => ∃ b, v = .map (some b) ∧ L' = mp b [] :: L :=
  .of_run fun a w hE hg hS => ⟨.map (some w.heap.size), _, _, by simp [execOp, Instr.makeMap, newObj, Sem.run], mp_shut (hS.alloc (.map #[] 0)) MOk.nil, _, rfl, rfl⟩

open Classical in
theorem MOk.upd {es : Array MapEntry} {clk j : Nat} {en : MapEntry} (h : MOk es clk M) (h1 : es.toList[j]? = some en) (h2 : en.key = I q) (h3 : lk M q = some en.val) (v : Value) : MOk (es.modify j fun e => { e with key := I q, val := v }) clk (mset M q v) := by
  have hj : j < es.toList.length := (List.getElem?_eq_some_iff.1 h1).1
  have hb : (es.modify j fun e => { e with key := I q, val := v }).toList.map (·.born) = es.toList.map (·.born) := by
    apply List.ext_getElem?
    intro i
    simp only [List.getElem?_map, Array.getElem?_toList, Array.getElem?_modify]
    split
    · cases es[i]? <;> rfl
    · rfl
  refine ⟨?_, mset_keys M q v h.nodup, fun e he => ?_, by rw [hb]; exact h.bnd⟩
  · have e1 : (es.modify j fun e => { e with key := I q, val := v }).toList.map (fun e => (e.key, e.val)) = (es.toList.map fun e => (e.key, e.val)).map fun p => if p.1 = I q then (I q, v) else p := by
      apply List.ext_getElem?
      intro i
      simp only [List.getElem?_map, Array.getElem?_toList, Array.getElem?_modify, Option.map_map]
      by_cases hij : j = i
      · subst hij
        have : es[j]? = some en := by simpa using h1
        simp [this, h2]
      · simp only [hij, if_false]
        cases hi : es[i]? with
        | none => rfl
        | some e' =>
          simp only [Option.map_some, Function.comp_apply]
          rw [if_neg]
          intro hk
          have hnd : (es.toList.map (·.key)).Nodup := by
            have : (es.toList.map (·.key)).Perm ((M.map (·.1)).map I) := by
              have := h.perm.map (·.1)
              simpa [List.map_map, Function.comp_def] using this
            rw [this.nodup_iff]
            exact List.Pairwise.map I (fun a b hab e => hab (I_inj e)) h.nodup
          have hi' : es.toList[i]? = some e' := by simpa using hi
          have il : i < es.toList.length := (List.getElem?_eq_some_iff.1 hi').1
          have hp := List.pairwise_iff_getElem.1 hnd
          have g1 : es.toList[j] = en := (List.getElem?_eq_some_iff.1 h1).2
          have g2 : es.toList[i] = e' := (List.getElem?_eq_some_iff.1 hi').2
          rcases Nat.lt_or_gt_of_ne hij with hlt | hlt
          · refine hp j i (by simpa using hj) (by simpa using il) hlt ?_
            rw [List.getElem_map, List.getElem_map, g1, g2, h2, hk]
          · refine hp i j (by simpa using il) (by simpa using hj) hlt ?_
            rw [List.getElem_map, List.getElem_map, g1, g2, h2, hk]
    rw [e1]
    refine (h.perm.map _).trans (List.Perm.of_eq ?_)
    unfold mset
    rw [if_pos (by simp [h3]), List.map_map, List.map_map]
    apply List.map_congr_left
    intro p _
    simp only [Function.comp_apply]
    by_cases hp : p.1 = q
    · simp [hp]
    · have : I p.1 ≠ I q := fun e => hp (I_inj e)
      simp [hp, this]
  · have : e.born ∈ es.toList.map (·.born) := by rw [← hb]; exact List.mem_map.2 ⟨e, he, rfl⟩
    obtain ⟨e', he', e2⟩ := List.mem_map.1 this
    rw [← e2]; exact h.born e' he'
theorem MOk.add {es : Array MapEntry} {clk : Nat} (h : MOk es clk M) (h3 : lk M q = none) (v : Value) : MOk (es.push { key := I q, val := v, born := clk }) (clk + 1) (mset M q v) := by
  refine ⟨?_, mset_keys M q v h.nodup, fun e he => ?_, ?_⟩
  · unfold mset
    rw [if_neg (by simp [h3])]
    simp only [Array.toList_push, List.map_append, List.map_cons, List.map_nil]
    exact h.perm.append_right _
  · simp at he
    rcases he with he | rfl
    · have := h.born e (by simpa using he); omega
    · simp
  · simp only [Array.toList_push, List.map_append, List.map_cons, List.map_nil]
    rw [List.nodup_append]
    refine ⟨h.bnd, by simp, fun a ha b hb => ?_⟩
    simp at hb; subst hb
    obtain ⟨e, he, rfl⟩ := List.mem_map.1 ha
    exact Nat.ne_of_lt (h.born e he)
theorem run_stays {P : Program} {w : World} (q : Int) : (Instr.keyThatStays (I q) (I q)).run P w = .ok (I q) w := by
  simp [Instr.keyThatStays, Instr.sameBits, I, Sem.run_pure]
theorem run_setMap {P : Program} {w : World} {es : Array MapEntry} {clk : Nat} {o' : Obj} (h : w.heap[r]? = some (.map es clk)) : (setObj r o').run P w = .ok () (setB w r o') := by
  simp [setObj, Sem.run, h, setB]
theorem l_mapUpdate (hu : c.P.underlying t = some (.map u e)) (hk : c.P.underlying u = some (.int .i64)) (hx : ev g E x = some (.map (some r))) (hy : ev g E y = some (I q)) (hz : ev g E z = some v) [R : RemM L r M F] :
    OpL c g E L ⟨d, .mapUpdate t x y z, ty, pos, af, gu⟩ fun _ L'' => L'' = mp r (mset M q v) :: F :=
  .of_skip fun a w hE hg hS => by
    obtain ⟨es, clk, hok, hS⟩ := R.sat hS
    have hw := hS.at_
    rcases hok.find .i64 q with ⟨j, en, h1, h2, h3, h4⟩ | ⟨h1, h2, h3⟩
    · have h1' : es[j]? = some en := by simpa using h1
      refine ⟨setB w r (.map (es.modify j fun e => { e with key := I q, val := v }) clk), _, ?_, mp_shut (hS.set rfl) (hok.upd h1 h2 h3 v), rfl⟩
      simp [execOp, hE.ev hg hx, hE.ev hg hy, hE.ev hg hz, Instr.mapUpdate, underlying, program, getObj, Sem.run, Sem.run_bind, hu, hw, run_checkInt _ hk, run_findInt hk h4, h1', h2, run_stays, run_setMap hw]
    · refine ⟨setB w r (.map (es.push { key := I q, val := v, born := clk }) (clk + 1)), _, ?_, mp_shut (hS.set rfl) (hok.add h1 v), rfl⟩
      simp [execOp, hE.ev hg hx, hE.ev hg hy, hE.ev hg hz, Instr.mapUpdate, underlying, program, getObj, Sem.run, Sem.run_bind, hu, hw, run_checkInt _ hk, run_findInt hk h3, run_setMap hw]
theorem g_map (r : Nat) (M' : MM) [R : RemM L r M F] (h : M.Perm M') (k : G c K E (mp r M' :: F)) : G c K E L := fun a w hE hS => by
  obtain ⟨es, clk, hok, hS⟩ := R.sat hS
  exact k a w hE (mp_shut hS (hok.perm_ h))
theorem g_mapNodup (r : Nat) [R : HasM L r M] (k : (M.map (·.1)).Nodup → G c K E L) : G c K E L := fun a w hE hS => by
  obtain ⟨es, clk, hok, _⟩ := R.out _ _ hS
  exact k hok.nodup a w hE hS
end
end Go.Sl
