/- The layer, part C: several texts in one. No condition. -/
import Derived.Test.YthdjckbjjfiopacGreatDoorPartA
import Derived.Laws.Externs
import Derived.Lib.Overlaps
import Derived.Maps.RangeRun
/- What single operations do: append a part of another slice. No condition. -/
namespace Go.Sl
set_option linter.unusedVariables false
set_option linter.unusedSimpArgs false
section
variable {c : Cx} {g : Option (Nat × Bool)} {E : Env} {L L' : List HProp} {d : Option Tmp} {ty : TypeId} {pos : String} {af : Array Edge} {gu : Option (Nat × Bool)}
variable {x y z y3 : Operand} {t u e : TypeId} {k : IntKind} {v : Value} {s : Option Addr} {b o i j n sz cap off : Nat}
theorem SlR.part {F : List HProp} {s2 ya : Option Addr} {p m : Nat} {rows2 : List (List Value)} (Y : SlR F s2 sz rows2) (hya : At ya s2 p sz m) (hpm : p + m ≤ rows2.length) : SlR F ya sz ((rows2.drop p).take m) := ⟨fun w0 w h => by
  by_cases hm0 : m = 0
  · left; subst hm0; rfl
  · rcases Y.out w0 w h with h | ⟨b, off, o, rfl, hh, hR⟩
    · subst h; simp at hpm; omega
    · exact .inr ⟨b, off + p * sz, o, hya.addr (by omega), hh, hR.part⟩⟩
/-- the rows fit -/
theorem g_cap {K : List KI} {T : Nat} {rows : List (List Value)} {F : List HProp} (s : Option Addr) [R : OwR L s T sz cap rows F] (h : rows.length ≤ cap → G c K E L) : G c K E L := fun a w hE hS => h (by
  rcases owL_open (R.sat hS) with ⟨_, h1, h2, _⟩ | ⟨b, cs, h1, h2, h3, _⟩
  · rw [h1]; simp
  · exact h3) a w hE hS
end
end Go.Sl

/- Two results, the first of which lies in memory. No condition. -/
namespace Go.Sl
set_option linter.unusedVariables false
set_option linter.unusedSimpArgs false
section
variable {c : Cx} {E : Env} {L : List HProp} {K : List KI} {t : TypeId} {b o sz : Nat}
theorem cellT_fpost {a : Act} {w : World} {r q : Nat} {ob : Obj} {vs : List Value} {v2 : Value} {Post : List HProp} (hf : c.fn.results.toList = [.cell r t, .tmp q]) (hx : look none E r = some (ptr b o)) (hq : look none E q = some v2) (ha : ∀ w, (isAgg t).run c.P w = .ok true w) (hz : ∀ w, (sizeOf t).run c.P w = .ok sz w) [h : Has L b ob] (hl : vs.length = sz)
    (hv : ∀ k v, vs[k]? = some v → objCell ob (o + k) = some v) (hE : EOk c.n E a) (hS : Sat c.w0 w L) [S : Sub L Post] (hR : c.R (.tuple #[.agg vs.toArray, v2]) Post) (hds : c.n.ds = [] := by rfl) : (a.defers = [] ∧ ∃ v, (results c.fn a.tmps).run c.P w = .ok v w ∧ ∃ L, Sat c.w0 w L ∧ c.R v L) ∨ ∃ D w', a.defers = [markD D] ∧ (Instr.takeDeferred D).run c.P w = .ok [] w' ∧ ∃ v, (results c.fn a.tmps).run c.P w' = .ok v w' ∧ ∃ L, Sat c.w0 w' L ∧ c.R v L := by
  have hh := h.out _ _ hS
  have hload := run_loadCells (P := c.P) (w := w) b sz 0 o #[] vs hl (fun k v hk => by simpa using cell_of hh (hv k v hk))
  have h1 := hE.look (gd_none a) hx
  have h2 := hE.look (gd_none a) hq
  refine .inl ⟨hE.defers.trans hds, .tuple #[.agg vs.toArray, v2], ?_, Post, S.sat hS, hR⟩
  rw [results_eq, Array.mapM_eq_mapM_toList, hf]
  simp [resSem, Array.getD_eq_getD_getElem?, h1, h2, asAddr, loadVar, ha, hz, loadCells, hload]
theorem g_retCT {r q : Nat} {ob : Obj} {v2 : Value} {Post : List HProp} (vs : List Value) (hR : c.R = R1 (.tuple #[.agg vs.toArray, v2]) Post) (hf : c.fn.results.toList = [.cell r t, .tmp q]) (hx : look none E r = some (ptr b o)) (hq : look none E q = some v2) (ha : ∀ w, (isAgg t).run c.P w = .ok true w) (hz : ∀ w, (sizeOf t).run c.P w = .ok sz w) [h : Has L b ob] (hl : vs.length = sz)
    (hv : ∀ k v, vs[k]? = some v → objCell ob (o + k) = some v) [S : Sub L Post] (hds : c.n.ds = [] := by rfl) : G c (.code .ret :: K) E L :=
  fun a w hE hS => wp_ret (kq_ret (cellT_fpost (hds := hds) (h := h) (S := S) hf hx hq ha hz hl hv hE hS (by rw [hR]; exact ⟨rfl, rfl⟩)))
theorem arr_ld {T : TypeId} {f : Nat × Nat} {vs : List Value} : ∀ k v, vs[k]? = some v → objCell (.cells vs.toArray T f) (0 + k) = some v := fun k v h => by simpa [objCell] using h
end
end Go.Sl

/- What single operations do: functions of the model, copies of parts, appends of noughts. No condition. -/
namespace Go.Sl
set_option linter.unusedVariables false
set_option linter.unusedSimpArgs false
section
variable {c : Cx} {g : Option (Nat × Bool)} {E : Env} {L L' : List HProp} {d : Option Tmp} {ty : TypeId} {pos : String} {af : Array Edge} {gu : Option (Nat × Bool)} {K : List KI}
variable {x y z : Operand} {t u e : TypeId} {k : IntKind} {v v1 v2 : Value} {s : Option Addr} {b o i j n sz cap off : Nat}
end
end Go.Sl

/- Two owned slices lie apart. No condition. -/
namespace Go.Sl
set_option linter.unusedVariables false
set_option linter.unusedSimpArgs false
section
variable {c : Cx} {g : Option (Nat × Bool)} {E : Env} {L L' : List HProp} {d : Option Tmp} {ty : TypeId} {pos : String} {af : Array Edge} {gu : Option (Nat × Bool)} {K : List KI}
variable {x y z : Operand} {t u e : TypeId} {k : IntKind} {v v1 v2 : Value} {s : Option Addr} {b o i j n sz cap off : Nat}
theorem Sat.ne {w0 w : World} {b b' : Nat} {o o' : Obj} (h : Sat w0 w (pt b o :: pt b' o' :: L)) : b ≠ b' := by
  obtain ⟨_, _, _, _, f, hf, hd⟩ := h
  have h0 : f 0 b = some (o, false) := (hf 0 _ rfl).1
  have h1 : f 1 b' = some (o', false) := (hf 1 _ rfl).1
  intro e
  subst e
  have := (hd 0 1 (by simp) (by simp) (by decide) b _ _ h0 h1).1
  cases this
end
end Go.Sl

/- Draws whose guard is known not to hold; a struct stored into a slice. No condition. -/
namespace Go.Sl
set_option linter.unusedVariables false
set_option linter.unusedSimpArgs false
section
variable {c : Cx} {E : Env} {L : List HProp} {d : Nat} {ty : TypeId} {pos : String} {af : Array Edge} {K : List KI} {all : List Oper} {op : Op} {N : Value → List HProp → Prop} {Lf : List HProp} {pl : List (Nat × Bool)}
theorem d_no {i j s : Nat} {vs : Value} {want : Bool} (hi : all[i]? = some ⟨some d, op, ty, pos, af, some (j, want)⟩) (hj : (all[j]?).bind (·.dst) = some s) (hs : look none E s = some vs) (hw : notB vs want = true) [SC : Sub L Lf] (hd : dOk c.n d E = true)
    (k : G c (.plan all (fun w => Sat c.w0 w Lf) pl :: K) ((d, none, undef) :: E) L) : G c (.plan all (fun w => Sat c.w0 w Lf) ((i, false) :: pl) :: K) E L := fun a w hE hS => by
  have h1 := hE.look (gd_none a) hs
  have hy : yielded all.toArray a.tmps j ≠ some want := by
    cases vs <;> simp [yielded, hj, h1, notB] at hw ⊢
    all_goals (rename_i b; cases b <;> cases want <;> simp at hw ⊢)
  exact ⟨SC.sat hS, _, undef, by simpa using hi, .inr ⟨by simp [Region.wanted, hy], rfl⟩, k _ w (hE.put1 hd) hS⟩
end
section
variable {c : Cx} {g : Option (Nat × Bool)} {E : Env} {L L' : List HProp} {d : Option Tmp} {ty : TypeId} {pos : String} {af : Array Edge} {gu : Option (Nat × Bool)}
variable {x y z : Operand} {t u e : TypeId} {k : IntKind} {v : Value} {s : Option Addr} {b o i j n sz cap off : Nat}
theorem l_storeAS {rows : List (List Value)} {vs : List Value} {T : Nat} {F : List HProp} (hz : ∀ w, (sizeOf t).run c.P w = .ok sz w) (hx : ev g E x = some (adr s (j * sz))) (hy : ev g E y = some (.agg vs.toArray)) (hl : vs.length = sz) (h1 : ones vs = true) [R : OwR L s T sz cap rows F] (hj : j < rows.length) (h0 : 0 < sz) :
    OpL c g E L ⟨d, .store t x y, ty, pos, af, gu⟩ fun _ L' => L' = owL T sz s cap (rows.set j vs) :: F :=
  .of_skip fun a w hE hg hS => by
    rcases owL_open (R.sat hS) with ⟨rfl, rfl, rfl, _⟩ | ⟨b, cs, rfl, a1, a2, a3, a4, hP⟩
    · simp at hj
    · obtain ⟨hle, hrows⟩ := copy_rows (T := T) (l := j) (news := [vs]) h0 a1 a2 (by simp; omega) a3 (by simpa using hl) a4
      have hset : rows.take j ++ [vs] ++ rows.drop (j + [vs].length) = rows.set j vs := by
        rw [List.set_eq_take_append_cons_drop, if_pos hj]; simp
      rw [hset] at hrows
      have hfl : [vs].flatten = vs := by simp
      rw [hfl] at hle hrows
      have hr := run_storeCells (P := c.P) b (j * sz) T vs w cs 0 hP.at_ (by omega) h1
      have e1 : a.eval x = ptr b (j * sz) := by
        rw [hE.ev hg hx]
        simp [adr, add_mk, ptr]
      refine ⟨_, _, ?_, owL_shut (hP.set (o' := .cells (splice cs (j * sz) vs) T (0, 0)) rfl) (by rw [splice_size, a1]) (by simp; exact a2) (fun r hr => ?_) hrows, rfl⟩
      · simp only [execOp, e1, hE.ev hg hy, Instr.storeAt, Instr.sureAddr, storeVar]
        simp [hz, hl, Value.cells, hr, ptr, setB, Sem.run]
      · rcases List.mem_or_eq_of_mem_set hr with h | h
        · exact a3 r h
        · rw [h]; exact hl
end
end Go.Sl

/- Maps whose keys are whole numbers: what they hold as a list of pairs, told up to order; make, look-up, update, delete, len, range. No condition. -/
namespace Go.Sl
set_option linter.unusedVariables false
set_option linter.unusedSimpArgs false

abbrev MM := List (Int × Value)
structure MOk (es : Array MapEntry) (clk : Nat) (M : MM) : Prop where
  perm : (es.toList.map fun e => (e.key, e.val)).Perm (M.map fun p => (I p.1, p.2))
  nodup : (M.map (·.1)).Nodup
  born : ∀ e ∈ es.toList, e.born < clk
  bnd : (es.toList.map (·.born)).Nodup
/-- block r is a map with these entries, in whatever order -/
def mp (r : Nat) (M : MM) : HProp := hex fun p : Array MapEntry × Nat => fun m => MOk p.1 p.2 M ∧ m r = some (.map p.1 p.2, false)
/-- the same, its inner form told -/
def mpE (r : Nat) (es : Array MapEntry) (clk : Nat) (M : MM) : HProp := fun m => MOk es clk M ∧ m r = some (.map es clk, false)
def lk : MM → Int → Option Value
  | [], _ => none
  | (k, v) :: M, q => if k = q then some v else lk M q
/-- M with v at q -/
def mset (M : MM) (q : Int) (v : Value) : MM := if (lk M q).isSome then M.map fun p => if p.1 = q then (q, v) else p else M ++ [(q, v)]
def mdel (M : MM) (q : Int) : MM := M.filter fun p => !decide (p.1 = q)

theorem lk_none {M : MM} {q : Int} : lk M q = none ↔ ∀ p ∈ M, p.1 ≠ q := by
  induction M with
  | nil => simp [lk]
  | cons p M ih =>
    obtain ⟨k, v⟩ := p
    simp only [lk]
    split
    · rename_i h; simp [h]
    · rename_i h; simp [ih, h]
theorem lk_mem {M : MM} (h : (M.map (·.1)).Nodup) {q : Int} {v : Value} : lk M q = some v ↔ (q, v) ∈ M := by
  induction M with
  | nil => simp [lk]
  | cons p M ih =>
    obtain ⟨k, u⟩ := p
    simp only [List.map_cons, List.nodup_cons] at h
    simp only [lk]
    split
    · rename_i hk
      subst hk
      constructor
      · intro e; injection e with e; subst e; simp
      · intro hm
        rcases List.mem_cons.1 hm with e | hm
        · injection e with _ e; rw [e]
        · exact absurd (List.mem_map.2 ⟨_, hm, rfl⟩) h.1
    · rename_i hk
      rw [ih h.2]
      constructor
      · intro hm; exact List.mem_cons_of_mem _ hm
      · intro hm
        rcases List.mem_cons.1 hm with e | hm
        · injection e with e _; exact absurd e.symm hk
        · exact hm
theorem nodup_pairs {M : MM} (h : (M.map (·.1)).Nodup) : M.Nodup := by
  induction M with
  | nil => exact List.Pairwise.nil
  | cons p M ih =>
    simp only [List.map_cons, List.nodup_cons] at h
    exact List.nodup_cons.2 ⟨fun hm => h.1 (List.mem_map.2 ⟨_, hm, rfl⟩), ih h.2⟩
/-- two lists that answer alike are alike up to order -/
theorem perm_of_lk {M M' : MM} (h : (M.map (·.1)).Nodup) (h' : (M'.map (·.1)).Nodup) (he : ∀ q, lk M q = lk M' q) : M.Perm M' := by
  refine (List.perm_ext_iff_of_nodup (nodup_pairs h) (nodup_pairs h')).2 fun ⟨q, v⟩ => ?_
  rw [← lk_mem h, ← lk_mem h', he]
theorem MOk.perm_ {es : Array MapEntry} {clk : Nat} {M M' : MM} (h : MOk es clk M) (hp : M.Perm M') : MOk es clk M' := ⟨h.perm.trans (hp.map _), (hp.map (·.1)).nodup_iff.1 h.nodup, h.born, h.bnd⟩
theorem mset_keys (M : MM) (q : Int) (v : Value) (h : (M.map (·.1)).Nodup) : ((mset M q v).map (·.1)).Nodup := by
  unfold mset
  split
  · have : (M.map fun p => if p.1 = q then (q, v) else p).map (·.1) = M.map (·.1) := by
      rw [List.map_map]
      apply List.map_congr_left
      intro p _
      simp only [Function.comp_apply]
      split <;> simp_all
    rw [this]; exact h
  · rename_i hn
    simp only [Option.not_isSome_iff_eq_none] at hn
    rw [lk_none] at hn
    rw [List.map_append, List.nodup_append]
    refine ⟨h, by simp, fun a ha b hb => ?_⟩
    simp at hb; subst hb
    obtain ⟨p, hp, rfl⟩ := List.mem_map.1 ha
    exact hn p hp
theorem lk_append (M N : MM) (q : Int) : lk (M ++ N) q = (lk M q).or (lk N q) := by
  induction M with
  | nil => simp [lk]
  | cons p M ih => obtain ⟨k, v⟩ := p; simp only [List.cons_append, lk]; split <;> simp [ih]
theorem lk_mset (M : MM) (q : Int) (v : Value) (k : Int) : lk (mset M q v) k = if q = k then some v else lk M k := by
  unfold mset
  split
  · rename_i h
    have key : ∀ N : MM, (∀ k', k' = q → (lk N k').isSome → lk (N.map fun p => if p.1 = q then (q, v) else p) k' = some v) ∧ (∀ k', k' ≠ q → lk (N.map fun p => if p.1 = q then (q, v) else p) k' = lk N k') := by
      intro N
      induction N with
      | nil => exact ⟨fun k' _ h => by simp [lk] at h, fun k' _ => rfl⟩
      | cons p N ih =>
        obtain ⟨a, u⟩ := p
        refine ⟨fun k' e hs => ?_, fun k' e => ?_⟩
        · subst e
          by_cases ha : a = k'
          · simp [lk, ha]
          · simp [lk, ha] at hs ⊢; exact ih.1 k' rfl hs
        · by_cases ha : a = q
          · subst ha
            have : a ≠ k' := fun e' => e e'.symm
            simp [lk, this, ih.2 k' e]
          · by_cases hb : a = k'
            · subst hb; simp [lk, e]
            · simp [lk, ha, hb, ih.2 k' e]
    split
    · rename_i e; exact (key M).1 k e.symm (e ▸ h)
    · rename_i e; exact (key M).2 k fun e' => e e'.symm
  · rename_i h
    rw [lk_append]
    simp only [Option.not_isSome_iff_eq_none] at h
    split
    · rename_i e; subst e; simp [h, lk]
    · rename_i e; simp [lk, e]
theorem mdel_keys (M : MM) (q : Int) (h : (M.map (·.1)).Nodup) : ((mdel M q).map (·.1)).Nodup := List.Nodup.sublist (List.Sublist.map _ List.filter_sublist) h
theorem lk_mdel (M : MM) (q k : Int) : lk (mdel M q) k = if q = k then none else lk M k := by
  induction M with
  | nil => simp [mdel, lk]
  | cons p M ih =>
    obtain ⟨a, u⟩ := p
    unfold mdel at ih ⊢
    by_cases ha : a = q
    · subst ha
      rw [List.filter_cons_of_neg (by simp), ih]
      by_cases hk : a = k <;> simp [lk, hk]
    · rw [List.filter_cons_of_pos (by simp [ha])]
      simp only [lk, ih]
      by_cases hk : q = k
      · subst hk; simp [ha]
      · simp [hk]

theorem MOk.key {es : Array MapEntry} {clk : Nat} {M : MM} (h : MOk es clk M) {e : MapEntry} (he : e ∈ es.toList) : ∃ p ∈ M, e.key = I p.1 ∧ e.val = p.2 := by
  have : (e.key, e.val) ∈ M.map fun p => (I p.1, p.2) := h.perm.mem_iff.1 (List.mem_map.2 ⟨e, he, rfl⟩)
  obtain ⟨p, hp, he⟩ := List.mem_map.1 this
  injection he with h1 h2
  exact ⟨p, hp, h1.symm, h2.symm⟩
theorem I_inj {a b : Int} (h : I a = I b) : a = b := by injection h
theorem find_spec (kk : IntKind) (q : Int) : ∀ (l : List MapEntry) (i : Nat), (∀ e ∈ l, ∃ k, e.key = I k) →
    (∃ j e, l[j]? = some e ∧ e.key = I q ∧ Instr.findNow (.int kk) (I q) l i = some (some (i + j, e.val))) ∨ ((∀ e ∈ l, e.key ≠ I q) ∧ Instr.findNow (.int kk) (I q) l i = some none)
  | [], i, _ => .inr ⟨by simp, rfl⟩
  | e :: l, i, h => by
    obtain ⟨k, hk⟩ := h e (by simp)
    by_cases hq : k = q
    · subst hq
      exact .inl ⟨0, e, rfl, hk, by simp [Instr.findNow, hk, Instr.sameNow, I]⟩
    · have hs : Instr.sameNow (.int kk) (I q) e.key = some false := by rw [hk]; simp [Instr.sameNow, I, Ne.symm hq]
      rcases find_spec kk q l (i + 1) (fun e he => h e (by simp [he])) with ⟨j, e', h1, h2, h3⟩ | ⟨h1, h2⟩
      · exact .inl ⟨j + 1, e', by simpa using h1, h2, by simp only [Instr.findNow, hs, h3]; congr 3; omega⟩
      · refine .inr ⟨fun e' he' => ?_, by simp only [Instr.findNow, hs, h2]⟩
        rcases List.mem_cons.1 he' with rfl | he'
        · rw [hk]; exact fun e => hq (I_inj e)
        · exact h1 e' he'
theorem MOk.find {es : Array MapEntry} {clk : Nat} {M : MM} (h : MOk es clk M) (kk : IntKind) (q : Int) :
    (∃ j e, es.toList[j]? = some e ∧ e.key = I q ∧ lk M q = some e.val ∧ Instr.findNow (.int kk) (I q) es.toList 0 = some (some (j, e.val))) ∨
    (lk M q = none ∧ (∀ e ∈ es.toList, e.key ≠ I q) ∧ Instr.findNow (.int kk) (I q) es.toList 0 = some none) := by
  rcases find_spec kk q es.toList 0 (fun e he => let ⟨p, _, h, _⟩ := h.key he; ⟨p.1, h⟩) with ⟨j, e, h1, h2, h3⟩ | ⟨h1, h2⟩
  · obtain ⟨p, hp, e1, e2⟩ := h.key (List.mem_of_getElem? h1)
    refine .inl ⟨j, e, h1, h2, ?_, by simpa using h3⟩
    rw [lk_mem h.nodup]
    have : p.1 = q := I_inj (e1.symm.trans h2)
    rw [← this, e2]; exact hp
  · refine .inr ⟨?_, h1, h2⟩
    rw [lk_none]
    intro p hp hq
    have : (I p.1, p.2) ∈ es.toList.map fun e => (e.key, e.val) := h.perm.mem_iff.2 (List.mem_map.2 ⟨p, hp, rfl⟩)
    obtain ⟨e, he, e1⟩ := List.mem_map.1 this
    injection e1 with e1 _
    exact h1 e he (by rw [e1, hq])
theorem run_checkInt {P : Program} {w : World} {t : TypeId} {kk : IntKind} {q : Int} (b : Bool) (hu : P.underlying t = some (.int kk)) : (Instr.checkKey b 10000 t (I q)).run P w = .ok () w := by
  have key : ∀ n, (Instr.checkKey b (n + 1) t (I q)).run P w = .ok () w := fun n => by
    unfold Instr.checkKey
    simp [underlying, program, Sem.run, hu, I]
  exact key 9999
theorem run_findInt {P : Program} {w : World} {t : TypeId} {kk : IntKind} {q : Int} {es : List MapEntry} {r : Option (Nat × Value)} (hu : P.underlying t = some (.int kk)) (h : Instr.findNow (.int kk) (I q) es 0 = some r) : (Instr.findKey t (I q) es).run P w = .ok r w := by
  simp [Instr.findKey, underlying, program, Sem.run, hu, h]

/-- the map r is told in the list -/
class HasM (L : List HProp) (r : Nat) (M : outParam MM) : Prop where
  out : ∀ w0 w, Sat w0 w L → ∃ es clk, MOk es clk M ∧ w.heap[r]? = some (.map es clk)
instance (priority := high) HasM.head {r : Nat} {M : MM} {L : List HProp} : HasM (mp r M :: L) r M := ⟨fun w0 w h => by
  obtain ⟨⟨es, clk⟩, h⟩ := h.ex
  obtain ⟨_, _, _, _, f, hf, _⟩ := h
  have := hf 0 _ rfl
  exact ⟨es, clk, this.1.1, this.2 r _ this.1.2⟩⟩
instance (priority := high) HasM.headE {r : Nat} {es : Array MapEntry} {clk : Nat} {M : MM} {L : List HProp} : HasM (mpE r es clk M :: L) r M := ⟨fun w0 w h => by
  obtain ⟨_, _, _, _, f, hf, _⟩ := h
  have := hf 0 _ rfl
  exact ⟨es, clk, this.1.1, this.2 r _ this.1.2⟩⟩
instance (priority := low) HasM.tail {A : HProp} {r : Nat} {M : MM} {L : List HProp} [h : HasM L r M] : HasM (A :: L) r M := ⟨fun w0 w hS => h.out w0 w hS.tail⟩
/-- the map r is among them; without it they are F -/
class RemM (L : List HProp) (r : Nat) (M : outParam MM) (F : outParam (List HProp)) : Prop where
  out : ∃ i, L[i]? = some (mp r M) ∧ F = L.eraseIdx i
instance (priority := high) RemM.head {r : Nat} {M : MM} {L : List HProp} : RemM (mp r M :: L) r M L := ⟨0, rfl, rfl⟩
instance (priority := low) RemM.tail {A : HProp} {r : Nat} {M : MM} {L F : List HProp} [h : RemM L r M F] : RemM (A :: L) r M (A :: F) := ⟨let ⟨i, h1, h2⟩ := h.out; ⟨i + 1, by simpa using h1, by simp [h2]⟩⟩
theorem RemM.sat {w0 w : World} {r : Nat} {M : MM} {L F : List HProp} (R : RemM L r M F) (h : Sat w0 w L) : ∃ es clk, MOk es clk M ∧ Sat w0 w (pt r (.map es clk) :: F) := by
  obtain ⟨i, h1, rfl⟩ := R.out
  obtain ⟨⟨es, clk⟩, h⟩ := (h.front h1).ex
  have hok : MOk es clk M := by
    obtain ⟨_, _, _, _, f, hf, _⟩ := h
    exact (hf 0 _ rfl).1.1
  exact ⟨es, clk, hok, h.weak fun m hm => hm.2⟩
theorem mp_shut {w0 w : World} {r clk : Nat} {es : Array MapEntry} {M : MM} {F : List HProp} (h : Sat w0 w (pt r (.map es clk) :: F)) (hok : MOk es clk M) : Sat w0 w (mp r M :: F) := Sat.ex_mk (A := fun p : Array MapEntry × Nat => fun m => MOk p.1 p.2 M ∧ m r = some (.map p.1 p.2, false)) (es, clk) (h.weak fun m hm => ⟨hok, hm⟩)

section
variable {c : Cx} {g : Option (Nat × Bool)} {E : Env} {L L' F : List HProp} {d : Option Tmp} {ty : TypeId} {pos : String} {af : Array Edge} {gu : Option (Nat × Bool)} {K : List KI}
variable {x y z : Operand} {t u e : TypeId} {k : IntKind} {v zv : Value} {r b n : Nat} {q : Int} {M : MM}

theorem v_lenM (hu : c.P.underlying t = some (.map u e)) (hx : ev g E x = some (.map (some r))) [h : HasM L r M] : OpV c g E L ⟨d, .call { callee := .builtin .len, args := #[x], argTypes := #[t] }, ty, pos, af, gu⟩ (I M.length) := .mk fun a w hE hg hS => by
  obtain ⟨es, clk, hok, hw⟩ := h.out _ _ hS
  have hl : es.size = M.length := by simpa using hok.perm.length_eq
  simp [execOp, resolve, invoke, builtin, Builtin.len_, underlying, program, getObj, Sem.run, hu, hE.ev hg hx, goInt, hw, hl]
theorem v_lookup (hu : c.P.underlying t = some (.map u e)) (hk : c.P.underlying u = some (.int .i64)) (hzv : ∀ w, (zeroValue e).run c.P w = .ok zv w) (hx : ev g E x = some (.map (some r))) (hy : ev g E y = some (I q)) (hv : (lk M q).getD zv = v) [h : HasM L r M] :
    OpV c g E L ⟨d, .lookup t x y false, ty, pos, af, gu⟩ v := .mk fun a w hE hg hS => by
  subst hv
  obtain ⟨es, clk, hok, hw⟩ := h.out _ _ hS
  rcases hok.find .i64 q with ⟨j, en, h1, h2, h3, h4⟩ | ⟨h1, h2, h3⟩
  · simp [execOp, hE.ev hg hx, hE.ev hg hy, Instr.lookup, underlying, program, getObj, Sem.run, Sem.run_bind, hu, hw, run_checkInt _ hk, run_findInt hk h4, h3]
  · simp [execOp, hE.ev hg hx, hE.ev hg hy, Instr.lookup, underlying, program, getObj, Sem.run, Sem.run_bind, hu, hw, run_checkInt _ hk, run_findInt hk h3, h1, hzv]
theorem v_lookupOk {bb : Bool} (hu : c.P.underlying t = some (.map u e)) (hk : c.P.underlying u = some (.int .i64)) (hzv : ∀ w, (zeroValue e).run c.P w = .ok zv w) (hx : ev g E x = some (.map (some r))) (hy : ev g E y = some (I q)) (hv : (lk M q).getD zv = v) (hb : (lk M q).isSome = bb) [h : HasM L r M] :
    OpV c g E L ⟨d, .lookup t x y true, ty, pos, af, gu⟩ (.tuple #[v, .bool bb]) := .mk fun a w hE hg hS => by
  subst hv hb
  obtain ⟨es, clk, hok, hw⟩ := h.out _ _ hS
  rcases hok.find .i64 q with ⟨j, en, h1, h2, h3, h4⟩ | ⟨h1, h2, h3⟩
  · simp [execOp, hE.ev hg hx, hE.ev hg hy, Instr.lookup, underlying, program, getObj, Sem.run, Sem.run_bind, hu, hw, run_checkInt _ hk, run_findInt hk h4, h3]
  · simp [execOp, hE.ev hg hx, hE.ev hg hy, Instr.lookup, underlying, program, getObj, Sem.run, Sem.run_bind, hu, hw, run_checkInt _ hk, run_findInt hk h3, h1, hzv]
theorem MOk.nil : MOk #[] 0 [] := ⟨by simp, by simp, by simp, by simp⟩
theorem l_makeMap : OpL c g E L ⟨d, .makeMap t none, ty, pos, af, gu⟩ fun v L' => ∃ b, v = .map (some b) ∧ L' = mp b [] :: L :=
  .of_run fun a w hE hg hS => ⟨.map (some w.heap.size), _, _, by simp [execOp, Instr.makeMap, newObj, Sem.run], mp_shut (hS.alloc (.map #[] 0)) MOk.nil, _, rfl, rfl⟩

open Classical in
theorem MOk.upd {es : Array MapEntry} {clk j : Nat} {en : MapEntry} (h : MOk es clk M) (h1 : es.toList[j]? = some en) (h2 : en.key = I q) (h3 : lk M q = some en.val) (v : Value) : MOk (es.modify j fun e => { e with key := I q, val := v }) clk (mset M q v) := by
  have hj : j < es.toList.length := (List.getElem?_eq_some_iff.1 h1).1
  have hb : (es.modify j fun e => { e with key := I q, val := v }).toList.map (·.born) = es.toList.map (·.born) := by
    apply List.ext_getElem?
    intro i
    simp only [List.getElem?_map, Array.getElem?_toList, Array.getElem?_modify]
    split
    · cases es[i]? <;> rfl
    · rfl
  refine ⟨?_, mset_keys M q v h.nodup, fun e he => ?_, by rw [hb]; exact h.bnd⟩
  · have e1 : (es.modify j fun e => { e with key := I q, val := v }).toList.map (fun e => (e.key, e.val)) = (es.toList.map fun e => (e.key, e.val)).map fun p => if p.1 = I q then (I q, v) else p := by
      apply List.ext_getElem?
      intro i
      simp only [List.getElem?_map, Array.getElem?_toList, Array.getElem?_modify, Option.map_map]
      by_cases hij : j = i
      · subst hij
        have : es[j]? = some en := by simpa using h1
        simp [this, h2]
      · simp only [hij, if_false]
        cases hi : es[i]? with
        | none => rfl
        | some e' =>
          simp only [Option.map_some, Function.comp_apply]
          rw [if_neg]
          intro hk
          have hnd : (es.toList.map (·.key)).Nodup := by
            have : (es.toList.map (·.key)).Perm ((M.map (·.1)).map I) := by
              have := h.perm.map (·.1)
              simpa [List.map_map, Function.comp_def] using this
            rw [this.nodup_iff]
            exact List.Pairwise.map I (fun a b hab e => hab (I_inj e)) h.nodup
          have hi' : es.toList[i]? = some e' := by simpa using hi
          have il : i < es.toList.length := (List.getElem?_eq_some_iff.1 hi').1
          have hp := List.pairwise_iff_getElem.1 hnd
          have g1 : es.toList[j] = en := (List.getElem?_eq_some_iff.1 h1).2
          have g2 : es.toList[i] = e' := (List.getElem?_eq_some_iff.1 hi').2
          rcases Nat.lt_or_gt_of_ne hij with hlt | hlt
          · refine hp j i (by simpa using hj) (by simpa using il) hlt ?_
            rw [List.getElem_map, List.getElem_map, g1, g2, h2, hk]
          · refine hp i j (by simpa using il) (by simpa using hj) hlt ?_
            rw [List.getElem_map, List.getElem_map, g1, g2, h2, hk]
    rw [e1]
    refine (h.perm.map _).trans (List.Perm.of_eq ?_)
    unfold mset
    rw [if_pos (by simp [h3]), List.map_map, List.map_map]
    apply List.map_congr_left
    intro p _
    simp only [Function.comp_apply]
    by_cases hp : p.1 = q
    · simp [hp]
    · have : I p.1 ≠ I q := fun e => hp (I_inj e)
      simp [hp, this]
  · have : e.born ∈ es.toList.map (·.born) := by rw [← hb]; exact List.mem_map.2 ⟨e, he, rfl⟩
    obtain ⟨e', he', e2⟩ := List.mem_map.1 this
    rw [← e2]; exact h.born e' he'
theorem MOk.add {es : Array MapEntry} {clk : Nat} (h : MOk es clk M) (h3 : lk M q = none) (v : Value) : MOk (es.push { key := I q, val := v, born := clk }) (clk + 1) (mset M q v) := by
  refine ⟨?_, mset_keys M q v h.nodup, fun e he => ?_, ?_⟩
  · unfold mset
    rw [if_neg (by simp [h3])]
    simp only [Array.toList_push, List.map_append, List.map_cons, List.map_nil]
    exact h.perm.append_right _
  · simp at he
    rcases he with he | rfl
    · have := h.born e (by simpa using he); omega
    · simp
  · simp only [Array.toList_push, List.map_append, List.map_cons, List.map_nil]
    rw [List.nodup_append]
    refine ⟨h.bnd, by simp, fun a ha b hb => ?_⟩
    simp at hb; subst hb
    obtain ⟨e, he, rfl⟩ := List.mem_map.1 ha
    exact Nat.ne_of_lt (h.born e he)
theorem run_stays {P : Program} {w : World} (q : Int) : (Instr.keyThatStays (I q) (I q)).run P w = .ok (I q) w := by
  simp [Instr.keyThatStays, Instr.sameBits, I, Sem.run_pure]
theorem run_setMap {P : Program} {w : World} {es : Array MapEntry} {clk : Nat} {o' : Obj} (h : w.heap[r]? = some (.map es clk)) : (setObj r o').run P w = .ok () (setB w r o') := by
  simp [setObj, Sem.run, h, setB]
theorem l_mapUpdate (hu : c.P.underlying t = some (.map u e)) (hk : c.P.underlying u = some (.int .i64)) (hx : ev g E x = some (.map (some r))) (hy : ev g E y = some (I q)) (hz : ev g E z = some v) [R : RemM L r M F] :
    OpL c g E L ⟨d, .mapUpdate t x y z, ty, pos, af, gu⟩ fun _ L'' => L'' = mp r (mset M q v) :: F :=
  .of_skip fun a w hE hg hS => by
    obtain ⟨es, clk, hok, hS⟩ := R.sat hS
    have hw := hS.at_
    rcases hok.find .i64 q with ⟨j, en, h1, h2, h3, h4⟩ | ⟨h1, h2, h3⟩
    · have h1' : es[j]? = some en := by simpa using h1
      refine ⟨setB w r (.map (es.modify j fun e => { e with key := I q, val := v }) clk), _, ?_, mp_shut (hS.set rfl) (hok.upd h1 h2 h3 v), rfl⟩
      simp [execOp, hE.ev hg hx, hE.ev hg hy, hE.ev hg hz, Instr.mapUpdate, underlying, program, getObj, Sem.run, Sem.run_bind, hu, hw, run_checkInt _ hk, run_findInt hk h4, h1', h2, run_stays, run_setMap hw]
    · refine ⟨setB w r (.map (es.push { key := I q, val := v, born := clk }) (clk + 1)), _, ?_, mp_shut (hS.set rfl) (hok.add h1 v), rfl⟩
      simp [execOp, hE.ev hg hx, hE.ev hg hy, hE.ev hg hz, Instr.mapUpdate, underlying, program, getObj, Sem.run, Sem.run_bind, hu, hw, run_checkInt _ hk, run_findInt hk h3, run_setMap hw]
theorem g_map (r : Nat) (M' : MM) [R : RemM L r M F] (h : M.Perm M') (k : G c K E (mp r M' :: F)) : G c K E L := fun a w hE hS => by
  obtain ⟨es, clk, hok, hS⟩ := R.sat hS
  exact k a w hE (mp_shut hS (hok.perm_ h))
theorem g_mapNodup (r : Nat) [R : HasM L r M] (k : (M.map (·.1)).Nodup → G c K E L) : G c K E L := fun a w hE hS => by
  obtain ⟨es, clk, hok, _⟩ := R.out _ _ hS
  exact k hok.nodup a w hE hS
end
end Go.Sl

/- Maps whose keys are whole numbers (2): delete, and a range over a map that stays as it is meanwhile. No condition. -/
namespace Go.Sl
set_option linter.unusedVariables false
set_option linter.unusedSimpArgs false

/-- block b walks over the map r: rest is still to come; cur was handed out last -/
def mit (b r : Nat) (es : Array MapEntry) (clk : Nat) (rest : MM) (cur : Option (Int × Value)) : HProp := fun m => ∃ (seen : Array Nat) (c0 : Nat), m b = some (.mapIter (some r) clk seen c0, false) ∧ clk ≤ c0 ∧
  ((leftOf es seen).toList.map fun e => (e.key, e.val)).Perm (rest.map fun p => (I p.1, p.2)) ∧ ∀ p, cur = some p → c0 = clk ∧ ∃ (s0 : Array Nat) (e : MapEntry), e ∈ es.toList ∧ seen = s0.push e.born ∧ e.key = I p.1 ∧ e.val = p.2
class HasE (L : List HProp) (r : Nat) (es : outParam (Array MapEntry)) (clk : outParam Nat) (M : outParam MM) : Prop where
  out : ∀ w0 w, Sat w0 w L → MOk es clk M ∧ w.heap[r]? = some (.map es clk)
instance (priority := high) HasE.head {r : Nat} {es : Array MapEntry} {clk : Nat} {M : MM} {L : List HProp} : HasE (mpE r es clk M :: L) r es clk M := ⟨fun w0 w h => by
  obtain ⟨_, _, _, _, f, hf, _⟩ := h
  have := hf 0 _ rfl
  exact ⟨this.1.1, this.2 r _ this.1.2⟩⟩
instance (priority := low) HasE.tail {A : HProp} {r : Nat} {es : Array MapEntry} {clk : Nat} {M : MM} {L : List HProp} [h : HasE L r es clk M] : HasE (A :: L) r es clk M := ⟨fun w0 w hS => h.out w0 w hS.tail⟩
class RemE (L : List HProp) (r : Nat) (es : outParam (Array MapEntry)) (clk : outParam Nat) (M : outParam MM) (F : outParam (List HProp)) : Prop where
  out : ∃ i, L[i]? = some (mpE r es clk M) ∧ F = L.eraseIdx i
instance (priority := high) RemE.head {r : Nat} {es : Array MapEntry} {clk : Nat} {M : MM} {L : List HProp} : RemE (mpE r es clk M :: L) r es clk M L := ⟨0, rfl, rfl⟩
instance (priority := low) RemE.tail {A : HProp} {r : Nat} {es : Array MapEntry} {clk : Nat} {M : MM} {L F : List HProp} [h : RemE L r es clk M F] : RemE (A :: L) r es clk M (A :: F) := ⟨let ⟨i, h1, h2⟩ := h.out; ⟨i + 1, by simpa using h1, by simp [h2]⟩⟩
class RemI (L : List HProp) (b : Nat) (r : outParam Nat) (es : outParam (Array MapEntry)) (clk : outParam Nat) (rest : outParam MM) (cur : outParam (Option (Int × Value))) (F : outParam (List HProp)) : Prop where
  out : ∃ i, L[i]? = some (mit b r es clk rest cur) ∧ F = L.eraseIdx i
instance (priority := high) RemI.head {b r : Nat} {es : Array MapEntry} {clk : Nat} {rest : MM} {cur : Option (Int × Value)} {L : List HProp} : RemI (mit b r es clk rest cur :: L) b r es clk rest cur L := ⟨0, rfl, rfl⟩
instance (priority := low) RemI.tail {A : HProp} {b r : Nat} {es : Array MapEntry} {clk : Nat} {rest : MM} {cur : Option (Int × Value)} {L F : List HProp} [h : RemI L b r es clk rest cur F] : RemI (A :: L) b r es clk rest cur (A :: F) := ⟨let ⟨i, h1, h2⟩ := h.out; ⟨i + 1, by simpa using h1, by simp [h2]⟩⟩

theorem mit_open {w0 w : World} {b r clk : Nat} {es : Array MapEntry} {rest : MM} {cur : Option (Int × Value)} {F : List HProp} (h : Sat w0 w (mit b r es clk rest cur :: F)) : ∃ (seen : Array Nat) (c0 : Nat), clk ≤ c0 ∧ ((leftOf es seen).toList.map fun e => (e.key, e.val)).Perm (rest.map fun p => (I p.1, p.2)) ∧
    (∀ p, cur = some p → c0 = clk ∧ ∃ (s0 : Array Nat) (e : MapEntry), e ∈ es.toList ∧ seen = s0.push e.born ∧ e.key = I p.1 ∧ e.val = p.2) ∧ Sat w0 w (pt b (.mapIter (some r) clk seen c0) :: F) := by
  have h' : Sat w0 w (hex (fun s : Array Nat × Nat => fun m => m b = some (.mapIter (some r) clk s.1 s.2, false) ∧ clk ≤ s.2 ∧
    ((leftOf es s.1).toList.map fun e => (e.key, e.val)).Perm (rest.map fun p => (I p.1, p.2)) ∧ ∀ p, cur = some p → s.2 = clk ∧ ∃ (s0 : Array Nat) (e : MapEntry), e ∈ es.toList ∧ s.1 = s0.push e.born ∧ e.key = I p.1 ∧ e.val = p.2) :: F) := h.weak fun m ⟨s, c, hm⟩ => ⟨(s, c), hm⟩
  obtain ⟨⟨s, c⟩, h⟩ := h'.ex
  have hf : clk ≤ c ∧ ((leftOf es s).toList.map fun e => (e.key, e.val)).Perm (rest.map fun p => (I p.1, p.2)) ∧ ∀ p, cur = some p → c = clk ∧ ∃ (s0 : Array Nat) (e : MapEntry), e ∈ es.toList ∧ s = s0.push e.born ∧ e.key = I p.1 ∧ e.val = p.2 := by
    obtain ⟨_, _, _, _, f, hf, _⟩ := h
    exact (hf 0 _ rfl).1.2
  exact ⟨s, c, hf.1, hf.2.1, hf.2.2, h.weak fun m hm => hm.1⟩
theorem mit_shut {w0 w : World} {b r clk c0 : Nat} {seen : Array Nat} {es : Array MapEntry} {rest : MM} {cur : Option (Int × Value)} {F : List HProp} (h : Sat w0 w (pt b (.mapIter (some r) clk seen c0) :: F)) (h1 : clk ≤ c0)
    (h2 : ((leftOf es seen).toList.map fun e => (e.key, e.val)).Perm (rest.map fun p => (I p.1, p.2))) (h3 : ∀ p, cur = some p → c0 = clk ∧ ∃ (s0 : Array Nat) (e : MapEntry), e ∈ es.toList ∧ seen = s0.push e.born ∧ e.key = I p.1 ∧ e.val = p.2) :
    Sat w0 w (mit b r es clk rest cur :: F) := h.weak fun m hm => ⟨seen, c0, hm, h1, h2, h3⟩
theorem left_all (es : Array MapEntry) : leftOf es #[] = es := by simp [leftOf]
theorem split_born : ∀ {l : List MapEntry} {e : MapEntry}, e ∈ l → (l.map (·.born)).Nodup → l.Perm (e :: l.filter fun x => !decide (x.born = e.born))
  | [], e, h, _ => by simp at h
  | a :: l, e, h, hn => by
    simp only [List.map_cons, List.nodup_cons] at hn
    rcases List.mem_cons.1 h with rfl | h
    · rw [List.filter_cons_of_neg (by simp)]
      refine List.Perm.cons _ (List.Perm.of_eq ?_)
      symm
      rw [List.filter_eq_self]
      intro x hx
      have : x.born ≠ e.born := fun e' => hn.1 (List.mem_map.2 ⟨x, hx, e'⟩)
      simp [this]
    · have hne : a.born ≠ e.born := fun e' => hn.1 (List.mem_map.2 ⟨e, h, e'.symm⟩)
      rw [List.filter_cons_of_pos (by simp [hne])]
      exact ((split_born h hn.2).cons a).trans (List.Perm.swap _ _ _)
theorem left_push (es : Array MapEntry) (seen : Array Nat) (b : Nat) : (leftOf es (seen.push b)).toList = (leftOf es seen).toList.filter fun x => !decide (x.born = b) := by
  simp only [leftOf, Array.toList_filter, List.filter_filter]
  congr 1
  funext x
  simp only [Array.contains_push]
  cases h : seen.contains x.born <;> simp [h, Bool.beq_eq_decide_eq]

section
variable {c : Cx} {g : Option (Nat × Bool)} {E : Env} {L L' F : List HProp} {d : Option Tmp} {ty : TypeId} {pos : String} {af : Array Edge} {gu : Option (Nat × Bool)} {K : List KI}
variable {x y z : Operand} {t u e : TypeId} {k : IntKind} {v zv : Value} {r b n clk : Nat} {q : Int} {M rest : MM} {es : Array MapEntry} {cur : Option (Int × Value)}

/-- a map's inner form, for the while of a range -/
theorem g_mapOpen (r : Nat) [R : RemM L r M F] (k : ∀ es clk, G c K E (mpE r es clk M :: F)) : G c K E L := fun a w hE hS => by
  obtain ⟨es, clk, hok, hS⟩ := R.sat hS
  exact k es clk a w hE (hS.weak fun m hm => ⟨hok, hm⟩)
theorem g_mapShut (r : Nat) [R : RemE L r es clk M F] (k : G c K E (mp r M :: F)) : G c K E L := fun a w hE hS => by
  obtain ⟨i, h1, rfl⟩ := R.out
  have h := hS.front h1
  exact k a w hE (Sat.ex_mk (A := fun p : Array MapEntry × Nat => fun m => MOk p.1 p.2 M ∧ m r = some (.map p.1 p.2, false)) (es, clk) h)
theorem l_range (hu : c.P.underlying t = some (.map u e)) (hx : ev g E x = some (.map (some r))) [h : HasE L r es clk M] :
    OpL c g E L ⟨d, .range t x, ty, pos, af, gu⟩ fun v L' => ∃ b, v = ptr b 0 ∧ L' = mit b r es clk M none :: L :=
  .of_run fun a w hE hg hS => by
    obtain ⟨hok, hw⟩ := h.out _ _ hS
    refine ⟨ptr w.heap.size 0, _, _, ?_, mit_shut (hS.alloc (.mapIter (some r) clk #[] clk)) (Nat.le_refl _) (by rw [left_all]; exact hok.perm) (fun p hp => by cases hp), _, rfl, rfl⟩
    simp [execOp, hE.ev hg hx, Instr.range, underlying, program, getObj, newObj, Sem.run, Sem.run_bind, hu, hw]
theorem l_next (hx : ev g E x = some (ptr b 0)) [R : RemI L b r es clk rest cur F] [h : HasE F r es clk M] :
    OpL c g E L ⟨d, .next x false, ty, pos, af, gu⟩ fun v L' => (rest = [] ∧ v = .tuple #[.bool false] ∧ L' = mit b r es clk [] none :: F) ∨
      ∃ p rest', rest.Perm (p :: rest') ∧ v = .tuple #[.bool true, I p.1, p.2] ∧ L' = mit b r es clk rest' (some p) :: F :=
  .of_run fun a w hE hg hS => by
    obtain ⟨i, h1, rfl⟩ := R.out
    obtain ⟨seen, c0, hc, hp, hcur, hS⟩ := mit_open (hS.front h1)
    obtain ⟨hok, hw⟩ := h.out _ _ hS.tail
    have hr := hS.at_
    rcases run_next_at (P := c.P) w ty b r clk c0 seen es clk hr hw hok.born hc with ⟨h0, hrun⟩ | ⟨en, hen, w1, hal, hrun⟩
    · have h0' : (leftOf es seen).toList = [] := by
        apply List.eq_nil_of_length_eq_zero; simpa using h0
      have hr0 : rest = [] := by
        have := hp.length_eq
        rw [h0'] at this
        exact List.eq_nil_of_length_eq_zero (by simpa using this.symm)
      subst hr0
      exact ⟨_, w, _, by simp [execOp, hE.ev hg hx, ptr, hrun], mit_shut hS hc hp (fun p hp => by cases hp), .inl ⟨rfl, rfl, rfl⟩⟩
    · have hS1 : Sat c.w0 w1 (pt b (.mapIter (some r) clk seen c0) :: L.eraseIdx i) := by
        rcases hal with rfl | rfl
        · exact hS
        · exact hS.drew _
      have hm : (en.key, en.val) ∈ rest.map fun p => (I p.1, p.2) := hp.mem_iff.1 (List.mem_map.2 ⟨en, hen, rfl⟩)
      obtain ⟨p, hpm, hpe⟩ := List.mem_map.1 hm
      injection hpe with e1 e2
      obtain ⟨s, t', hst⟩ := List.append_of_mem hpm
      have hperm : rest.Perm (p :: (s ++ t')) := by rw [hst]; exact List.perm_middle
      have hes : en ∈ es.toList := by
        have := hen
        simp only [leftOf, Array.toList_filter, List.mem_filter] at this
        exact this.1
      have hnd : ((leftOf es seen).toList.map (·.born)).Nodup := by
        simp only [leftOf, Array.toList_filter]
        exact List.Nodup.sublist (List.Sublist.map _ List.filter_sublist) hok.bnd
      have hl := split_born hen hnd
      have hrun' : (Instr.next (.pointer (some ⟨b, 0, none⟩)) false ty).run c.P w = .ok (.tuple #[.bool true, en.key, en.val]) (setB w1 b (.mapIter (some r) clk (seen.push en.born) clk)) := hrun
      refine ⟨.tuple #[.bool true, en.key, en.val], setB w1 b (.mapIter (some r) clk (seen.push en.born) clk), _, by simp [execOp, hE.ev hg hx, ptr, hrun'], mit_shut (rest := s ++ t') (cur := some p) (hS1.set rfl) (Nat.le_refl _) ?_ ?_, .inr ⟨p, s ++ t', hperm, by rw [e1, e2], rfl⟩⟩
      · rw [left_push]
        have h2 := ((hl.map fun e => (e.key, e.val)).symm.trans (hp.trans (hperm.map fun p => (I p.1, p.2))))
        simp only [List.map_cons, e1, e2] at h2
        exact h2.cons_inv
      · intro p' hp'
        injection hp' with hp'
        subst hp'
        exact ⟨rfl, seen, en, hes, rfl, e1.symm, e2.symm⟩
theorem v_entry {p : Int × Value} (hx : ev g E x = some (ptr b 0)) [R : RemI L b r es clk rest (some p) F] [h : HasE F r es clk M] : OpV c g E L ⟨d, .entry x, ty, pos, af, gu⟩ (.tuple #[I p.1, p.2]) := .mk fun a w hE hg hS => by
  obtain ⟨i, h1, rfl⟩ := R.out
  obtain ⟨seen, c0, hc, hp, hcur, hS⟩ := mit_open (hS.front h1)
  obtain ⟨hok, hw⟩ := h.out _ _ hS.tail
  obtain ⟨rfl, s0, en, hen, rfl, e1, e2⟩ := hcur p rfl
  have hrun := run_entry_at (P := c.P) w b r c0 s0 es c0 en hS.at_ hw hen hok.bnd
  rw [e1, e2] at hrun
  simp [execOp, hE.ev hg hx, ptr, hrun]
theorem eraseIdx_perm {α : Type} : ∀ {l : List α} {j : Nat} {e : α}, l[j]? = some e → l.Perm (e :: l.eraseIdx j)
  | [], j, e, h => by simp at h
  | a :: l, 0, e, h => by simp at h; subst h; exact .refl _
  | a :: l, j + 1, e, h => ((eraseIdx_perm (l := l) (j := j) (by simpa using h)).cons a).trans (List.Perm.swap _ _ _)
theorem MOk.del {j : Nat} {en : MapEntry} (h : MOk es clk M) (h1 : es.toList[j]? = some en) (h2 : en.key = I q) : MOk (es.eraseIdxIfInBounds j) clk (mdel M q) := by
  have hj : j < es.toList.length := (List.getElem?_eq_some_iff.1 h1).1
  have ej : es.toList[j] = en := (List.getElem?_eq_some_iff.1 h1).2
  have hl : (es.eraseIdxIfInBounds j).toList = es.toList.eraseIdx j := by
    have : j < es.size := by simpa using hj
    simp [Array.eraseIdxIfInBounds, this]
  have hp : es.toList.Perm (en :: es.toList.eraseIdx j) := eraseIdx_perm h1
  have hk : (es.toList.map (·.key)).Perm ((M.map (·.1)).map I) := by
    have := h.perm.map (·.1)
    simpa [List.map_map, Function.comp_def] using this
  refine ⟨?_, mdel_keys M q h.nodup, fun e he => h.born e ?_, ?_⟩
  · rw [hl]
    have h3 : ((en.key, en.val) :: (es.toList.eraseIdx j).map fun e => (e.key, e.val)).Perm (M.map fun p => (I p.1, p.2)) := ((hp.map fun e : MapEntry => (e.key, e.val)).symm).trans h.perm
    obtain ⟨p, hpm, e1, e2⟩ := h.key (List.mem_of_getElem? h1)
    have e3 : p.1 = q := I_inj (e1.symm.trans h2)
    obtain ⟨s, t', hst⟩ := List.append_of_mem hpm
    have hnd := h.nodup
    rw [hst, List.map_append, List.map_cons] at hnd
    rw [List.nodup_append] at hnd
    obtain ⟨n1, n2, n3⟩ := hnd
    rw [List.nodup_cons] at n2
    have hd : mdel M q = s ++ t' := by
      unfold mdel
      rw [hst, List.filter_append, List.filter_cons_of_neg (by simp [e3])]
      congr 1
      · rw [List.filter_eq_self]
        intro a ha
        have : a.1 ≠ p.1 := n3 a.1 (List.mem_map.2 ⟨a, ha, rfl⟩) p.1 (by simp)
        simp [← e3, this]
      · rw [List.filter_eq_self]
        intro a ha
        have : a.1 ≠ p.1 := fun e => n2.1 (e ▸ List.mem_map.2 ⟨a, ha, rfl⟩)
        simp [← e3, this]
    rw [hd]
    have h4 : (M.map fun p => (I p.1, p.2)).Perm ((en.key, en.val) :: (s ++ t').map fun p => (I p.1, p.2)) := by
      rw [hst, e1, e2]
      exact (List.perm_middle.map fun p : Int × Value => (I p.1, p.2))
    exact (h3.trans h4).cons_inv
  · rw [hl] at he; exact List.mem_of_mem_eraseIdx he
  · rw [hl]
    exact List.Nodup.sublist (List.Sublist.map _ (List.eraseIdx_sublist _ _)) h.bnd
theorem l_delete {ut : TypeId} (hu : c.P.underlying t = some (.map u e)) (hk : c.P.underlying u = some (.int .i64)) (hx : ev g E x = some (.map (some r))) (hy : ev g E y = some (I q)) [R : RemM L r M F] :
    OpL c g E L ⟨d, .call { callee := .builtin .delete, args := #[x, y], argTypes := #[t, ut] }, ty, pos, af, gu⟩ fun v L'' => v = .tuple #[] ∧ L'' = mp r (mdel M q) :: F :=
  .of_run fun a w hE hg hS => by
    obtain ⟨es, clk, hok, hS⟩ := R.sat hS
    have hw := hS.at_
    rcases hok.find .i64 q with ⟨j, en, h1, h2, h3, h4⟩ | ⟨h1, h2, h3⟩
    · refine ⟨_, setB w r (.map (es.eraseIdxIfInBounds j) clk), _, ?_, mp_shut (hS.set rfl) (hok.del h1 h2), rfl, rfl⟩
      simp [execOp, resolve, invoke, builtin, Builtin.delete_, hE.ev hg hx, hE.ev hg hy, underlying, program, getObj, Sem.run, Sem.run_bind, hu, hw, run_checkInt _ hk, run_findInt hk h4, run_setMap hw]
    · have hd : mdel M q = M := by
        unfold mdel
        rw [List.filter_eq_self]
        intro p hp
        have := lk_none.1 h1 p hp
        simp [this]
      refine ⟨_, setB w r (.map es clk), _, ?_, mp_shut (hS.set rfl) (hd.symm ▸ hok), rfl, rfl⟩
      simp [execOp, resolve, invoke, builtin, Builtin.delete_, hE.ev hg hx, hE.ev hg hy, underlying, program, getObj, Sem.run, Sem.run_bind, hu, hw, run_checkInt _ hk, run_findInt hk h3, run_setMap hw]
end
end Go.Sl

/- Tables of things by their numbers 1 to n, and the maps that hold them. No condition. -/
namespace Go.Sl
set_option linter.unusedVariables false
set_option linter.unusedSimpArgs false

section
variable {ρ : Type}
def tbl (enc : ρ → Value) (l : List Nat) (B : Int → Option ρ) : MM := l.filterMap fun k : Nat => (B (k : Int)).map fun x => ((k : Int), enc x)
/-- the entries of the numbers 1 to n -/
def tb (enc : ρ → Value) (n : Nat) (B : Int → Option ρ) : MM := tbl enc (List.range' 1 n) B
def pset (B : Int → Option ρ) (k : Int) (x : Option ρ) : Int → Option ρ := fun q => if q = k then x else B q
/-- the numbers that there are, rising -/
def ids (n : Nat) (B : Int → Option ρ) : List Int := ((List.range' 1 n).filter fun k : Nat => (B (k : Int)).isSome).map fun k : Nat => (k : Int)
/-- the least number that is free -/
def freeId (n : Nat) (B : Int → Option ρ) : Option Nat := (List.range' 1 n).find? fun k : Nat => (B (k : Int)).isNone
/-- nothing stands but at 1 to n -/
def sup (n : Nat) (B : Int → Option ρ) : Prop := ∀ q x, B q = some x → 1 ≤ q ∧ q ≤ n

theorem tbl_keys (enc : ρ → Value) (l : List Nat) (B : Int → Option ρ) : (tbl enc l B).map (·.1) = (l.filter fun k : Nat => (B (k : Int)).isSome).map fun k : Nat => (k : Int) := by
  induction l with
  | nil => rfl
  | cons k l ih =>
    unfold tbl at ih ⊢
    cases h : B (k : Int) with
    | none => simp [h, ih]
    | some x => simp [h, ih]
theorem tb_keys (enc : ρ → Value) (n : Nat) (B : Int → Option ρ) : (tb enc n B).map (·.1) = ids n B := tbl_keys enc _ B
theorem ids_nodup (n : Nat) (B : Int → Option ρ) : (ids n B).Nodup := by
  unfold ids
  refine List.Pairwise.map _ (fun a b (h : a ≠ b) e => h (by omega)) (List.Nodup.sublist List.filter_sublist (List.nodup_range' (step := 1)))
theorem tb_nodup (enc : ρ → Value) (n : Nat) (B : Int → Option ρ) : ((tb enc n B).map (·.1)).Nodup := by rw [tb_keys]; exact ids_nodup n B
theorem tb_len (enc : ρ → Value) (n : Nat) (B : Int → Option ρ) : (tb enc n B).length = (ids n B).length := by rw [← tb_keys enc, List.length_map]
theorem ids_sorted (n : Nat) (B : Int → Option ρ) : (ids n B).Pairwise (· < ·) := by
  unfold ids
  refine List.Pairwise.map _ (fun a b (h : a < b) => by omega) (List.Pairwise.sublist List.filter_sublist (List.pairwise_lt_range' (s := 1) (n := n) 1))
theorem mem_ids {n : Nat} {B : Int → Option ρ} {q : Int} : q ∈ ids n B ↔ (1 ≤ q ∧ q ≤ n) ∧ (B q).isSome = true := by
  unfold ids
  constructor
  · intro h
    obtain ⟨k, hk, rfl⟩ := List.mem_map.1 h
    rw [List.mem_filter, List.mem_range'_1] at hk
    exact ⟨by omega, hk.2⟩
  · rintro ⟨⟨h1, h2⟩, h3⟩
    refine List.mem_map.2 ⟨q.toNat, List.mem_filter.2 ⟨by rw [List.mem_range'_1]; omega, ?_⟩, by omega⟩
    rw [show ((q.toNat : Nat) : Int) = q by omega]; exact h3
theorem ids_len_le (n : Nat) (B : Int → Option ρ) : (ids n B).length ≤ n := by
  unfold ids
  rw [List.length_map]
  exact Nat.le_trans (List.length_filter_le _ _) (by simp)
theorem lk_tbl (enc : ρ → Value) (B : Int → Option ρ) (q : Int) : ∀ (l : List Nat), lk (tbl enc l B) q = if 0 ≤ q ∧ q.toNat ∈ l then (B q).map enc else none
  | [] => by simp [tbl, lk]
  | k :: l => by
    have ih := lk_tbl enc B q l
    unfold tbl at ih ⊢
    by_cases hk : (k : Int) = q
    · subst hk
      cases h : B (k : Int) with
      | none => simp [h, ih]
      | some x => simp [h, lk]
    · have hne : q.toNat ≠ k ∨ ¬ 0 ≤ q := by omega
      have e : (0 ≤ q ∧ q.toNat ∈ k :: l) ↔ (0 ≤ q ∧ q.toNat ∈ l) := by
        constructor
        · rintro ⟨h1, h2⟩
          rcases List.mem_cons.1 h2 with h2 | h2
          · omega
          · exact ⟨h1, h2⟩
        · rintro ⟨h1, h2⟩; exact ⟨h1, List.mem_cons_of_mem _ h2⟩
      simp only [e]
      cases h : B (k : Int) with
      | none => simp [h, ih]
      | some x => simp [h, lk, hk, ih]
theorem lk_tb (enc : ρ → Value) (n : Nat) (B : Int → Option ρ) (q : Int) : lk (tb enc n B) q = if 1 ≤ q ∧ q ≤ n then (B q).map enc else none := by
  unfold tb
  rw [lk_tbl]
  have : (0 ≤ q ∧ q.toNat ∈ List.range' 1 n) ↔ (1 ≤ q ∧ q ≤ n) := by rw [List.mem_range'_1]; omega
  simp only [this]
theorem lk_sup (enc : ρ → Value) {n : Nat} {B : Int → Option ρ} (h : sup n B) (q : Int) : lk (tb enc n B) q = (B q).map enc := by
  rw [lk_tb]
  split
  · rfl
  · rename_i hn
    cases e : B q with
    | none => rfl
    | some x => exact absurd (h q x e) hn
theorem tb_set (enc : ρ → Value) {n : Nat} {B : Int → Option ρ} {k : Int} {x : ρ} (hk : 1 ≤ k ∧ k ≤ n) : (mset (tb enc n B) k (enc x)).Perm (tb enc n (pset B k (some x))) := by
  refine perm_of_lk (mset_keys _ _ _ (tb_nodup enc n B)) (tb_nodup enc n _) fun q => ?_
  rw [lk_mset, lk_tb, lk_tb]
  by_cases h : k = q
  · subst h; simp [hk, pset]
  · simp [h, pset, Ne.symm h]
theorem tb_del (enc : ρ → Value) {n : Nat} {B : Int → Option ρ} {k : Int} : (mdel (tb enc n B) k).Perm (tb enc n (pset B k none)) := by
  refine perm_of_lk (mdel_keys _ _ (tb_nodup enc n B)) (tb_nodup enc n _) fun q => ?_
  rw [lk_mdel, lk_tb, lk_tb]
  by_cases h : k = q
  · subst h; simp [pset]
  · simp [h, pset, Ne.symm h]
theorem tb_empty (enc : ρ → Value) (n : Nat) : tb enc n (fun _ => none) = [] := by
  unfold tb tbl
  induction List.range' 1 n with
  | nil => rfl
  | cons k l ih => simp
theorem sup_set {n : Nat} {B : Int → Option ρ} {k : Int} {x : Option ρ} (h : sup n B) (hk : x.isSome = true → 1 ≤ k ∧ k ≤ n) : sup n (pset B k x) := fun q y e => by
  unfold pset at e
  split at e
  · rename_i hq; subst hq; exact hk (by simp [e])
  · exact h q y e
theorem sup_none (n : Nat) : sup n (fun _ => (none : Option ρ)) := fun q x e => by cases e
theorem full_iff {n : Nat} {B : Int → Option ρ} : (ids n B).length = n ↔ freeId n B = none := by
  unfold ids freeId
  rw [List.length_map, ← List.countP_eq_length_filter, List.find?_eq_none]
  have := List.countP_eq_length (p := fun k : Nat => (B (k : Int)).isSome) (l := List.range' 1 n)
  rw [List.length_range'] at this
  rw [this]
  constructor
  · intro h x hx; have := h x hx; cases e : B (x : Int) <;> simp [e] at this ⊢
  · intro h x hx; have := h x hx; cases e : B (x : Int) <;> simp [e] at this ⊢
theorem free_some {n k : Nat} {B : Int → Option ρ} (h : freeId n B = some k) : (1 ≤ k ∧ k ≤ n) ∧ B k = none ∧ ∀ j : Nat, 1 ≤ j → j < k → (B j).isSome = true := by
  unfold freeId at h
  rw [List.find?_range'_eq_some] at h
  obtain ⟨h1, h2, h3⟩ := h
  rw [List.mem_range'_1] at h2
  refine ⟨by omega, by simpa using h1, fun j h4 h5 => ?_⟩
  have := h3 j h4 h5
  cases e : B (j : Int) <;> simp [e] at this ⊢
theorem free_isSome {n : Nat} {B : Int → Option ρ} (h : (ids n B).length ≠ n) : ∃ k, freeId n B = some k := by
  cases e : freeId n B with
  | none => exact absurd (full_iff.2 e) h
  | some k => exact ⟨k, rfl⟩
theorem sort_ids {n : Nat} {B : Int → Option ρ} {l : List Int} (h : l.Perm (ids n B)) : l.mergeSort (fun x y => decide (x ≤ y)) = ids n B := by
  refine List.Perm.eq_of_pairwise (le := fun a b : Int => a ≤ b) (fun a b _ _ h1 h2 => by omega) ?_ ?_ ((List.mergeSort_perm _ _).trans h)
  · have := List.pairwise_mergeSort (le := fun x y : Int => decide (x ≤ y)) (fun a b c h1 h2 => by simp at *; omega) (fun a b => by simp; omega) l
    exact this.imp fun h => by simpa using h
  · exact (ids_sorted n B).imp fun h => by omega
theorem tb_mem {enc : ρ → Value} {n : Nat} {B : Int → Option ρ} {p : Int × Value} (h : p ∈ tb enc n B) : ∃ x, B p.1 = some x ∧ p.2 = enc x ∧ 1 ≤ p.1 ∧ p.1 ≤ n := by
  obtain ⟨q, v⟩ := p
  rw [← lk_mem (tb_nodup enc n B), lk_tb] at h
  split at h
  · rename_i hq
    cases e : B q with
    | none => simp [e] at h
    | some x => simp [e] at h; exact ⟨x, rfl, h.symm, hq.1, hq.2⟩
  · cases h
end
end Go.Sl

/- Fields and parts that are arrays. No condition. -/
namespace Go.Sl
set_option linter.unusedVariables false
set_option linter.unusedSimpArgs false
section
variable {c : Cx} {g : Option (Nat × Bool)} {E : Env} {L : List HProp} {d : Option Tmp} {ty : TypeId} {pos : String} {af : Array Edge} {gu : Option (Nat × Bool)}
variable {x y z : Operand} {t u e : TypeId} {k : IntKind} {v : Value} {s : Option Addr} {b o i j n sz cap off : Nat}
theorem v_fieldA {fs : Array Field} {f : Field} {cs : Array Value} (vs : List Value) (hu : c.P.underlying t = some (.struct fs)) (hf : fs[i]? = some f) (ha : ∀ w, (isAgg f.type).run c.P w = .ok true w) (hz : ∀ w, (sizeOf f.type).run c.P w = .ok sz w) (hx : ev g E x = some (.agg cs)) (hv : cs.extract f.offset (f.offset + sz) = vs.toArray) :
    OpV c g E L ⟨d, .field t x i, ty, pos, af, gu⟩ (.agg vs.toArray) := .mk fun a w hE hg hS => by
  simp [execOp, hE.ev hg hx, Instr.field, underlying, program, Sem.run, hu, hf, asAgg, part, ha, hz, hv]
end
theorem tb_setdel {ρ : Type} (enc : ρ → Value) {n : Nat} {B : Int → Option ρ} {k : Int} {v : Value} : (mdel (mset (tb enc n B) k v) k).Perm (tb enc n (pset B k none)) := by
  refine perm_of_lk (mdel_keys _ _ (mset_keys _ _ _ (tb_nodup enc n B))) (tb_nodup enc n _) fun q => ?_
  rw [lk_mdel, lk_mset, lk_tb, lk_tb]
  by_cases h : k = q
  · subst h; simp [pset]
  · simp [h, pset, Ne.symm h]
theorem splice_whole {cs : Array Value} {vs : List Value} (h : cs.size = vs.length) : splice cs 0 vs = vs.toArray := by
  apply Array.ext_getElem?
  intro i
  rw [splice_at cs 0 vs (by omega)]
  by_cases hi : i < vs.length
  · rw [if_pos (by omega)]; simp
  · rw [if_neg (by omega), Array.getElem?_eq_none (by omega), Array.getElem?_eq_none (by simp; omega)]
theorem set_toArray (l : List Value) (i : Nat) (v : Value) : l.toArray.setIfInBounds i v = (l.set i v).toArray := by rw [List.setIfInBounds_toArray]
end Go.Sl
