/- Regions that draw, whose last operation comes after all the others: what the others lean on need not hold behind it. No condition. -/
import Derived.Test.YthdjckbjjfiopacSl14
namespace Go.Sl
set_option linter.unusedVariables false
set_option linter.unusedSimpArgs false
section
variable {P : Program} {ops : Array Oper} {C : World → Prop} {Q Q1 Q2 : Post} {z : Nat}
theorem wpOp_exit {i : Nat} {a : Act} {w : World} {K : Act → World → Prop} (hp : ∀ ch a w, Q1 (.panic ch) a w → Q2 (.panic ch) a w) (hl : LetsOut Q1 → LetsOut Q2) (h : wpOp P ops Q1 i K a w) : wpOp P ops Q2 i K a w := by
  have key : ∀ (o : Oper) (r : Result Next), o.upon P a K Q1 r → o.upon P a K Q2 r := fun o r h => by
    cases r with
    | ok n w' =>
      cases n <;> simp only [Oper.upon] at h ⊢
      case enter f args => exact h.mono fun e w'' he => by cases e <;> first | exact he | exact hp _ _ _ he | exact hl he
      all_goals exact h
    | halt x w' => cases x <;> simp only [Oper.upon] at h ⊢ <;> first | exact hp _ _ _ h | exact h
  unfold wpOp at *
  split
  · simpa [*] using h
  · rename_i o ho
    simp only [ho] at h
    split
    · rename_i hw
      simp only [hw, if_true] at h
      exact h.imp (key o _) (fun h => ⟨h.1, hl h.2⟩)
    · rename_i hw
      simp only [hw] at h
      exact h
def wpAnyZ (P : Program) (ops : Array Oper) (C : World → Prop) (z : Nat) (Q : Post) : Nat → Array Bool → Act → World → Prop
  | 0, listed, a, w => (listed.getD z false = true ∨ C w) ∧ Region.ready .any ops listed = [] ∧ Q .normal a w
  | fuel + 1, listed, a, w =>
    (listed.getD z false = true ∨ C w) ∧ (Region.ready .any ops listed = [] → Q .normal a w) ∧
    ∀ i ∈ Region.ready .any ops listed, wpOp P ops Q i (wpAnyZ P ops C z Q fuel (listed.setIfInBounds i true)) a w
theorem wpAnyZ.cls {fuel : Nat} {listed : Array Bool} {a : Act} {w : World} (h : wpAnyZ P ops C z Q fuel listed a w) : listed.getD z false = true ∨ C w := by
  cases fuel <;> exact h.1
theorem wpAny_of_Z : ∀ (fuel : Nat) (listed : Array Bool) (a : Act) (w : World), wpAnyZ P ops C z Q fuel listed a w → wpAny P .any ops Q fuel listed a w
  | 0, _, _, _, h => h.2
  | fuel + 1, _, _, _, h => ⟨h.2.1, fun i hi => wpOp_mono (fun a w => wpAny_of_Z fuel _ a w) (h.2.2 i hi)⟩
/-- operation z comes after operation i, at once or by way of one other -/
def chain (ops : Array Oper) : Nat → Nat → Nat → Prop
  | 0, _, _ => False
  | f + 1, k, i => ∃ ok, ops[k]? = some ok ∧ ∃ e ∈ ok.after, Region.binds .any e = true ∧ (e.on = i ∨ chain ops f e.on i)
def comesAfter (ops : Array Oper) (z i : Nat) : Prop := ∀ oz, ops[z]? = some oz → ∃ e ∈ oz.after, Region.binds .any e = true ∧ (e.on = i ∨ chain ops 6 e.on i)
def closed (ops : Array Oper) (listed : Array Bool) : Prop := ∀ k ok, ops[k]? = some ok → listed.getD k false = true → ∀ e ∈ ok.after, Region.binds .any e = true → listed.getD e.on false = true
theorem getD_set_true {listed : Array Bool} {j k : Nat} (h : listed.getD k false = true) : (listed.setIfInBounds j true).getD k false = true := by
  by_cases hjk : j = k
  · subst hjk
    rcases Nat.lt_or_ge j listed.size with h' | h'
    · simp [h']
    · simp [Array.getElem?_eq_none h'] at h
  · rw [getD_set_ne false hjk]; exact h
theorem closed_set {listed : Array Bool} {j : Nat} (hc : closed ops listed) (hj : j ∈ Region.ready .any ops listed) : closed ops (listed.setIfInBounds j true) := fun k ok hk hl e he hb => by
  obtain ⟨_, oj, hoj, hall⟩ := mem_ready.1 hj
  by_cases hjk : j = k
  · subst hjk
    rw [hoj] at hk; injection hk with hk; subst hk
    exact getD_set_true (hall e he hb)
  · rw [getD_set_ne false hjk] at hl
    exact getD_set_true (hc k ok hk hl e he hb)
theorem chain_listed {listed : Array Bool} (hcl : closed ops listed) : ∀ {f k i : Nat}, listed.getD k false = true → chain ops f k i → listed.getD i false = true
  | 0, _, _, _, h => h.elim
  | f + 1, k, i, hk, ⟨ok, hok, e, he, hb, h⟩ => by
    have h1 := hcl k ok hok hk e he hb
    rcases h with h | h
    · rw [← h]; exact h1
    · exact chain_listed hcl h1 h
theorem wpAnyZ_first {i : Nat} {oi : Oper} {v : Value} (hi : ops[i]? = some oi) (hsel : ∀ (j : Nat) (o : Oper) cs b, ops[j]? = some o → o.op ≠ .select cs b)
    (hQ : ∀ c a w, Q (.panic c) (a.put oi.dst v) w → Q (.panic c) a w) (hiz : i ≠ z) (hz : comesAfter ops z i) :
    ∀ (fuel : Nat) (listed : Array Bool) (a : Act) (w : World),
      (∀ j oj, ops[j]? = some oj → j ≠ i → listed.getD j true = false → (∀ e ∈ oj.after, Region.binds .any e = true → e.on ≠ i) → oi.apart ops oj = true) →
      i ∈ Region.ready .any ops listed → closed ops listed → listed.getD z false = false → YieldsC P ops C oi v a → C w →
      wpAnyZ P ops C z Q fuel (listed.setIfInBounds i true) (a.put oi.dst v) w → wpAnyZ P ops C z Q (fuel + 1) listed a w := by
  intro fuel
  induction fuel with
  | zero =>
    intro listed a w _ hr _ _ hy hw H
    refine ⟨.inr hw, fun h => (by rw [h] at hr; cases hr), fun j hj => ?_⟩
    by_cases hji : j = i
    · subst hji; exact hy.wpOp hi hw H
    · have := ready_mono hj hji
      rw [H.2.1] at this
      cases this
  | succ fuel ih =>
    intro listed a w hfree hr hcl hlz hy hw H
    refine ⟨.inr hw, fun h => (by rw [h] at hr; cases hr), fun j hj => ?_⟩
    by_cases hji : j = i
    · subst hji; exact hy.wpOp hi hw H
    · have h1 := H.2.2 j (ready_mono hj hji)
      obtain ⟨hjun, oj, hoj, hall⟩ := mem_ready.1 hj
      have hnot : ∀ e ∈ oj.after, Region.binds .any e = true → e.on ≠ i := fun e he hb heq => by
        have h1 := hall e he hb
        have h0 := (mem_ready.1 hr).1
        rw [heq] at h1
        rcases Nat.lt_or_ge i listed.size with h' | h'
        · simp [h'] at h0 h1; rw [h0] at h1; cases h1
        · simp [Array.getElem?_eq_none h'] at h1
      have hjz : j ≠ z := fun e => by
        subst e
        obtain ⟨e, he, hb, h⟩ := hz oj hoj
        rcases h with h | h
        · exact hnot e he hb h
        · have h5 := hall e he hb
          have h6 : listed.getD i false = true := chain_listed hcl h5 h
          have h0 := (mem_ready.1 hr).1
          rcases Nat.lt_or_ge i listed.size with h' | h'
          · simp [h'] at h0 h6; rw [h0] at h6; cases h6
          · simp [Array.getElem?_eq_none h'] at h0
      have h2 := wpOp_putC hoj (hfree j oj hoj hji hjun hnot) (fun cs b => hsel i oi cs b hi) (fun cs b => hsel j oj cs b hoj) hQ hy h1
      have hfree' : ∀ k ok, ops[k]? = some ok → k ≠ i → (listed.setIfInBounds j true).getD k true = false →
          (∀ e ∈ ok.after, Region.binds .any e = true → e.on ≠ i) → oi.apart ops ok = true := fun k ok hk hki hun hno => by
        refine hfree k ok hk hki ?_ hno
        by_cases hjk : j = k
        · subst hjk; exact hjun
        · rw [getD_set_ne true hjk] at hun; exact hun
      have hlz' : (listed.setIfInBounds j true).getD z false = false := by rw [getD_set_ne false hjz]; exact hlz
      refine wpOp_mono (fun a' w' h3 => ih (listed.setIfInBounds j true) a' w' hfree' (ready_mono hr (Ne.symm hji)) (closed_set hcl hj) hlz' h3.1 ?_ ?_) h2
      · rcases h3.2.cls with h | h
        · rw [getD_set_ne false hjz, getD_set_ne false hiz] at h
          rw [h] at hlz; cases hlz
        · exact h
      · rw [Array.setIfInBounds_comm _ _ hji]
        exact h3.2
theorem wpAnyZ_of_plan (hs : Region.noSelect ops = true) (hQ : ∀ c a d v w, Q (.panic c) (a.put d v) w → Q (.panic c) a w) (hp1 : ∀ ch a w, Q1 (.panic ch) a w → Q (.panic ch) a w) (hl1 : LetsOut Q1 → LetsOut Q) (hn1 : ∀ a w, Q1 .normal a w → wpOp P ops Q z (fun a w => Q .normal a w) a w) :
    ∀ (l : List (Nat × Bool)) (listed : Array Bool) (a : Act) (w : World),
    planOk ops (l ++ [(z, true)]) listed = true → (∀ p ∈ l, p.1 ≠ z ∧ comesAfter ops z p.1) → closed ops listed → listed.getD z true = false → wpPlan P ops C Q1 l a w → wpAnyZ P ops C z Q (l.length + 1) listed a w
  | [], listed, a, w, hp, _, _, hlz, h => by
    simp only [List.nil_append, planOk, Bool.and_eq_true, beq_iff_eq] at hp
    refine ⟨.inr h.1, fun h0 => (by rw [hp.1] at h0; cases h0), fun j hj => ?_⟩
    rw [hp.1] at hj
    have : j = z := by simpa using hj
    subst this
    have hlt : j < listed.size := by
      rcases Nat.lt_or_ge j listed.size with h' | h'
      · exact h'
      · simp [Array.getElem?_eq_none h'] at hlz
    refine wpOp_mono (fun a w hq => ⟨.inl ?_, by simpa using hp.2, hq⟩) (hn1 a w h.2)
    simp [hlt]
  | (i, false) :: l, listed, a, w, hp, hz, hcl, hlz, h => by
    simp only [List.cons_append, planOk, Bool.and_eq_true] at hp
    obtain ⟨⟨hr, hf⟩, hp'⟩ := hp
    obtain ⟨hw, o, v, ho, hy, h⟩ := h
    obtain ⟨hiz, hzi⟩ := hz (i, false) (by simp)
    have hlz2 : listed.getD z false = false := by
      rcases Nat.lt_or_ge z listed.size with h' | h'
      · simp [h'] at hlz ⊢; exact hlz
      · simp [Array.getElem?_eq_none h'] at hlz
    exact wpAnyZ_first ho (Region.noSelect_spec hs) (fun c a w => hQ c a _ _ w) hiz hzi (l.length + 1) listed a w (Region.free_spec ho hf) (by simpa using hr) hcl hlz2 hy hw
      (wpAnyZ_of_plan hs hQ hp1 hl1 hn1 l _ _ _ hp' (fun p hp => hz p (by simp [hp])) (closed_set hcl (by simpa using hr)) (by rw [getD_set_ne true hiz]; exact hlz) h)
  | (i, true) :: l, listed, a, w, hp, hz, hcl, hlz, h => by
    simp only [List.cons_append, planOk, Bool.and_eq_true, beq_iff_eq] at hp
    obtain ⟨hiz, hzi⟩ := hz (i, true) (by simp)
    refine ⟨.inr h.1, fun h0 => (by rw [hp.1] at h0; cases h0), fun j hj => ?_⟩
    rw [hp.1] at hj
    have : j = i := by simpa using hj
    subst this
    exact wpOp_exit hp1 hl1 (wpOp_mono (fun a w => wpAnyZ_of_plan hs hQ hp1 hl1 hn1 l _ a w hp.2 (fun p hp => hz p (by simp [hp])) (closed_set hcl (by rw [hp.1]; simp)) (by rw [getD_set_ne true hiz]; exact hlz)) h.2)
def chainB (ops : Array Oper) : Nat → Nat → Nat → Bool
  | 0, _, _ => false
  | f + 1, k, i => match ops[k]? with
    | some ok => (ok.after.any fun e => Region.binds .any e && Nat.beq e.on i) || ok.after.any fun e => Region.binds .any e && chainB ops f e.on i
    | none => false
theorem chainB_spec {ops : Array Oper} : ∀ {f k i : Nat}, chainB ops f k i = true → chain ops f k i
  | 0, _, _, h => by cases h
  | f + 1, k, i, h => by
    unfold chainB at h
    split at h
    · rename_i ok hok
      rw [Bool.or_eq_true, Array.any_eq_true, Array.any_eq_true] at h
      rcases h with ⟨j, hj, h⟩ | ⟨j, hj, h⟩
      · rw [Bool.and_eq_true] at h
        exact ⟨ok, hok, ok.after[j], Array.getElem_mem hj, h.1, .inl (Nat.eq_of_beq_eq_true h.2)⟩
      · rw [Bool.and_eq_true] at h
        exact ⟨ok, hok, ok.after[j], Array.getElem_mem hj, h.1, .inr (chainB_spec h.2)⟩
    · cases h
def afterB (ops : Array Oper) (z i : Nat) : Bool := match ops[z]? with
  | some oz => chainB ops 7 z i
  | none => true
theorem afterB_spec {i : Nat} (h : afterB ops z i = true) : comesAfter ops z i := fun oz hz => by
  simp only [afterB, hz] at h
  obtain ⟨ok, hok, e, he, hb, h⟩ := chainB_spec h
  rw [hz] at hok
  injection hok with hok
  subst hok
  exact ⟨e, he, hb, h⟩
theorem wp_region_planZ {id : Nat} {a : Act} {w : World} {l : List (Nat × Bool)} (hm : P.follows .mixedOrders = true) (hs : Region.noSelect ops = true) (hl : l.length + 1 = ops.size) (hzl : z < ops.size)
    (hQ : ∀ c a d v w, Q (.panic c) (a.put d v) w → Q (.panic c) a w) (hp1 : ∀ ch a w, Q1 (.panic ch) a w → Q (.panic ch) a w) (hl1 : LetsOut Q1 → LetsOut Q) (hn1 : ∀ a w, Q1 .normal a w → wpOp P ops Q z (fun a w => Q .normal a w) a w)
    (hp : planOk ops (l ++ [(z, true)]) (Array.replicate ops.size false) = true) (hz : l.all (fun p => !(Nat.beq p.1 z) && afterB ops z p.1) = true)
    (h : wpPlan P ops C Q1 l a { w with drawn := w.drawn + 1 }) : (Code.region id ops true).wp P Q a w :=
  wp_region_any hm (wpAny_of_Z (C := C) (z := z) _ _ _ _ (by
    rw [← hl]; rw [← hl] at hp hzl
    refine wpAnyZ_of_plan hs hQ hp1 hl1 hn1 l _ a _ hp (fun p hp => ?_) (fun k ok _ hl => by simp [Array.getElem?_replicate] at hl; split at hl <;> simp at hl) (by simp [hzl]) h
    have := List.all_eq_true.1 hz p hp
    simp only [Bool.and_eq_true, Bool.not_eq_true'] at this
    exact ⟨Nat.ne_of_beq_eq_false this.1, afterB_spec this.2⟩))
end
section
variable {c : Cx} {E : Env} {L : List HProp} {K : List KI}
theorem g_drawZ {id : Nat} {l : List Oper} {Lf : List HProp} {oz : Oper} (pl : List (Nat × Bool)) (z : Nat) (hz0 : l[z]? = some oz) (hm : c.P.follows .mixedOrders = true) (hs : Region.noSelect l.toArray = true) (hl : pl.length + 1 = l.length)
    (hp : planOk l.toArray (pl ++ [(z, true)]) (Array.replicate l.length false) = true) (hz : pl.all (fun p => !(Nat.beq p.1 z) && afterB l.toArray z p.1) = true)
    (h : G c (.plan l (fun w => Sat c.w0 w Lf) pl :: .ops l [oz] :: K) E L) : G c (.code (.region id l.toArray true) :: K) E L := fun a w hE hS => by
  have hzl : z < l.length := (List.getElem?_eq_some_iff.1 hz0).1
  refine wp_region_planZ (Q1 := kq c.P c.Q (.ops l [oz] :: K)) (z := z) (l := pl) hm hs (by simpa using hl) (by simpa using hzl) (fun ch a d v w hq => absurd hq kq_panic) (fun ch a w h => h) (fun h => h) (fun a w h => ?_) (by simpa using hp) hz (h a _ hE (hS.drew _))
  have hz1 : l.toArray[z]? = some oz := by simpa using hz0
  unfold wpOp
  rw [hz1]
  exact h
end
section
variable {c : Cx} {g : Option (Nat × Bool)} {E : Env} {L L' : List HProp} {d : Option Tmp} {ty : TypeId} {pos : String} {af : Array Edge} {gu : Option (Nat × Bool)}
variable {x y : Operand} {t : TypeId} {v : Value} {s : Option Addr} {j sz cap : Nat}
theorem l_storeS0 {rows : List (List Value)} {row : List Value} {T : Nat} {F : List HProp} (hz : ∀ w, (sizeOf t).run c.P w = .ok 1 w) (hx : ev g E x = some (adr s (j * sz))) (hy : ev g E y = some v) (h1 : one v = true) [R : OwR L s T sz cap rows F] (hj : rows[j]? = some row) (hf : 0 < sz) :
    OpL c g E L ⟨d, .store t x y, ty, pos, af, gu⟩ fun _ L' => L' = owL T sz s cap (rows.set j (row.set 0 v)) :: F := l_storeS hz (f := 0) (by simpa using hx) hy h1 hj hf
end
end Go.Sl
