/- Steps through a function's code: frames as lists of known slots, memory as a list of assertions. No condition. -/
import Derived.Test.YthdjckbjjfiopacSl1
import Derived.Tactics
import Derived.Still
namespace Go.Sl
set_option linter.unusedVariables false

abbrev Ent := Nat × Option (Nat × Bool) × Value
abbrev Env := List Ent
def ent : Env → Nat → Option (Option (Nat × Bool) × Value)
  | [], _ => none
  | (s, h, v) :: E, t => match Nat.beq s t with | true => some (h, v) | false => ent E t
def sameB : Bool → Bool → Bool
  | true, b => b
  | false, true => false
  | false, false => true
def look (g : Option (Nat × Bool)) (E : Env) (t : Nat) : Option Value :=
  match ent E t with
  | some (none, v) => some v
  | some (some (j, b), v) => match g with
    | some (j', b') => match Nat.beq j j' with
      | true => match sameB b b' with | true => some v | false => none
      | false => none
    | none => none
  | none => none
def ev (g : Option (Nat × Bool)) (E : Env) : Operand → Option Value
  | .tmp t => look g E t
  | .const v => some v
  | .global x => some (.pointer (some ⟨x, 0, none⟩))
  | .func f => some (.func (.func f) #[] #[])
def evs (g : Option (Nat × Bool)) (E : Env) : List Operand → Option (List Value)
  | [] => some []
  | x :: xs => match ev g E x with
    | some v => match evs g E xs with | some vs => some (v :: vs) | none => none
    | none => none
/-- Slots with their values. -/
def U : List (Nat × Value) → Env
  | [] => []
  | (t, v) :: l => (t, none, v) :: U l
/-- The named slots' values, out of a frame. -/
def keep (E : Env) : List Nat → Option Env
  | [] => some []
  | t :: ts => match look none E t with
    | some v => match keep E ts with | some R => some ((t, none, v) :: R) | none => none
    | none => none
/-- the argument slots -/
def argEnv : Nat → List Value → Env
  | _, [] => []
  | i, v :: vs => (i, none, v) :: argEnv (i + 1) vs

def gd (g : Option (Nat × Bool)) (a : Act) : Prop := ∀ j b, g = some (j, b) → a.tmps[j]? = some (.bool b)
structure EOk (n : Nat) (E : Env) (a : Act) : Prop where
  defers : a.defers = []
  size : a.tmps.size = n
  at_ : ∀ t h v, ent E t = some (h, v) → gd h a → a.tmps[t]? = some v

theorem sameB_eq {a b : Bool} (h : sameB a b = true) : a = b := by cases a <;> cases b <;> simp_all [sameB]
theorem EOk.look {n : Nat} {E : Env} {a : Act} {g : Option (Nat × Bool)} {t : Nat} {v : Value} (h : EOk n E a) (hg : gd g a) (hl : look g E t = some v) : a.tmps[t]? = some v := by
  unfold Sl.look at hl
  split at hl
  · rename_i u he
    injection hl with hl; subst hl
    exact h.at_ t _ _ he (fun j b e => by cases e)
  · rename_i j b u he
    split at hl
    · rename_i j' b'
      split at hl
      · rename_i hj
        split at hl
        · rename_i hb
          injection hl with hl; subst hl
          have e1 := Nat.eq_of_beq_eq_true hj
          have e2 := sameB_eq hb
          subst e1 e2
          exact h.at_ t _ _ he hg
        · cases hl
      · cases hl
    · cases hl
  · cases hl
theorem gd_none (a : Act) : gd none a := fun _ _ e => by cases e
theorem EOk.ev {n : Nat} {E : Env} {a : Act} {g : Option (Nat × Bool)} {x : Operand} {v : Value} (h : EOk n E a) (hg : gd g a) (hl : ev g E x = some v) : a.eval x = v := by
  cases x with
  | tmp t => have := h.look hg hl; simp [Act.eval, Array.getD_eq_getD_getElem?, this]
  | const u => injection hl
  | global u => injection hl
  | func u => injection hl
theorem EOk.evs {n : Nat} {E : Env} {a : Act} {g : Option (Nat × Bool)} (h : EOk n E a) (hg : gd g a) : ∀ {xs : List Operand} {vs : List Value}, evs g E xs = some vs → xs.map a.eval = vs
  | [], vs, hl => by injection hl with hl
  | x :: xs, vs, hl => by
    unfold Sl.evs at hl
    split at hl
    · rename_i v hv
      split at hl
      · rename_i us hus
        injection hl with hl; subst hl
        simp [h.ev hg hv, h.evs hg hus]
      · cases hl
    · cases hl

/-- May slot d be written? It lies in the frame, and no tagged value hangs on it. -/
def dOk (n d : Nat) : Env → Bool
  | [] => Nat.blt d n
  | (_, none, _) :: E => dOk n d E
  | (_, some (j, _), _) :: E => match Nat.beq j d with | true => false | false => dOk n d E
theorem dOk_lt {n d : Nat} : ∀ {E : Env}, dOk n d E = true → d < n
  | [], h => by simpa [dOk, Nat.blt_eq] using h
  | (_, none, _) :: E, h => dOk_lt (E := E) h
  | (_, some (j, _), _) :: E, h => by
    unfold dOk at h
    split at h
    · cases h
    · exact dOk_lt (E := E) h
theorem dOk_ne {n d : Nat} : ∀ {E : Env} {t : Nat} {j : Nat} {b : Bool} {v : Value}, dOk n d E = true → ent E t = some (some (j, b), v) → j ≠ d
  | [], t, j, b, v, h, he => by cases he
  | (s, none, u) :: E, t, j, b, v, h, he => by
    unfold ent at he
    split at he
    · injection he with he; injection he with h1 _; cases h1
    · exact dOk_ne (E := E) h he
  | (s, some (i, c), u) :: E, t, j, b, v, h, he => by
    unfold dOk at h
    split at h
    · cases h
    · rename_i hi
      unfold ent at he
      split at he
      · injection he with he; injection he with h1 _; injection h1 with h1; injection h1 with h1 _
        subst h1
        exact Nat.ne_of_beq_eq_false hi
      · exact dOk_ne (E := E) h he

theorem put_at {a : Act} {d : Nat} {v : Value} (h : d < a.tmps.size) : (a.put (some d) v).tmps[d]? = some v := by simp [Act.put, h]
theorem put_ne {a : Act} {d t : Nat} {v : Value} (h : d ≠ t) : (a.put (some d) v).tmps[t]? = a.tmps[t]? := by simp [Act.put, Array.getElem?_setIfInBounds_ne h]

theorem EOk.put {n : Nat} {E : Env} {a : Act} {d : Nat} {g : Option (Nat × Bool)} {v u : Value} (h : EOk n E a) (hd : dOk n d E = true) (hgd : ∀ j b, g = some (j, b) → j ≠ d) (hv : gd g a → u = v) :
    EOk n ((d, g, v) :: E) (a.put (some d) u) := by
  have hlt : d < a.tmps.size := by rw [h.size]; exact dOk_lt hd
  refine ⟨h.defers, by simp [Act.put, h.size], fun t k w he hk => ?_⟩
  unfold ent at he
  split at he
  · rename_i hb
    have := Nat.eq_of_beq_eq_true hb
    subst this
    injection he with he; injection he with h1 h2; subst h1 h2
    rw [put_at hlt]
    have : gd g a := fun j b e => by
      have := hk j b e
      rwa [put_ne (Ne.symm (hgd j b e))] at this
    rw [hv this]
  · rename_i hb
    rw [put_ne (Nat.ne_of_beq_eq_false hb)]
    refine h.at_ t k w he fun j b e => ?_
    have h1 := hk j b e
    subst e
    rwa [put_ne (Ne.symm (dOk_ne hd he))] at h1
theorem EOk.put1 {n : Nat} {E : Env} {a : Act} {d : Nat} {v : Value} (h : EOk n E a) (hd : dOk n d E = true) : EOk n ((d, none, v) :: E) (a.put (some d) v) :=
  h.put hd (fun _ _ e => by cases e) fun _ => rfl
theorem EOk.put0 {n : Nat} {E : Env} {a : Act} {v : Value} (h : EOk n E a) : EOk n E (a.put none v) := h
theorem EOk.keep {n : Nat} {E : Env} {a : Act} (h : EOk n E a) : ∀ {ts : List Nat} {R : Env}, keep E ts = some R → EOk n R a
  | [], R, hk => by injection hk with hk; subst hk; exact ⟨h.defers, h.size, fun _ _ _ e => by cases e⟩
  | t :: ts, R, hk => by
    unfold Sl.keep at hk
    split at hk
    · rename_i v hv
      split at hk
      · rename_i R' hR
        injection hk with hk; subst hk
        refine ⟨h.defers, h.size, fun s k w he hg => ?_⟩
        unfold ent at he
        split at he
        · rename_i hb
          have := Nat.eq_of_beq_eq_true hb
          subst this
          injection he with he; injection he with h1 h2; subst h1 h2
          exact h.look (gd_none a) hv
        · exact (h.keep hR).at_ s k w he hg
      · cases hk
    · cases hk

/-! ### What is left to do -/
abbrev Post := Exit → Act → World → Prop
inductive KI where
  | code (c : Code)
  | blk (id : Nat)
  | ops (all rest : List Oper)
  | plan (all : List Oper) (C : World → Prop) (rest : List (Nat × Bool))
  | fin (J : Act → World → Prop)

/-! #### Regions that draw their order: an order of ours serves for all -/
section
variable {P : Program} {ops : Array Oper} {Q : Post} {C : World → Prop}

/-- The operation hands back v in every world of the class, and leaves the world alone. -/
def Quiet (P : Program) (C : World → Prop) (o : Oper) (a : Act) (v : Value) : Prop := ∀ w, C w → (execOp a.eval o).run P w = .ok (.value v) w ∨ ((execOp a.eval o).run P w = .ok .skip w ∧ v = undef)
def YieldsC (P : Program) (ops : Array Oper) (C : World → Prop) (o : Oper) (v : Value) (a : Act) : Prop :=
  (Region.wanted o (yielded ops a.tmps) = true ∧ Quiet P C o a v) ∨ (Region.wanted o (yielded ops a.tmps) = false ∧ v = undef)

def wpAnyC (P : Program) (ops : Array Oper) (C : World → Prop) (Q : Post) : Nat → Array Bool → Act → World → Prop
  | 0, listed, a, w => C w ∧ Region.ready .any ops listed = [] ∧ Q .normal a w
  | fuel + 1, listed, a, w =>
    C w ∧ (Region.ready .any ops listed = [] → Q .normal a w) ∧
    ∀ i ∈ Region.ready .any ops listed, wpOp P ops Q i (wpAnyC P ops C Q fuel (listed.setIfInBounds i true)) a w

theorem wpAnyC.cls {fuel : Nat} {listed : Array Bool} {a : Act} {w : World} (h : wpAnyC P ops C Q fuel listed a w) : C w := by
  cases fuel <;> exact h.1

theorem wpAny_of_C : ∀ (fuel : Nat) (listed : Array Bool) (a : Act) (w : World), wpAnyC P ops C Q fuel listed a w → wpAny P .any ops Q fuel listed a w
  | 0, _, _, _, h => h.2
  | fuel + 1, _, _, _, h => ⟨h.2.1, fun i hi => wpOp_mono (fun a w => wpAny_of_C fuel _ a w) (h.2.2 i hi)⟩

theorem YieldsC.wpOp {i : Nat} {o : Oper} {v : Value} {a : Act} {w : World} {K : Act → World → Prop} (hi : ops[i]? = some o) (hw : C w) (hy : YieldsC P ops C o v a) (h : K (a.put o.dst v) w) : wpOp P ops Q i K a w := by
  unfold Go.wpOp
  simp only [hi]
  rcases hy with ⟨hwt, hv⟩ | ⟨hwt, rfl⟩
  · simp only [hwt, if_true]
    refine .inl ?_
    unfold Oper.wp
    rcases hv w hw with he | ⟨he, rfl⟩ <;> rw [he] <;> exact h
  · simp only [hwt, Bool.false_eq_true, if_false]; exact h

theorem YieldsC.of_same {o : Oper} {v : Value} {a a' : Act} (hy : YieldsC P ops C o v a) (he : execOp a'.eval o = execOp a.eval o)
    (hw : Region.wanted o (yielded ops a'.tmps) = Region.wanted o (yielded ops a.tmps)) : YieldsC P ops C o v a' := by
  unfold YieldsC Quiet at *
  rw [he, hw]
  exact hy

theorem upon_put {o : Oper} {a : Act} {dst : Option Tmp} {v : Value} {r : Result Next} {K : Act → World → Prop} {Y : Act → Prop} (hsafe : ∀ d, dst = some d → o.dst ≠ some d)
    (hQ : ∀ c a w, Q (.panic c) (a.put dst v) w → Q (.panic c) a w) (hY1 : ∀ u, Y (a.put o.dst u)) (hY2 : ∀ d u, Y (({ a with defers := d :: a.defers } : Act).put o.dst u))
    (h : o.upon P (a.put dst v) K Q r) : o.upon P a (fun a' w' => Y a' ∧ K (a'.put dst v) w') Q r := by
  have hc : ∀ u, (a.put dst v).put o.dst u = (a.put o.dst u).put dst v := fun u => Act.put_comm a v u hsafe
  cases r with
  | ok n w' =>
    cases n <;> simp only [Oper.upon] at h ⊢
    case value u => exact ⟨hY1 _, by rw [← hc]; exact h⟩
    case skip => exact ⟨hY1 _, by rw [← hc]; exact h⟩
    case defer d =>
      have h2 := Act.put_comm ({ a with defers := d :: a.defers } : Act) v undef hsafe
      have h3 : ({ a.put dst v with defers := d :: (a.put dst v).defers } : Act) = ({ a with defers := d :: a.defers } : Act).put dst v := Act.put_defers a dst v d
      rw [h3] at h
      exact ⟨hY2 _ _, by rw [← h2]; exact h⟩
    case enter f args => exact h.mono fun e w'' he => by cases e <;> first | (simp only [] at he ⊢; exact ⟨hY1 _, by rw [← hc]; exact he⟩) | exact hQ _ _ _ he | exact he
    case row row args => exact h.mono fun u w'' he => ⟨hY1 _, by rw [← hc]; exact he⟩
    all_goals exact h
  | halt x w' =>
    cases x <;> simp only [Oper.upon] at h ⊢ <;> first | exact hQ _ _ _ h | exact h

theorem asks_put {o : Oper} {a : Act} {dst : Option Tmp} {v : Value} {w : World} (he : execOp (a.put dst v).eval o = execOp a.eval o) (h : o.asks P (a.put dst v) w) : o.asks P a w := by
  unfold Oper.asks at *
  rwa [he] at h

theorem wpOp_putC {j : Nat} {oi oj : Oper} {v : Value} (hj : ops[j]? = some oj) (hap : oi.apart ops oj = true)
    (hsi : ∀ cs b, oi.op ≠ .select cs b) (hsj : ∀ cs b, oj.op ≠ .select cs b) (hQ : ∀ c a w, Q (.panic c) (a.put oi.dst v) w → Q (.panic c) a w) {K : Act → World → Prop} {a : Act} {w : World}
    (hy : YieldsC P ops C oi v a) (h : wpOp P ops Q j K (a.put oi.dst v) w) : wpOp P ops Q j (fun a' w' => YieldsC P ops C oi v a' ∧ K (a'.put oi.dst v) w') a w := by
  obtain ⟨h1, h2, h3⟩ := Oper.apart_spec hap
  have hY1 : ∀ u, YieldsC P ops C oi v (a.put oj.dst u) := fun u => hy.of_same (execOp_put oi hsi a oj.dst u h3) (wanted_put oi a oj.dst u h3)
  have hY2 : ∀ d u, YieldsC P ops C oi v (({ a with defers := d :: a.defers } : Act).put oj.dst u) := fun d u => (hY1 u).of_same (by
    have : (({ a with defers := d :: a.defers } : Act).put oj.dst u).eval = (a.put oj.dst u).eval := by
      funext x; cases hd : oj.dst <;> cases x <;> simp [Act.eval, Act.put]
    rw [this]) (by cases hd : oj.dst <;> simp [Act.put])
  unfold wpOp at *
  simp only [hj] at *
  rw [wanted_put oj a oi.dst v h1] at h
  have he := execOp_put oj hsj a oi.dst v h1
  split
  · rename_i hw
    simp only [hw, if_true] at h
    rcases h with h | ⟨h, hl⟩
    · refine .inl ?_
      unfold Oper.wp at *
      rw [he] at h
      exact upon_put h2 hQ hY1 hY2 h
    · exact .inr ⟨asks_put he h, hl⟩
  · rename_i hw
    simp only [hw] at h
    exact ⟨hY1 _, by rw [← Act.put_comm a v undef h2]; exact h⟩

/-- An operation that may come up now may be taken first, if it yields its value in every world of the class, and whatever else may come up does not look at it. -/
theorem wpAnyC_first {i : Nat} {oi : Oper} {v : Value} (hi : ops[i]? = some oi) (hsel : ∀ (j : Nat) (o : Oper) cs b, ops[j]? = some o → o.op ≠ .select cs b)
    (hQ : ∀ c a w, Q (.panic c) (a.put oi.dst v) w → Q (.panic c) a w) :
    ∀ (fuel : Nat) (listed : Array Bool) (a : Act) (w : World),
      (∀ j oj, ops[j]? = some oj → j ≠ i → listed.getD j true = false → (∀ e ∈ oj.after, Region.binds .any e = true → e.on ≠ i) → oi.apart ops oj = true) →
      i ∈ Region.ready .any ops listed → YieldsC P ops C oi v a → C w →
      wpAnyC P ops C Q fuel (listed.setIfInBounds i true) (a.put oi.dst v) w → wpAnyC P ops C Q (fuel + 1) listed a w := by
  intro fuel
  induction fuel with
  | zero =>
    intro listed a w _ hr hy hw H
    refine ⟨hw, fun h => (by rw [h] at hr; cases hr), fun j hj => ?_⟩
    by_cases hji : j = i
    · subst hji; exact hy.wpOp hi hw H
    · have := ready_mono hj hji
      rw [H.2.1] at this
      cases this
  | succ fuel ih =>
    intro listed a w hfree hr hy hw H
    refine ⟨hw, fun h => (by rw [h] at hr; cases hr), fun j hj => ?_⟩
    by_cases hji : j = i
    · subst hji; exact hy.wpOp hi hw H
    · have h1 := H.2.2 j (ready_mono hj hji)
      obtain ⟨hjun, oj, hoj, hall⟩ := mem_ready.1 hj
      have hnot : ∀ e ∈ oj.after, Region.binds .any e = true → e.on ≠ i := fun e he hb heq => by
        have h1 := hall e he hb
        have h0 := (mem_ready.1 hr).1
        rw [heq] at h1
        rcases Nat.lt_or_ge i listed.size with h' | h'
        · simp [h'] at h0 h1; rw [h0] at h1; cases h1
        · simp [Array.getElem?_eq_none h'] at h1
      have h2 := wpOp_putC hoj (hfree j oj hoj hji hjun hnot) (fun cs b => hsel i oi cs b hi) (fun cs b => hsel j oj cs b hoj) hQ hy h1
      have hfree' : ∀ k ok, ops[k]? = some ok → k ≠ i → (listed.setIfInBounds j true).getD k true = false →
          (∀ e ∈ ok.after, Region.binds .any e = true → e.on ≠ i) → oi.apart ops ok = true := fun k ok hk hki hun hno => by
        refine hfree k ok hk hki ?_ hno
        by_cases hjk : j = k
        · subst hjk; exact hjun
        · rw [getD_set_ne true hjk] at hun; exact hun
      refine wpOp_mono (fun a' w' h3 => ih (listed.setIfInBounds j true) a' w' hfree' (ready_mono hr (Ne.symm hji)) h3.1 h3.2.cls ?_) h2
      rw [Array.setIfInBounds_comm _ _ hji]
      exact h3.2

/-- Our order: quiet operations as they are named; a loud one where no other may come up. -/
def planOk (ops : Array Oper) : List (Nat × Bool) → Array Bool → Bool
  | [], listed => (Region.ready .any ops listed).isEmpty
  | (i, false) :: rest, listed => (Region.ready .any ops listed).contains i && Region.free .any ops listed i && planOk ops rest (listed.setIfInBounds i true)
  | (i, true) :: rest, listed => (Region.ready .any ops listed == [i]) && planOk ops rest (listed.setIfInBounds i true)
def wpPlan (P : Program) (ops : Array Oper) (C : World → Prop) (Q : Post) : List (Nat × Bool) → Act → World → Prop
  | [], a, w => C w ∧ Q .normal a w
  | (i, false) :: rest, a, w => C w ∧ ∃ o v, ops[i]? = some o ∧ YieldsC P ops C o v a ∧ wpPlan P ops C Q rest (a.put o.dst v) w
  | (i, true) :: rest, a, w => C w ∧ wpOp P ops Q i (wpPlan P ops C Q rest) a w
theorem wpAnyC_of_plan (hs : Region.noSelect ops = true) (hQ : ∀ c a d v w, Q (.panic c) (a.put d v) w → Q (.panic c) a w) : ∀ (l : List (Nat × Bool)) (listed : Array Bool) (a : Act) (w : World),
    planOk ops l listed = true → wpPlan P ops C Q l a w → wpAnyC P ops C Q l.length listed a w
  | [], listed, a, w, hp, h => ⟨h.1, by simpa [planOk] using hp, h.2⟩
  | (i, false) :: l, listed, a, w, hp, h => by
    simp only [planOk, Bool.and_eq_true] at hp
    obtain ⟨⟨hr, hf⟩, hp'⟩ := hp
    obtain ⟨hw, o, v, ho, hy, h⟩ := h
    exact wpAnyC_first ho (Region.noSelect_spec hs) (fun c a w => hQ c a _ _ w) l.length listed a w (Region.free_spec ho hf) (by simpa using hr) hy hw
      (wpAnyC_of_plan hs hQ l _ _ _ hp' h)
  | (i, true) :: l, listed, a, w, hp, h => by
    simp only [planOk, Bool.and_eq_true, beq_iff_eq] at hp
    refine ⟨h.1, fun h0 => (by rw [hp.1] at h0; cases h0), fun j hj => ?_⟩
    rw [hp.1] at hj
    have : j = i := by simpa using hj
    subst this
    exact wpOp_mono (fun a w => wpAnyC_of_plan hs hQ l _ a w hp.2) h.2
theorem wp_region_plan {id : Nat} {a : Act} {w : World} {l : List (Nat × Bool)} (hm : P.follows .mixedOrders = true) (hs : Region.noSelect ops = true) (hl : l.length = ops.size)
    (hQ : ∀ c a d v w, Q (.panic c) (a.put d v) w → Q (.panic c) a w) (hp : planOk ops l (Array.replicate ops.size false) = true)
    (h : wpPlan P ops C Q l a { w with drawn := w.drawn + 1 }) : (Code.region id ops true).wp P Q a w :=
  wp_region_any hm (wpAny_of_C _ _ _ _ (by rw [← hl]; rw [← hl] at hp; exact wpAnyC_of_plan hs hQ l _ a _ hp h))
end
end Go.Sl
