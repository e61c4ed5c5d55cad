/- The rules by which a function's code is stepped through. No condition. -/
import Derived.Test.YthdjckbjjfiopacSl4
import Derived.Deep.LoopGhost
namespace Go.Sl
set_option linter.unusedVariables false

/-- What a call owes: it returns, and what it leaves fits R. -/
def fpost (P : Program) (fn : Func) (w0 : World) (R : Value → List HProp → Prop) : Post := bodyPost P fn fun e w => match e with
  | .returned v => ∃ L, Sat w0 w L ∧ R v L
  | _ => False

def Ct (P : Program) (f : FuncId) (args : List Value) (L : List HProp) (R : Value → List HProp → Prop) : Prop :=
  ∀ w0 w, Sat w0 w L → Calls P f args.toArray w fun e w' => match e with
    | .returned v => ∃ L', Sat w0 w' L' ∧ R v L'
    | _ => False

def kq (P : Program) (Qf : Post) : List KI → Post
  | [], e, a, w => Qf e a w
  | .code c :: K, e, a, w => match e with
    | .normal => c.wp P (kq P Qf K) a w
    | e => kq P Qf K e a w
  | .blk id :: K, e, a, w => Exit.inBlock id (kq P Qf K) e a w
  | .ops all rest :: K, e, a, w => match e with
    | .normal => wpList P all.toArray (kq P Qf K) rest a w
    | e => kq P Qf K e a w
  | .plan all C rest :: K, e, a, w => match e with
    | .normal => wpPlan P all.toArray C (kq P Qf K) rest a w
    | e => kq P Qf K e a w
  | .fin J :: K, e, a, w => match e with
    | .normal => J a w
    | e => kq P Qf K e a w

structure Cx where
  P : Program
  fn : Func
  w0 : World
  R : Value → List HProp → Prop
  n : Nat
def Cx.Q (c : Cx) : Post := fpost c.P c.fn c.w0 c.R
def G (c : Cx) (K : List KI) (E : Env) (L : List HProp) : Prop := ∀ a w, EOk c.n E a → Sat c.w0 w L → kq c.P c.Q K .normal a w
def Gx (c : Cx) (K : List KI) (e : Exit) (E : Env) (L : List HProp) : Prop := ∀ a w, EOk c.n E a → Sat c.w0 w L → kq c.P c.Q K e a w

theorem kq_panic {c : Cx} : ∀ {K : List KI} {ch : List PanicEntry} {a : Act} {w : World}, ¬ kq c.P c.Q K (.panic ch) a w
  | [], ch, a, w, h => h.2
  | .code _ :: K, ch, a, w, h => kq_panic (K := K) h
  | .blk _ :: K, ch, a, w, h => kq_panic (K := K) h
  | .ops _ _ :: K, ch, a, w, h => kq_panic (K := K) h
  | .plan _ _ _ :: K, ch, a, w, h => kq_panic (K := K) h
  | .fin _ :: K, ch, a, w, h => kq_panic (K := K) h

section
variable {c : Cx} {K : List KI} {E : Env} {L : List HProp} {x y : Code}

theorem g_seq (h : G c (.code x :: .code y :: K) E L) : G c (.code (.seq x y) :: K) E L := fun a w hE hS => by
  refine wp_seq (wp_mono (h a w hE hS) fun e a w hq => ?_)
  cases e <;> exact hq
theorem g_skip (h : G c K E L) : G c (.code .skip :: K) E L := fun a w hE hS => wp_skip (h a w hE hS)
theorem g_label {l : Nat} (h : G c K E L) : G c (.code (.label l) :: K) E L := fun a w hE hS => wp_label (h a w hE hS)
theorem g_block {id : Nat} (h : G c (.code x :: .blk id :: K) E L) : G c (.code (.block id x) :: K) E L := fun a w hE hS => wp_block (wp_mono (h a w hE hS) fun e a w hq => hq)
theorem g_blk {id : Nat} (h : G c K E L) : G c (.blk id :: K) E L := fun a w hE hS => h a w hE hS
theorem g_cond {t : Operand} {b : Bool} (ht : ev none E t = some (.bool b)) (h1 : b = true → G c (.code x :: K) E L) (h2 : b = false → G c (.code y :: K) E L) : G c (.code (.cond t x y) :: K) E L :=
  fun a w hE hS => wp_cond_split (hE.ev (gd_none a) ht) (fun e => h1 e a w hE hS) (fun e => h2 e a w hE hS)
theorem g_true {t : Operand} (ht : ev none E t = some (.bool true)) (h1 : G c (.code x :: K) E L) : G c (.code (.cond t x y) :: K) E L := g_cond ht (fun _ => h1) (fun e => by cases e)
theorem g_false {t : Operand} (ht : ev none E t = some (.bool false)) (h1 : G c (.code y :: K) E L) : G c (.code (.cond t x y) :: K) E L := g_cond ht (fun e => by cases e) (fun _ => h1)

/-- where an exit of block id leads -/
def unwind (id : Nat) : List KI → Option (List KI)
  | [] => none
  | .blk j :: K => match Nat.beq id j with | true => some K | false => unwind id K
  | _ :: K => unwind id K
theorem unwind_kq {P : Program} {Qf : Post} {id : Nat} {a : Act} {w : World} : ∀ {K K' : List KI}, unwind id K = some K' → kq P Qf K' .normal a w → kq P Qf K (.exit id) a w
  | [], _, h, _ => by cases h
  | .blk j :: K, K', h, hk => by
    unfold unwind at h
    split at h
    · rename_i hb
      injection h with h; subst h
      have := Nat.eq_of_beq_eq_true hb
      show Exit.inBlock j (kq P Qf K) (.exit id) a w
      simp only [Exit.inBlock, this, if_true]
      exact hk
    · rename_i hb
      have := Nat.ne_of_beq_eq_false hb
      show Exit.inBlock j (kq P Qf K) (.exit id) a w
      simp only [Exit.inBlock, this, if_false]
      exact unwind_kq h hk
  | .code _ :: K, K', h, hk => unwind_kq (K := K) h hk
  | .ops _ _ :: K, K', h, hk => unwind_kq (K := K) h hk
  | .plan _ _ _ :: K, K', h, hk => unwind_kq (K := K) h hk
  | .fin _ :: K, K', h, hk => unwind_kq (K := K) h hk
theorem g_exit {id : Nat} {K' : List KI} (hu : unwind id K = some K') (h : G c K' E L) : G c (.code (.exit id) :: K) E L := fun a w hE hS => wp_exit (unwind_kq hu (h a w hE hS))

theorem kq_ret {P : Program} {Qf : Post} {a : Act} {w : World} (h : Qf .ret a w) : ∀ {K : List KI}, kq P Qf K .ret a w
  | [] => h
  | .code _ :: K => kq_ret h (K := K)
  | .blk _ :: K => kq_ret h (K := K)
  | .ops _ _ :: K => kq_ret h (K := K)
  | .plan _ _ _ :: K => kq_ret h (K := K)
  | .fin _ :: K => kq_ret h (K := K)

/-- the value of result slots -/
def resOf (E : Env) : List ResultVar → Option (List Value)
  | [] => some []
  | .tmp t :: rs => match look none E t with
    | some v => match resOf E rs with | some vs => some (v :: vs) | none => none
    | none => none
  | .cell _ _ :: _ => none
def tup : List Value → Value
  | [v] => v
  | vs => .tuple vs.toArray
def resSem (a : Act) : ResultVar → Sem Value
  | .tmp t => pure (a.tmps.getD t undef)
  | .cell x t => do loadVar t (← asAddr (a.tmps.getD x undef))
theorem resOf_run {P : Program} {n : Nat} {a : Act} {w : World} (hE : EOk n E a) : ∀ {rs : List ResultVar} {vs : List Value}, resOf E rs = some vs → (rs.mapM (resSem a)).run P w = Result.ok vs w
  | [], vs, h => by injection h with h; subst h; simp [Sem.run_pure]
  | ResultVar.tmp t :: rs, vs, h => by
    unfold resOf at h
    split at h
    · rename_i v hv
      split at h
      · rename_i us hus
        injection h with h; subst h
        have h1 := hE.look (gd_none a) hv
        simp [List.mapM_cons, resOf_run hE hus, resSem, Array.getD_eq_getD_getElem?, h1]
      · cases h
    · cases h
  | ResultVar.cell _ _ :: _, vs, h => by cases h
theorem results_eq (fn : Func) (a : Act) : results fn a.tmps = (do
    let vs ← fn.results.mapM (resSem a)
    pure (if h : vs.size = 1 then vs[0] else .tuple vs)) := by
  unfold results
  congr 1
theorem res_fpost {vs : List Value} {a : Act} {w : World} (hr : resOf E c.fn.results.toList = some vs) (hE : EOk c.n E a) (hS : Sat c.w0 w L) (hR : c.R (tup vs) L) :
    a.defers = [] ∧ ∃ v, (results c.fn a.tmps).run c.P w = .ok v w ∧ ∃ L, Sat c.w0 w L ∧ c.R v L := by
  refine ⟨hE.defers, tup vs, ?_, L, hS, hR⟩
  have h1 := resOf_run (P := c.P) (w := w) hE hr
  rw [results_eq, Array.mapM_eq_mapM_toList]
  simp only [Sem.run_bind, Sem.run_map]
  rw [h1]
  simp only [Result.andThen_ok, Sem.run_pure]
  congr 1
  match vs with
  | [] => simp [tup]
  | [v] => simp [tup]
  | v :: u :: vs => simp [tup]
theorem g_ret {vs : List Value} (hr : resOf E c.fn.results.toList = some vs) (hR : c.R (tup vs) L) : G c (.code .ret :: K) E L :=
  fun a w hE hS => wp_ret (kq_ret (res_fpost hr hE hS hR))
theorem g_end {vs : List Value} (hr : resOf E c.fn.results.toList = some vs) (hR : c.R (tup vs) L) : G c [] E L :=
  fun a w hE hS => res_fpost hr hE hS hR

/-- The two forms of what is owed. -/
def R1 (val : Value) (Post : List HProp) : Value → List HProp → Prop := fun v L' => v = val ∧ L' = Post
def RR {β : Type} (φ : β → Prop) (val : β → Value) (Post : β → List HProp) : Value → List HProp → Prop := fun v L' => ∃ z, φ z ∧ v = val z ∧ L' = Post z
theorem g_ret1 {vs : List Value} {val : Value} {Post : List HProp} (hR : c.R = R1 val Post) (hr : resOf E c.fn.results.toList = some vs) [S : Sub L Post] (hv : tup vs = val) : G c (.code .ret :: K) E L :=
  fun a w hE hS => wp_ret (kq_ret (res_fpost hr hE (S.sat hS) (by rw [hR]; exact ⟨hv, rfl⟩)))
theorem g_end1 {vs : List Value} {val : Value} {Post : List HProp} (hR : c.R = R1 val Post) (hr : resOf E c.fn.results.toList = some vs) [S : Sub L Post] (hv : tup vs = val) : G c [] E L :=
  fun a w hE hS => res_fpost hr hE (S.sat hS) (by rw [hR]; exact ⟨hv, rfl⟩)
theorem g_retR {β : Type} {φ : β → Prop} {val : β → Value} {Post : β → List HProp} {vs : List Value} (z : β) (hR : c.R = RR φ val Post) (hr : resOf E c.fn.results.toList = some vs) [S : Sub L (Post z)] (hv : tup vs = val z) (hz : φ z) : G c (.code .ret :: K) E L :=
  fun a w hE hS => wp_ret (kq_ret (res_fpost hr hE (S.sat hS) (by rw [hR]; exact ⟨z, hz, hv, rfl⟩)))
theorem g_endR {β : Type} {φ : β → Prop} {val : β → Value} {Post : β → List HProp} {vs : List Value} (z : β) (hR : c.R = RR φ val Post) (hr : resOf E c.fn.results.toList = some vs) [S : Sub L (Post z)] (hv : tup vs = val z) (hz : φ z) : G c [] E L :=
  fun a w hE hS => res_fpost hr hE (S.sat hS) (by rw [hR]; exact ⟨z, hz, hv, rfl⟩)
theorem g_sub {L2 : List HProp} [S : Sub L L2] (h : G c K E L2) : G c K E L := fun a w hE hS => h a w hE (S.sat hS)

theorem g_keep {E' : Env} (ts : List Nat) (hk : keep E ts = some E') (h : G c K E' L) : G c K E L := fun a w hE hS => h a w (hE.keep hk) hS
theorem g_pick {L' : List HProp} (is : List Nat) (hL : is.map (L[·]?) = L'.map some) (hn : is.Nodup) (h : G c K E L') : G c K E L := fun a w hE hS => h a w hE (hS.pick is hL hn)
theorem g_sat {L' : List HProp} (hL : ∀ w, Sat c.w0 w L → Sat c.w0 w L') (h : G c K E L') : G c K E L := fun a w hE hS => h a w hE (hL w hS)
/-- from what holds of memory: open an 'exists', take a fact -/
theorem g_ex {α : Type} {A : α → HProp} (h : ∀ x, G c K E (A x :: L)) : G c K E (hex A :: L) := fun a w hE hS => let ⟨x, hx⟩ := hS.ex; h x a w hE hx
theorem g_pure {φ : Prop} (h : φ → G c K E L) : G c K E (hpure φ :: L) := fun a w hE hS => h hS.pure_.1 a w hE hS.pure_.2
theorem g_star {A B : HProp} (h : G c K E (A :: B :: L)) : G c K E (hstar A B :: L) := fun a w hE hS => h a w hE hS.star
theorem g_fact {φ : Prop} (hf : ∀ w, Sat c.w0 w L → φ) (h : φ → G c K E L) : G c K E L := fun a w hE hS => h (hf w hS) a w hE hS

/-- A loop: Ei, Li: the frame and memory at each round's head, by a ghost z. -/
def Again (c : Cx) {α : Type} (φ : α → Prop) (Ei : α → Env) (Li : α → List HProp) (μ : α → Nat) (m : Nat) (a : Act) (w : World) : Prop := ∃ z, φ z ∧ μ z < m ∧ EOk c.n (Ei z) a ∧ Sat c.w0 w (Li z)
theorem g_loop {α : Type} (φ : α → Prop) (Ei : α → Env) (Li : α → List HProp) (μ : α → Nat) (z0 : α) (h0 : φ z0) (ts : List Nat) {E1 : Env} (hk : keep E ts = some E1) (he : E1 = Ei z0) [SL : Sub L (Li z0)]
    (round : ∀ z, φ z → G c (.code x :: .fin (Again c φ Ei Li μ (μ z)) :: K) (Ei z) (Li z)) : G c (.code (.loop x) :: K) E L := fun a w hE hS => by
  refine wp_loop_ghost (fun m a w => ∃ z, φ z ∧ m = μ z ∧ EOk c.n (Ei z) a ∧ Sat c.w0 w (Li z)) (μ z0) ⟨z0, h0, rfl, he ▸ hE.keep hk, SL.sat hS⟩ ?_
  rintro m a w ⟨z, hz, rfl, hE, hS⟩
  refine wp_mono (round z hz a w hE hS) fun e a w hq => ?_
  cases e with
  | normal => obtain ⟨z', h1, h2, h3, h4⟩ := hq; exact ⟨μ z', h2, z', h1, rfl, h3, h4⟩
  | _ => exact hq
theorem g_again {α : Type} {φ : α → Prop} {Ei : α → Env} {Li : α → List HProp} {μ : α → Nat} {m : Nat} (z : α) (h0 : φ z) (h1 : μ z < m) (ts : List Nat) {E1 : Env} (hk : keep E ts = some E1) (he : E1 = Ei z) [SL : Sub L (Li z)] :
    G c (.fin (Again c φ Ei Li μ m) :: K) E L := fun a w hE hS => ⟨z, h0, h1, he ▸ hE.keep hk, SL.sat hS⟩
/-- A cut: what holds here, for all that follows. -/
def Cut (c : Cx) {α : Type} (φ : α → Prop) (Ei : α → Env) (Li : α → List HProp) (a : Act) (w : World) : Prop := ∃ z, φ z ∧ EOk c.n (Ei z) a ∧ Sat c.w0 w (Li z)
theorem g_cut {α : Type} (φ : α → Prop) (Ei : α → Env) (Li : α → List HProp) (h1 : G c (.code x :: .fin (Cut c φ Ei Li) :: K) E L) (h2 : ∀ z, φ z → G c K (Ei z) (Li z)) : G c (.code x :: K) E L := fun a w hE hS => by
  refine wp_mono (h1 a w hE hS) fun e a w hq => ?_
  cases e with
  | normal => obtain ⟨z, hz, hE, hS⟩ := hq; exact h2 z hz a w hE hS
  | _ => exact hq
theorem g_here {α : Type} {φ : α → Prop} {Ei : α → Env} {Li : α → List HProp} (z : α) (h0 : φ z) (ts : List Nat) {E1 : Env} (hk : keep E ts = some E1) (he : E1 = Ei z) [SL : Sub L (Li z)] :
    G c (.fin (Cut c φ Ei Li) :: K) E L := fun a w hE hS => ⟨z, h0, he ▸ hE.keep hk, SL.sat hS⟩

/-! ### Operations -/
/-- A value, the world left alone. -/
structure OpV (c : Cx) (g : Option (Nat × Bool)) (E : Env) (L : List HProp) (o : Oper) (v : Value) : Prop where
  out : ∀ a w, EOk c.n E a → gd g a → Sat c.w0 w L → (execOp a.eval o).run c.P w = .ok (.value v) w
/-- Whatever it does. -/
structure OpL (c : Cx) (g : Option (Nat × Bool)) (E : Env) (L : List HProp) (o : Oper) (N : Value → List HProp → Prop) : Prop where
  out : ∀ a w, EOk c.n E a → gd g a → Sat c.w0 w L → ∀ nx Q, (∀ v w' L', Sat c.w0 w' L' → N v L' → nx (a.put o.dst v) w') → o.wp c.P a w nx Q

variable {all rest : List Oper} {d : Nat} {op : Op} {ty : TypeId} {pos : String} {af : Array Edge} {v : Value} {N : Value → List HProp → Prop}

theorem g_reg {id : Nat} {l : List Oper} (h : G c (.ops l l :: K) E L) : G c (.code (.region id l.toArray false) :: K) E L := fun a w hE hS => wp_region_lit (h a w hE hS)
theorem g_nil (h : G c K E L) : G c (.ops all [] :: K) E L := fun a w hE hS => h a w hE hS
theorem wp_of_opv {a : Act} {w : World} {g : Option (Nat × Bool)} {o : Oper} {nx : Act → World → Prop} {Q : Post} (h : OpV c g E L o v) (hE : EOk c.n E a) (hg : gd g a) (hS : Sat c.w0 w L) (hn : nx (a.put o.dst v) w) : o.wp c.P a w nx Q := by
  unfold Oper.wp
  rw [h.out a w hE hg hS]
  exact hn
theorem g_v (h : OpV c none E L ⟨some d, op, ty, pos, af, none⟩ v) (hd : dOk c.n d E = true) (k : G c (.ops all rest :: K) ((d, none, v) :: E) L) :
    G c (.ops all (⟨some d, op, ty, pos, af, none⟩ :: rest) :: K) E L := fun a w hE hS => by
  refine wpList_plain rfl fun nx hk => wp_of_opv h hE (gd_none a) hS (hk _ _ (k _ w (hE.put1 hd) hS))
theorem g_v0 (h : OpV c none E L ⟨none, op, ty, pos, af, none⟩ v) (k : G c (.ops all rest :: K) E L) :
    G c (.ops all (⟨none, op, ty, pos, af, none⟩ :: rest) :: K) E L := fun a w hE hS => by
  refine wpList_plain rfl fun nx hk => wp_of_opv h hE (gd_none a) hS (hk _ _ (k _ w hE hS))
theorem g_l (h : OpL c none E L ⟨some d, op, ty, pos, af, none⟩ N) (hd : dOk c.n d E = true) (k : ∀ v L', N v L' → G c (.ops all rest :: K) ((d, none, v) :: E) L') :
    G c (.ops all (⟨some d, op, ty, pos, af, none⟩ :: rest) :: K) E L := fun a w hE hS => by
  refine wpList_plain rfl fun nx hk => h.out a w hE (gd_none a) hS nx _ fun v w' L' hS' hN => hk _ _ (k v L' hN _ w' (hE.put1 hd) hS')
theorem g_l0 (h : OpL c none E L ⟨none, op, ty, pos, af, none⟩ N) (k : ∀ v L', N v L' → G c (.ops all rest :: K) E L') :
    G c (.ops all (⟨none, op, ty, pos, af, none⟩ :: rest) :: K) E L := fun a w hE hS => by
  refine wpList_plain rfl fun nx hk => h.out a w hE (gd_none a) hS nx _ fun v w' L' hS' hN => hk _ _ (k v L' hN _ w' hE hS')

theorem yielded_of {a : Act} {i s : Nat} {b : Bool} (hi : (all[i]?).bind (·.dst) = some s) (hE : EOk c.n E a) (hs : look none E s = some (.bool b)) : yielded all.toArray a.tmps i = some b := by
  have h1 := hE.look (gd_none a) hs
  simp [yielded, hi, h1]
/-- A guarded operation whose guard's outcome b stands in slot s. -/
theorem g_gv {i s : Nat} {b want : Bool} (hi : (all[i]?).bind (·.dst) = some s) (hs : look none E s = some (.bool b)) (h : b = want → OpV c (some (s, want)) E L ⟨some d, op, ty, pos, af, some (i, want)⟩ v) (hd : dOk c.n d E = true) (hne : Nat.beq s d = false)
    (k : G c (.ops all rest :: K) ((d, some (s, want), v) :: E) L) : G c (.ops all (⟨some d, op, ty, pos, af, some (i, want)⟩ :: rest) :: K) E L := fun a w hE hS => by
  have hy := yielded_of (a := a) hi hE hs
  have hb := hE.look (gd_none a) hs
  refine wpList_step fun nx hk => ?_
  have hgd : ∀ j b', some (s, want) = some (j, b') → j ≠ d := fun j b' e => by injection e with e; injection e with e _; subst e; exact Nat.ne_of_beq_eq_false hne
  by_cases hw : b = want
  · rw [if_pos (by simp [Region.wanted, hy, hw])]
    have hg : gd (some (s, want)) a := fun j b' e => by injection e with e; injection e with e1 e2; subst e1 e2; rw [hb, hw]
    exact wp_of_opv (h hw) hE hg hS (hk _ _ (k _ w (hE.put hd hgd fun _ => rfl) hS))
  · rw [if_neg (by simp [Region.wanted, hy, hw])]
    refine hk _ _ (k _ w (hE.put hd hgd fun hg => ?_) hS)
    have := hg s want rfl
    rw [hb] at this
    exact absurd (by simpa using this) hw

/-! regions that draw -/
theorem g_draw {id : Nat} {l : List Oper} {Lf : List HProp} (pl : List (Nat × Bool)) (hm : c.P.follows .mixedOrders = true) (hs : Region.noSelect l.toArray = true) (hl : pl.length = l.length) (hp : planOk l.toArray pl (Array.replicate l.length false) = true)
    (h : G c (.plan l (fun w => Sat c.w0 w Lf) pl :: K) E L) : G c (.code (.region id l.toArray true) :: K) E L := fun a w hE hS =>
  wp_region_plan (l := pl) hm hs (by simpa using hl) (fun ch a d v w hq => absurd hq kq_panic) (by simpa using hp) (h a _ hE (hS.drew _))
theorem g_drawL {id : Nat} {l : List Oper} (pl : List (Nat × Bool)) (hm : c.P.follows .mixedOrders = true) (hs : Region.noSelect l.toArray = true) (hl : pl.length = l.length) (hp : planOk l.toArray pl (Array.replicate l.length false) = true)
    (h : G c (.plan l (fun w => Sat c.w0 w L) pl :: K) E L) : G c (.code (.region id l.toArray true) :: K) E L := g_draw (Lf := L) pl hm hs hl hp h
variable {Lf : List HProp} {pl : List (Nat × Bool)}
theorem d_nil [SC : Sub L Lf] (h : G c K E L) : G c (.plan all (fun w => Sat c.w0 w Lf) [] :: K) E L := fun a w hE hS => ⟨SC.sat hS, h a w hE hS⟩
theorem d_v {i : Nat} (hi : all[i]? = some ⟨some d, op, ty, pos, af, none⟩) [SC : Sub L Lf] (h : OpV c none E Lf ⟨some d, op, ty, pos, af, none⟩ v) (hd : dOk c.n d E = true)
    (k : G c (.plan all (fun w => Sat c.w0 w Lf) pl :: K) ((d, none, v) :: E) L) : G c (.plan all (fun w => Sat c.w0 w Lf) ((i, false) :: pl) :: K) E L := fun a w hE hS =>
  ⟨SC.sat hS, _, v, by simpa using hi, .inl ⟨by simp [Region.wanted], fun w' hw' => .inl (h.out a w' hE (gd_none a) hw')⟩, k _ w (hE.put1 hd) hS⟩
theorem d_v0 {i : Nat} (hi : all[i]? = some ⟨none, op, ty, pos, af, none⟩) [SC : Sub L Lf] (h : OpV c none E Lf ⟨none, op, ty, pos, af, none⟩ v)
    (k : G c (.plan all (fun w => Sat c.w0 w Lf) pl :: K) E L) : G c (.plan all (fun w => Sat c.w0 w Lf) ((i, false) :: pl) :: K) E L := fun a w hE hS =>
  ⟨SC.sat hS, _, v, by simpa using hi, .inl ⟨by simp [Region.wanted], fun w' hw' => .inl (h.out a w' hE (gd_none a) hw')⟩, k a w hE hS⟩
theorem d_gv {i j s : Nat} {b want : Bool} (hi : all[i]? = some ⟨some d, op, ty, pos, af, some (j, want)⟩) (hj : (all[j]?).bind (·.dst) = some s) (hs : look none E s = some (.bool b)) [SC : Sub L Lf]
    (h : b = want → OpV c (some (s, want)) E Lf ⟨some d, op, ty, pos, af, some (j, want)⟩ v) (hd : dOk c.n d E = true) (hne : Nat.beq s d = false)
    (k : G c (.plan all (fun w => Sat c.w0 w Lf) pl :: K) ((d, some (s, want), v) :: E) L) : G c (.plan all (fun w => Sat c.w0 w Lf) ((i, false) :: pl) :: K) E L := fun a w hE hS => by
  have hy := yielded_of (a := a) hj hE hs
  have hb := hE.look (gd_none a) hs
  have hgd : ∀ j b', some (s, want) = some (j, b') → j ≠ d := fun j b' e => by injection e with e; injection e with e _; subst e; exact Nat.ne_of_beq_eq_false hne
  by_cases hw : b = want
  · have hg : gd (some (s, want)) a := fun j b' e => by injection e with e; injection e with e1 e2; subst e1 e2; rw [hb, hw]
    exact ⟨SC.sat hS, _, v, by simpa using hi, .inl ⟨by simp [Region.wanted, hy, hw], fun w' hw' => .inl ((h hw).out a w' hE hg hw')⟩, k _ w (hE.put hd hgd fun _ => rfl) hS⟩
  · refine ⟨SC.sat hS, _, undef, by simpa using hi, .inr ⟨by simp [Region.wanted, hy, hw], rfl⟩, k _ w (hE.put hd hgd fun hg => ?_) hS⟩
    have := hg s want rfl
    rw [hb] at this
    exact absurd (by simpa using this) hw
theorem d_l {i : Nat} (hi : all[i]? = some ⟨some d, op, ty, pos, af, none⟩) [SC : Sub L Lf] (h : OpL c none E L ⟨some d, op, ty, pos, af, none⟩ N) (hd : dOk c.n d E = true)
    (k : ∀ v L', N v L' → G c (.plan all (fun w => Sat c.w0 w Lf) pl :: K) ((d, none, v) :: E) L') : G c (.plan all (fun w => Sat c.w0 w Lf) ((i, true) :: pl) :: K) E L := fun a w hE hS => by
  refine ⟨SC.sat hS, ?_⟩
  unfold wpOp
  simp only [List.getElem?_toArray, hi]
  rw [if_pos (by simp [Region.wanted])]
  exact .inl (h.out a w hE (gd_none a) hS _ _ fun v w' L' hS' hN => k v L' hN _ w' (hE.put1 hd) hS')
theorem d_l0 {i : Nat} (hi : all[i]? = some ⟨none, op, ty, pos, af, none⟩) [SC : Sub L Lf] (h : OpL c none E L ⟨none, op, ty, pos, af, none⟩ N)
    (k : ∀ v L', N v L' → G c (.plan all (fun w => Sat c.w0 w Lf) pl :: K) E L') : G c (.plan all (fun w => Sat c.w0 w Lf) ((i, true) :: pl) :: K) E L := fun a w hE hS => by
  refine ⟨SC.sat hS, ?_⟩
  unfold wpOp
  simp only [List.getElem?_toArray, hi]
  rw [if_pos (by simp [Region.wanted])]
  exact .inl (h.out a w hE (gd_none a) hS _ _ fun v w' L' hS' hN => k v L' hN _ w' hE hS')
end

/-- A function's contract, from a walk through its code. -/
theorem Ct.of {P : Program} {f : FuncId} {fn : Func} {cd : Code} {args : List Value} {L : List HProp} {R : Value → List HProp → Prop} (hf : P.funcs[f]? = some fn) (hb : fn.body = some cd) (n : Nat) (hn : fn.ntmps = n) (hle : args.length ≤ n)
    (h : ∀ w0, G ⟨P, fn, w0, R, n⟩ [.code cd] (argEnv 0 args) L) : Ct P f args L R := fun w0 w hS => by
  refine calls_of_wp hf hb (wp_mono (h w0 _ w ?_ hS) fun e a w hq => hq)
  refine ⟨rfl, by simp [hn]; omega, ?_⟩
  have key : ∀ (l : List Value) (i : Nat) (t : Nat) (g : Option (Nat × Bool)) (v : Value), ent (argEnv i l) t = some (g, v) → i ≤ t ∧ l[t - i]? = some v := by
    intro l
    induction l with
    | nil => intro i t g v h; cases h
    | cons u l ih =>
      intro i t g v h
      simp only [argEnv] at h
      unfold ent at h
      split at h
      · rename_i hb
        have := Nat.eq_of_beq_eq_true hb
        subst this
        injection h with h; injection h with _ h; subst h
        simp
      · have := ih (i + 1) t g v h
        refine ⟨by omega, ?_⟩
        have e : t - i = (t - (i + 1)) + 1 := by omega
        rw [e]; simpa using this.2
  intro t g v he _
  have := (key args 0 t g v he).2
  simp only [Nat.sub_zero] at this
  have hlt := (List.getElem?_eq_some_iff.1 this).1
  rw [Array.getElem?_append_left (by simpa using hlt)]
  simpa using this
theorem Ct.mono {P : Program} {f : FuncId} {args : List Value} {L : List HProp} {R R' : Value → List HProp → Prop} (h : Ct P f args L R) (hr : ∀ v L', R v L' → R' v L') : Ct P f args L R' := fun w0 w hS =>
  (h w0 w hS).mono fun e w' he => by
    cases e with
    | returned v => obtain ⟨L', h1, h2⟩ := he; exact ⟨L', h1, hr _ _ h2⟩
    | panicked ch => exact he
    | outgrown => exact he
end Go.Sl
