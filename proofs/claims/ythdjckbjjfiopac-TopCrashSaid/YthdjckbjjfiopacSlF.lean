/- The layer, part F: ranges over functions. No condition. -/
import Derived.Test.YthdjckbjjfiopacSlE
import Derived.RangeFuncRecord
import Derived.RangeFuncIn
import Derived.TacticsIn
import Derived.OrdersIn
namespace Go.Sl
set_option linter.unusedVariables false
set_option linter.unusedSimpArgs false
abbrev FW := Fence.wide
/-! what was walked without a fence, within a round -/
section
variable {P : Program} {l : Nat} {Q Q' : Post} {ops : Array Oper}
def noDefer : List Oper → Bool
  | [] => true
  | o :: r => (match o.op with | .defer _ => false | _ => true) && noDefer r
theorem noDefer_mem : ∀ {r : List Oper} {o : Oper}, noDefer r = true → o ∈ r → ∀ c, o.op ≠ .defer c
  | [], o, _, hm, _ => by cases hm
  | x :: r, o, h, hm, c => by
    simp only [noDefer, Bool.and_eq_true] at h
    rcases List.mem_cons.1 hm with rfl | hm
    · intro e
      rw [e] at h
      exact absurd h.1 (by simp)
    · exact noDefer_mem h.2 hm c
def Closed (Q : Post) : Prop := (∀ ch a w, ¬ Q (.panic ch) a w) ∧ ∀ a w, ¬ Q .outgrown a w
theorem Closed.lets (h : Closed Q') : ¬ LetsOut Q' := fun ⟨a, w, hq⟩ => h.2 a w hq
theorem oper_in {o : Oper} {a : Act} {w : World} {nx : Act → World → Prop} (hnd : ∀ c, o.op ≠ .defer c) (hc : Closed Q') (h : o.wp P a w nx Q') : o.wpIn (FW.inRound l) 0 P a w nx Q := by
  refine ⟨fun _ _ => trivial, ?_⟩
  rw [show (FW.inRound l).round = some l from rfl, Oper.semAt_some l a.eval o hnd]
  unfold Oper.wp at h
  generalize (execOp a.eval o).run P w = r at *
  cases r with
  | ok x w' =>
    cases x with
    | value v => exact h
    | skip => exact h
    | defer d => exact h
    | enter f args =>
      refine ⟨(fun h => by cases h), ?_⟩
      have h2 : Calls P f args w' fun e w'' => match e with
        | .returned v => nx (a.put o.dst v) w''
        | .panicked chain => Q (.panic chain) a w''
        | .outgrown => LetsOut Q := Calls.mono h fun e w'' he => by
          cases e with
          | returned v => exact he
          | panicked ch => exact absurd he (hc.1 _ _ _)
          | outgrown => exact absurd he hc.lets
      have h3 := (callsIn_wide (n := 0)).2 h2
      exact CallsIn.mono (F := FW.inRound l) (n := 0 - 1) h3 fun e w'' he => by cases e <;> exact he
    | row row args =>
      refine ⟨(fun h => by cases h), fun c cs _ => ?_⟩
      obtain ⟨v, w'', hr, hs⟩ := h c cs
      exact ⟨v, w'', hr, stepsIn_wide.2 hs⟩
    | _ => exact False.elim h
  | halt x w' =>
    cases x with
    | panic v => exact absurd h (hc.1 _ _ _)
    | _ => exact False.elim h
theorem list_in (hc : Closed Q') (hn : ∀ a w, Q' .normal a w → Q .normal a w) : ∀ (r : List Oper) (a : Act) (w : World), noDefer r = true → wpList P ops Q' r a w → wpListIn (FW.inRound l) 0 P ops Q r a w
  | [], a, w, _, h => hn a w h
  | o :: r, a, w, hd, h => by
    have hd1 := noDefer_mem hd (List.mem_cons_self ..)
    have hd2 : noDefer r = true := by simp only [noDefer, Bool.and_eq_true] at hd; exact hd.2
    unfold wpList at h
    unfold wpListIn
    split
    · rename_i hw
      rw [if_pos hw] at h
      rcases h with h | ⟨_, h⟩
      · exact Oper.wpIn_mono (fun a w hh => list_in hc hn r a w hd2 hh) (oper_in hd1 hc h)
      · exact absurd h hc.lets
    · rename_i hw
      rw [if_neg hw] at h
      exact ⟨fun _ _ => trivial, list_in hc hn r _ w hd2 h⟩
theorem any_in (hc : Closed Q') (hn : ∀ a w, Q' .normal a w → Q .normal a w) (hd : noDefer ops.toList = true) : ∀ (fuel : Nat) (listed : Array Bool) (a : Act) (w : World), wpAny P .any ops Q' fuel listed a w → wpAnyIn (FW.inRound l) 0 P .any ops Q fuel listed a w
  | 0, listed, a, w, h => ⟨h.1, hn a w h.2⟩
  | fuel + 1, listed, a, w, h => by
    refine ⟨fun h0 => hn a w (h.1 h0), fun i hi => ?_⟩
    have h1 := h.2 i hi
    unfold wpOp at h1
    unfold wpOpIn
    cases ho : ops[i]? with
    | none => rw [ho] at h1; exact any_in hc hn hd fuel _ a w h1
    | some o =>
      rw [ho] at h1
      simp only at h1 ⊢
      have hd1 := noDefer_mem hd (o := o) (Array.mem_toList_iff.2 (Array.mem_of_getElem? ho))
      split
      · rename_i hw
        rw [if_pos hw] at h1
        rcases h1 with h1 | ⟨_, h1⟩
        · exact Oper.wpIn_mono (fun a w hh => any_in hc hn hd fuel _ a w hh) (oper_in hd1 hc h1)
        · exact absurd h1 hc.lets
      · rename_i hw
        rw [if_neg hw] at h1
        exact ⟨fun _ _ => trivial, any_in hc hn hd fuel _ _ w h1⟩
end
/-! within a round -/
def kr (P : Program) (l : Nat) (Q : Post) : List KI → Post
  | [], e, a, w => Q e a w
  | .code c :: K, e, a, w => match e with
    | .normal => c.wpIn (FW.inRound l) 0 P (kr P l Q K) a w
    | e => kr P l Q K e a w
  | .blk id :: K, e, a, w => Exit.inBlock id (kr P l Q K) e a w
  | _ :: K, e, a, w => kr P l Q K e a w
/-- the round's own activation: nothing is put off -/
@[reducible] def Cx.rd (c : Cx) : Cx := { c with n := ⟨c.n.n, []⟩ }
def H (c : Cx) (l : Nat) (Q : Post) (K : List KI) (E : Env) (L : List HProp) : Prop := ∀ a w, EOk c.rd.n E a → Sat c.w0 w L → kr c.P l Q K .normal a w
section
variable {c : Cx} {l : Nat} {Q : Post} {K : List KI} {E : Env} {L : List HProp} {x y : Code}
theorem closed_fin {c : Cx} {J : Act → World → Prop} : Closed (kq c.P c.Q [.fin J]) := ⟨fun ch a w h => kq_panic (c := c) (K := [.fin J]) h, fun a w h => h.elim (fun h => h) (fun h => h)⟩
theorem h_seq (h : H c l Q (.code x :: .code y :: K) E L) : H c l Q (.code (.seq x y) :: K) E L := fun a w hE hS => by
  refine wpIn_seq (wpIn_mono (h a w hE hS) fun e a w hq => ?_)
  cases e <;> exact hq
theorem h_skip (h : H c l Q K E L) : H c l Q (.code .skip :: K) E L := fun a w hE hS => wpIn_skip (h a w hE hS)
theorem h_block {id : Nat} (h : H c l Q (.code x :: .blk id :: K) E L) : H c l Q (.code (.block id x) :: K) E L := fun a w hE hS => wpIn_block (wpIn_mono (h a w hE hS) fun e a w hq => hq)
theorem h_blk {id : Nat} (h : H c l Q K E L) : H c l Q (.blk id :: K) E L := fun a w hE hS => h a w hE hS
theorem h_cond {t : Operand} {b : Bool} (ht : ev none E t = some (.bool b)) (h1 : b = true → H c l Q (.code x :: K) E L) (h2 : b = false → H c l Q (.code y :: K) E L) : H c l Q (.code (.cond t x y) :: K) E L :=
  fun a w hE hS => wpIn_cond_split (hE.ev (gd_none a) ht) (fun e => h1 e a w hE hS) (fun e => h2 e a w hE hS)
theorem kr_ret {P : Program} {a : Act} {w : World} (h : Q .ret a w) : ∀ {K : List KI}, kr P l Q K .ret a w
  | [] => h
  | .code c :: K => kr_ret h (K := K)
  | .blk _ :: K => kr_ret h (K := K)
  | .ops _ _ :: K => kr_ret h (K := K)
  | .plan _ _ _ :: K => kr_ret h (K := K)
  | .fin _ :: K => kr_ret h (K := K)
theorem h_reg {α : Type} {id : Nat} {ops : List Oper} (φ : α → Prop) (Ei : α → Env) (Li : α → List HProp) (hd : noDefer ops = true) (h1 : G c.rd (.ops ops ops :: [.fin (Cut c.rd φ Ei Li)]) E L) (h2 : ∀ z, φ z → H c l Q K (Ei z) (Li z)) : H c l Q (.code (.region id ops.toArray false) :: K) E L := fun a w hE hS =>
  wpIn_region_lit (list_in (closed_fin (c := c.rd)) (fun a w hq => by obtain ⟨z, hz, hE, hS⟩ := hq; exact h2 z hz a w hE hS) ops a w hd (h1 a w hE hS))
theorem h_draw {α : Type} {id : Nat} {ops : List Oper} {Lf : List HProp} (pl : List (Nat × Bool)) (φ : α → Prop) (Ei : α → Env) (Li : α → List HProp) (hm : c.P.follows .mixedOrders = true) (hs : Region.noSelect ops.toArray = true) (hl : pl.length = ops.length) (hp : planOk ops.toArray pl (Array.replicate ops.length false) = true) (hd : noDefer ops = true)
    (h1 : G c.rd (.plan ops (fun w => Sat c.w0 w Lf) pl :: [.fin (Cut c.rd φ Ei Li)]) E L) (h2 : ∀ z, φ z → H c l Q K (Ei z) (Li z)) : H c l Q (.code (.region id ops.toArray true) :: K) E L := fun a w hE hS => by
  have hpl := h1 a _ hE (hS.drew (w.drawn + 1))
  have hC := wpAnyC_of_plan (Q := kq c.rd.P c.rd.Q [.fin (Cut c.rd φ Ei Li)]) hs (fun ch a d v w hq => absurd hq kq_panic) pl (Array.replicate ops.length false) a _ hp hpl
  refine wpIn_region_any hm (any_in (l := l) (Q' := kq c.rd.P c.rd.Q [.fin (Cut c.rd φ Ei Li)]) (Q := kr c.P l Q K) (closed_fin (c := c.rd)) (fun a w hq => by obtain ⟨z, hz, hE, hS⟩ := hq; exact h2 z hz a w hE hS) (by simpa using hd) _ _ a _ (wpAny_of_C (C := fun w => Sat c.w0 w Lf) _ _ _ _ ?_))
  rw [hl] at hC
  rw [List.size_toArray]
  exact hC
theorem h_sat {L' : List HProp} (hL : ∀ w, Sat c.w0 w L → Sat c.w0 w L') (h : H c l Q K E L') : H c l Q K E L := fun a w hE hS => h a w hE (hL w hS)
theorem h_keep {E' : Env} (ts : List Nat) (hk : keep E ts = some E') (h : H c l Q K E' L) : H c l Q K E L := fun a w hE hS => h a w (hE.keep hk) hS
theorem h_pure {φ : Prop} {F : List HProp} [R : Rem L (hpure φ) F] (h : φ → H c l Q K E F) : H c l Q K E L := fun a w hE hS => by
  have hp := (R.sat hS).pure_
  exact h hp.1 a w hE hp.2
theorem h_pure_mk {φ : Prop} (hp : φ) (h : H c l Q K E (hpure φ :: L)) : H c l Q K E L := fun a w hE hS => h a w hE (hS.pure_mk hp)
theorem g_pureR {φ : Prop} {F : List HProp} {c : Cx} {K : List KI} {E : Env} {L : List HProp} [R : Rem L (hpure φ) F] (h : φ → G c K E F) : G c K E L := fun a w hE hS => by
  have hp := (R.sat hS).pure_
  exact h hp.1 a w hE hp.2
theorem g_pure_mk {φ : Prop} {c : Cx} {K : List KI} {E : Env} {L : List HProp} (hp : φ) (h : G c K E (hpure φ :: L)) : G c K E L := fun a w hE hS => h a w hE (hS.pure_mk hp)
/-- a part of bytes that are read only -/
theorem h_part {b m n : Nat} {t : List UInt8} {F : List HProp} [R : Rem L (roL 1 (some ⟨b, 0, none⟩) (bytesR t)) F] (h : H c l Q K E (roL 1 (some ⟨b, m, none⟩) (bytesR ((t.drop m).take n)) :: roL 1 (some ⟨b, 0, none⟩) (bytesR t) :: F)) : H c l Q K E L := fun a w hE hS => by
  refine h a w hE (((R.sat hS).dup (Pers.roL 1 _ _)).weak fun m' hm => ?_)
  rcases hm with hm | ⟨b', off, o, h1, h2, h3⟩
  · left
    have : t = [] := by simpa [bytesR] using hm
    subst this
    simp [bytesR]
  · right
    injection h1 with h1
    injection h1 with e1 e2 e3
    subst e1 e2
    refine ⟨b, m, o, rfl, h2, fun j row hj f v hf => ?_⟩
    have hj' : (bytesR t)[m + j]? = some row := by
      simp only [bytesR, List.map_take, List.map_drop] at hj
      rw [List.getElem?_take] at hj
      split at hj
      · rw [List.getElem?_drop] at hj; exact hj
      · cases hj
    have := h3 (m + j) row hj' f v hf
    rw [show m + (j * 1 + f) = 0 + ((m + j) * 1 + f) by omega]
    exact this
/-- how a round ends -/
def RPost (c : Cx) (L1 L2 : List HProp) : Post := fun e a w => match e with
  | .normal => Sat c.w0 w L1
  | .ret => Sat c.w0 w L2
  | _ => False
theorem h_end {L1 L2 : List HProp} [S : Sub L L1] : H c l (RPost c L1 L2) [] E L := fun a w hE hS => S.sat hS
theorem h_ret {L1 L2 : List HProp} [S : Sub L L2] : H c l (RPost c L1 L2) (.code .ret :: K) E L := fun a w hE hS => wpIn_ret (kr_ret (S.sat hS))
end
/-! calls of yield -/
/-- what a call of yield with v does to memory: L1 when it goes on, L2 when it ends -/
def RoundAt (P : Program) (l : Nat) (v : Value) (w0 : World) (L L1 L2 : List HProp) : Prop := ∀ w, Sat w0 w L → ∃ fn tmps assign body, (Instr.yield l #[v]).run P w = .ok (.round l fn tmps assign body) w ∧
  RoundIn FW 0 P l fn tmps assign body w fun e w' => (e = .returned (.bool true) ∧ Sat w0 w' L1) ∨ (e = .returned (.bool false) ∧ Sat w0 w' L2)
def KY (c : Cx) (all rest : List Oper) (K : List KI) : List KI := .fin (fun a w => wpListIn FW 0 c.P all.toArray (kq c.P c.Q K) rest a w) :: K
section
variable {c : Cx} {E : Env} {L L1 L2 : List HProp} {d : Nat} {ty : TypeId} {pos : String} {af : Array Edge} {K : List KI} {all rest : List Oper} {op : Op} {v : Value} {l : Nat} {x f : Operand} {ats : Array TypeId}
theorem g_regY {id : Nat} {ops : List Oper} (h : G c (KY c ops ops K) E L) : G c (.code (.region id ops.toArray false) :: K) E L := fun a w hE hS => (wpIn_wide (n := 0)).1 (wpIn_region_lit (h a w hE hS))
theorem y_nil (h : G c K E L) : G c (KY c all [] K) E L := fun a w hE hS => h a w hE hS
theorem y_v (h : OpV c none E L ⟨some d, op, ty, pos, af, none⟩ v) (hd : dOk c.n d E = true) (k : G c (KY c all rest K) ((d, none, v) :: E) L) : G c (KY c all (⟨some d, op, ty, pos, af, none⟩ :: rest) K) E L := fun a w hE hS => by
  show wpListIn FW 0 c.P all.toArray (kq c.P c.Q K) (⟨some d, op, ty, pos, af, none⟩ :: rest) a w
  unfold wpListIn
  rw [if_pos (by simp [Region.wanted])]
  refine ⟨fun _ _ => trivial, ?_⟩
  rw [show FW.round = none from rfl, Oper.semAt_none, h.out a w hE (gd_none a) hS]
  exact k _ w (hE.put1 hd) hS
theorem y_yield (hf : ev none E f = some (.func (.yield l) #[] #[])) (hx : ev none E x = some v) (hr : RoundAt c.P l v c.w0 L L1 L2) (hd : dOk c.n d E = true) (k1 : G c (KY c all rest K) ((d, none, .bool true) :: E) L1) (k2 : G c (KY c all rest K) ((d, none, .bool false) :: E) L2) :
    G c (KY c all (⟨some d, .call { callee := .value f, args := #[x], argTypes := ats }, ty, pos, af, none⟩ :: rest) K) E L := fun a w hE hS => by
  show wpListIn FW 0 c.P all.toArray (kq c.P c.Q K) (⟨some d, .call { callee := .value f, args := #[x], argTypes := ats }, ty, pos, af, none⟩ :: rest) a w
  obtain ⟨fn, tmps, assign, body, hy, hround⟩ := hr w hS
  unfold wpListIn
  rw [if_pos (by simp [Region.wanted])]
  refine ⟨fun _ _ => trivial, ?_⟩
  have hrun : (execOp a.eval ⟨some d, .call { callee := .value f, args := #[x], argTypes := ats }, ty, pos, af, none⟩).run c.P w = .ok (.round l fn tmps assign body) w := by
    have h1 := hE.ev (gd_none a) hf
    have h2 := hE.ev (gd_none a) hx
    simp [execOp, resolve, h1, h2, Deferred.ofValue, invoke, hy]
  rw [show FW.round = none from rfl, Oper.semAt_none, hrun]
  refine ⟨(fun h => by cases h), RoundIn.mono hround fun e w' he => ?_⟩
  rcases he with ⟨rfl, hS'⟩ | ⟨rfl, hS'⟩
  · exact k1 _ w' (hE.put1 hd) hS'
  · exact k2 _ w' (hE.put1 hd) hS'
end
/-- a contract at one world -/
theorem Calls_of {P : Program} {f : FuncId} {fn : Func} {cd : Code} {args : List Value} {L : List HProp} {R : Value → List HProp → Prop} (hf : P.funcs[f]? = some fn) (hb : fn.body = some cd) (n : Nat) (hn : fn.ntmps = n) (hle : args.length ≤ n)
    {w0 : World} (h : G ⟨P, fn, w0, R, ⟨n, []⟩⟩ [.code cd] (argEnv 0 args) L) : ∀ w, Sat w0 w L → Calls P f args.toArray w fun e w' => match e with
    | .returned v => ∃ L', Sat w0 w' L' ∧ R v L'
    | _ => False := fun w hS => by
  refine callsIn_wide.1 (callsIn_of_wp_marks (n := 0) hf hb trivial (wpIn_wide.2 (wp_mono (h _ w ?_ hS) fun e a w hq => ?_)))
  rotate_left
  · cases e with
    | normal | ret =>
      rcases hq with ⟨hd, v, hr, hR⟩ | ⟨D, w', hd, ht, v, hr, hR⟩
      · show LeavesInM _ _ _ _ _ _ _ _ _
        rw [hd]
        exact ⟨v, hr, hR⟩
      · show LeavesInM _ _ _ _ _ _ _ _ _
        rw [hd]
        exact ⟨(fun h => by cases h), .inl ⟨D, w', rfl, ht, v, hr, hR⟩⟩
    | panic ch => exact absurd hq (fun h => h.elim (fun h => h.2) (fun h => h))
    | exit id => exact hq.elim (fun h => h.elim) (fun h => h.elim)
    | goto l => exact hq.elim (fun h => h.elim) (fun h => h.elim)
    | outgrown => exact hq.elim (fun h => h.elim) (fun h => h.elim)
  refine ⟨rfl, by simp [hn]; omega, ?_⟩
  have key : ∀ (l : List Value) (i : Nat) (t : Nat) (g : Option (Nat × Bool)) (v : Value), ent (argEnv i l) t = some (g, v) → i ≤ t ∧ l[t - i]? = some v := by
    intro l
    induction l with
    | nil => intro i t g v h; cases h
    | cons u l ih =>
      intro i t g v h
      simp only [argEnv] at h
      unfold ent at h
      split at h
      · rename_i hb
        have := Nat.eq_of_beq_eq_true hb
        subst this
        injection h with h; injection h with _ h; subst h
        simp
      · have := ih (i + 1) t g v h
        refine ⟨by omega, ?_⟩
        have e : t - i = (t - (i + 1)) + 1 := by omega
        rw [e]; simpa using this.2
  intro t g v he _
  have := (key args 0 t g v he).2
  simp only [Nat.sub_zero] at this
  have hlt := (List.getElem?_eq_some_iff.1 this).1
  rw [Array.getElem?_append_left (by simpa using hlt)]
  simpa using this

theorem Sat.swap {w0 w : World} {x y : HProp} {R : List HProp} : ∀ {X : List HProp}, Sat w0 w (X ++ y :: x :: R) → Sat w0 w (X ++ x :: y :: R) := fun {X} h => by
  obtain ⟨h1, h2, h3, h4, f, hf, hd⟩ := h
  obtain ⟨σ, hσ⟩ : ∃ σ : Nat → Nat, σ = fun i => if i = X.length then X.length + 1 else if i = X.length + 1 then X.length else i := ⟨_, rfl⟩
  have hget : ∀ i, (X ++ x :: y :: R)[i]? = (X ++ y :: x :: R)[σ i]? := fun i => by
    rw [hσ]
    simp only
    split
    · rename_i h; subst h
      rw [List.getElem?_append_right (by omega), List.getElem?_append_right (by omega)]
      simp
    · split
      · rename_i h; subst h
        rw [List.getElem?_append_right (by omega), List.getElem?_append_right (by omega)]
        simp
      · rename_i h5 h6
        by_cases hi : i < X.length
        · rw [List.getElem?_append_left hi, List.getElem?_append_left hi]
        · rw [List.getElem?_append_right (by omega), List.getElem?_append_right (by omega)]
          obtain ⟨j, rfl⟩ : ∃ j, i = X.length + 2 + j := ⟨i - X.length - 2, by omega⟩
          rw [show X.length + 2 + j - X.length = j + 2 by omega]
          simp
  have hlen : (X ++ x :: y :: R).length = (X ++ y :: x :: R).length := by simp
  have hl2 : (X ++ y :: x :: R).length = X.length + R.length + 2 := by simp; omega
  have hσlt : ∀ i, i < (X ++ x :: y :: R).length → σ i < (X ++ y :: x :: R).length := fun i hi => by
    rw [hlen] at hi
    rw [hσ]
    simp only
    split
    · omega
    · split
      · omega
      · exact hi
  refine ⟨h1, h2, h3, h4, fun i => f (σ i), fun i A hA => hf (σ i) A (by rw [← hget]; exact hA), fun i j hi hj hne => hd _ _ (hσlt i hi) (hσlt j hj) fun e => hne ?_⟩
  rw [hσ] at e
  simp only at e
  split at e <;> split at e <;> (try split at e) <;> (try split at e) <;> omega
theorem Sat.perm {w0 w : World} {L L' : List HProp} (hp : L.Perm L') : ∀ X : List HProp, Sat w0 w (X ++ L) → Sat w0 w (X ++ L') := by
  induction hp with
  | nil => intro X h; exact h
  | cons x _ ih =>
    intro X h
    have := ih (X ++ [x]) (by simpa using h)
    simpa using this
  | swap x y l => intro X h; exact Sat.swap h
  | trans _ _ ih1 ih2 => intro X h; exact ih2 X (ih1 X h)
theorem Sat.perm0 {w0 w : World} {L L' : List HProp} (hp : L.Perm L') (h : Sat w0 w L) : Sat w0 w L' := by simpa using Sat.perm hp [] (by simpa using h)
abbrev dO : Obj := .deferred (some [])
section
variable {c : Cx} {E : Env} {L : List HProp} {K : List KI}
/-- the assignment of the one loop variable -/
theorem has1 {n : Nd} {P : Program} {l id p q : Nat} {ty : TypeId} {pos : String} {af : Array Edge} {v : Value} {E : Env} {a : Act} {w : World} (hE : EOk n ((p, none, v) :: E) a) (hq : dOk n q ((p, none, v) :: E) = true) :
    (Code.region id #[⟨some q, .assign (.tmp p), ty, pos, af, none⟩] false).wpIn (FW.inRound l) 0 P (Exit.then (fun a' w' => w' = w ∧ EOk n ((q, none, v) :: (p, none, v) :: E) a') (fun _ _ _ => False)) a w := by
  refine wpIn_region_lit (l := [_]) (wpListIn_plain rfl fun K hK => ?_)
  refine ⟨fun _ _ => trivial, ?_⟩
  have hx : a.eval (.tmp p) = v := hE.ev (gd_none a) (by simp [ev, look, ent, Nat.beq_refl])
  rw [show (FW.inRound l).round = some l from rfl, Oper.semAt_some l a.eval _ (fun c h => by cases h)]
  have hrun : (execOp a.eval ⟨some q, .assign (.tmp p), ty, pos, af, none⟩).run P w = .ok (.value v) w := by simp [execOp, hx]
  rw [hrun]
  exact hK _ _ (wpListIn_nil ⟨rfl, hE.put1 hq⟩)
theorem g_rangeFunc {gop : Operand} {p : Tmp} {assign body : Code} {gf : FuncId} {cap : List Value} {Pre : List HProp} {A : Nat → List HProp} {B : List HProp} {N : Nat} {v : Nat → Value} {E1 : Nat → Env}
    (hd0 : c.n.ds = []) (hp : dOk c.n p E = true) (hg : ev none E gop = some (.func (.func gf) #[] cap.toArray)) (hcall : ∀ args w, (callFunc gf args).run c.P w = .ok (.enter gf args) w)
    (hseq : ∀ (l : Nat) (A' : Nat → List HProp) (B' : List HProp), (∀ k, k < N → RoundAt c.P l (v k) c.w0 (Pre ++ A' k) (Pre ++ A' (k + 1)) (Pre ++ B')) → ∀ w, Sat c.w0 w (Pre ++ A' 0) → Calls c.P gf (.func (.yield l) #[] #[] :: cap).toArray w fun e w' => match e with
      | .returned _ => Sat c.w0 w' (Pre ++ A' N) ∨ Sat c.w0 w' (Pre ++ B')
      | _ => False)
    (hL : L = Pre ++ A 0)
    (has : ∀ l k a w, EOk c.rd.n ((p, none, v k) :: E) a → assign.wpIn (FW.inRound l) 0 c.P (Exit.then (fun a' w' => w' = w ∧ EOk c.rd.n (E1 k) a') (fun _ _ _ => False)) a w)
    (hbody : ∀ (l D : Nat) (O : Obj) k, k < N → H c l (RPost c (Pre ++ pt l O :: pt D dO :: A (k + 1)) (Pre ++ pt l O :: pt D dO :: B)) [.code body] (E1 k) (Pre ++ pt l O :: pt D dO :: A k))
    (done : ∀ D, G { c with n := ⟨c.n.n, [markD D]⟩ } K E (pt D dO :: (Pre ++ A N)))
    (ret : ∀ D, G { c with n := ⟨c.n.n, [markD D]⟩ } (.code .ret :: K) E (pt D dO :: (Pre ++ B))) : G c (.code (.rangeFunc gop #[p] assign body) :: K) E L := fun a w hE hS => by
  have hS0 : Sat c.w0 w (Pre ++ A 0) := hL ▸ hS
  refine (wpIn_wide (n := 0)).1 (wpIn_rangeFunc fun fn _ => ?_)
  obtain ⟨rec, hrec⟩ : ∃ rec : LoopState → Option Code → Loop, rec = fun st pe => { state := st, pending := pe, fn, tmps := a.tmps, params := #[p], assign, body, defers := w.heap.size } := ⟨_, rfl⟩
  obtain ⟨W1, hW1⟩ : ∃ W1, (w.alloc dO).alloc (.loop (rec .ready none)) = W1 := ⟨_, rfl⟩
  have hS1 : Sat c.w0 W1 (pt (w.heap.size + 1) (.loop (rec .ready none)) :: pt w.heap.size dO :: (Pre ++ A 0)) := by
    have e : (w.alloc dO).heap.size = w.heap.size + 1 := World.size_alloc ..
    rw [← hW1, ← e]
    exact (hS0.alloc dO).alloc _
  -- the lists' two orders
  have fwd : ∀ {w : World} {X : List HProp} {O : Obj}, Sat c.w0 w (pt (w.heap.size + 0) O :: []) → True := fun _ => trivial
  have toF : ∀ {W : World} {O : Obj} {X : List HProp}, Sat c.w0 W (Pre ++ pt (w.heap.size + 1) O :: pt w.heap.size dO :: X) → Sat c.w0 W (pt (w.heap.size + 1) O :: pt w.heap.size dO :: (Pre ++ X)) := fun h =>
    h.perm0 (List.perm_middle.trans (List.Perm.cons _ List.perm_middle))
  have toP : ∀ {W : World} {O : Obj} {X : List HProp}, Sat c.w0 W (pt (w.heap.size + 1) O :: pt w.heap.size dO :: (Pre ++ X)) → Sat c.w0 W (Pre ++ pt (w.heap.size + 1) O :: pt w.heap.size dO :: X) := fun h =>
    h.perm0 (List.perm_middle.trans (List.Perm.cons _ List.perm_middle)).symm
  have setL : ∀ {W : World} {O O' : Obj} {X : List HProp}, Sat c.w0 W (Pre ++ pt (w.heap.size + 1) O :: pt w.heap.size dO :: X) → Sat c.w0 (W.putObj (w.heap.size + 1) O') (Pre ++ pt (w.heap.size + 1) O' :: pt w.heap.size dO :: X) := fun h =>
    toP ((toF h).set rfl)
  have hcd : EOk c.n E a := hE
  have hE2 : ∀ D, EOk (⟨c.n.n, [markD D]⟩ : Nd) E { a with defers := [markD D] ++ a.defers } := fun D => ⟨by rw [hE.defers, hd0]; rfl, hE.size, fun t h u he hk => hE.at_ t h u he hk⟩
  refine ⟨w.heap.size + 1, [markD w.heap.size], W1, { target := .fn (.func gf) cap.toArray, args := #[.func (.yield (w.heap.size + 1)) #[] #[]] }, W1, gf, (.func (.yield (w.heap.size + 1)) #[] #[] :: cap).toArray, W1, ?_, ?_, fun _ _ => trivial, ?_, (fun h => by cases h), callsIn_wide.2 ?_⟩
  · rw [← hW1, hrec]; exact run_enterLoop_outer _ _ _ _ _
  · have h1 := hE.ev (gd_none a) hg
    simp only [resolve, h1]
    simp [go_sem]
  · have : (#[Value.func (.yield (w.heap.size + 1)) #[] #[]] ++ cap.toArray) = (Value.func (.yield (w.heap.size + 1)) #[] #[] :: cap).toArray := by simp
    simp only [invoke, this, hcall]
  · refine Calls.mono (hseq (w.heap.size + 1) (fun k => pt (w.heap.size + 1) (.loop (rec .ready none)) :: pt w.heap.size dO :: A k) (pt (w.heap.size + 1) (.loop (rec .done (some .ret))) :: pt w.heap.size dO :: B) (fun k hk W hSW => ?_) W1 (toP hS1)) fun e W2 he => ?_
    · have hl : W.heap[w.heap.size + 1]? = some (.loop (rec .ready none)) := (toF hSW).at_
      have hy := run_yield (P := c.P) (args := #[v k]) hl (by rw [hrec]; rfl)
      rw [hrec] at hy
      refine ⟨fn, _, assign, body, hy, ?_⟩
      have hEr : EOk c.rd.n ((p, none, v k) :: E) ({ tmps := a.tmps.setIfInBounds p (v k), defers := [] } : Act) := by
        have h0 : EOk c.rd.n E ({ tmps := a.tmps, defers := [] } : Act) := ⟨rfl, hE.size, fun t h u he hk => hE.at_ t h u he hk⟩
        have hp' : dOk c.rd.n p E = true := by
          have : ∀ (E : Env), dOk c.rd.n p E = dOk c.n p E := by
            intro E
            induction E with
            | nil => rfl
            | cons x E ih => obtain ⟨s, g, u⟩ := x; cases g with
              | none => exact ih
              | some jb => obtain ⟨j, b⟩ := jb; simp only [dOk, ih]
          rw [this]; exact hp
        exact h0.put1 hp'
      have hfold : ((#[p] : Array Tmp).zip #[v k]).foldl (fun tmps (t, u) => tmps.setIfInBounds t u) a.tmps = a.tmps.setIfInBounds p (v k) := by simp
      refine roundIn_of_wpIn trivial (wpIn_mono (has (w.heap.size + 1) k _ W (by rw [hfold]; exact hEr)) fun e a1 w1 hq => ?_)
      cases e with
      | normal =>
        obtain ⟨rfl, hE1⟩ := hq
        refine ⟨_, run_beginRound hl (by rw [hrec]), ?_⟩
        have hb := hbody (w.heap.size + 1) w.heap.size (.loop { rec .ready none with state := .busy }) k hk a1 _ hE1 (setL hSW)
        refine wpIn_mono hb fun e a3 W3 hp3 => ?_
        cases e with
        | normal =>
          have hl3 := (toF hp3).at_
          have hr := run_endRound (P := c.P) none hl3
          refine ⟨_, _, hr, .inl ⟨rfl, ?_⟩⟩
          have := setL (O' := .loop { ({ rec .ready none with state := .busy } : Loop) with state := if (none : Option Code).isNone then .ready else .done, pending := none }) hp3
          rw [hrec] at this ⊢
          exact this
        | ret =>
          have hl3 := (toF hp3).at_
          have hr := run_endRound (P := c.P) (some .ret) hl3
          refine ⟨_, _, hr, .inr ⟨rfl, ?_⟩⟩
          have := setL (O' := .loop { ({ rec .ready none with state := .busy } : Loop) with state := if (some Code.ret).isNone then .ready else .done, pending := some .ret }) hp3
          rw [hrec] at this ⊢
          exact this
        | exit id => exact hp3.elim
        | goto t => exact hp3.elim
        | panic ch => exact hp3.elim
        | outgrown => exact hp3.elim
      | exit id => exact hq.elim
      | goto t => exact hq.elim
      | ret => exact hq.elim
      | panic ch => exact hq.elim
      | outgrown => exact hq.elim
    · cases e with
      | returned u =>
        rcases he with he | he
        · have hl2 := (toF he).at_
          refine ⟨_, _, run_endLoop (P := c.P) hl2 (by rw [hrec]; simp), ?_⟩
          rw [show (rec .ready none).pending = none by rw [hrec]]
          exact done w.heap.size _ _ (hE2 _) (toF (setL he)).tail
        · have hl2 := (toF he).at_
          refine ⟨_, _, run_endLoop (P := c.P) hl2 (by rw [hrec]; simp), ?_⟩
          rw [show (rec .done (some .ret)).pending = some .ret by rw [hrec]]
          exact (wpIn_wide (n := 0)).2 (ret w.heap.size _ _ (hE2 _) (toF (setL he)).tail)
      | panicked ch => exact he.elim
      | outgrown => exact he.elim
/-- what is handed back where a mark stands: the one result lies in memory -/
theorem g_retM {D b o r : Nat} {t : TypeId} {v : Value} {ob : Obj} {L' Lf : List HProp} (hds : c.n.ds = [markD D]) [U : Upd L D dO (.deferred none) L'] (hf : c.fn.results.toList = [.cell r t]) (hx : look none E r = some (ptr b o)) (ha : ∀ w, (isAgg t).run c.P w = .ok false w) [h : Has L' b ob] (hv : objCell ob o = some v) [S : Sub L' Lf] (hR : c.R v Lf) : G c (.code .ret :: K) E L := fun a w hE hS => by
  refine wp_ret (kq_ret (.inr ?_))
  have hU := U.sat hS
  refine ⟨D, w.putObj D (.deferred none), hE.defers.trans hds, run_takeDeferred hU.2, v, ?_, Lf, S.sat hU.1, hR⟩
  have h1 := hE.look (gd_none a) hx
  have hh := cell_of (h.out _ _ hU.1) hv
  have hl := run_load (P := c.P) hh
  have hset : setB w D (.deferred none) = w.putObj D (.deferred none) := rfl
  rw [hset] at hl hh
  rw [results_eq, Array.mapM_eq_mapM_toList, hf]
  simp [resSem, Array.getD_eq_getD_getElem?, h1, asAddr, loadVar, ha, hl, hh]
end
end Go.Sl
