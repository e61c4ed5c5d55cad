/- The layer, part G: an error's value held against nil; an array taken out of a slice; maps from int to int. No condition. -/
import Derived.Test.YthdjckbjjfiopacGreatDoorSlF
namespace Go.Sl
set_option linter.unusedVariables false
set_option linter.unusedSimpArgs false
section
variable {c : Cx} {g : Option (Nat × Bool)} {E : Env} {L L' : List HProp} {d : Option Tmp} {ty : TypeId} {pos : String} {af : Array Edge} {gu : Option (Nat × Bool)} {K : List KI}
variable {x y z : Operand} {t u e : TypeId} {k : IntKind} {v : Value} {s : Option Addr} {b o i j n m sz cap off : Nat}
theorem v_iNe {ms : Array (String × TypeId)} {T : Nat} {p : Value} (hu : c.P.underlying t = some (.interface ms)) (hx : ev g E x = some (.iface T p)) : OpV c g E L ⟨d, .binOp .neq t x (.const .nilIface) u, ty, pos, af, gu⟩ (Bo true) := .mk fun a w hE hg hS => by
  have h1 : (Op.equal t (.iface T p) .nilIface).run c.P w = .ok false w := by
    show (Op.equalIn (9999 + 1) _ _ _).run _ _ = _
    unfold Op.equalIn
    simp [underlying, program, Sem.run, hu]
  have h2 : (eqGuard .neq t x (.const .nilIface) (.iface T p) .nilIface).run c.P w = .ok () w := by simp [eqGuard]
  have h3 : a.eval (.const .nilIface) = .nilIface := rfl
  have h4 : binOp .neq t (.iface T p) .nilIface = (do pure (.bool (!(← Op.equal t (.iface T p) .nilIface)))) := by simp [binOp]
  simp [execOp, hE.ev hg hx, h3, h2, h4, h1]
theorem v_s2ap (hu : c.P.underlying t = some (.array n e)) (hx : ev g E x = some (sl s m cap)) (h : n ≤ m) : OpV c g E L ⟨d, .sliceToArrayPointer t x, ty, pos, af, gu⟩ (.pointer s) := .mk fun a w hE hg hS => by
  simp only [execOp, Instr.arrayAt, hE.ev hg hx, sl]
  simp [underlying, program, Sem.run, hu, show ¬ m < n by omega]
theorem v_slLoC {q : Int} {l : Nat} (hu : c.P.underlying t = some (.slice e)) (hz : ∀ w, (sizeOf e).run c.P w = .ok sz w) (hx : ev g E x = some (sl s n cap)) (hy : ev g E y = some (I q)) (hm : q = l) (hl : l ≤ n) (hc : l < cap) :
    OpV c g E L ⟨d, .slice t x (some y) none none, ty, pos, af, gu⟩ (sl (s.map (·.add (l * sz))) (n - l) (cap - l)) := by
  have h := v_slLo (c := c) (g := g) (L := L) (d := d) (ty := ty) (pos := pos) (af := af) (gu := gu) hu hz hx hy hm hl
  rw [if_neg (show ¬ cap = l by omega)] at h
  exact h
theorem v_loadRows {rows : List (List Value)} {vs : List Value} (j : Nat) (ha : ∀ w, (isAgg t).run c.P w = .ok true w) (hz : ∀ w, (sizeOf t).run c.P w = .ok sz w) (hx : ev g E x = some (.pointer (s.map (·.add (j * 1))))) [h : SlR L s 1 rows] (hl : vs.length = sz) (h0 : 0 < sz) (hv : ∀ k v, vs[k]? = some v → rows[j + k]? = some [v]) :
    OpV c g E L ⟨d, .load t x, ty, pos, af, gu⟩ (.agg vs.toArray) := .mk fun a w hE hg hS => by
  rcases h.out _ _ hS with h | ⟨b, o, ob, rfl, hh, hR⟩
  · subst h
    match vs, hl with
    | [], hl => simp at hl; omega
    | v :: vs, hl => have := hv 0 v rfl; simp at this
  · have := run_loadCells (P := c.P) (w := w) b sz 0 (o + j) #[] vs hl (fun k v hk => by
      have := cell_of hh (hR (j + k) [v] (hv k v hk) 0 v rfl)
      simpa [Nat.add_assoc] using this)
    have ej : (if j = 0 then ({ block := b, off := o } : Addr) else { block := b, off := o + j }) = { block := b, off := o + j } := by split <;> simp [*]
    simp [execOp, hE.ev hg hx, Instr.loadAt, Instr.sureAddr, loadVar, ha, hz, loadCells, add_mk, Addr.add, ej, this]
end
section
variable {c : Cx} {E : Env} {L : List HProp} {d : Nat} {ty : TypeId} {pos : String} {af : Array Edge} {K : List KI} {all : List Oper} {op : Op} {N : Value → List HProp → Prop} {Lf : List HProp} {pl : List (Nat × Bool)}
theorem d_noL {i j s : Nat} {vs : Value} {want : Bool} (hi : all[i]? = some ⟨some d, op, ty, pos, af, some (j, want)⟩) (hj : (all[j]?).bind (·.dst) = some s) (hs : look none E s = some vs) (hw : notB vs want = true) [SC : Sub L Lf] (hd : dOk c.n d E = true)
    (k : G c (.plan all (fun w => Sat c.w0 w Lf) pl :: K) ((d, none, undef) :: E) L) : G c (.plan all (fun w => Sat c.w0 w Lf) ((i, true) :: pl) :: K) E L := fun a w hE hS => by
  have h1 := hE.look (gd_none a) hs
  have hy : yielded all.toArray a.tmps j ≠ some want := by
    cases vs <;> simp [yielded, hj, h1, notB] at hw ⊢
    all_goals (rename_i b; cases b <;> cases want <;> simp at hw ⊢)
  refine ⟨SC.sat hS, ?_⟩
  unfold wpOp
  simp only [List.getElem?_toArray, hi]
  rw [if_neg (by simp [Region.wanted, hy])]
  exact k _ w (hE.put1 hd) hS
end
/-! ### Maps from int to int -/
abbrev IM := List (Int × Int)
def mi (F : IM) : MM := F.map fun p => (p.1, I p.2)
def li : IM → Int → Option Int
  | [], _ => none
  | p :: F, q => if p.1 = q then some p.2 else li F q
def sti (F : IM) (q v : Int) : IM := if (li F q).isSome then F.map (fun p => if p.1 = q then (q, v) else p) else F ++ [(q, v)]
def dli (F : IM) (q : Int) : IM := F.filter fun p => !decide (p.1 = q)
theorem lk_mi (F : IM) (q : Int) : lk (mi F) q = (li F q).map I := by
  induction F with
  | nil => rfl
  | cons p F ih =>
    show (if p.1 = q then some (I p.2) else lk (mi F) q) = _
    simp only [li]
    split
    · rfl
    · exact ih
theorem lk_mi_getD (F : IM) (q d : Int) : (lk (mi F) q).getD (I d) = I ((li F q).getD d) := by
  rw [lk_mi]; cases li F q <;> rfl
theorem lk_mi_some (F : IM) (q : Int) : (lk (mi F) q).isSome = (li F q).isSome := by
  rw [lk_mi]; cases li F q <;> rfl
theorem mi_set (F : IM) (q v : Int) : mset (mi F) q (I v) = mi (sti F q v) := by
  unfold mset sti
  rw [lk_mi_some]
  split
  · simp only [mi, List.map_map]
    apply List.map_congr_left
    intro p _
    simp only [Function.comp]
    split <;> rfl
  · simp [mi]
theorem mi_del (F : IM) (q : Int) : mdel (mi F) q = mi (dli F q) := by
  unfold mdel dli mi
  rw [List.filter_map]
  rfl
theorem mi_keys (F : IM) : (mi F).map (·.1) = F.map (·.1) := by simp [mi]
theorem I_map_inj {a b : Option Int} (h : a.map I = b.map I) : a = b := by
  cases a <;> cases b <;> simp at h ⊢
  exact h
theorem li_sti (F : IM) (q v k : Int) : li (sti F q v) k = if q = k then some v else li F k := by
  have h := lk_mset (mi F) q (I v) k
  rw [mi_set, lk_mi, lk_mi] at h
  apply I_map_inj
  rw [h]
  split <;> rfl
theorem li_dli (F : IM) (q k : Int) : li (dli F q) k = if q = k then none else li F k := by
  have h := lk_mdel (mi F) q k
  rw [mi_del, lk_mi, lk_mi] at h
  apply I_map_inj
  rw [h]
  split <;> rfl
theorem li_keys {F : IM} {q : Int} : (li F q).isSome = true ↔ q ∈ F.map (·.1) := by
  induction F with
  | nil => simp [li]
  | cons p F ih =>
    simp only [li, List.map_cons, List.mem_cons]
    split
    · rename_i h; simp [h]
    · rename_i h; rw [ih]; simp [Ne.symm h]
theorem sub_len : ∀ {l m : List Int}, l.Nodup → (∀ q ∈ l, q ∈ m) → l.length ≤ m.length
  | [], _, _, _ => by simp
  | a :: l, m, hl, h => by
    rw [List.nodup_cons] at hl
    have ha : a ∈ m := h a (by simp)
    have h1 := sub_len (m := m.erase a) hl.2 fun q hq => (List.mem_erase_of_ne (fun e : q = a => hl.1 (by rw [← e]; exact hq))).2 (h q (by simp [hq]))
    rw [List.length_erase_of_mem ha] at h1
    have : 0 < m.length := List.length_pos_of_mem ha
    simp only [List.length_cons]
    omega
theorem sub_eq_len {l m : List Int} (hl : l.Nodup) (hm : m.Nodup) (h : ∀ q ∈ l, q ∈ m) : l.length = m.length ↔ ∀ q ∈ m, q ∈ l := by
  constructor
  · intro e q hq
    refine Decidable.byContradiction fun hn => ?_
    have := sub_len (l := q :: l) (m := m) (List.nodup_cons.2 ⟨hn, hl⟩) fun p hp => by
      rcases List.mem_cons.1 hp with rfl | hp
      · exact hq
      · exact h p hp
    simp at this
    omega
  · intro h2
    exact Nat.le_antisymm (sub_len hl h) (sub_len hm h2)
/-- what is summed up over a list of pairs -/
def sumM (f : Int × Value → Int) : MM → Int
  | [] => 0
  | p :: M => f p + sumM f M
theorem sumM_perm {f : Int × Value → Int} {M M' : MM} (h : M.Perm M') : sumM f M = sumM f M' := by
  induction h with
  | nil => rfl
  | cons x _ ih => simp only [sumM]; rw [ih]
  | swap x y l => simp only [sumM]; omega
  | trans _ _ h1 h2 => rw [h1, h2]
end Go.Sl
