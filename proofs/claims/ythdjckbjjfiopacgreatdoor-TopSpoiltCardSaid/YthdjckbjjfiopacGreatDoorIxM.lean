/- Indexes: what is computed, in plain words; what lies where. No condition. -/
import Derived.Test.YthdjckbjjfiopacGreatDoorPool
namespace Go.Proofs.YthdjckbjjfiopacGreatDoor
open Go.Sl Go.Proofs
set_option linter.unusedVariables false
set_option linter.unusedSimpArgs false
structure Nd where
  k0 : Int
  k1 : Int
  k2 : Int
  k3 : Int
  refs : Int
deriving DecidableEq
abbrev NdT := Int → Option Nd
structure SI where
  B : BkT
  N : NdT
abbrev ndC (n : Nd) : List Value := [I n.k0, I n.k1, I n.k2, I n.k3, I n.refs]
abbrev encN (n : Nd) : Value := .agg (ndC n).toArray
def kd (n : Nd) : List Int := [n.k0, n.k1, n.k2, n.k3]
abbrev kdC (n : Nd) : List Value := [I n.k0, I n.k1, I n.k2, I n.k3]
def kat (n : Nd) (i : Nat) : Int := match i with | 0 => n.k0 | 1 => n.k1 | 2 => n.k2 | _ => n.k3
def kset (n : Nd) (i : Nat) (x : Int) : Nd := match i with | 0 => { n with k0 := x } | 1 => { n with k1 := x } | 2 => { n with k2 := x } | _ => { n with k3 := x }
def nd0 : Nd := ⟨0, 0, 0, 0, 0⟩
def gN (N : NdT) (q : Int) : Nd := (N q).getD nd0
def rf (n : Nd) (r : Int) : Nd := ⟨n.k0, n.k1, n.k2, n.k3, r⟩
def bumpN (N : NdT) (q : Int) : NdT := pset N q (some (rf (gN N q) ((gN N q).refs + 1)))
/-- one more refers to what is below -/
def bump (leaf : Bool) (S : SI) (k : Int) : SI := if k = 0 then S else if leaf = true then ⟨refB S.B k 1, S.N⟩ else ⟨S.B, bumpN S.N k⟩
def dropB (S : SI) (k : Int) : SI := if k = 0 then S else ⟨refB S.B k (-1), S.N⟩
/-- one less refers to a node; f: what is done with what is below it -/
def unX (f : SI → Int → SI) (S : SI) (q : Int) : SI := if q = 0 then S else if 0 < (gN S.N q).refs - 1 then ⟨S.B, pset S.N q (some (rf (gN S.N q) ((gN S.N q).refs - 1)))⟩ else (kd (gN S.N q)).foldl f ⟨S.B, pset S.N q none⟩
def unL : SI → Int → SI := unX dropB
def unR : SI → Int → SI := unX unL
def noKids (n : Nd) : Prop := n.k0 = 0 ∧ n.k1 = 0 ∧ n.k2 = 0 ∧ n.k3 = 0
instance (n : Nd) : Decidable (noKids n) := by unfold noKids; infer_instance
def nodeE (S : SI) (n : Nd) : Int × Int := if noKids n then (0, 0) else match freeId 24 S.N with | none => (0, 8) | some k => (k, 0)
def nodeS (leaf : Bool) (S : SI) (n : Nd) : SI := if noKids n then S else match freeId 24 S.N with | none => S | some k => (kd n).foldl (bump leaf) ⟨S.B, pset S.N k (some (rf n 1))⟩
def getS (S : SI) (root : Int) (at_ : Nat) : Bytes := (getP S.B (kat (gN S.N (kat (gN S.N root) (at_ / 4))) (at_ % 4))).1
def shareS (S : SI) (q : Int) : SI := if 0 < q then ⟨S.B, bumpN S.N q⟩ else S
def blockE (S : SI) (d : Bytes) : Int × Int := if d = [] then (0, 0) else putE S.B d
def blockS (S : SI) (d : Bytes) : SI := if d = [] then S else ⟨putB S.B d, S.N⟩
/-- the parts of Set, one by one -/
def setL (S : SI) (root : Int) (at_ : Nat) (b : Int) : Nd := kset (gN S.N (kat (gN S.N root) (at_ / 4))) (at_ % 4) b
def setR (S : SI) (root : Int) (at_ : Nat) (leaf : Int) : Nd := kset (gN S.N root) (at_ / 4) leaf
def unB (S : SI) (b : Int) : SI := if 0 < b then ⟨refB S.B b (-1), S.N⟩ else S
def setE (S : SI) (root : Int) (at_ : Nat) (d : Bytes) : Int × Int :=
  let b := blockE S d; let S1 := blockS S d
  if b.2 ≠ 0 then (0, b.2) else
  let l := nodeE S1 (setL S1 root at_ b.1); let S2 := nodeS true S1 (setL S1 root at_ b.1)
  if l.2 ≠ 0 then (0, l.2) else
  let S3 := unB S2 b.1
  let o := nodeE S3 (setR S1 root at_ l.1)
  if o.2 ≠ 0 then (0, o.2) else (o.1, 0)
def setS (S : SI) (root : Int) (at_ : Nat) (d : Bytes) : SI :=
  let b := blockE S d; let S1 := blockS S d
  if b.2 ≠ 0 then S1 else
  let l := nodeE S1 (setL S1 root at_ b.1); let S2 := nodeS true S1 (setL S1 root at_ b.1)
  if l.2 ≠ 0 then S2 else
  let S3 := unB S2 b.1
  let o := nodeE S3 (setR S1 root at_ l.1); let S4 := nodeS false S3 (setR S1 root at_ l.1)
  if o.2 ≠ 0 then S4 else unL S4 l.1
/-- what is known of an index's tables -/
def okS (m : Int) (S : SI) : Prop := sup 40 S.B ∧ (∀ q x, S.B q = some x → 0 < x.2 ∧ x.2 ≤ m) ∧ sup 24 S.N ∧ ∀ q n, S.N q = some n → 0 < n.refs ∧ n.refs ≤ m
theorem okS_okB {m : Int} {S : SI} (h : okS m S) (hm : m ≤ 1000000) : okB S.B := ⟨h.1, fun q x e => by have := h.2.1 q x e; omega⟩
theorem okS_mono {m m' : Int} {S : SI} (h : okS m S) (hm : m ≤ m') : okS m' S := ⟨h.1, fun q x e => by have := h.2.1 q x e; omega, h.2.2.1, fun q n e => by have := h.2.2.2 q n e; omega⟩
theorem gN_refs {m : Int} {S : SI} (h : okS m S) (h0 : 0 ≤ m) (q : Int) : 0 ≤ (gN S.N q).refs ∧ (gN S.N q).refs ≤ m := by
  unfold gN
  cases e : S.N q with
  | none => simp [nd0]; exact h0
  | some n => have := h.2.2.2 q n e; simp; omega
theorem okS_setN {m : Int} {S : SI} (h : okS m S) {q : Int} {x : Option Nd} (hq : x.isSome = true → 1 ≤ q ∧ q ≤ 24) (hx : ∀ n, x = some n → 0 < n.refs ∧ n.refs ≤ m) : okS m ⟨S.B, pset S.N q x⟩ :=
  ⟨h.1, h.2.1, sup_set h.2.2.1 hq, fun p n e => by
    change pset S.N q x p = some n at e
    unfold pset at e
    split at e
    · exact hx n e
    · exact h.2.2.2 p n e⟩
theorem okS_refB {m : Int} {S : SI} (h : okS m S) (q : Int) {n : Int} (hn : n = 1 ∨ n = -1) : okS (m + 1) ⟨refB S.B q n, S.N⟩ := by
  refine ⟨?_, ?_, h.2.2.1, fun p x e => by have := h.2.2.2 p x e; omega⟩
  · show sup 40 (refB S.B q n)
    unfold refB
    cases e : S.B q with
    | none => exact h.1
    | some x => exact sup_set h.1 fun _ => h.1 q x e
  · intro p x e
    change refB S.B q n p = some x at e
    unfold refB at e
    cases e2 : S.B q with
    | none => rw [e2] at e; have := h.2.1 p x e; omega
    | some y =>
      rw [e2] at e
      unfold pset at e
      simp only at e
      split at e
      · split at e
        · cases e
        · rename_i h1 h2
          injection e with e
          subst e
          have := h.2.1 q y e2
          simp only
          omega
      · have := h.2.1 p x e; omega
theorem okS_refD {m : Int} {S : SI} (h : okS m S) (q : Int) : okS m ⟨refB S.B q (-1), S.N⟩ := by
  have h1 := okS_refB h q (n := -1) (.inr rfl)
  refine ⟨h1.1, fun p x e => ?_, h.2.2.1, h.2.2.2⟩
  have h2 := h1.2.1 p x e
  refine ⟨h2.1, ?_⟩
  change refB S.B q (-1) p = some x at e
  unfold refB at e
  cases e2 : S.B q with
  | none => rw [e2] at e; exact (h.2.1 p x e).2
  | some y =>
    rw [e2] at e
    unfold pset at e
    simp only at e
    split at e
    · split at e
      · cases e
      · injection e with e
        subst e
        have := h.2.1 q y e2
        simp only
        omega
    · exact (h.2.1 p x e).2
theorem okS_bumpN {m : Int} {S : SI} (h : okS m S) (h0 : 0 ≤ m) {q : Int} (hq : 1 ≤ q ∧ q ≤ 24) : okS (m + 1) ⟨S.B, bumpN S.N q⟩ :=
  okS_setN (okS_mono h (by omega)) (fun _ => hq) fun n e => by
    injection e with e
    subst e
    have := gN_refs h h0 q
    simp only [rf]
    omega
theorem okS_bump {m : Int} {S : SI} (h : okS m S) (h0 : 0 ≤ m) {leaf : Bool} {k : Int} (hk : leaf = false → 0 ≤ k ∧ k ≤ 24) : okS (m + 1) (bump leaf S k) := by
  unfold bump
  split
  · exact okS_mono h (by omega)
  · split
    · exact okS_refB h k (.inl rfl)
    · rename_i hk0 hl
      have := hk (by simpa using hl)
      exact okS_bumpN h h0 (by omega)
theorem okS_dropB {m : Int} {S : SI} (h : okS m S) (k : Int) : okS m (dropB S k) := by
  unfold dropB
  split
  · exact h
  · exact okS_refD h k
theorem foldl_ok {α β : Type} {P : α → Prop} {f : α → β → α} (hf : ∀ a b, P a → P (f a b)) : ∀ (l : List β) (a : α), P a → P (l.foldl f a)
  | [], a, h => h
  | b :: l, a, h => foldl_ok hf l (f a b) (hf a b h)
theorem okS_unX {m : Int} {S : SI} {f : SI → Int → SI} (hf : ∀ S k, okS m S → okS m (f S k)) (h : okS m S) (q : Int) : okS m (unX f S q) := by
  unfold unX
  split
  · exact h
  · split
    · rename_i hq hr
      have hp : S.N q ≠ none := fun e => by unfold gN at hr; rw [e] at hr; simp [nd0] at hr
      obtain ⟨n, hn⟩ := Option.ne_none_iff_exists'.1 hp
      refine okS_setN h (fun _ => h.2.2.1 q n hn) fun n' e => ?_
      injection e with e
      subst e
      have := h.2.2.2 q n hn
      have hg : gN S.N q = n := by unfold gN; rw [hn]; rfl
      rw [hg] at hr ⊢
      simp only [rf]
      omega
    · exact foldl_ok (P := okS m) hf _ _ (okS_setN h (fun e => by cases e) fun n e => by cases e)
theorem okS_unL {m : Int} {S : SI} (h : okS m S) (q : Int) : okS m (unL S q) := okS_unX (fun S k h => okS_dropB h k) h q
/-- the first so many kids are done -/
def part (f : SI → Int → SI) (S : SI) (n : Nd) (i : Nat) : SI := ((kd n).take i).foldl f S
theorem part_s (f : SI → Int → SI) (S : SI) (n : Nd) : ∀ i, i < 4 → part f S n (i + 1) = f (part f S n i) (kat n i)
  | 0, _ => rfl
  | 1, _ => rfl
  | 2, _ => rfl
  | 3, _ => rfl
  | i + 4, h => absurd h (by omega)
theorem part_bump {m : Int} {S : SI} (h : okS m S) (h0 : 0 ≤ m) {leaf : Bool} {n : Nd} (hk : leaf = false → ∀ i, i < 4 → 0 ≤ kat n i ∧ kat n i ≤ 24) : ∀ i : Nat, i ≤ 4 → okS (m + i) (part (bump leaf) S n i)
  | 0, _ => okS_mono h (by omega)
  | i + 1, hi => by
    rw [part_s _ _ _ i (by omega)]
    have := okS_bump (part_bump h h0 hk i (by omega)) (by omega) (leaf := leaf) (k := kat n i) fun hl => hk hl i (by omega)
    rw [show m + ((i + 1 : Nat) : Int) = m + i + 1 by omega]
    exact this
theorem part_ok {m : Int} {f : SI → Int → SI} (hf : ∀ S k, okS m S → okS m (f S k)) {S : SI} (h : okS m S) (n : Nd) (i : Nat) : okS m (part f S n i) := foldl_ok (P := okS m) hf _ _ h
theorem okS_newN {m : Int} {S : SI} (h : okS m S) (hm : 1 ≤ m) {k : Nat} (hk : 1 ≤ k ∧ k ≤ 24) (n : Nd) : okS m ⟨S.B, pset S.N k (some (rf n 1))⟩ := okS_setN h (fun _ => by omega) fun n' e => by
  injection e with e
  subst e
  simp only [rf]
  omega
theorem okS_node {m : Int} {S : SI} (h : okS m S) (hm : 1 ≤ m) {leaf : Bool} {n : Nd} (hk : leaf = false → ∀ i, i < 4 → 0 ≤ kat n i ∧ kat n i ≤ 24) : okS (m + 4) (nodeS leaf S n) := by
  unfold nodeS
  split
  · exact okS_mono h (by omega)
  · split
    · exact okS_mono h (by omega)
    · rename_i k hf
      exact part_bump (okS_newN h hm (free_some hf).1 n) (by omega) hk 4 (by omega)
theorem okS_block {m : Int} {S : SI} (h : okS m S) (hm : 1 ≤ m) (d : Bytes) : okS m (blockS S d) := by
  unfold blockS
  split
  · exact h
  · refine ⟨?_, ?_, h.2.2.1, h.2.2.2⟩
    · show sup 40 (putB S.B d)
      unfold putB
      split
      · exact h.1
      · split
        · exact h.1
        · rename_i k hf; have := (free_some hf).1; exact sup_set h.1 fun _ => by omega
    · intro q x e
      change putB S.B d q = some x at e
      unfold putB at e
      split at e
      · exact h.2.1 q x e
      · cases hf : freeId 40 S.B with
        | none => rw [hf] at e; exact h.2.1 q x e
        | some k =>
          rw [hf] at e
          simp only at e
          unfold pset at e
          split at e
          · injection e with e; subst e; simp; omega
          · exact h.2.1 q x e
theorem okS_unB {m : Int} {S : SI} (h : okS m S) (b : Int) : okS m (unB S b) := by
  unfold unB
  split
  · exact okS_refD h b
  · exact h
def ixP (b : Nat) (S : SI) (z : Nat × Nat) : List HProp := [pt b (.cells #[ptr z.1 0, .map (some z.2)] 43 (0, 0)), plb z.1 S.B, mp z.2 (tb encN 24 S.N)]
/-- an index at b -/
def ixl (b : Nat) (S : SI) : HProp := hx (ixP b S)
section
variable {c : Cx} {E : Env} {L : List HProp} {K : List KI}
theorem g_openX {F : List HProp} (b : Nat) (S : SI) [R : Rem L (ixl b S) F] (k : ∀ p r, G c K E (pt b (.cells #[ptr p 0, .map (some r)] 43 (0, 0)) :: plb p S.B :: mp r (tb encN 24 S.N) :: F)) : G c K E L := g_open (ixl b S) rfl fun z => k z.1 z.2
theorem g_shutX {F : List HProp} {M : MM} (p r b : Nat) (S : SI) (h : M.Perm (tb encN 24 S.N)) [Sp : Split L [pt b (.cells #[ptr p 0, .map (some r)] 43 (0, 0)), plb p S.B, mp r M] F] (k : G c K E (ixl b S :: F)) : G c K E L := fun a w hE hS => by
  have h1 : Sat c.w0 w (pt b (.cells #[ptr p 0, .map (some r)] 43 (0, 0)) :: plb p S.B :: mp r M :: F) := Sp.sat hS
  refine k a w hE (Sat.hx_mk (A := ixP b S) (p, r) ?_)
  have r2 : Rem (pt b (.cells #[ptr p 0, .map (some r)] 43 (0, 0)) :: plb p S.B :: mp r M :: F) (mp r M) (pt b (.cells #[ptr p 0, .map (some r)] 43 (0, 0)) :: plb p S.B :: F) := inferInstance
  obtain ⟨⟨es, clk⟩, h2⟩ := (r2.sat h1).ex
  have h3 : Sat c.w0 w (mp r (tb encN 24 S.N) :: pt b (.cells #[ptr p 0, .map (some r)] 43 (0, 0)) :: plb p S.B :: F) := Sat.ex_mk (A := fun p : Array MapEntry × Nat => fun m => MOk p.1 p.2 (tb encN 24 S.N) ∧ m r = some (.map p.1 p.2, false)) (es, clk) (h2.weak fun m hm => ⟨hm.1.perm_ h, hm.2⟩)
  have r3 : Sl.Sub (mp r (tb encN 24 S.N) :: pt b (.cells #[ptr p 0, .map (some r)] 43 (0, 0)) :: plb p S.B :: F) (pt b (.cells #[ptr p 0, .map (some r)] 43 (0, 0)) :: plb p S.B :: mp r (tb encN 24 S.N) :: F) := inferInstance
  exact r3.sat h3
end
theorem lkN {N : NdT} (h : sup 24 N) (q : Int) : (lk (tb encN 24 N) q).getD (encN nd0) = encN (gN N q) := by
  rw [lk_sup encN h]
  unfold gN
  cases N q <;> rfl
theorem kdC_at (n : Nd) : ∀ i, i < 4 → (kdC n)[i]? = some (I (kat n i))
  | 0, _ => rfl
  | 1, _ => rfl
  | 2, _ => rfl
  | 3, _ => rfl
  | i + 4, h => absurd h (by omega)
theorem kdC_set (n : Nd) (x : Int) : ∀ i, i < 4 → (kdC n).set i (I x) = kdC (kset n i x)
  | 0, _ => rfl
  | 1, _ => rfl
  | 2, _ => rfl
  | 3, _ => rfl
  | i + 4, h => absurd h (by omega)
theorem bldNode (n : Nd) (w : World) : (Instr.build 99 #[(0, .agg (kdC n).toArray), (1, I 1)]).run Tryz.prog w = .ok (encN (rf n 1)) w := by
  simp [Instr.build, Tryz.zeroValue99, Tryz.runUnderlying99, Tryz.sizeOf97, Tryz.sizeOf3, Instr.fill, cells_agg, show (I 1).cells = #[I 1] from rfl, rf]
theorem eq_A4 (a b : Nd) (w : World) : (Op.equal 97 (.agg (kdC a).toArray) (.agg (kdC b).toArray)).run Tryz.prog w = .ok (decide (a.k0 = b.k0 ∧ a.k1 = b.k1 ∧ a.k2 = b.k2 ∧ a.k3 = b.k3)) w := by
  have h := fun x y : Int => run_eqI (P := Tryz.prog) (w := w) (a := x) (b := y) 9998 Tryz.underlying3
  show (Op.equalIn (9999 + 1) _ _ _).run _ _ = _
  unfold Op.equalIn
  simp [underlying, program, Sem.run, Tryz.underlying97, Tryz.sizeOf3, List.range', Std.Legacy.Range.forIn_eq_forIn_range', Std.Legacy.Range.size, Go.part, Tryz.isAgg3, h]
  by_cases e0 : a.k0 = b.k0 <;> by_cases e1 : a.k1 = b.k1 <;> by_cases e2 : a.k2 = b.k2 <;> by_cases e3 : a.k3 = b.k3 <;> simp [e0, e1, e2, e3]

end Go.Proofs.YthdjckbjjfiopacGreatDoor
