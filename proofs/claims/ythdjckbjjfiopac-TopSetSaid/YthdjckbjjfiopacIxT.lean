/- Indexes: who refers to what. No condition. -/
import Derived.Test.YthdjckbjjfiopacIxM
namespace Go.Proofs.Ythdjckbjjfiopac
open Go.Sl Go.Proofs
set_option linter.unusedVariables false
set_option linter.unusedSimpArgs false
/-- how often q stands among the kids -/
def occ (n : Option Nd) (q : Int) : Int := match n with
  | none => 0
  | some n => (if n.k0 = q then 1 else 0) + (if n.k1 = q then 1 else 0) + (if n.k2 = q then 1 else 0) + (if n.k3 = q then 1 else 0)
def sumL (N : NdT) (q : Int) : List Nat → Int
  | [] => 0
  | k :: l => occ (N (k : Int)) q + sumL N q l
def tot (N : NdT) (q : Int) : Int := sumL N q (List.range' 1 24)
theorem occ_nn (n : Option Nd) (q : Int) : 0 ≤ occ n q := by
  cases n with
  | none => simp [occ]
  | some n => simp only [occ]; split <;> split <;> split <;> split <;> omega
theorem occ_le (n : Option Nd) (q : Int) : occ n q ≤ 4 := by
  cases n with
  | none => simp [occ]
  | some n => simp only [occ]; split <;> split <;> split <;> split <;> omega
theorem sumL_nn (N : NdT) (q : Int) : ∀ l, 0 ≤ sumL N q l
  | [] => by simp [sumL]
  | k :: l => by have := sumL_nn N q l; have := occ_nn (N (k : Int)) q; simp only [sumL]; omega
theorem sumL_le (N : NdT) (q : Int) : ∀ l, sumL N q l ≤ 4 * l.length
  | [] => by simp [sumL]
  | k :: l => by have := sumL_le N q l; have := occ_le (N (k : Int)) q; simp only [sumL, List.length_cons]; omega
theorem tot_nn (N : NdT) (q : Int) : 0 ≤ tot N q := sumL_nn _ _ _
theorem tot_le (N : NdT) (q : Int) : tot N q ≤ 96 := by have := sumL_le N q (List.range' 1 24); simp at this; exact this
theorem sumL_ge {N : NdT} {q : Int} {k : Nat} : ∀ {l : List Nat}, k ∈ l → occ (N (k : Int)) q ≤ sumL N q l
  | [], h => by simp at h
  | j :: l, h => by
    have h1 := sumL_nn N q l
    have h2 := occ_nn (N (j : Int)) q
    simp only [sumL]
    rcases List.mem_cons.1 h with rfl | h
    · omega
    · have := sumL_ge (N := N) (q := q) h; omega
theorem sumL_pset_not {N : NdT} {q p : Int} {x : Option Nd} : ∀ {l : List Nat}, (∀ k ∈ l, (k : Int) ≠ p) → sumL (pset N p x) q l = sumL N q l
  | [], _ => rfl
  | j :: l, h => by
    simp only [sumL]
    rw [sumL_pset_not (fun k hk => h k (List.mem_cons_of_mem _ hk))]
    have := h j (by simp)
    simp [pset, this]
theorem sumL_pset {N : NdT} {q : Int} {p : Nat} {x : Option Nd} : ∀ {l : List Nat}, l.Nodup → p ∈ l → sumL (pset N (p : Int) x) q l = sumL N q l - occ (N (p : Int)) q + occ x q
  | [], _, h => by simp at h
  | j :: l, hn, h => by
    rw [List.nodup_cons] at hn
    simp only [sumL]
    by_cases hj : j = p
    · subst hj
      have hnj : ∀ k ∈ l, (k : Int) ≠ (j : Int) := fun k hk e => hn.1 (by have h9 : k = j := by omega
                                                                          exact h9 ▸ hk)
      rw [sumL_pset_not hnj]
      simp [pset]
      omega
    · rcases List.mem_cons.1 h with rfl | h
      · exact absurd rfl hj
      · rw [sumL_pset hn.2 h]
        have : (j : Int) ≠ p := by omega
        simp [pset, this]
        omega
theorem tot_pset {N : NdT} {p : Int} (hp : 1 ≤ p ∧ p ≤ 24) (x : Option Nd) (q : Int) : tot (pset N p x) q = tot N q - occ (N p) q + occ x q := by
  obtain ⟨k, rfl⟩ : ∃ k : Nat, p = k := ⟨p.toNat, by omega⟩
  exact sumL_pset (List.nodup_range' (step := 1)) (by rw [List.mem_range'_1]; omega)
theorem tot_ge {N : NdT} {p : Int} (hp : 1 ≤ p ∧ p ≤ 24) (q : Int) : occ (N p) q ≤ tot N q := by
  obtain ⟨k, rfl⟩ : ∃ k : Nat, p = k := ⟨p.toNat, by omega⟩
  exact sumL_ge (by rw [List.mem_range'_1]; omega)
theorem occ_kat (n : Nd) : ∀ i, i < 4 → 1 ≤ occ (some n) (kat n i)
  | 0, _ => by simp only [occ, kat]; split <;> split <;> split <;> split <;> first | omega | exact absurd trivial ‹¬ True›
  | 1, _ => by simp only [occ, kat]; split <;> split <;> split <;> split <;> first | omega | exact absurd trivial ‹¬ True›
  | 2, _ => by simp only [occ, kat]; split <;> split <;> split <;> split <;> first | omega | exact absurd trivial ‹¬ True›
  | 3, _ => by simp only [occ, kat]; split <;> split <;> split <;> split <;> first | omega | exact absurd trivial ‹¬ True›
  | i + 4, h => absurd h (by omega)
theorem occ_pos {n : Nd} {q : Int} (h : 0 < occ (some n) q) : ∃ i, i < 4 ∧ kat n i = q := by
  simp only [occ] at h
  by_cases h0 : n.k0 = q
  · exact ⟨0, by omega, h0⟩
  · by_cases h1 : n.k1 = q
    · exact ⟨1, by omega, h1⟩
    · by_cases h2 : n.k2 = q
      · exact ⟨2, by omega, h2⟩
      · by_cases h3 : n.k3 = q
        · exact ⟨3, by omega, h3⟩
        · simp [h0, h1, h2, h3] at h
theorem sumL_zero {N : NdT} {q : Int} : ∀ {l : List Nat}, (∀ k ∈ l, occ (N (k : Int)) q = 0) → sumL N q l = 0
  | [], _ => rfl
  | k :: l, h => by simp only [sumL]; rw [h k (by simp), sumL_zero fun j hj => h j (List.mem_cons_of_mem _ hj)]; rfl
theorem tot_none (q : Int) : tot (fun _ => none) q = 0 := sumL_zero fun _ _ => rfl
/-- everything but the numbers of references, which follow -/
structure Gh where
  R : NdT
  L : NdT
  D : Int → Option Bytes
  eR : Int → Int
  eL : Int → Int
  eB : Int → Int
def mkN (G : Gh) : NdT := fun q => match G.R q with
  | some n => some (rf n (G.eR q))
  | none => (G.L q).map fun n => rf n (G.eL q + tot G.R q)
def mkB (G : Gh) : BkT := fun q => (G.D q).map fun d => (d, G.eB q + tot G.L q)
def mkG (G : Gh) : SI := ⟨mkB G, mkN G⟩
structure Val (G : Gh) : Prop where
  sR : sup 24 G.R
  sL : sup 24 G.L
  sD : sup 40 G.D
  dj : ∀ q, G.R q = none ∨ G.L q = none
  nR : ∀ q, 0 ≤ G.eR q
  nL : ∀ q, 0 ≤ G.eL q
  nB : ∀ q, 0 ≤ G.eB q
  pR : ∀ q, q ≠ 0 → ((G.R q).isSome = true ↔ 0 < G.eR q)
  pL : ∀ q, q ≠ 0 → ((G.L q).isSome = true ↔ 0 < G.eL q + tot G.R q)
  pD : ∀ q, q ≠ 0 → ((G.D q).isSome = true ↔ 0 < G.eB q + tot G.L q)
def del (f : Int → Int) (q : Int) (d : Int) : Int → Int := fun p => if p = q then f p + d else f p
theorem del_same (f : Int → Int) (q d : Int) : del f q d q = f q + d := by simp [del]
theorem del_ne (f : Int → Int) {q p : Int} (d : Int) (h : p ≠ q) : del f q d p = f p := by simp [del, h]
theorem sup0 {ρ : Type} {n : Nat} {B : Int → Option ρ} (h : sup n B) : B 0 = none := by
  cases e : B 0 with
  | none => rfl
  | some x => have := h 0 x e; omega
theorem sup_ne {ρ : Type} {n : Nat} {B : Int → Option ρ} (h : sup n B) {q : Int} {x : ρ} (e : B q = some x) : q ≠ 0 := by have := h q x e; omega
theorem Val.kidR {G : Gh} (V : Val G) {q : Int} {n : Nd} (h : G.R q = some n) {i : Nat} (hi : i < 4) : kat n i = 0 ∨ ∃ m, G.L (kat n i) = some m := by
  by_cases h0 : kat n i = 0
  · exact .inl h0
  · right
    have h1 := tot_ge (N := G.R) (V.sR q n h) (kat n i)
    rw [h] at h1
    have h2 := occ_kat n i hi
    have h3 := (V.pL _ h0).2 (by have := V.nL (kat n i); omega)
    exact Option.isSome_iff_exists.1 h3
theorem Val.kidL {G : Gh} (V : Val G) {q : Int} {n : Nd} (h : G.L q = some n) {i : Nat} (hi : i < 4) : kat n i = 0 ∨ ∃ d, G.D (kat n i) = some d := by
  by_cases h0 : kat n i = 0
  · exact .inl h0
  · right
    have h1 := tot_ge (N := G.L) (V.sL q n h) (kat n i)
    rw [h] at h1
    have h2 := occ_kat n i hi
    have h3 := (V.pD _ h0).2 (by have := V.nB (kat n i); omega)
    exact Option.isSome_iff_exists.1 h3
theorem mkN_R {G : Gh} {q : Int} {n : Nd} (h : G.R q = some n) : (mkG G).N q = some (rf n (G.eR q)) := by simp [mkG, mkN, h]
theorem mkN_L {G : Gh} (V : Val G) {q : Int} {n : Nd} (h : G.L q = some n) : (mkG G).N q = some (rf n (G.eL q + tot G.R q)) := by
  have : G.R q = none := (V.dj q).resolve_right (by rw [h]; simp)
  simp [mkG, mkN, h, this]
theorem mkN_none {G : Gh} {q : Int} (h : G.R q = none) (h2 : G.L q = none) : (mkG G).N q = none := by simp [mkG, mkN, h, h2]
theorem mkN_inv {G : Gh} {q : Int} (h : (mkG G).N q = none) : G.R q = none ∧ G.L q = none := by
  simp only [mkG, mkN] at h
  cases e : G.R q with
  | some n => rw [e] at h; cases h
  | none => rw [e] at h; simp at h; exact ⟨rfl, h⟩
theorem mkB_some {G : Gh} {q : Int} {d : Bytes} (h : G.D q = some d) : (mkG G).B q = some (d, G.eB q + tot G.L q) := by simp [mkG, mkB, h]
theorem mkB_none {G : Gh} {q : Int} (h : G.D q = none) : (mkG G).B q = none := by simp [mkG, mkB, h]
theorem mk_ok {G : Gh} (V : Val G) {m : Int} (hR : ∀ q, G.eR q ≤ m) (hL : ∀ q, G.eL q ≤ m) (hB : ∀ q, G.eB q ≤ m) : okS (m + 96) (mkG G) := by
  refine ⟨fun q x e => ?_, fun q x e => ?_, fun q n e => ?_, fun q n e => ?_⟩
  · cases h : G.D q with
    | none => rw [mkB_none h] at e; cases e
    | some d => exact V.sD q d h
  · cases h : G.D q with
    | none => rw [mkB_none h] at e; cases e
    | some d =>
      rw [mkB_some h] at e
      injection e with e
      subst e
      have := (V.pD q (sup_ne V.sD h)).1 (by rw [h]; rfl)
      have := tot_le G.L q
      have := hB q
      simp only
      omega
  · cases h : G.R q with
    | some n => exact V.sR q n h
    | none => cases h2 : G.L q with
      | some n => exact V.sL q n h2
      | none => rw [mkN_none h h2] at e; cases e
  · cases h : G.R q with
    | some n' =>
      rw [mkN_R h] at e
      injection e with e
      subst e
      have := (V.pR q (sup_ne V.sR h)).1 (by rw [h]; rfl)
      have := hR q
      simp only [rf]
      omega
    | none => cases h2 : G.L q with
      | some n' =>
        rw [mkN_L V h2] at e
        injection e with e
        subst e
        have := (V.pL q (sup_ne V.sL h2)).1 (by rw [h2]; rfl)
        have := tot_le G.R q
        have := hL q
        simp only [rf]
        omega
      | none => rw [mkN_none h h2] at e; cases e
theorem SI_ext {S T : SI} (h1 : S.B = T.B) (h2 : S.N = T.N) : S = T := by cases S; cases T; simp_all
/-- nothing was changed in what is there still -/
def ndSub (A B : NdT) : Prop := ∀ q n, A q = some n → B q = some n
def dSub (A B : Int → Option Bytes) : Prop := ∀ q n, A q = some n → B q = some n
/-! ### One reference less to a block -/
def cutD (G : Gh) (b : Int) : Gh := { G with eB := del G.eB b (-1), D := if G.eB b + tot G.L b = 1 then pset G.D b none else G.D }
theorem Val.cutD {G : Gh} (V : Val G) {b : Int} (hb : b ≠ 0) (he : 1 ≤ G.eB b) : Val (cutD G b) := by
  have ht := tot_nn G.L b
  refine ⟨V.sR, V.sL, ?_, V.dj, V.nR, V.nL, fun q => ?_, V.pR, V.pL, fun q hq => ?_⟩
  · show sup 40 (if G.eB b + tot G.L b = 1 then pset G.D b none else G.D)
    split
    · exact sup_set V.sD fun e => by cases e
    · exact V.sD
  · show 0 ≤ del G.eB b (-1) q
    unfold del
    split
    · rename_i e; subst e; omega
    · exact V.nB q
  · show ((if G.eB b + tot G.L b = 1 then pset G.D b none else G.D) q).isSome = true ↔ 0 < del G.eB b (-1) q + tot G.L q
    by_cases hqb : q = b
    · subst hqb
      rw [del_same]
      split
      · simp [pset]; omega
      · rw [V.pD q hq]; omega
    · rw [del_ne _ _ hqb]
      have : (if G.eB b + tot G.L b = 1 then pset G.D b none else G.D) q = G.D q := by split <;> simp [pset, hqb]
      rw [this, V.pD q hq]
theorem refB_cut {G : Gh} (V : Val G) {b : Int} (hb : b ≠ 0) (he : 1 ≤ G.eB b) : (⟨refB (mkG G).B b (-1), (mkG G).N⟩ : SI) = mkG (cutD G b) := by
  have ht := tot_nn G.L b
  obtain ⟨d, hd⟩ := Option.isSome_iff_exists.1 ((V.pD b hb).2 (by omega))
  refine SI_ext (funext fun q => ?_) rfl
  show refB (mkG G).B b (-1) q = mkB (cutD G b) q
  unfold refB
  rw [mkB_some hd]
  simp only
  by_cases hq : q = b
  · subst hq
    show (pset _ _ _) q = ((if G.eB q + tot G.L q = 1 then pset G.D q none else G.D) q).map fun d => (d, del G.eB q (-1) q + tot G.L q)
    rw [del_same]
    by_cases h1 : G.eB q + tot G.L q = 1
    · rw [if_pos h1, if_pos (by omega)]; simp [pset]
    · rw [if_neg h1, if_neg (by omega), hd]; simp [pset]; omega
  · show (pset _ _ _) q = ((if G.eB b + tot G.L b = 1 then pset G.D b none else G.D) q).map fun d => (d, del G.eB b (-1) q + tot G.L q)
    rw [del_ne _ _ hq]
    have : (if G.eB b + tot G.L b = 1 then pset G.D b none else G.D) q = G.D q := by split <;> simp [pset, hq]
    rw [this]
    simp [pset, hq, mkG, mkB]
theorem cutD_sub (G : Gh) (b : Int) : dSub (cutD G b).D G.D := fun q n h => by
  change (if G.eB b + tot G.L b = 1 then pset G.D b none else G.D) q = some n at h
  split at h
  · unfold pset at h; split at h
    · cases h
    · exact h
  · exact h
/-- several references less -/
def lessB (G : Gh) : List Int → Int → Int
  | [] => G.eB
  | k :: l => if k = 0 then lessB G l else del (lessB G l) k (-1)
/-- how often q (which isn't 0) stands in a list -/
def cnt (l : List Int) (q : Int) : Int := if q = 0 then 0 else (l.count q : Int)
theorem cnt_cons (k : Int) (l : List Int) (q : Int) : cnt (k :: l) q = cnt l q + if k = q ∧ q ≠ 0 then 1 else 0 := by
  unfold cnt
  by_cases hq : q = 0
  · simp [hq]
  · rw [if_neg hq, if_neg hq, List.count_cons]
    by_cases hk : k = q <;> simp [hk, hq]
theorem cnt_nn (l : List Int) (q : Int) : 0 ≤ cnt l q := by unfold cnt; split <;> omega
theorem cnt_kd (n : Nd) {q : Int} (hq : q ≠ 0) : cnt (kd n) q = occ (some n) q := by
  simp only [kd, cnt_cons, occ]
  have : cnt [] q = 0 := by simp [cnt]
  rw [this]
  simp only [hq, ne_eq, not_false_eq_true, and_true]
  omega
structure LessD (G G' : Gh) : Prop where
  R : G'.R = G.R
  L : G'.L = G.L
  eR : G'.eR = G.eR
  eL : G'.eL = G.eL
  D : dSub G'.D G.D
theorem fold_dropB : ∀ (l : List Int) {G : Gh}, Val G → (∀ q, cnt l q ≤ G.eB q) → ∃ G', Val G' ∧ l.foldl dropB (mkG G) = mkG G' ∧ LessD G G' ∧ ∀ q, G'.eB q = G.eB q - cnt l q
  | [], G, V, _ => ⟨G, V, rfl, ⟨rfl, rfl, rfl, rfl, fun q n h => h⟩, fun q => by simp [cnt]⟩
  | k :: l, G, V, h => by
    by_cases hk : k = 0
    · subst hk
      obtain ⟨G', V', e, s, hq⟩ := fold_dropB l V fun q => by have := h q; rw [cnt_cons] at this; split at this <;> omega
      refine ⟨G', V', ?_, s, fun q => ?_⟩
      · rw [List.foldl_cons, show dropB (mkG G) 0 = mkG G by simp [dropB]]; exact e
      · rw [hq, cnt_cons, if_neg (fun h => h.2 h.1.symm)]; omega
    · have he : 1 ≤ G.eB k := by have := h k; rw [cnt_cons, if_pos ⟨rfl, hk⟩] at this; have := cnt_nn l k; omega
      obtain ⟨G', V', e, s, hq⟩ := fold_dropB l (V.cutD hk he) fun q => by
        have := h q
        rw [cnt_cons] at this
        show cnt l q ≤ del G.eB k (-1) q
        unfold del
        by_cases hqk : q = k
        · subst hqk; rw [if_pos ⟨rfl, hk⟩] at this; simp; omega
        · rw [if_neg (fun hh => hqk hh.1.symm)] at this; simp [hqk]; omega
      refine ⟨G', V', ?_, ⟨s.R, s.L, s.eR, s.eL, fun q n hn => cutD_sub G k q n (s.D q n hn)⟩, fun q => ?_⟩
      · rw [List.foldl_cons, show dropB (mkG G) k = mkG (cutD G k) by unfold dropB; rw [if_neg hk]; exact refB_cut V hk he]; exact e
      · rw [hq, cnt_cons]
        show del G.eB k (-1) q - cnt l q = _
        unfold del
        by_cases hqk : q = k
        · subst hqk; rw [if_pos rfl, if_pos ⟨rfl, hk⟩]; omega
        · rw [if_neg hqk, if_neg (fun hh => hqk hh.1.symm)]; omega
/-! ### One reference less to a leaf -/
structure LessL (G G' : Gh) : Prop where
  R : G'.R = G.R
  eR : G'.eR = G.eR
  eB : G'.eB = G.eB
  L : ndSub G'.L G.L
  D : dSub G'.D G.D
theorem kat_nd0 (i : Nat) : kat nd0 i = 0 := by unfold kat; split <;> rfl
theorem kat_rf (n : Nd) (r : Int) (i : Nat) : kat (rf n r) i = kat n i := by unfold kat; split <;> rfl
theorem gN_some {N : NdT} {q : Int} {n : Nd} (h : N q = some n) : gN N q = n := by unfold gN; rw [h]; rfl
theorem Val.keepL {G : Gh} (V : Val G) {q : Int} (hq : q ≠ 0) (he : 1 ≤ G.eL q) (h2 : 2 ≤ G.eL q + tot G.R q) : Val { G with eL := del G.eL q (-1) } := by
  refine ⟨V.sR, V.sL, V.sD, V.dj, V.nR, fun p => ?_, V.nB, V.pR, fun p hp => ?_, V.pD⟩
  · show 0 ≤ del G.eL q (-1) p
    unfold del
    split
    · rename_i e; subst e; omega
    · exact V.nL p
  · show (G.L p).isSome = true ↔ 0 < del G.eL q (-1) p + tot G.R p
    rw [V.pL p hp]
    unfold del
    split
    · rename_i e; subst e; omega
    · rfl
theorem unL_keep {G : Gh} (V : Val G) {q : Int} (hq : q ≠ 0) (he : 1 ≤ G.eL q) (h2 : 2 ≤ G.eL q + tot G.R q) : unL (mkG G) q = mkG { G with eL := del G.eL q (-1) } := by
  obtain ⟨n, hn⟩ := Option.isSome_iff_exists.1 ((V.pL q hq).2 (by omega))
  have hg := gN_some (mkN_L V hn)
  unfold unL unX
  rw [if_neg hq, hg, if_pos (by simp only [rf]; omega)]
  refine SI_ext rfl (funext fun p => ?_)
  show pset (mkG G).N q _ p = mkN _ p
  by_cases hp : p = q
  · subst hp
    have hr : G.R p = none := (V.dj p).resolve_right (by rw [hn]; simp)
    simp only [pset, mkN, hr, hn, Option.map_some, if_pos, rf, del]
    congr 2
    omega
  · simp only [pset, if_neg hp, mkG, mkN, del]
def goL (G : Gh) (q : Int) (n : Nd) : Gh := { G with L := pset G.L q none, eL := del G.eL q (-1), eB := fun p => G.eB p + cnt (kd n) p }
theorem goL_tot {G : Gh} (V : Val G) {q : Int} {n : Nd} (hn : G.L q = some n) {p : Int} (hp : p ≠ 0) : G.eB p + cnt (kd n) p + tot (pset G.L q none) p = G.eB p + tot G.L p := by
  rw [tot_pset (V.sL q n hn), hn, cnt_kd n hp]
  simp only [occ]
  omega
theorem Val.goL {G : Gh} (V : Val G) {q : Int} {n : Nd} (hn : G.L q = some n) (he : 1 ≤ G.eL q) (h1 : G.eL q + tot G.R q = 1) : Val (goL G q n) := by
  have ht := tot_nn G.R q
  refine ⟨V.sR, sup_set V.sL (fun e => by cases e), V.sD, fun p => ?_, V.nR, fun p => ?_, fun p => ?_, V.pR, fun p hp => ?_, fun p hp => ?_⟩
  · show G.R p = none ∨ pset G.L q none p = none
    unfold pset
    split
    · exact .inr rfl
    · exact V.dj p
  · show 0 ≤ del G.eL q (-1) p
    unfold del
    split
    · rename_i e; subst e; omega
    · exact V.nL p
  · show 0 ≤ G.eB p + cnt (kd n) p
    have := V.nB p
    have := cnt_nn (kd n) p
    omega
  · show (pset G.L q none p).isSome = true ↔ 0 < del G.eL q (-1) p + tot G.R p
    unfold pset del
    split
    · rename_i e; subst e; simp; omega
    · exact V.pL p hp
  · show (G.D p).isSome = true ↔ 0 < G.eB p + cnt (kd n) p + tot (pset G.L q none) p
    rw [goL_tot V hn hp]
    exact V.pD p hp
theorem goL_mk {G : Gh} (V : Val G) {q : Int} {n : Nd} (hn : G.L q = some n) : (⟨(mkG G).B, pset (mkG G).N q none⟩ : SI) = mkG (goL G q n) := by
  refine SI_ext (funext fun p => ?_) (funext fun p => ?_)
  · show (G.D p).map _ = (G.D p).map _
    cases h : G.D p with
    | none => rfl
    | some d =>
      have := goL_tot V hn (sup_ne V.sD h)
      simp only [Option.map_some, goL]
      rw [this]
  · show pset (mkG G).N q none p = mkN (goL G q n) p
    by_cases hp : p = q
    · subst hp
      have hr : G.R p = none := (V.dj p).resolve_right (by rw [hn]; simp)
      simp [pset, mkN, goL, hr]
    · simp [pset, hp, mkG, mkN, goL, del]
theorem unL_mk {G : Gh} (V : Val G) {q : Int} (hq : q ≠ 0) (he : 1 ≤ G.eL q) : ∃ G', Val G' ∧ unL (mkG G) q = mkG G' ∧ LessL G G' ∧ G'.eL = del G.eL q (-1) := by
  obtain ⟨n, hn⟩ := Option.isSome_iff_exists.1 ((V.pL q hq).2 (by have := tot_nn G.R q; omega))
  by_cases h2 : 2 ≤ G.eL q + tot G.R q
  · exact ⟨_, V.keepL hq he h2, unL_keep V hq he h2, ⟨rfl, rfl, rfl, fun q n h => h, fun q n h => h⟩, rfl⟩
  · have h1 : G.eL q + tot G.R q = 1 := by have := tot_nn G.R q; omega
    have hg := gN_some (mkN_L V hn)
    obtain ⟨G', V', e, s, hb⟩ := fold_dropB (kd n) (V.goL hn he h1) fun p => by
      show cnt (kd n) p ≤ G.eB p + cnt (kd n) p
      have := V.nB p
      omega
    refine ⟨G', V', ?_, ⟨s.R, s.eR, funext fun p => ?_, fun p m hp => ?_, s.D⟩, s.eL⟩
    · unfold unL unX
      rw [if_neg hq, hg, if_neg (by simp only [rf]; omega), goL_mk V hn]
      exact e
    · rw [hb p]
      show G.eB p + cnt (kd n) p - cnt (kd n) p = G.eB p
      omega
    · rw [s.L] at hp
      change pset G.L q none p = some m at hp
      unfold pset at hp
      split at hp
      · cases hp
      · exact hp
theorem fold_unL : ∀ (l : List Int) {G : Gh}, Val G → (∀ q, cnt l q ≤ G.eL q) → ∃ G', Val G' ∧ l.foldl unL (mkG G) = mkG G' ∧ LessL G G' ∧ ∀ q, G'.eL q = G.eL q - cnt l q
  | [], G, V, _ => ⟨G, V, rfl, ⟨rfl, rfl, rfl, fun q n h => h, fun q n h => h⟩, fun q => by simp [cnt]⟩
  | k :: l, G, V, h => by
    by_cases hk : k = 0
    · subst hk
      obtain ⟨G', V', e, s, hq⟩ := fold_unL l V fun q => by have := h q; rw [cnt_cons] at this; split at this <;> omega
      refine ⟨G', V', ?_, s, fun q => ?_⟩
      · rw [List.foldl_cons, show unL (mkG G) 0 = mkG G by simp [unL, unX]]; exact e
      · rw [hq, cnt_cons, if_neg (fun h => h.2 h.1.symm)]; omega
    · have he : 1 ≤ G.eL k := by have := h k; rw [cnt_cons, if_pos ⟨rfl, hk⟩] at this; have := cnt_nn l k; omega
      obtain ⟨G1, V1, e1, s1, hq1⟩ := unL_mk V hk he
      obtain ⟨G', V', e, s, hq⟩ := fold_unL l V1 fun q => by
        have := h q
        rw [cnt_cons] at this
        rw [hq1]
        unfold del
        by_cases hqk : q = k
        · subst hqk; rw [if_pos ⟨rfl, hk⟩] at this; simp; omega
        · rw [if_neg (fun hh => hqk hh.1.symm)] at this; simp [hqk]; omega
      refine ⟨G', V', ?_, ⟨s.R.trans s1.R, s.eR.trans s1.eR, s.eB.trans s1.eB, fun q n hn => s1.L q n (s.L q n hn), fun q n hn => s1.D q n (s.D q n hn)⟩, fun q => ?_⟩
      · rw [List.foldl_cons, e1]; exact e
      · rw [hq, cnt_cons, hq1]
        unfold del
        by_cases hqk : q = k
        · subst hqk; rw [if_pos rfl, if_pos ⟨rfl, hk⟩]; omega
        · rw [if_neg hqk, if_neg (fun hh => hqk hh.1.symm)]; omega
/-! ### One reference less to a root -/
structure LessR (G G' : Gh) : Prop where
  eL : G'.eL = G.eL
  eB : G'.eB = G.eB
  R : ndSub G'.R G.R
  L : ndSub G'.L G.L
  D : dSub G'.D G.D
def goR (G : Gh) (q : Int) (n : Nd) : Gh := { G with R := pset G.R q none, eR := del G.eR q (-1), eL := fun p => G.eL p + cnt (kd n) p }
theorem goR_tot {G : Gh} (V : Val G) {q : Int} {n : Nd} (hn : G.R q = some n) {p : Int} (hp : p ≠ 0) : G.eL p + cnt (kd n) p + tot (pset G.R q none) p = G.eL p + tot G.R p := by
  rw [tot_pset (V.sR q n hn), hn, cnt_kd n hp]
  simp only [occ]
  omega
theorem Val.goR {G : Gh} (V : Val G) {q : Int} {n : Nd} (hn : G.R q = some n) (h1 : G.eR q = 1) : Val (goR G q n) := by
  refine ⟨sup_set V.sR (fun e => by cases e), V.sL, V.sD, fun p => ?_, fun p => ?_, fun p => ?_, V.nB, fun p hp => ?_, fun p hp => ?_, V.pD⟩
  · show pset G.R q none p = none ∨ G.L p = none
    unfold pset
    split
    · exact .inl rfl
    · exact V.dj p
  · show 0 ≤ del G.eR q (-1) p
    unfold del
    split
    · rename_i e; subst e; omega
    · exact V.nR p
  · show 0 ≤ G.eL p + cnt (kd n) p
    have := V.nL p
    have := cnt_nn (kd n) p
    omega
  · show (pset G.R q none p).isSome = true ↔ 0 < del G.eR q (-1) p
    unfold pset del
    split
    · rename_i e; subst e; simp; omega
    · exact V.pR p hp
  · show (G.L p).isSome = true ↔ 0 < G.eL p + cnt (kd n) p + tot (pset G.R q none) p
    rw [goR_tot V hn hp]
    exact V.pL p hp
theorem goR_mk {G : Gh} (V : Val G) {q : Int} {n : Nd} (hn : G.R q = some n) : (⟨(mkG G).B, pset (mkG G).N q none⟩ : SI) = mkG (goR G q n) := by
  refine SI_ext rfl (funext fun p => ?_)
  show pset (mkG G).N q none p = mkN (goR G q n) p
  by_cases hp : p = q
  · subst hp
    have hr : G.L p = none := (V.dj p).resolve_left (by rw [hn]; simp)
    simp [pset, mkN, goR, hr]
  · have e1 : pset G.R q none p = G.R p := by simp [pset, hp]
    have e2 : del G.eR q (-1) p = G.eR p := by simp [del, hp]
    show pset (mkG G).N q none p = match pset G.R q none p with
      | some n => some (rf n (del G.eR q (-1) p))
      | none => (G.L p).map fun m => rf m (G.eL p + cnt (kd n) p + tot (pset G.R q none) p)
    rw [e1, e2]
    simp only [pset, if_neg hp, mkG, mkN]
    cases hr : G.R p with
    | some m => rfl
    | none => cases hl : G.L p with
      | none => rfl
      | some m =>
        have := goR_tot V hn (sup_ne V.sL hl)
        show some _ = some (rf m (G.eL p + cnt (kd n) p + tot (pset G.R q none) p))
        rw [this]
theorem unR_mk {G : Gh} (V : Val G) {q : Int} (he : q ≠ 0 → 1 ≤ G.eR q) : ∃ G', Val G' ∧ unR (mkG G) q = mkG G' ∧ LessR G G' ∧ ∀ p, G'.eR p = G.eR p - if p = q ∧ q ≠ 0 then 1 else 0 := by
  by_cases hq : q = 0
  · subst hq
    exact ⟨G, V, by simp [unR, unX], ⟨rfl, rfl, fun q n h => h, fun q n h => h, fun q n h => h⟩, fun p => by simp⟩
  have he := he hq
  obtain ⟨n, hn⟩ := Option.isSome_iff_exists.1 ((V.pR q hq).2 (by omega))
  have hg := gN_some (mkN_R hn)
  by_cases h2 : 2 ≤ G.eR q
  · refine ⟨{ G with eR := del G.eR q (-1) }, ⟨V.sR, V.sL, V.sD, V.dj, fun p => ?_, V.nL, V.nB, fun p hp => ?_, V.pL, V.pD⟩, ?_, ⟨rfl, rfl, fun q n h => h, fun q n h => h, fun q n h => h⟩, fun p => ?_⟩
    · show 0 ≤ del G.eR q (-1) p
      unfold del
      split
      · rename_i e; subst e; omega
      · exact V.nR p
    · show (G.R p).isSome = true ↔ 0 < del G.eR q (-1) p
      rw [V.pR p hp]
      unfold del
      split
      · rename_i e; subst e; omega
      · rfl
    · unfold unR unX
      rw [if_neg hq, hg, if_pos (by simp only [rf]; omega)]
      refine SI_ext rfl (funext fun p => ?_)
      show pset (mkG G).N q _ p = mkN _ p
      by_cases hp : p = q
      · subst hp
        simp only [pset, mkN, hn, if_pos, rf, del]
        congr 2
      · simp only [pset, if_neg hp, mkG, mkN, del]
    · show del G.eR q (-1) p = _
      unfold del
      by_cases hp : p = q
      · simp [hp, hq]; omega
      · simp [hp]
  · have h1 : G.eR q = 1 := by omega
    obtain ⟨G', V', e, s, hb⟩ := fold_unL (kd n) (V.goR hn h1) fun p => by
      show cnt (kd n) p ≤ G.eL p + cnt (kd n) p
      have := V.nL p
      omega
    refine ⟨G', V', ?_, ⟨funext fun p => ?_, s.eB, fun p m hp => ?_, s.L, s.D⟩, fun p => ?_⟩
    · unfold unR unX
      rw [if_neg hq, hg, if_neg (by simp only [rf]; omega), goR_mk V hn]
      exact e
    · rw [hb p]
      show G.eL p + cnt (kd n) p - cnt (kd n) p = G.eL p
      omega
    · rw [s.R] at hp
      change pset G.R q none p = some m at hp
      unfold pset at hp
      split at hp
      · cases hp
      · exact hp
    · rw [s.eR]
      show del G.eR q (-1) p = _
      unfold del
      by_cases hp : p = q
      · simp [hp, hq]; omega
      · simp [hp]

end Go.Proofs.Ythdjckbjjfiopac
