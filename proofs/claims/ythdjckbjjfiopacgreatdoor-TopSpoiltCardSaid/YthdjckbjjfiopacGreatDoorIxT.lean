/- Indexes: who refers to what. No condition. -/
import Derived.Test.YthdjckbjjfiopacGreatDoorIxM
namespace Go.Proofs.YthdjckbjjfiopacGreatDoor
open Go.Sl Go.Proofs
set_option linter.unusedVariables false
set_option linter.unusedSimpArgs false
/-- how often q stands among the kids -/
def occ (n : Option Nd) (q : Int) : Int := match n with
  | none => 0
  | some n => (if n.k0 = q then 1 else 0) + (if n.k1 = q then 1 else 0) + (if n.k2 = q then 1 else 0) + (if n.k3 = q then 1 else 0)
def sumL (N : NdT) (q : Int) : List Nat → Int
  | [] => 0
  | k :: l => occ (N (k : Int)) q + sumL N q l
def tot (N : NdT) (q : Int) : Int := sumL N q (List.range' 1 24)
theorem occ_nn (n : Option Nd) (q : Int) : 0 ≤ occ n q := by
  cases n with
  | none => simp [occ]
  | some n => simp only [occ]; split <;> split <;> split <;> split <;> omega
theorem occ_le (n : Option Nd) (q : Int) : occ n q ≤ 4 := by
  cases n with
  | none => simp [occ]
  | some n => simp only [occ]; split <;> split <;> split <;> split <;> omega
theorem sumL_nn (N : NdT) (q : Int) : ∀ l, 0 ≤ sumL N q l
  | [] => by simp [sumL]
  | k :: l => by have := sumL_nn N q l; have := occ_nn (N (k : Int)) q; simp only [sumL]; omega
theorem sumL_le (N : NdT) (q : Int) : ∀ l, sumL N q l ≤ 4 * l.length
  | [] => by simp [sumL]
  | k :: l => by have := sumL_le N q l; have := occ_le (N (k : Int)) q; simp only [sumL, List.length_cons]; omega
theorem tot_nn (N : NdT) (q : Int) : 0 ≤ tot N q := sumL_nn _ _ _
theorem tot_le (N : NdT) (q : Int) : tot N q ≤ 96 := by have := sumL_le N q (List.range' 1 24); simp at this; exact this
theorem sumL_ge {N : NdT} {q : Int} {k : Nat} : ∀ {l : List Nat}, k ∈ l → occ (N (k : Int)) q ≤ sumL N q l
  | [], h => by simp at h
  | j :: l, h => by
    have h1 := sumL_nn N q l
    have h2 := occ_nn (N (j : Int)) q
    simp only [sumL]
    rcases List.mem_cons.1 h with rfl | h
    · omega
    · have := sumL_ge (N := N) (q := q) h; omega
theorem sumL_pset_not {N : NdT} {q p : Int} {x : Option Nd} : ∀ {l : List Nat}, (∀ k ∈ l, (k : Int) ≠ p) → sumL (pset N p x) q l = sumL N q l
  | [], _ => rfl
  | j :: l, h => by
    simp only [sumL]
    rw [sumL_pset_not (fun k hk => h k (List.mem_cons_of_mem _ hk))]
    have := h j (by simp)
    simp [pset, this]
theorem sumL_pset {N : NdT} {q : Int} {p : Nat} {x : Option Nd} : ∀ {l : List Nat}, l.Nodup → p ∈ l → sumL (pset N (p : Int) x) q l = sumL N q l - occ (N (p : Int)) q + occ x q
  | [], _, h => by simp at h
  | j :: l, hn, h => by
    rw [List.nodup_cons] at hn
    simp only [sumL]
    by_cases hj : j = p
    · subst hj
      have hnj : ∀ k ∈ l, (k : Int) ≠ (j : Int) := fun k hk e => hn.1 (by have h9 : k = j := by omega
                                                                          exact h9 ▸ hk)
      rw [sumL_pset_not hnj]
      simp [pset]
      omega
    · rcases List.mem_cons.1 h with rfl | h
      · exact absurd rfl hj
      · rw [sumL_pset hn.2 h]
        have : (j : Int) ≠ p := by omega
        simp [pset, this]
        omega
theorem tot_pset {N : NdT} {p : Int} (hp : 1 ≤ p ∧ p ≤ 24) (x : Option Nd) (q : Int) : tot (pset N p x) q = tot N q - occ (N p) q + occ x q := by
  obtain ⟨k, rfl⟩ : ∃ k : Nat, p = k := ⟨p.toNat, by omega⟩
  exact sumL_pset (List.nodup_range' (step := 1)) (by rw [List.mem_range'_1]; omega)
theorem tot_ge {N : NdT} {p : Int} (hp : 1 ≤ p ∧ p ≤ 24) (q : Int) : occ (N p) q ≤ tot N q := by
  obtain ⟨k, rfl⟩ : ∃ k : Nat, p = k := ⟨p.toNat, by omega⟩
  exact sumL_ge (by rw [List.mem_range'_1]; omega)
theorem occ_kat (n : Nd) : ∀ i, i < 4 → 1 ≤ occ (some n) (kat n i)
  | 0, _ => by simp only [occ, kat]; split <;> split <;> split <;> split <;> first | omega | exact absurd trivial ‹¬ True›
  | 1, _ => by simp only [occ, kat]; split <;> split <;> split <;> split <;> first | omega | exact absurd trivial ‹¬ True›
  | 2, _ => by simp only [occ, kat]; split <;> split <;> split <;> split <;> first | omega | exact absurd trivial ‹¬ True›
  | 3, _ => by simp only [occ, kat]; split <;> split <;> split <;> split <;> first | omega | exact absurd trivial ‹¬ True›
  | i + 4, h => absurd h (by omega)
theorem occ_pos {n : Nd} {q : Int} (h : 0 < occ (some n) q) : ∃ i, i < 4 ∧ kat n i = q := by
  simp only [occ] at h
  by_cases h0 : n.k0 = q
  · exact ⟨0, by omega, h0⟩
  · by_cases h1 : n.k1 = q
    · exact ⟨1, by omega, h1⟩
    · by_cases h2 : n.k2 = q
      · exact ⟨2, by omega, h2⟩
      · by_cases h3 : n.k3 = q
        · exact ⟨3, by omega, h3⟩
        · simp [h0, h1, h2, h3] at h
theorem sumL_zero {N : NdT} {q : Int} : ∀ {l : List Nat}, (∀ k ∈ l, occ (N (k : Int)) q = 0) → sumL N q l = 0
  | [], _ => rfl
  | k :: l, h => by simp only [sumL]; rw [h k (by simp), sumL_zero fun j hj => h j (List.mem_cons_of_mem _ hj)]; rfl
theorem tot_none (q : Int) : tot (fun _ => none) q = 0 := sumL_zero fun _ _ => rfl
/-- everything but the numbers of references, which follow -/
structure Gh where
  R : NdT
  L : NdT
  D : Int → Option Bytes
  eR : Int → Int
  eL : Int → Int
  eB : Int → Int
def mkN (G : Gh) : NdT := fun q => match G.R q with
  | some n => some (rf n (G.eR q))
  | none => (G.L q).map fun n => rf n (G.eL q + tot G.R q)
def mkB (G : Gh) : BkT := fun q => (G.D q).map fun d => (d, G.eB q + tot G.L q)
def mkG (G : Gh) : SI := ⟨mkB G, mkN G⟩
structure Val (G : Gh) : Prop where
  sR : sup 24 G.R
  sL : sup 24 G.L
  sD : sup 40 G.D
  dj : ∀ q, G.R q = none ∨ G.L q = none
  nR : ∀ q, 0 ≤ G.eR q
  nL : ∀ q, 0 ≤ G.eL q
  nB : ∀ q, 0 ≤ G.eB q
  pR : ∀ q, q ≠ 0 → ((G.R q).isSome = true ↔ 0 < G.eR q)
  pL : ∀ q, q ≠ 0 → ((G.L q).isSome = true ↔ 0 < G.eL q + tot G.R q)
  pD : ∀ q, q ≠ 0 → ((G.D q).isSome = true ↔ 0 < G.eB q + tot G.L q)
def del (f : Int → Int) (q : Int) (d : Int) : Int → Int := fun p => if p = q then f p + d else f p
theorem del_same (f : Int → Int) (q d : Int) : del f q d q = f q + d := by simp [del]
theorem del_ne (f : Int → Int) {q p : Int} (d : Int) (h : p ≠ q) : del f q d p = f p := by simp [del, h]
theorem sup0 {ρ : Type} {n : Nat} {B : Int → Option ρ} (h : sup n B) : B 0 = none := by
  cases e : B 0 with
  | none => rfl
  | some x => have := h 0 x e; omega
theorem sup_ne {ρ : Type} {n : Nat} {B : Int → Option ρ} (h : sup n B) {q : Int} {x : ρ} (e : B q = some x) : q ≠ 0 := by have := h q x e; omega
theorem Val.kidR {G : Gh} (V : Val G) {q : Int} {n : Nd} (h : G.R q = some n) {i : Nat} (hi : i < 4) : kat n i = 0 ∨ ∃ m, G.L (kat n i) = some m := by
  by_cases h0 : kat n i = 0
  · exact .inl h0
  · right
    have h1 := tot_ge (N := G.R) (V.sR q n h) (kat n i)
    rw [h] at h1
    have h2 := occ_kat n i hi
    have h3 := (V.pL _ h0).2 (by have := V.nL (kat n i); omega)
    exact Option.isSome_iff_exists.1 h3
theorem Val.kidL {G : Gh} (V : Val G) {q : Int} {n : Nd} (h : G.L q = some n) {i : Nat} (hi : i < 4) : kat n i = 0 ∨ ∃ d, G.D (kat n i) = some d := by
  by_cases h0 : kat n i = 0
  · exact .inl h0
  · right
    have h1 := tot_ge (N := G.L) (V.sL q n h) (kat n i)
    rw [h] at h1
    have h2 := occ_kat n i hi
    have h3 := (V.pD _ h0).2 (by have := V.nB (kat n i); omega)
    exact Option.isSome_iff_exists.1 h3
theorem mkN_R {G : Gh} {q : Int} {n : Nd} (h : G.R q = some n) : (mkG G).N q = some (rf n (G.eR q)) := by simp [mkG, mkN, h]
theorem mkN_L {G : Gh} (V : Val G) {q : Int} {n : Nd} (h : G.L q = some n) : (mkG G).N q = some (rf n (G.eL q + tot G.R q)) := by
  have : G.R q = none := (V.dj q).resolve_right (by rw [h]; simp)
  simp [mkG, mkN, h, this]
theorem mkN_none {G : Gh} {q : Int} (h : G.R q = none) (h2 : G.L q = none) : (mkG G).N q = none := by simp [mkG, mkN, h, h2]
theorem mkN_inv {G : Gh} {q : Int} (h : (mkG G).N q = none) : G.R q = none ∧ G.L q = none := by
  simp only [mkG, mkN] at h
  cases e : G.R q with
  | some n => rw [e] at h; cases h
  | none => rw [e] at h; simp at h; exact ⟨rfl, h⟩
theorem mkB_some {G : Gh} {q : Int} {d : Bytes} (h : G.D q = some d) : (mkG G).B q = some (d, G.eB q + tot G.L q) := by simp [mkG, mkB, h]
theorem mkB_none {G : Gh} {q : Int} (h : G.D q = none) : (mkG G).B q = none := by simp [mkG, mkB, h]
theorem mk_ok {G : Gh} (V : Val G) {m : Int} (hR : ∀ q, G.eR q ≤ m) (hL : ∀ q, G.eL q ≤ m) (hB : ∀ q, G.eB q ≤ m) : okS (m + 96) (mkG G) := by
  refine ⟨fun q x e => ?_, fun q x e => ?_, fun q n e => ?_, fun q n e => ?_⟩
  · cases h : G.D q with
    | none => rw [mkB_none h] at e; cases e
    | some d => exact V.sD q d h
  · cases h : G.D q with
    | none => rw [mkB_none h] at e; cases e
    | some d =>
      rw [mkB_some h] at e
      injection e with e
      subst e
      have := (V.pD q (sup_ne V.sD h)).1 (by rw [h]; rfl)
      have := tot_le G.L q
      have := hB q
      simp only
      omega
  · cases h : G.R q with
    | some n => exact V.sR q n h
    | none => cases h2 : G.L q with
      | some n => exact V.sL q n h2
      | none => rw [mkN_none h h2] at e; cases e
  · cases h : G.R q with
    | some n' =>
      rw [mkN_R h] at e
      injection e with e
      subst e
      have := (V.pR q (sup_ne V.sR h)).1 (by rw [h]; rfl)
      have := hR q
      simp only [rf]
      omega
    | none => cases h2 : G.L q with
      | some n' =>
        rw [mkN_L V h2] at e
        injection e with e
        subst e
        have := (V.pL q (sup_ne V.sL h2)).1 (by rw [h2]; rfl)
        have := tot_le G.R q
        have := hL q
        simp only [rf]
        omega
      | none => rw [mkN_none h h2] at e; cases e
theorem SI_ext {S T : SI} (h1 : S.B = T.B) (h2 : S.N = T.N) : S = T := by cases S; cases T; simp_all
/-- nothing was changed in what is there still -/
def ndSub (A B : NdT) : Prop := ∀ q n, A q = some n → B q = some n
def dSub (A B : Int → Option Bytes) : Prop := ∀ q n, A q = some n → B q = some n
/-! ### One reference less to a block -/
def cutD (G : Gh) (b : Int) : Gh := { G with eB := del G.eB b (-1), D := if G.eB b + tot G.L b = 1 then pset G.D b none else G.D }
theorem Val.cutD {G : Gh} (V : Val G) {b : Int} (hb : b ≠ 0) (he : 1 ≤ G.eB b) : Val (cutD G b) := by
  have ht := tot_nn G.L b
  refine ⟨V.sR, V.sL, ?_, V.dj, V.nR, V.nL, fun q => ?_, V.pR, V.pL, fun q hq => ?_⟩
  · show sup 40 (if G.eB b + tot G.L b = 1 then pset G.D b none else G.D)
    split
    · exact sup_set V.sD fun e => by cases e
    · exact V.sD
  · show 0 ≤ del G.eB b (-1) q
    unfold del
    split
    · rename_i e; subst e; omega
    · exact V.nB q
  · show ((if G.eB b + tot G.L b = 1 then pset G.D b none else G.D) q).isSome = true ↔ 0 < del G.eB b (-1) q + tot G.L q
    by_cases hqb : q = b
    · subst hqb
      rw [del_same]
      split
      · simp [pset]; omega
      · rw [V.pD q hq]; omega
    · rw [del_ne _ _ hqb]
      have : (if G.eB b + tot G.L b = 1 then pset G.D b none else G.D) q = G.D q := by split <;> simp [pset, hqb]
      rw [this, V.pD q hq]
theorem refB_cut {G : Gh} (V : Val G) {b : Int} (hb : b ≠ 0) (he : 1 ≤ G.eB b) : (⟨refB (mkG G).B b (-1), (mkG G).N⟩ : SI) = mkG (cutD G b) := by
  have ht := tot_nn G.L b
  obtain ⟨d, hd⟩ := Option.isSome_iff_exists.1 ((V.pD b hb).2 (by omega))
  refine SI_ext (funext fun q => ?_) rfl
  show refB (mkG G).B b (-1) q = mkB (cutD G b) q
  unfold refB
  rw [mkB_some hd]
  simp only
  by_cases hq : q = b
  · subst hq
    show (pset _ _ _) q = ((if G.eB q + tot G.L q = 1 then pset G.D q none else G.D) q).map fun d => (d, del G.eB q (-1) q + tot G.L q)
    rw [del_same]
    by_cases h1 : G.eB q + tot G.L q = 1
    · rw [if_pos h1, if_pos (by omega)]; simp [pset]
    · rw [if_neg h1, if_neg (by omega), hd]; simp [pset]; omega
  · show (pset _ _ _) q = ((if G.eB b + tot G.L b = 1 then pset G.D b none else G.D) q).map fun d => (d, del G.eB b (-1) q + tot G.L q)
    rw [del_ne _ _ hq]
    have : (if G.eB b + tot G.L b = 1 then pset G.D b none else G.D) q = G.D q := by split <;> simp [pset, hq]
    rw [this]
    simp [pset, hq, mkG, mkB]
theorem cutD_sub (G : Gh) (b : Int) : dSub (cutD G b).D G.D := fun q n h => by
  change (if G.eB b + tot G.L b = 1 then pset G.D b none else G.D) q = some n at h
  split at h
  · unfold pset at h; split at h
    · cases h
    · exact h
  · exact h
/-- how often q (which isn't 0) stands in a list -/
def cnt (l : List Int) (q : Int) : Int := if q = 0 then 0 else (l.count q : Int)
theorem cnt_cons (k : Int) (l : List Int) (q : Int) : cnt (k :: l) q = cnt l q + if k = q ∧ q ≠ 0 then 1 else 0 := by
  unfold cnt
  by_cases hq : q = 0
  · simp [hq]
  · rw [if_neg hq, if_neg hq, List.count_cons]
    by_cases hk : k = q <;> simp [hk, hq]
theorem cnt_nn (l : List Int) (q : Int) : 0 ≤ cnt l q := by unfold cnt; split <;> omega
theorem cnt_kd (n : Nd) {q : Int} (hq : q ≠ 0) : cnt (kd n) q = occ (some n) q := by
  simp only [kd, cnt_cons, occ]
  have : cnt [] q = 0 := by simp [cnt]
  rw [this]
  simp only [hq, ne_eq, not_false_eq_true, and_true]
  omega
structure LessD (G G' : Gh) : Prop where
  R : G'.R = G.R
  L : G'.L = G.L
  eR : G'.eR = G.eR
  eL : G'.eL = G.eL
  D : dSub G'.D G.D
theorem fold_dropB : ∀ (l : List Int) {G : Gh}, Val G → (∀ q, cnt l q ≤ G.eB q) → ∃ G', Val G' ∧ l.foldl dropB (mkG G) = mkG G' ∧ LessD G G' ∧ ∀ q, G'.eB q = G.eB q - cnt l q
  | [], G, V, _ => ⟨G, V, rfl, ⟨rfl, rfl, rfl, rfl, fun q n h => h⟩, fun q => by simp [cnt]⟩
  | k :: l, G, V, h => by
    by_cases hk : k = 0
    · subst hk
      obtain ⟨G', V', e, s, hq⟩ := fold_dropB l V fun q => by have := h q; rw [cnt_cons] at this; split at this <;> omega
      refine ⟨G', V', ?_, s, fun q => ?_⟩
      · rw [List.foldl_cons, show dropB (mkG G) 0 = mkG G by simp [dropB]]; exact e
      · rw [hq, cnt_cons, if_neg (fun h => h.2 h.1.symm)]; omega
    · have he : 1 ≤ G.eB k := by have := h k; rw [cnt_cons, if_pos ⟨rfl, hk⟩] at this; have := cnt_nn l k; omega
      obtain ⟨G', V', e, s, hq⟩ := fold_dropB l (V.cutD hk he) fun q => by
        have := h q
        rw [cnt_cons] at this
        show cnt l q ≤ del G.eB k (-1) q
        unfold del
        by_cases hqk : q = k
        · subst hqk; rw [if_pos ⟨rfl, hk⟩] at this; simp; omega
        · rw [if_neg (fun hh => hqk hh.1.symm)] at this; simp [hqk]; omega
      refine ⟨G', V', ?_, ⟨s.R, s.L, s.eR, s.eL, fun q n hn => cutD_sub G k q n (s.D q n hn)⟩, fun q => ?_⟩
      · rw [List.foldl_cons, show dropB (mkG G) k = mkG (cutD G k) by unfold dropB; rw [if_neg hk]; exact refB_cut V hk he]; exact e
      · rw [hq, cnt_cons]
        show del G.eB k (-1) q - cnt l q = _
        unfold del
        by_cases hqk : q = k
        · subst hqk; rw [if_pos rfl, if_pos ⟨rfl, hk⟩]; omega
        · rw [if_neg hqk, if_neg (fun hh => hqk hh.1.symm)]; omega
/-! ### One reference less to a leaf -/
structure LessL (G G' : Gh) : Prop where
  R : G'.R = G.R
  eR : G'.eR = G.eR
  eB : G'.eB = G.eB
  L : ndSub G'.L G.L
  D : dSub G'.D G.D
theorem kat_nd0 (i : Nat) : kat nd0 i = 0 := by unfold kat; split <;> rfl
theorem kat_rf (n : Nd) (r : Int) (i : Nat) : kat (rf n r) i = kat n i := by unfold kat; split <;> rfl
theorem gN_some {N : NdT} {q : Int} {n : Nd} (h : N q = some n) : gN N q = n := by unfold gN; rw [h]; rfl
theorem Val.keepL {G : Gh} (V : Val G) {q : Int} (hq : q ≠ 0) (he : 1 ≤ G.eL q) (h2 : 2 ≤ G.eL q + tot G.R q) : Val { G with eL := del G.eL q (-1) } := by
  refine ⟨V.sR, V.sL, V.sD, V.dj, V.nR, fun p => ?_, V.nB, V.pR, fun p hp => ?_, V.pD⟩
  · show 0 ≤ del G.eL q (-1) p
    unfold del
    split
    · rename_i e; subst e; omega
    · exact V.nL p
  · show (G.L p).isSome = true ↔ 0 < del G.eL q (-1) p + tot G.R p
    rw [V.pL p hp]
    unfold del
    split
    · rename_i e; subst e; omega
    · rfl
theorem unL_keep {G : Gh} (V : Val G) {q : Int} (hq : q ≠ 0) (he : 1 ≤ G.eL q) (h2 : 2 ≤ G.eL q + tot G.R q) : unL (mkG G) q = mkG { G with eL := del G.eL q (-1) } := by
  obtain ⟨n, hn⟩ := Option.isSome_iff_exists.1 ((V.pL q hq).2 (by omega))
  have hg := gN_some (mkN_L V hn)
  unfold unL unX
  rw [if_neg hq, hg, if_pos (by simp only [rf]; omega)]
  refine SI_ext rfl (funext fun p => ?_)
  show pset (mkG G).N q _ p = mkN _ p
  by_cases hp : p = q
  · subst hp
    have hr : G.R p = none := (V.dj p).resolve_right (by rw [hn]; simp)
    simp only [pset, mkN, hr, hn, Option.map_some, if_pos, rf, del]
    congr 2
    omega
  · simp only [pset, if_neg hp, mkG, mkN, del]
def goL (G : Gh) (q : Int) (n : Nd) : Gh := { G with L := pset G.L q none, eL := del G.eL q (-1), eB := fun p => G.eB p + cnt (kd n) p }
theorem goL_tot {G : Gh} (V : Val G) {q : Int} {n : Nd} (hn : G.L q = some n) {p : Int} (hp : p ≠ 0) : G.eB p + cnt (kd n) p + tot (pset G.L q none) p = G.eB p + tot G.L p := by
  rw [tot_pset (V.sL q n hn), hn, cnt_kd n hp]
  simp only [occ]
  omega
theorem Val.goL {G : Gh} (V : Val G) {q : Int} {n : Nd} (hn : G.L q = some n) (he : 1 ≤ G.eL q) (h1 : G.eL q + tot G.R q = 1) : Val (goL G q n) := by
  have ht := tot_nn G.R q
  refine ⟨V.sR, sup_set V.sL (fun e => by cases e), V.sD, fun p => ?_, V.nR, fun p => ?_, fun p => ?_, V.pR, fun p hp => ?_, fun p hp => ?_⟩
  · show G.R p = none ∨ pset G.L q none p = none
    unfold pset
    split
    · exact .inr rfl
    · exact V.dj p
  · show 0 ≤ del G.eL q (-1) p
    unfold del
    split
    · rename_i e; subst e; omega
    · exact V.nL p
  · show 0 ≤ G.eB p + cnt (kd n) p
    have := V.nB p
    have := cnt_nn (kd n) p
    omega
  · show (pset G.L q none p).isSome = true ↔ 0 < del G.eL q (-1) p + tot G.R p
    unfold pset del
    split
    · rename_i e; subst e; simp; omega
    · exact V.pL p hp
  · show (G.D p).isSome = true ↔ 0 < G.eB p + cnt (kd n) p + tot (pset G.L q none) p
    rw [goL_tot V hn hp]
    exact V.pD p hp
theorem goL_mk {G : Gh} (V : Val G) {q : Int} {n : Nd} (hn : G.L q = some n) : (⟨(mkG G).B, pset (mkG G).N q none⟩ : SI) = mkG (goL G q n) := by
  refine SI_ext (funext fun p => ?_) (funext fun p => ?_)
  · show (G.D p).map _ = (G.D p).map _
    cases h : G.D p with
    | none => rfl
    | some d =>
      have := goL_tot V hn (sup_ne V.sD h)
      simp only [Option.map_some, goL]
      rw [this]
  · show pset (mkG G).N q none p = mkN (goL G q n) p
    by_cases hp : p = q
    · subst hp
      have hr : G.R p = none := (V.dj p).resolve_right (by rw [hn]; simp)
      simp [pset, mkN, goL, hr]
    · simp [pset, hp, mkG, mkN, goL, del]
theorem unL_mk {G : Gh} (V : Val G) {q : Int} (hq : q ≠ 0) (he : 1 ≤ G.eL q) : ∃ G', Val G' ∧ unL (mkG G) q = mkG G' ∧ LessL G G' ∧ G'.eL = del G.eL q (-1) := by
  obtain ⟨n, hn⟩ := Option.isSome_iff_exists.1 ((V.pL q hq).2 (by have := tot_nn G.R q; omega))
  by_cases h2 : 2 ≤ G.eL q + tot G.R q
  · exact ⟨_, V.keepL hq he h2, unL_keep V hq he h2, ⟨rfl, rfl, rfl, fun q n h => h, fun q n h => h⟩, rfl⟩
  · have h1 : G.eL q + tot G.R q = 1 := by have := tot_nn G.R q; omega
    have hg := gN_some (mkN_L V hn)
    obtain ⟨G', V', e, s, hb⟩ := fold_dropB (kd n) (V.goL hn he h1) fun p => by
      show cnt (kd n) p ≤ G.eB p + cnt (kd n) p
      have := V.nB p
      omega
    refine ⟨G', V', ?_, ⟨s.R, s.eR, funext fun p => ?_, fun p m hp => ?_, s.D⟩, s.eL⟩
    · unfold unL unX
      rw [if_neg hq, hg, if_neg (by simp only [rf]; omega), goL_mk V hn]
      exact e
    · rw [hb p]
      show G.eB p + cnt (kd n) p - cnt (kd n) p = G.eB p
      omega
    · rw [s.L] at hp
      change pset G.L q none p = some m at hp
      unfold pset at hp
      split at hp
      · cases hp
      · exact hp
theorem fold_unL : ∀ (l : List Int) {G : Gh}, Val G → (∀ q, cnt l q ≤ G.eL q) → ∃ G', Val G' ∧ l.foldl unL (mkG G) = mkG G' ∧ LessL G G' ∧ ∀ q, G'.eL q = G.eL q - cnt l q
  | [], G, V, _ => ⟨G, V, rfl, ⟨rfl, rfl, rfl, fun q n h => h, fun q n h => h⟩, fun q => by simp [cnt]⟩
  | k :: l, G, V, h => by
    by_cases hk : k = 0
    · subst hk
      obtain ⟨G', V', e, s, hq⟩ := fold_unL l V fun q => by have := h q; rw [cnt_cons] at this; split at this <;> omega
      refine ⟨G', V', ?_, s, fun q => ?_⟩
      · rw [List.foldl_cons, show unL (mkG G) 0 = mkG G by simp [unL, unX]]; exact e
      · rw [hq, cnt_cons, if_neg (fun h => h.2 h.1.symm)]; omega
    · have he : 1 ≤ G.eL k := by have := h k; rw [cnt_cons, if_pos ⟨rfl, hk⟩] at this; have := cnt_nn l k; omega
      obtain ⟨G1, V1, e1, s1, hq1⟩ := unL_mk V hk he
      obtain ⟨G', V', e, s, hq⟩ := fold_unL l V1 fun q => by
        have := h q
        rw [cnt_cons] at this
        rw [hq1]
        unfold del
        by_cases hqk : q = k
        · subst hqk; rw [if_pos ⟨rfl, hk⟩] at this; simp; omega
        · rw [if_neg (fun hh => hqk hh.1.symm)] at this; simp [hqk]; omega
      refine ⟨G', V', ?_, ⟨s.R.trans s1.R, s.eR.trans s1.eR, s.eB.trans s1.eB, fun q n hn => s1.L q n (s.L q n hn), fun q n hn => s1.D q n (s.D q n hn)⟩, fun q => ?_⟩
      · rw [List.foldl_cons, e1]; exact e
      · rw [hq, cnt_cons, hq1]
        unfold del
        by_cases hqk : q = k
        · subst hqk; rw [if_pos rfl, if_pos ⟨rfl, hk⟩]; omega
        · rw [if_neg hqk, if_neg (fun hh => hqk hh.1.symm)]; omega
/-! ### One reference less to a root -/
structure LessR (G G' : Gh) : Prop where
  eL : G'.eL = G.eL
  eB : G'.eB = G.eB
  R : ndSub G'.R G.R
  L : ndSub G'.L G.L
  D : dSub G'.D G.D
def goR (G : Gh) (q : Int) (n : Nd) : Gh := { G with R := pset G.R q none, eR := del G.eR q (-1), eL := fun p => G.eL p + cnt (kd n) p }
theorem goR_tot {G : Gh} (V : Val G) {q : Int} {n : Nd} (hn : G.R q = some n) {p : Int} (hp : p ≠ 0) : G.eL p + cnt (kd n) p + tot (pset G.R q none) p = G.eL p + tot G.R p := by
  rw [tot_pset (V.sR q n hn), hn, cnt_kd n hp]
  simp only [occ]
  omega
theorem Val.goR {G : Gh} (V : Val G) {q : Int} {n : Nd} (hn : G.R q = some n) (h1 : G.eR q = 1) : Val (goR G q n) := by
  refine ⟨sup_set V.sR (fun e => by cases e), V.sL, V.sD, fun p => ?_, fun p => ?_, fun p => ?_, V.nB, fun p hp => ?_, fun p hp => ?_, V.pD⟩
  · show pset G.R q none p = none ∨ G.L p = none
    unfold pset
    split
    · exact .inl rfl
    · exact V.dj p
  · show 0 ≤ del G.eR q (-1) p
    unfold del
    split
    · rename_i e; subst e; omega
    · exact V.nR p
  · show 0 ≤ G.eL p + cnt (kd n) p
    have := V.nL p
    have := cnt_nn (kd n) p
    omega
  · show (pset G.R q none p).isSome = true ↔ 0 < del G.eR q (-1) p
    unfold pset del
    split
    · rename_i e; subst e; simp; omega
    · exact V.pR p hp
  · show (G.L p).isSome = true ↔ 0 < G.eL p + cnt (kd n) p + tot (pset G.R q none) p
    rw [goR_tot V hn hp]
    exact V.pL p hp
theorem goR_mk {G : Gh} (V : Val G) {q : Int} {n : Nd} (hn : G.R q = some n) : (⟨(mkG G).B, pset (mkG G).N q none⟩ : SI) = mkG (goR G q n) := by
  refine SI_ext rfl (funext fun p => ?_)
  show pset (mkG G).N q none p = mkN (goR G q n) p
  by_cases hp : p = q
  · subst hp
    have hr : G.L p = none := (V.dj p).resolve_left (by rw [hn]; simp)
    simp [pset, mkN, goR, hr]
  · have e1 : pset G.R q none p = G.R p := by simp [pset, hp]
    have e2 : del G.eR q (-1) p = G.eR p := by simp [del, hp]
    show pset (mkG G).N q none p = match pset G.R q none p with
      | some n => some (rf n (del G.eR q (-1) p))
      | none => (G.L p).map fun m => rf m (G.eL p + cnt (kd n) p + tot (pset G.R q none) p)
    rw [e1, e2]
    simp only [pset, if_neg hp, mkG, mkN]
    cases hr : G.R p with
    | some m => rfl
    | none => cases hl : G.L p with
      | none => rfl
      | some m =>
        have := goR_tot V hn (sup_ne V.sL hl)
        show some _ = some (rf m (G.eL p + cnt (kd n) p + tot (pset G.R q none) p))
        rw [this]
theorem unR_mk {G : Gh} (V : Val G) {q : Int} (he : q ≠ 0 → 1 ≤ G.eR q) : ∃ G', Val G' ∧ unR (mkG G) q = mkG G' ∧ LessR G G' ∧ ∀ p, G'.eR p = G.eR p - if p = q ∧ q ≠ 0 then 1 else 0 := by
  by_cases hq : q = 0
  · subst hq
    exact ⟨G, V, by simp [unR, unX], ⟨rfl, rfl, fun q n h => h, fun q n h => h, fun q n h => h⟩, fun p => by simp⟩
  have he := he hq
  obtain ⟨n, hn⟩ := Option.isSome_iff_exists.1 ((V.pR q hq).2 (by omega))
  have hg := gN_some (mkN_R hn)
  by_cases h2 : 2 ≤ G.eR q
  · refine ⟨{ G with eR := del G.eR q (-1) }, ⟨V.sR, V.sL, V.sD, V.dj, fun p => ?_, V.nL, V.nB, fun p hp => ?_, V.pL, V.pD⟩, ?_, ⟨rfl, rfl, fun q n h => h, fun q n h => h, fun q n h => h⟩, fun p => ?_⟩
    · show 0 ≤ del G.eR q (-1) p
      unfold del
      split
      · rename_i e; subst e; omega
      · exact V.nR p
    · show (G.R p).isSome = true ↔ 0 < del G.eR q (-1) p
      rw [V.pR p hp]
      unfold del
      split
      · rename_i e; subst e; omega
      · rfl
    · unfold unR unX
      rw [if_neg hq, hg, if_pos (by simp only [rf]; omega)]
      refine SI_ext rfl (funext fun p => ?_)
      show pset (mkG G).N q _ p = mkN _ p
      by_cases hp : p = q
      · subst hp
        simp only [pset, mkN, hn, if_pos, rf, del]
        congr 2
      · simp only [pset, if_neg hp, mkG, mkN, del]
    · show del G.eR q (-1) p = _
      unfold del
      by_cases hp : p = q
      · simp [hp, hq]; omega
      · simp [hp]
  · have h1 : G.eR q = 1 := by omega
    obtain ⟨G', V', e, s, hb⟩ := fold_unL (kd n) (V.goR hn h1) fun p => by
      show cnt (kd n) p ≤ G.eL p + cnt (kd n) p
      have := V.nL p
      omega
    refine ⟨G', V', ?_, ⟨funext fun p => ?_, s.eB, fun p m hp => ?_, s.L, s.D⟩, fun p => ?_⟩
    · unfold unR unX
      rw [if_neg hq, hg, if_neg (by simp only [rf]; omega), goR_mk V hn]
      exact e
    · rw [hb p]
      show G.eL p + cnt (kd n) p - cnt (kd n) p = G.eL p
      omega
    · rw [s.R] at hp
      change pset G.R q none p = some m at hp
      unfold pset at hp
      split at hp
      · cases hp
      · exact hp
    · rw [s.eR]
      show del G.eR q (-1) p = _
      unfold del
      by_cases hp : p = q
      · simp [hp, hq]; omega
      · simp [hp]
theorem ndSub.rfl {A : NdT} : ndSub A A := fun q n h => h
theorem ndSub.trans {A B C : NdT} (h : ndSub A B) (h2 : ndSub B C) : ndSub A C := fun q n e => h2 q n (h q n e)
theorem dSub.rfl {A : Int → Option Bytes} : dSub A A := fun q n h => h
theorem dSub.trans {A B C : Int → Option Bytes} (h : dSub A B) (h2 : dSub B C) : dSub A C := fun q n e => h2 q n (h q n e)
theorem ndSub_new {A : NdT} {k : Int} {n : Nd} (h : A k = none) : ndSub A (pset A k (some n)) := fun q m e => by
  unfold pset
  split
  · rename_i hq; rw [hq, h] at e; cases e
  · exact e
theorem dSub_new {A : Int → Option Bytes} {k : Int} {n : Bytes} (h : A k = none) : dSub A (pset A k (some n)) := fun q m e => by
  unfold pset
  split
  · rename_i hq; rw [hq, h] at e; cases e
  · exact e
/-! ### Values -/
theorem gR_kat {G : Gh} {q : Int} {n : Nd} (h : G.R q = some n) (i : Nat) : kat (gN (mkG G).N q) i = kat n i := by rw [gN_some (mkN_R h), kat_rf]
theorem gL_kat {G : Gh} (V : Val G) {q : Int} {n : Nd} (h : G.L q = some n) (i : Nat) : kat (gN (mkG G).N q) i = kat n i := by rw [gN_some (mkN_L V h), kat_rf]
theorem g0_kat {G : Gh} (V : Val G) (i : Nat) : kat (gN (mkG G).N 0) i = 0 := by
  unfold gN
  rw [mkN_none (sup0 V.sR) (sup0 V.sL)]
  exact kat_nd0 i
def dv (S : SI) (q : Int) : Bytes := (getP S.B q).1
theorem dv_some {G : Gh} {q : Int} {d : Bytes} (h : G.D q = some d) : dv (mkG G) q = d := by unfold dv getP; rw [mkB_some h]
theorem dv_none {G : Gh} {q : Int} (h : G.D q = none) : dv (mkG G) q = [] := by unfold dv getP; rw [mkB_none h]
theorem dv_0 {G : Gh} (V : Val G) : dv (mkG G) 0 = [] := dv_none (sup0 V.sD)
def rt (G : Gh) (q : Int) : Prop := q = 0 ∨ ∃ n, G.R q = some n
def lf (G : Gh) (q : Int) : Prop := q = 0 ∨ ∃ n, G.L q = some n
def bl (G : Gh) (q : Int) : Prop := q = 0 ∨ ∃ n, G.D q = some n
theorem rt_kid {G : Gh} (V : Val G) {q : Int} (h : rt G q) {i : Nat} (hi : i < 4) : lf G (kat (gN (mkG G).N q) i) := by
  rcases h with rfl | ⟨n, h⟩
  · exact .inl (g0_kat V i)
  · rw [gR_kat h]; exact V.kidR h hi
theorem lf_kid {G : Gh} (V : Val G) {q : Int} (h : lf G q) {i : Nat} (hi : i < 4) : bl G (kat (gN (mkG G).N q) i) := by
  rcases h with rfl | ⟨n, h⟩
  · exact .inl (g0_kat V i)
  · rw [gL_kat V h]; exact V.kidL h hi
theorem rt_same {G G' : Gh} (V : Val G) (V' : Val G') (s : ndSub G.R G'.R) {q : Int} (h : rt G q) (i : Nat) : kat (gN (mkG G').N q) i = kat (gN (mkG G).N q) i := by
  rcases h with rfl | ⟨n, h⟩
  · rw [g0_kat V, g0_kat V']
  · rw [gR_kat h, gR_kat (s q n h)]
theorem lf_same {G G' : Gh} (V : Val G) (V' : Val G') (s : ndSub G.L G'.L) {q : Int} (h : lf G q) (i : Nat) : kat (gN (mkG G').N q) i = kat (gN (mkG G).N q) i := by
  rcases h with rfl | ⟨n, h⟩
  · rw [g0_kat V, g0_kat V']
  · rw [gL_kat V h, gL_kat V' (s q n h)]
theorem bl_same {G G' : Gh} (V : Val G) (V' : Val G') (s : dSub G.D G'.D) {q : Int} (h : bl G q) : dv (mkG G') q = dv (mkG G) q := by
  rcases h with rfl | ⟨n, h⟩
  · rw [dv_0 V, dv_0 V']
  · rw [dv_some h, dv_some (s q n h)]
theorem getS_dv (S : SI) (root : Int) (i : Nat) : getS S root i = dv S (kat (gN S.N (kat (gN S.N root) (i / 4))) (i % 4)) := rfl
/-- what a root has stays -/
theorem get_same {G G' : Gh} (V : Val G) (V' : Val G') (sR : ndSub G.R G'.R) (sL : ndSub G.L G'.L) (sD : dSub G.D G'.D) {root : Int} (h : rt G root) {i : Nat} (hi : i < 16) : getS (mkG G') root i = getS (mkG G) root i := by
  rw [getS_dv, getS_dv, rt_same V V' sR h]
  have h1 := rt_kid V h (i := i / 4) (by omega)
  rw [lf_same V V' sL h1]
  exact bl_same V V' sD (lf_kid V h1 (by omega))
theorem rt_mono {G G' : Gh} (s : ndSub G.R G'.R) {q : Int} (h : rt G q) : rt G' q := h.imp id fun ⟨n, e⟩ => ⟨n, s q n e⟩
theorem lf_mono {G G' : Gh} (s : ndSub G.L G'.L) {q : Int} (h : lf G q) : lf G' q := h.imp id fun ⟨n, e⟩ => ⟨n, s q n e⟩
theorem rt_rng {G : Gh} (V : Val G) {q : Int} (h : rt G q) : 0 ≤ q ∧ q ≤ 24 := by
  rcases h with rfl | ⟨n, h⟩
  · omega
  · have := V.sR q n h; omega
theorem lf_rng {G : Gh} (V : Val G) {q : Int} (h : lf G q) : 0 ≤ q ∧ q ≤ 24 := by
  rcases h with rfl | ⟨n, h⟩
  · omega
  · have := V.sL q n h; omega
/-! ### Numbers -/
theorem filter_le1 {p q : Nat → Bool} (a : Nat) : ∀ (l : List Nat), l.Nodup → (∀ k ∈ l, k ≠ a → p k = true → q k = true) → (l.filter p).length ≤ (l.filter q).length + 1
  | [], _, _ => by simp
  | k :: l, hn, h => by
    rw [List.nodup_cons] at hn
    by_cases hk : k = a
    · subst hk
      have h0 : (l.filter p).length ≤ (l.filter q).length := by
        rw [← List.countP_eq_length_filter, ← List.countP_eq_length_filter]
        exact List.countP_mono_left fun j hj hp => h j (List.mem_cons_of_mem _ hj) (fun e => hn.1 (e ▸ hj)) hp
      rw [List.filter_cons, List.filter_cons]
      split <;> split <;> simp <;> omega
    · have h0 := filter_le1 a l hn.2 fun j hj => h j (List.mem_cons_of_mem _ hj)
      have h1 := h k (by simp) hk
      rw [List.filter_cons, List.filter_cons]
      split
      · rename_i hp; rw [if_pos (h1 hp)]; simp; omega
      · split <;> simp <;> omega
theorem ids_le1 {ρ σ : Type} {n : Nat} {A : Int → Option ρ} {B : Int → Option σ} (a : Int) (h : ∀ q, q ≠ a → (A q).isSome = true → (B q).isSome = true) : (ids n A).length ≤ (ids n B).length + 1 := by
  unfold ids
  rw [List.length_map, List.length_map]
  exact filter_le1 a.toNat _ (List.nodup_range' (step := 1)) fun k hk hka => h k (by rw [List.mem_range'_1] at hk; omega)
theorem ids_eq {ρ σ : Type} {n : Nat} {A : Int → Option ρ} {B : Int → Option σ} (h : ∀ q, (A q).isSome = (B q).isSome) : ids n A = ids n B := by
  unfold ids
  simp only [h]
theorem mkB_isSome (G : Gh) (q : Int) : ((mkG G).B q).isSome = (G.D q).isSome := by simp [mkG, mkB]
theorem mkN_isSome (G : Gh) (q : Int) : ((mkG G).N q).isSome = ((G.R q).isSome || (G.L q).isSome) := by
  simp only [mkG, mkN]
  cases G.R q <;> simp
structure Blk (G G1 : Gh) (d : Bytes) (b : Int) : Prop where
  V : Val G1
  R : G1.R = G.R
  L : G1.L = G.L
  eR : G1.eR = G.eR
  eL : G1.eL = G.eL
  eB : G1.eB = if b = 0 then G.eB else del G.eB b 1
  D : dSub G.D G1.D
  b0 : b = 0 → d = []
  b1 : b ≠ 0 → G1.D b = some d
  ne : ∀ q, q ≠ b → G1.D q = G.D q
theorem block_mk {G : Gh} (V : Val G) {d : Bytes} {b : Int} (h : blockE (mkG G) d = (b, 0)) : ∃ G1, blockS (mkG G) d = mkG G1 ∧ Blk G G1 d b := by
  unfold blockE at h
  by_cases hd : d = []
  · rw [if_pos hd] at h
    injection h with h
    subst h
    exact ⟨G, by unfold blockS; rw [if_pos hd], V, rfl, rfl, rfl, rfl, rfl, fun q n h => h, fun _ => hd, fun h => absurd rfl h, fun q _ => rfl⟩
  · rw [if_neg hd] at h
    unfold putE at h
    by_cases h6 : 6 < d.length ∨ d = []
    · rw [if_pos h6] at h; injection h with _ h; cases h
    · rw [if_neg h6] at h
      cases hf : freeId 40 (mkG G).B with
      | none => rw [hf] at h; injection h with _ h; cases h
      | some k =>
        rw [hf] at h
        injection h with h
        subst h
        have hk := free_some hf
        have hk0 : (k : Int) ≠ 0 := by omega
        have hDk : G.D k = none := by
          have := hk.2.1
          cases e : G.D k with
          | none => rfl
          | some x => rw [mkB_some e] at this; cases this
        have hz : G.eB k = 0 ∧ tot G.L k = 0 := by
          have h1 := V.pD k hk0
          rw [hDk] at h1
          have h2 := V.nB k
          have h3 := tot_nn G.L k
          have h4 : ¬ (0 < G.eB k + tot G.L k) := fun h => by simpa using h1.2 h
          omega
        refine ⟨{ G with D := pset G.D k (some d), eB := del G.eB k 1 }, ?_, ⟨V.sR, V.sL, sup_set V.sD (fun _ => by omega), V.dj, V.nR, V.nL, fun q => ?_, V.pR, V.pL, fun q hq => ?_⟩, rfl, rfl, rfl, rfl, ?_, dSub_new hDk, fun h => absurd h hk0, fun _ => by simp [pset], fun q hq => by simp [pset, hq]⟩
        · unfold blockS putB
          rw [if_neg hd, if_neg h6, hf]
          refine SI_ext (funext fun q => ?_) rfl
          show pset (mkG G).B k _ q = (pset G.D k (some d) q).map fun d => (d, del G.eB k 1 q + tot G.L q)
          by_cases hq : q = k
          · subst hq; simp [pset, del]; omega
          · simp [pset, hq, del, mkG, mkB]
        · show 0 ≤ del G.eB k 1 q
          unfold del
          have := V.nB q
          split <;> omega
        · show (pset G.D k (some d) q).isSome = true ↔ 0 < del G.eB k 1 q + tot G.L q
          unfold pset del
          split
          · rename_i e; subst e; simp; omega
          · exact V.pD q hq
        · show del G.eB k 1 = _
          rw [if_neg hk0]
/-! ### A new leaf -/
theorem refB_one {B : BkT} {q : Int} {x : Bk} (h : B q = some x) (hx : 0 < x.2) : refB B q 1 = pset B q (some (x.1, x.2 + 1)) := by
  unfold refB
  rw [h]
  simp only
  rw [if_neg (by omega)]
theorem fold_bumpB : ∀ (l : List Int) (S : SI), (∀ q x, S.B q = some x → 0 < x.2) → (∀ k ∈ l, k = 0 ∨ ∃ x, S.B k = some x) → l.foldl (bump true) S = ⟨fun q => (S.B q).map fun x => (x.1, x.2 + cnt l q), S.N⟩
  | [], S, _, _ => SI_ext (funext fun q => by show S.B q = (S.B q).map _; cases S.B q <;> simp [cnt]) rfl
  | k :: l, S, hp, h => by
    rw [List.foldl_cons]
    by_cases hk : k = 0
    · subst hk
      rw [show bump true S 0 = S by simp [bump], fold_bumpB l S hp fun j hj => h j (List.mem_cons_of_mem _ hj)]
      refine SI_ext (funext fun q => ?_) rfl
      show (S.B q).map _ = (S.B q).map _
      rw [cnt_cons, if_neg (fun hh => hh.2 hh.1.symm), Int.add_zero]
    · obtain ⟨x, hx⟩ := (h k (by simp)).resolve_left hk
      have hb : bump true S k = ⟨pset S.B k (some (x.1, x.2 + 1)), S.N⟩ := by unfold bump; rw [if_neg hk, if_pos rfl, refB_one hx (hp k x hx)]
      rw [hb, fold_bumpB l _ (fun q y hy => ?_) fun j hj => ?_]
      · refine SI_ext (funext fun q => ?_) rfl
        show (pset S.B k (some (x.1, x.2 + 1)) q).map _ = (S.B q).map _
        rw [cnt_cons]
        unfold pset
        by_cases hq : q = k
        · subst hq; simp [hx, hk]; omega
        · rw [if_neg hq, if_neg (fun hh => hq hh.1.symm), Int.add_zero]
      · change pset S.B k (some (x.1, x.2 + 1)) q = some y at hy
        unfold pset at hy
        split at hy
        · injection hy with hy; subst hy; have := hp k x hx; simp only; omega
        · exact hp q y hy
      · refine (h j (List.mem_cons_of_mem _ hj)).imp id fun ⟨y, hy⟩ => ?_
        show ∃ x', pset S.B k (some (x.1, x.2 + 1)) j = some x'
        unfold pset
        split
        · exact ⟨_, rfl⟩
        · exact ⟨y, hy⟩
theorem fold_bumpN : ∀ (l : List Int) (S : SI), (∀ k ∈ l, k = 0 ∨ ∃ x, S.N k = some x) → l.foldl (bump false) S = ⟨S.B, fun q => (S.N q).map fun n => rf n (n.refs + cnt l q)⟩
  | [], S, _ => SI_ext rfl (funext fun q => by show S.N q = (S.N q).map _; cases S.N q <;> simp [cnt, rf])
  | k :: l, S, h => by
    rw [List.foldl_cons]
    by_cases hk : k = 0
    · subst hk
      rw [show bump false S 0 = S by simp [bump], fold_bumpN l S fun j hj => h j (List.mem_cons_of_mem _ hj)]
      refine SI_ext rfl (funext fun q => ?_)
      show (S.N q).map _ = (S.N q).map _
      rw [cnt_cons, if_neg (fun hh => hh.2 hh.1.symm), Int.add_zero]
    · obtain ⟨x, hx⟩ := (h k (by simp)).resolve_left hk
      have hb : bump false S k = ⟨S.B, pset S.N k (some (rf x (x.refs + 1)))⟩ := by unfold bump bumpN; rw [if_neg hk, if_neg (by simp), gN_some hx]
      rw [hb, fold_bumpN l _ fun j hj => ?_]
      · refine SI_ext rfl (funext fun q => ?_)
        show (pset S.N k (some (rf x (x.refs + 1))) q).map _ = (S.N q).map _
        rw [cnt_cons]
        unfold pset
        by_cases hq : q = k
        · subst hq; simp [hx, hk, rf]; omega
        · rw [if_neg hq, if_neg (fun hh => hq hh.1.symm), Int.add_zero]
      · refine (h j (List.mem_cons_of_mem _ hj)).imp id fun ⟨y, hy⟩ => ?_
        show ∃ x', pset S.N k (some (rf x (x.refs + 1))) j = some x'
        unfold pset
        split
        · exact ⟨_, rfl⟩
        · exact ⟨y, hy⟩
theorem kd_mem {n : Nd} {k : Int} (h : k ∈ kd n) : ∃ i, i < 4 ∧ kat n i = k := by
  simp only [kd, List.mem_cons, List.not_mem_nil, or_false] at h
  rcases h with rfl | rfl | rfl | rfl
  · exact ⟨0, by omega, rfl⟩
  · exact ⟨1, by omega, rfl⟩
  · exact ⟨2, by omega, rfl⟩
  · exact ⟨3, by omega, rfl⟩
theorem noKids_kat {n : Nd} (h : noKids n) (i : Nat) : kat n i = 0 := by
  unfold kat
  split
  · exact h.1
  · exact h.2.1
  · exact h.2.2.1
  · exact h.2.2.2
theorem nodeE_inv {S : SI} {n : Nd} {k : Int} (h : nodeE S n = (k, 0)) : (k = 0 ∧ noKids n ∧ ∀ leaf, nodeS leaf S n = S) ∨ ∃ j : Nat, k = j ∧ (1 ≤ j ∧ j ≤ 24) ∧ S.N k = none ∧ ¬ noKids n ∧ ∀ leaf, nodeS leaf S n = (kd n).foldl (bump leaf) ⟨S.B, pset S.N k (some (rf n 1))⟩ := by
  unfold nodeE at h
  by_cases h0 : noKids n
  · rw [if_pos h0] at h
    injection h with h
    exact .inl ⟨h.symm, h0, fun leaf => by unfold nodeS; rw [if_pos h0]⟩
  · rw [if_neg h0] at h
    cases hf : freeId 24 S.N with
    | none => rw [hf] at h; injection h with _ h; cases h
    | some j =>
      rw [hf] at h
      injection h with h
      subst h
      have := free_some hf
      exact .inr ⟨j, rfl, this.1, this.2.1, h0, fun leaf => by unfold nodeS; rw [if_neg h0, hf]⟩
theorem nodeE_ne (S : SI) (n : Nd) : (nodeE S n).2 = 0 ∨ (nodeE S n).2 = 8 := by
  unfold nodeE
  split
  · exact .inl rfl
  · split
    · exact .inr rfl
    · exact .inl rfl
theorem new_z {G : Gh} (V : Val G) {k : Int} (hk : k ≠ 0) (h : (mkG G).N k = none) : G.R k = none ∧ G.L k = none ∧ G.eR k = 0 ∧ G.eL k = 0 ∧ tot G.R k = 0 := by
  have h1 := mkN_inv h
  have h2 := V.pR k hk
  have h3 := V.pL k hk
  rw [h1.1] at h2
  rw [h1.2] at h3
  have h4 : ¬ (0 < G.eR k) := fun h => by simpa using h2.2 h
  have h5 : ¬ (0 < G.eL k + tot G.R k) := fun h => by simpa using h3.2 h
  have := V.nR k
  have := V.nL k
  have := tot_nn G.R k
  exact ⟨h1.1, h1.2, by omega, by omega, by omega⟩
theorem leaf_mk {G : Gh} (V : Val G) {n : Nd} {k : Int} (hk : ∀ i, i < 4 → bl G (kat n i)) (h : nodeE (mkG G) n = (k, 0)) : (k = 0 ∧ noKids n ∧ nodeS true (mkG G) n = mkG G) ∨ (k ≠ 0 ∧ (mkG G).N k = none ∧ nodeS true (mkG G) n = mkG { G with L := pset G.L k (some n), eL := del G.eL k 1 } ∧ Val { G with L := pset G.L k (some n), eL := del G.eL k 1 }) := by
  rcases nodeE_inv h with ⟨h1, h2, h3⟩ | ⟨j, h1, h2, h3, h4, h5⟩
  · exact .inl ⟨h1, h2, h3 true⟩
  · right
    have hk0 : k ≠ 0 := by omega
    obtain ⟨z1, z2, z3, z4, z5⟩ := new_z V hk0 h3
    have hkr : 1 ≤ k ∧ k ≤ 24 := by omega
    have ht : ∀ q, q ≠ 0 → tot (pset G.L k (some n)) q = tot G.L q + cnt (kd n) q := fun q hq => by rw [tot_pset hkr, z2, cnt_kd n hq]; simp only [occ]; omega
    refine ⟨hk0, h3, ?_, ⟨V.sR, sup_set V.sL (fun _ => hkr), V.sD, fun q => ?_, V.nR, fun q => ?_, V.nB, V.pR, fun q hq => ?_, fun q hq => ?_⟩⟩
    · rw [h5 true, fold_bumpB]
      · refine SI_ext (funext fun q => ?_) (funext fun q => ?_)
        · show (mkB G q).map _ = (G.D q).map _
          unfold mkB
          cases e : G.D q with
          | none => rfl
          | some d => simp only [Option.map_some, ht q (sup_ne V.sD e)]; congr 2; omega
        · show pset (mkG G).N k (some (rf n 1)) q = match G.R q with
            | some n => some (rf n (G.eR q))
            | none => (pset G.L k (some n) q).map fun m => rf m (del G.eL k 1 q + tot G.R q)
          unfold pset del
          by_cases hq : q = k
          · subst hq; rw [z1]; simp [z4, z5]
          · simp only [if_neg hq]; rfl
      · intro q x hx
        cases e : G.D q with
        | none => change (mkG G).B q = some x at hx; rw [mkB_none e] at hx; cases hx
        | some d =>
          change (mkG G).B q = some x at hx
          rw [mkB_some e] at hx
          injection hx with hx
          subst hx
          exact (V.pD q (sup_ne V.sD e)).1 (by rw [e]; rfl)
      · intro q hq
        obtain ⟨i, hi, rfl⟩ := kd_mem hq
        exact (hk i hi).imp id fun ⟨d, e⟩ => ⟨_, mkB_some e⟩
    · show G.R q = none ∨ pset G.L k (some n) q = none
      unfold pset
      split
      · rename_i e; subst e; exact .inl z1
      · exact V.dj q
    · show 0 ≤ del G.eL k 1 q
      have := V.nL q
      unfold del
      split <;> omega
    · show (pset G.L k (some n) q).isSome = true ↔ 0 < del G.eL k 1 q + tot G.R q
      unfold pset del
      split
      · rename_i e; subst e; simp; omega
      · exact V.pL q hq
    · show (G.D q).isSome = true ↔ 0 < G.eB q + tot (pset G.L k (some n)) q
      rw [ht q hq, V.pD q hq]
      have h6 := cnt_nn (kd n) q
      have h7 := V.nB q
      have h8 := tot_nn G.L q
      constructor
      · intro h; omega
      · intro h
        by_cases h9 : 0 < cnt (kd n) q
        · rw [cnt_kd n hq] at h9
          obtain ⟨i, hi, e⟩ := occ_pos h9
          obtain ⟨d, hd⟩ := (hk i hi).resolve_left (by rw [e]; exact hq)
          rw [e] at hd
          exact (V.pD q hq).1 (by rw [hd]; rfl)
        · omega
theorem root_mk {G : Gh} (V : Val G) {n : Nd} {k : Int} (hk : ∀ i, i < 4 → lf G (kat n i)) (h : nodeE (mkG G) n = (k, 0)) : (k = 0 ∧ noKids n ∧ nodeS false (mkG G) n = mkG G) ∨ (k ≠ 0 ∧ (mkG G).N k = none ∧ nodeS false (mkG G) n = mkG { G with R := pset G.R k (some n), eR := del G.eR k 1 } ∧ Val { G with R := pset G.R k (some n), eR := del G.eR k 1 }) := by
  rcases nodeE_inv h with ⟨h1, h2, h3⟩ | ⟨j, h1, h2, h3, h4, h5⟩
  · exact .inl ⟨h1, h2, h3 false⟩
  · right
    have hk0 : k ≠ 0 := by omega
    obtain ⟨z1, z2, z3, z4, z5⟩ := new_z V hk0 h3
    have hkr : 1 ≤ k ∧ k ≤ 24 := by omega
    have ht : ∀ q, q ≠ 0 → tot (pset G.R k (some n)) q = tot G.R q + cnt (kd n) q := fun q hq => by rw [tot_pset hkr, z1, cnt_kd n hq]; simp only [occ]; omega
    have hc : ∀ q, (∀ m, G.L q ≠ some m) → cnt (kd n) q = 0 := fun q hq => by
      by_cases hq0 : q = 0
      · subst hq0; rfl
      · have h6 := cnt_nn (kd n) q
        by_cases h9 : 0 < cnt (kd n) q
        · rw [cnt_kd n hq0] at h9
          obtain ⟨i, hi, e⟩ := occ_pos h9
          obtain ⟨m, hm⟩ := (hk i hi).resolve_left (by rw [e]; exact hq0)
          rw [e] at hm
          exact absurd hm (hq m)
        · omega
    refine ⟨hk0, h3, ?_, ⟨sup_set V.sR (fun _ => hkr), V.sL, V.sD, fun q => ?_, fun q => ?_, V.nL, V.nB, fun q hq => ?_, fun q hq => ?_, V.pD⟩⟩
    · rw [h5 false, fold_bumpN]
      · refine SI_ext rfl (funext fun q => ?_)
        show (pset (mkG G).N k (some (rf n 1)) q).map _ = match pset G.R k (some n) q with
            | some m => some (rf m (del G.eR k 1 q))
            | none => (G.L q).map fun m => rf m (G.eL q + tot (pset G.R k (some n)) q)
        by_cases hq : q = k
        · subst hq
          have : cnt (kd n) q = 0 := hc q fun m hm => by rw [z2] at hm; cases hm
          simp [pset, del, z3, this, rf]
        · have e1 : pset G.R k (some n) q = G.R q := by simp [pset, hq]
          have e2 : pset (mkG G).N k (some (rf n 1)) q = (mkG G).N q := by simp [pset, hq]
          have e3 : del G.eR k 1 q = G.eR q := by simp [del, hq]
          rw [e1, e2, e3]
          cases hr : G.R q with
          | some m =>
            have hl : G.L q = none := (V.dj q).resolve_left (by rw [hr]; simp)
            have : cnt (kd n) q = 0 := hc q fun m hm => by rw [hl] at hm; cases hm
            rw [mkN_R hr]
            simp [this, rf]
          | none => cases hl : G.L q with
            | none => rw [mkN_none hr hl]; rfl
            | some m =>
              rw [mkN_L V hl]
              simp only [Option.map_some, ht q (sup_ne V.sL hl), rf]
              congr 2
              omega
      · intro q hq
        obtain ⟨i, hi, rfl⟩ := kd_mem hq
        refine (hk i hi).imp id fun ⟨m, e⟩ => ?_
        have : kat n i ≠ k := fun h => by rw [h, z2] at e; cases e
        exact ⟨_, by show pset (mkG G).N k _ (kat n i) = _; unfold pset; rw [if_neg this]; exact mkN_L V e⟩
    · show pset G.R k (some n) q = none ∨ G.L q = none
      unfold pset
      split
      · rename_i e; subst e; exact .inr z2
      · exact V.dj q
    · show 0 ≤ del G.eR k 1 q
      have := V.nR q
      unfold del
      split <;> omega
    · show (pset G.R k (some n) q).isSome = true ↔ 0 < del G.eR k 1 q
      unfold pset del
      split
      · rename_i e; subst e; simp; omega
      · exact V.pR q hq
    · show (G.L q).isSome = true ↔ 0 < G.eL q + tot (pset G.R k (some n)) q
      rw [ht q hq, V.pL q hq]
      have h6 := cnt_nn (kd n) q
      have h7 := V.nL q
      have h8 := tot_nn G.R q
      constructor
      · intro h; omega
      · intro h
        by_cases h9 : 0 < cnt (kd n) q
        · cases hl : G.L q with
          | none => have := hc q fun m hm => by rw [hl] at hm; cases hm
                    omega
          | some m => exact (V.pL q hq).1 (by rw [hl]; rfl)
        · omega
def gZ : Gh := ⟨fun _ => none, fun _ => none, fun _ => none, fun _ => 0, fun _ => 0, fun _ => 0⟩
theorem gZ_mk : mkG gZ = ⟨fun _ => none, fun _ => none⟩ := rfl
theorem gZ_val : Val gZ := ⟨sup_none _, sup_none _, sup_none _, fun _ => .inl rfl, fun _ => Int.le_refl _, fun _ => Int.le_refl _, fun _ => Int.le_refl _,
  fun q _ => by simp [gZ], fun q _ => by have : tot gZ.R q = 0 := tot_none q
                                         rw [this]; simp [gZ], fun q _ => by have : tot gZ.L q = 0 := tot_none q
                                                                             rw [this]; simp [gZ]⟩
theorem share_mk {G : Gh} (V : Val G) {q : Int} (hq : rt G q) : ∃ G', Val G' ∧ shareS (mkG G) q = mkG G' ∧ G'.R = G.R ∧ G'.L = G.L ∧ G'.D = G.D ∧ G'.eL = G.eL ∧ G'.eB = G.eB ∧ ∀ p, G'.eR p = G.eR p + if p = q ∧ q ≠ 0 then 1 else 0 := by
  by_cases h0 : q = 0
  · subst h0
    exact ⟨G, V, by unfold shareS; rw [if_neg (by omega)], rfl, rfl, rfl, rfl, rfl, fun p => by simp⟩
  · obtain ⟨n, hn⟩ := hq.resolve_left h0
    have hr := V.sR q n hn
    have he := (V.pR q h0).1 (by rw [hn]; rfl)
    refine ⟨{ G with eR := del G.eR q 1 }, ⟨V.sR, V.sL, V.sD, V.dj, fun p => ?_, V.nL, V.nB, fun p hp => ?_, V.pL, V.pD⟩, ?_, rfl, rfl, rfl, rfl, rfl, fun p => ?_⟩
    · show 0 ≤ del G.eR q 1 p
      have := V.nR p
      unfold del
      split <;> omega
    · show (G.R p).isSome = true ↔ 0 < del G.eR q 1 p
      rw [V.pR p hp]
      unfold del
      split
      · rename_i e; subst e; omega
      · rfl
    · unfold shareS bumpN
      rw [if_pos (by omega), gN_some (mkN_R hn)]
      refine SI_ext rfl (funext fun p => ?_)
      show pset (mkG G).N q _ p = mkN _ p
      by_cases hp : p = q
      · subst hp
        simp only [pset, mkN, hn, if_pos, rf, del]
      · simp only [pset, if_neg hp, mkG, mkN, del]
    · show del G.eR q 1 p = _
      unfold del
      by_cases hp : p = q
      · simp [hp, h0]
      · simp [hp]
theorem kat_kset (n : Nd) (x : Int) : ∀ i j, i < 4 → j < 4 → kat (kset n i x) j = if j = i then x else kat n j
  | 0, 0, _, _ => rfl
  | 0, 1, _, _ => rfl
  | 0, 2, _, _ => rfl
  | 0, 3, _, _ => rfl
  | 1, 0, _, _ => rfl
  | 1, 1, _, _ => rfl
  | 1, 2, _, _ => rfl
  | 1, 3, _, _ => rfl
  | 2, 0, _, _ => rfl
  | 2, 1, _, _ => rfl
  | 2, 2, _, _ => rfl
  | 2, 3, _, _ => rfl
  | 3, 0, _, _ => rfl
  | 3, 1, _, _ => rfl
  | 3, 2, _, _ => rfl
  | 3, 3, _, _ => rfl
  | i + 4, _, h, _ => absurd h (by omega)
  | 0, j + 4, _, h => absurd h (by omega)
  | 1, j + 4, _, h => absurd h (by omega)
  | 2, j + 4, _, h => absurd h (by omega)
  | 3, j + 4, _, h => absurd h (by omega)
theorem del_del (f : Int → Int) (q : Int) : del (del f q 1) q (-1) = f := funext fun p => by unfold del; split <;> omega
/-- what Set leaves behind -/
structure SetOk (G G' : Gh) (root : Int) (at_ : Nat) (d : Bytes) (out : Int) : Prop where
  V : Val G'
  eR : ∀ p, G'.eR p = G.eR p + if p = out ∧ out ≠ 0 then 1 else 0
  eL : G'.eL = G.eL
  eB : G'.eB = G.eB
  R : ndSub G.R G'.R
  L : ndSub G.L G'.L
  D : dSub G.D G'.D
  o : rt G' out
  get : ∀ i, i < 16 → getS (mkG G') out i = if i = at_ then d else getS (mkG G) root i
  nB : (ids 40 (mkG G').B).length ≤ (ids 40 (mkG G).B).length + 1
  nN : (ids 24 (mkG G').N).length ≤ (ids 24 (mkG G).N).length + 2
theorem unB_mk {G : Gh} {b : Int} (V : Val G) (h0 : 0 ≤ b) (h : b ≠ 0 → 1 ≤ G.eB b ∧ 1 ≤ tot G.L b) : ∃ G', unB (mkG G) b = mkG G' ∧ Val G' ∧ G'.R = G.R ∧ G'.L = G.L ∧ G'.D = G.D ∧ G'.eR = G.eR ∧ G'.eL = G.eL ∧ G'.eB = if b = 0 then G.eB else del G.eB b (-1) := by
  unfold unB
  by_cases hb : b = 0
  · subst hb
    exact ⟨G, by rw [if_neg (by omega)], V, rfl, rfl, rfl, rfl, rfl, by rw [if_pos rfl]⟩
  · have h1 := h hb
    refine ⟨cutD G b, ?_, V.cutD hb h1.1, rfl, rfl, ?_, rfl, rfl, ?_⟩
    · rw [if_pos (by omega)]; exact refB_cut V hb h1.1
    · show (if G.eB b + tot G.L b = 1 then pset G.D b none else G.D) = G.D
      rw [if_neg (by omega)]
    · rw [if_neg hb]; rfl
theorem setE_inv {S : SI} {root : Int} {at_ : Nat} {d : Bytes} {out : Int} (h : setE S root at_ d = (out, 0)) : ∃ b k, blockE S d = (b, 0) ∧ nodeE (blockS S d) (setL (blockS S d) root at_ b) = (k, 0) ∧ nodeE (unB (nodeS true (blockS S d) (setL (blockS S d) root at_ b)) b) (setR (blockS S d) root at_ k) = (out, 0) ∧ setS S root at_ d = unL (nodeS false (unB (nodeS true (blockS S d) (setL (blockS S d) root at_ b)) b) (setR (blockS S d) root at_ k)) k := by
  unfold setE at h
  unfold setS
  simp only at h ⊢
  obtain ⟨b, eb⟩ : ∃ b, blockE S d = b := ⟨_, rfl⟩
  obtain ⟨b, e⟩ := b
  rw [eb] at h ⊢
  simp only at h ⊢
  by_cases h1 : e = 0
  · subst h1
    rw [if_neg (by simp)] at h ⊢
    obtain ⟨l, el⟩ : ∃ l, nodeE (blockS S d) (setL (blockS S d) root at_ b) = l := ⟨_, rfl⟩
    obtain ⟨k, e⟩ := l
    rw [el] at h ⊢
    simp only at h ⊢
    by_cases h2 : e = 0
    · subst h2
      rw [if_neg (by simp)] at h ⊢
      obtain ⟨o, eo⟩ : ∃ o, nodeE (unB (nodeS true (blockS S d) (setL (blockS S d) root at_ b)) b) (setR (blockS S d) root at_ k) = o := ⟨_, rfl⟩
      obtain ⟨o, e⟩ := o
      rw [eo] at h ⊢
      simp only at h ⊢
      by_cases h3 : e = 0
      · subst h3
        rw [if_neg (by simp)] at h ⊢
        injection h with h
        subst h
        exact ⟨b, k, rfl, el, eo, rfl⟩
      · rw [if_pos h3] at h
        injection h with _ h
        exact absurd h h3
    · rw [if_pos h2] at h
      injection h with _ h
      exact absurd h h2
  · rw [if_pos h1] at h
    injection h with _ h
    exact absurd h h1
theorem set_mk {G : Gh} (V : Val G) {root : Int} {at_ : Nat} {d : Bytes} {out : Int} (hr : rt G root) (ha : at_ < 16) (h : setE (mkG G) root at_ d = (out, 0)) : ∃ G', setS (mkG G) root at_ d = mkG G' ∧ SetOk G G' root at_ d out := by
  obtain ⟨b, k, hb, hl, ho, hS⟩ := setE_inv h
  obtain ⟨G1, e1, B1⟩ := block_mk V hb
  have V1 := B1.V
  rw [e1] at hl ho hS
  have hb0 : 0 ≤ b := by
    by_cases hb : b = 0
    · omega
    · have := V1.sD b d (B1.b1 hb); omega
  have hbl : bl G1 b := by
    by_cases hb : b = 0
    · exact .inl hb
    · exact .inr ⟨d, B1.b1 hb⟩
  have hr1 : rt G1 root := rt_mono (by rw [B1.R]; exact ndSub.rfl) hr
  have hli : at_ / 4 < 4 := by omega
  have hlj : at_ % 4 < 4 := by omega
  have hol := rt_kid V1 hr1 hli
  have hkL : ∀ i, i < 4 → bl G1 (kat (setL (mkG G1) root at_ b) i) := fun i hi => by
    unfold setL
    rw [kat_kset _ _ _ _ hlj hi]
    split
    · exact hbl
    · exact lf_kid V1 hol hi
  obtain ⟨nl, hnl⟩ : ∃ n, n = setL (mkG G1) root at_ b := ⟨_, rfl⟩
  have hnlk : ∀ i, i < 4 → kat nl i = if i = at_ % 4 then b else kat (gN (mkG G1).N (kat (gN (mkG G1).N root) (at_ / 4))) i := fun i hi => by rw [hnl]; exact kat_kset _ _ _ _ hlj hi
  rw [← hnl] at hl ho hS hkL
  obtain ⟨nr, hnr⟩ : ∃ n, n = setR (mkG G1) root at_ k := ⟨_, rfl⟩
  have hnrk : ∀ i, i < 4 → kat nr i = if i = at_ / 4 then k else kat (gN (mkG G1).N root) i := fun i hi => by rw [hnr]; exact kat_kset _ _ _ _ hli hi
  rw [← hnr] at ho hS
  -- the leaf
  obtain ⟨G2, V2, e2, r2, d2, er2, eb2, el2, l2, k2, lk2, nn2⟩ : ∃ G2, Val G2 ∧ nodeS true (mkG G1) nl = mkG G2 ∧ G2.R = G.R ∧ G2.D = G1.D ∧ G2.eR = G.eR ∧ G2.eB = G1.eB ∧ G2.eL = (if k = 0 then G.eL else del G.eL k 1) ∧ ndSub G.L G2.L ∧ lf G2 k ∧ (∀ i, i < 4 → kat (gN (mkG G2).N k) i = kat nl i) ∧ (∀ q, q ≠ k → (G2.L q).isSome = true → (G.L q).isSome = true) := by
    rcases leaf_mk V1 hkL hl with ⟨rfl, h2, h3⟩ | ⟨h1, h2, h3, h4⟩
    · exact ⟨G1, V1, h3, B1.R, rfl, B1.eR, rfl, by rw [if_pos rfl, B1.eL], by rw [B1.L]; exact ndSub.rfl, .inl rfl, fun i _ => by rw [noKids_kat h2, g0_kat V1], fun q _ h => by rw [B1.L] at h; exact h⟩
    · refine ⟨_, h4, h3, B1.R, rfl, B1.eR, rfl, by rw [if_neg h1, ← B1.eL], by rw [← B1.L]; exact ndSub_new (mkN_inv h2).2, .inr ⟨nl, by simp [pset]⟩, fun i _ => gL_kat h4 (by simp [pset]) i, fun q hq h => ?_⟩
      change (pset G1.L k (some nl) q).isSome = true at h
      simpa [pset, hq, B1.L] using h
  have l12 : ndSub G1.L G2.L := by rw [B1.L]; exact l2
  rw [e2] at ho hS
  -- the block's own
  have ht2 : b ≠ 0 → 1 ≤ G2.eB b ∧ 1 ≤ tot G2.L b := fun hb => by
    constructor
    · rw [eb2, B1.eB, if_neg hb, del_same]
      have := V.nB b
      omega
    · have hkb := hnlk (at_ % 4) hlj
      rw [if_pos rfl] at hkb
      have hk0 : k ≠ 0 := fun hk => by
        subst hk
        have := lk2 (at_ % 4) hlj
        rw [g0_kat V2, hkb] at this
        exact hb this.symm
      obtain ⟨m, hm⟩ := k2.resolve_left hk0
      have h5 := tot_ge (N := G2.L) (V2.sL k m hm) b
      have h6 := occ_kat m (at_ % 4) hlj
      have h7 := lk2 (at_ % 4) hlj
      rw [gL_kat V2 hm, hkb] at h7
      rw [h7, ← hm] at h6
      omega
  obtain ⟨G3, e3, V3, r3, l3, d3, er3, el3, eb3⟩ := unB_mk V2 hb0 ht2
  rw [e3] at ho hS
  have eb3' : G3.eB = G.eB := by
    rw [eb3, eb2, B1.eB]
    by_cases hb : b = 0
    · rw [if_pos hb, if_pos hb]
    · rw [if_neg hb, if_neg hb, del_del]
  -- the root
  have k3 : lf G3 k := lf_mono (by rw [l3]; exact ndSub.rfl) k2
  have hkR : ∀ i, i < 4 → lf G3 (kat nr i) := fun i hi => by
    rw [hnrk i hi]
    split
    · exact k3
    · exact lf_mono (by rw [l3]; exact l12) (rt_kid V1 hr1 hi)
  obtain ⟨G4, V4, e4, d4, l4, eb4, el4, r4, er4, o4, ok4, nn4, t4⟩ : ∃ G4, Val G4 ∧ nodeS false (mkG G3) nr = mkG G4 ∧ G4.D = G3.D ∧ G4.L = G3.L ∧ G4.eB = G3.eB ∧ G4.eL = G3.eL ∧ ndSub G3.R G4.R ∧ (∀ p, G4.eR p = G3.eR p + if p = out ∧ out ≠ 0 then 1 else 0) ∧ rt G4 out ∧ (∀ i, i < 4 → kat (gN (mkG G4).N out) i = kat nr i) ∧ (∀ q, q ≠ out → (G4.R q).isSome = true → (G3.R q).isSome = true) ∧ (k ≠ 0 → 1 ≤ tot G4.R k) := by
    rcases root_mk V3 hkR ho with ⟨rfl, h2, h3⟩ | ⟨h1, h2, h3, h4⟩
    · refine ⟨G3, V3, h3, rfl, rfl, rfl, rfl, ndSub.rfl, fun p => by simp, .inl rfl, fun i _ => by rw [noKids_kat h2, g0_kat V3], fun q _ h => h, fun hk => ?_⟩
      have := hnrk (at_ / 4) hli
      rw [if_pos rfl, noKids_kat h2] at this
      exact absurd this.symm hk
    · refine ⟨_, h4, h3, rfl, rfl, rfl, rfl, ndSub_new (mkN_inv h2).1, fun p => ?_, .inr ⟨nr, by simp [pset]⟩, fun i _ => gR_kat (by simp [pset]) i, fun q hq h => ?_, fun hk => ?_⟩
      · show del G3.eR out 1 p = _
        unfold del
        by_cases hp : p = out
        · simp [hp, h1]
        · simp [hp]
      · change (pset G3.R out (some nr) q).isSome = true at h
        simpa [pset, hq] using h
      · have h5 := tot_ge (N := pset G3.R out (some nr)) (h4.sR out nr (by simp [pset])) k
        have h6 := occ_kat nr (at_ / 4) hli
        have h7 := hnrk (at_ / 4) hli
        rw [if_pos rfl] at h7
        rw [h7] at h6
        rw [show pset G3.R out (some nr) out = some nr by simp [pset]] at h5
        exact Int.le_trans h6 h5
  rw [e4] at hS
  -- the leaf's own
  obtain ⟨G5, e5, V5, r5, d5, l5, er5, el5, eb5⟩ : ∃ G5, unL (mkG G4) k = mkG G5 ∧ Val G5 ∧ G5.R = G4.R ∧ G5.D = G4.D ∧ G5.L = G4.L ∧ G5.eR = G4.eR ∧ G5.eL = G.eL ∧ G5.eB = G4.eB := by
    by_cases hk : k = 0
    · subst hk
      exact ⟨G4, by simp [unL, unX], V4, rfl, rfl, rfl, rfl, by rw [el4, el3, el2, if_pos rfl], rfl⟩
    · have h1 : G4.eL k = G.eL k + 1 := by rw [el4, el3, el2, if_neg hk, del_same]
      have h2 := V.nL k
      have h3 := t4 hk
      refine ⟨_, unL_keep V4 hk (by omega) (by omega), V4.keepL hk (by omega) (by omega), rfl, rfl, rfl, rfl, ?_, rfl⟩
      show del G4.eL k (-1) = G.eL
      rw [el4, el3, el2, if_neg hk, del_del]
  have sR : ndSub G.R G5.R := by rw [r5, ← r2, ← r3]; exact r4
  have sL1 : ndSub G1.L G5.L := by rw [l5, l4, l3]; exact l12
  have sL : ndSub G.L G5.L := by rw [l5, l4, l3]; exact l2
  have sD : dSub G.D G5.D := by rw [d5, d4, d3, d2]; exact B1.D
  have sD1 : dSub G1.D G5.D := by rw [d5, d4, d3, d2]; exact dSub.rfl
  have sR1 : ndSub G1.R G5.R := by rw [B1.R]; exact sR
  refine ⟨G5, hS.trans e5, ⟨V5, fun p => by rw [er5, er4, er3, er2], el5, by rw [eb5, eb4, eb3'], sR, sL, sD, rt_mono (by rw [r5]; exact ndSub.rfl) o4, fun i hi => ?_, ?_, ?_⟩⟩
  · -- what the new root has
    have ho5 : ∀ i, i < 4 → kat (gN (mkG G5).N out) i = kat nr i := fun i hi => by rw [rt_same V4 V5 (by rw [r5]; exact ndSub.rfl) o4]; exact ok4 i hi
    rw [getS_dv, ho5 (i / 4) (by omega), hnrk (i / 4) (by omega)]
    by_cases h4 : i / 4 = at_ / 4
    · rw [if_pos h4, lf_same V2 V5 (by rw [l5, l4, l3]; exact ndSub.rfl) k2, lk2 _ (by omega), hnlk _ (by omega)]
      by_cases h5 : i % 4 = at_ % 4
      · rw [if_pos h5, if_pos (by omega)]
        by_cases hb : b = 0
        · rw [hb, dv_0 V5, B1.b0 hb]
        · exact dv_some (sD1 b d (B1.b1 hb))
      · rw [if_neg h5, if_neg (by omega), bl_same V1 V5 sD1 (lf_kid V1 hol (by omega)), getS_dv, ← h4]
        have h6 := lf_kid V1 (rt_kid V1 hr1 (i := i / 4) (by omega)) (i := i % 4) (by omega)
        have h7 := get_same V V1 (by rw [B1.R]; exact ndSub.rfl) (by rw [B1.L]; exact ndSub.rfl) B1.D hr hi
        rw [getS_dv, getS_dv] at h7
        exact h7
    · rw [if_neg h4, if_neg (by omega)]
      have h6 := rt_kid V1 hr1 (i := i / 4) (by omega)
      rw [lf_same V1 V5 sL1 h6, bl_same V1 V5 sD1 (lf_kid V1 h6 (by omega))]
      exact get_same V V1 (by rw [B1.R]; exact ndSub.rfl) (by rw [B1.L]; exact ndSub.rfl) B1.D hr hi
  · refine ids_le1 b fun q hq h => ?_
    rw [mkB_isSome, d5, d4, d3, d2, B1.ne q hq] at h
    rw [mkB_isSome]
    exact h
  · refine Nat.le_trans (ids_le1 (B := (mkG G3).N) out fun q hq h => ?_) (Nat.add_le_add_right (ids_le1 k fun q hq h => ?_) 1)
    · rw [mkN_isSome, r5, l5, l4, Bool.or_eq_true] at h
      rw [mkN_isSome, Bool.or_eq_true]
      exact h.imp (nn4 q hq) id
    · rw [mkN_isSome, r3, r2, l3, Bool.or_eq_true] at h
      rw [mkN_isSome, Bool.or_eq_true]
      exact h.imp id (nn2 q hq)

end Go.Proofs.YthdjckbjjfiopacGreatDoor
