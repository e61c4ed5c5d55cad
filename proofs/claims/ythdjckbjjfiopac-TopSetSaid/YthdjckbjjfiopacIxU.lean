/- Indexes: what Set adds. No condition. -/
import Derived.Test.YthdjckbjjfiopacIxT
namespace Go.Proofs.Ythdjckbjjfiopac
open Go.Sl Go.Proofs
set_option linter.unusedVariables false
set_option linter.unusedSimpArgs false
theorem ndSub.rfl {A : NdT} : ndSub A A := fun q n h => h
theorem ndSub.trans {A B C : NdT} (h : ndSub A B) (h2 : ndSub B C) : ndSub A C := fun q n e => h2 q n (h q n e)
theorem dSub.rfl {A : Int → Option Bytes} : dSub A A := fun q n h => h
theorem dSub.trans {A B C : Int → Option Bytes} (h : dSub A B) (h2 : dSub B C) : dSub A C := fun q n e => h2 q n (h q n e)
theorem ndSub_new {A : NdT} {k : Int} {n : Nd} (h : A k = none) : ndSub A (pset A k (some n)) := fun q m e => by
  unfold pset
  split
  · rename_i hq; rw [hq, h] at e; cases e
  · exact e
theorem dSub_new {A : Int → Option Bytes} {k : Int} {n : Bytes} (h : A k = none) : dSub A (pset A k (some n)) := fun q m e => by
  unfold pset
  split
  · rename_i hq; rw [hq, h] at e; cases e
  · exact e
/-! ### Values -/
theorem gR_kat {G : Gh} {q : Int} {n : Nd} (h : G.R q = some n) (i : Nat) : kat (gN (mkG G).N q) i = kat n i := by rw [gN_some (mkN_R h), kat_rf]
theorem gL_kat {G : Gh} (V : Val G) {q : Int} {n : Nd} (h : G.L q = some n) (i : Nat) : kat (gN (mkG G).N q) i = kat n i := by rw [gN_some (mkN_L V h), kat_rf]
theorem g0_kat {G : Gh} (V : Val G) (i : Nat) : kat (gN (mkG G).N 0) i = 0 := by
  unfold gN
  rw [mkN_none (sup0 V.sR) (sup0 V.sL)]
  exact kat_nd0 i
def dv (S : SI) (q : Int) : Bytes := (getP S.B q).1
theorem dv_some {G : Gh} {q : Int} {d : Bytes} (h : G.D q = some d) : dv (mkG G) q = d := by unfold dv getP; rw [mkB_some h]
theorem dv_none {G : Gh} {q : Int} (h : G.D q = none) : dv (mkG G) q = [] := by unfold dv getP; rw [mkB_none h]
theorem dv_0 {G : Gh} (V : Val G) : dv (mkG G) 0 = [] := dv_none (sup0 V.sD)
def rt (G : Gh) (q : Int) : Prop := q = 0 ∨ ∃ n, G.R q = some n
def lf (G : Gh) (q : Int) : Prop := q = 0 ∨ ∃ n, G.L q = some n
def bl (G : Gh) (q : Int) : Prop := q = 0 ∨ ∃ n, G.D q = some n
theorem rt_kid {G : Gh} (V : Val G) {q : Int} (h : rt G q) {i : Nat} (hi : i < 4) : lf G (kat (gN (mkG G).N q) i) := by
  rcases h with rfl | ⟨n, h⟩
  · exact .inl (g0_kat V i)
  · rw [gR_kat h]; exact V.kidR h hi
theorem lf_kid {G : Gh} (V : Val G) {q : Int} (h : lf G q) {i : Nat} (hi : i < 4) : bl G (kat (gN (mkG G).N q) i) := by
  rcases h with rfl | ⟨n, h⟩
  · exact .inl (g0_kat V i)
  · rw [gL_kat V h]; exact V.kidL h hi
theorem rt_same {G G' : Gh} (V : Val G) (V' : Val G') (s : ndSub G.R G'.R) {q : Int} (h : rt G q) (i : Nat) : kat (gN (mkG G').N q) i = kat (gN (mkG G).N q) i := by
  rcases h with rfl | ⟨n, h⟩
  · rw [g0_kat V, g0_kat V']
  · rw [gR_kat h, gR_kat (s q n h)]
theorem lf_same {G G' : Gh} (V : Val G) (V' : Val G') (s : ndSub G.L G'.L) {q : Int} (h : lf G q) (i : Nat) : kat (gN (mkG G').N q) i = kat (gN (mkG G).N q) i := by
  rcases h with rfl | ⟨n, h⟩
  · rw [g0_kat V, g0_kat V']
  · rw [gL_kat V h, gL_kat V' (s q n h)]
theorem bl_same {G G' : Gh} (V : Val G) (V' : Val G') (s : dSub G.D G'.D) {q : Int} (h : bl G q) : dv (mkG G') q = dv (mkG G) q := by
  rcases h with rfl | ⟨n, h⟩
  · rw [dv_0 V, dv_0 V']
  · rw [dv_some h, dv_some (s q n h)]
theorem getS_dv (S : SI) (root : Int) (i : Nat) : getS S root i = dv S (kat (gN S.N (kat (gN S.N root) (i / 4))) (i % 4)) := rfl
/-- what a root has stays -/
theorem get_same {G G' : Gh} (V : Val G) (V' : Val G') (sR : ndSub G.R G'.R) (sL : ndSub G.L G'.L) (sD : dSub G.D G'.D) {root : Int} (h : rt G root) {i : Nat} (hi : i < 16) : getS (mkG G') root i = getS (mkG G) root i := by
  rw [getS_dv, getS_dv, rt_same V V' sR h]
  have h1 := rt_kid V h (i := i / 4) (by omega)
  rw [lf_same V V' sL h1]
  exact bl_same V V' sD (lf_kid V h1 (by omega))
theorem rt_mono {G G' : Gh} (s : ndSub G.R G'.R) {q : Int} (h : rt G q) : rt G' q := h.imp id fun ⟨n, e⟩ => ⟨n, s q n e⟩
theorem lf_mono {G G' : Gh} (s : ndSub G.L G'.L) {q : Int} (h : lf G q) : lf G' q := h.imp id fun ⟨n, e⟩ => ⟨n, s q n e⟩
theorem bl_mono {G G' : Gh} (s : dSub G.D G'.D) {q : Int} (h : bl G q) : bl G' q := h.imp id fun ⟨n, e⟩ => ⟨n, s q n e⟩
theorem rt_rng {G : Gh} (V : Val G) {q : Int} (h : rt G q) : 0 ≤ q ∧ q ≤ 24 := by
  rcases h with rfl | ⟨n, h⟩
  · omega
  · have := V.sR q n h; omega
theorem lf_rng {G : Gh} (V : Val G) {q : Int} (h : lf G q) : 0 ≤ q ∧ q ≤ 24 := by
  rcases h with rfl | ⟨n, h⟩
  · omega
  · have := V.sL q n h; omega
theorem bl_rng {G : Gh} (V : Val G) {q : Int} (h : bl G q) : 0 ≤ q ∧ q ≤ 40 := by
  rcases h with rfl | ⟨n, h⟩
  · omega
  · have := V.sD q n h; omega
/-! ### Numbers -/
theorem filter_le1 {p q : Nat → Bool} (a : Nat) : ∀ (l : List Nat), l.Nodup → (∀ k ∈ l, k ≠ a → p k = true → q k = true) → (l.filter p).length ≤ (l.filter q).length + 1
  | [], _, _ => by simp
  | k :: l, hn, h => by
    rw [List.nodup_cons] at hn
    by_cases hk : k = a
    · subst hk
      have h0 : (l.filter p).length ≤ (l.filter q).length := by
        rw [← List.countP_eq_length_filter, ← List.countP_eq_length_filter]
        exact List.countP_mono_left fun j hj hp => h j (List.mem_cons_of_mem _ hj) (fun e => hn.1 (e ▸ hj)) hp
      rw [List.filter_cons, List.filter_cons]
      split <;> split <;> simp <;> omega
    · have h0 := filter_le1 a l hn.2 fun j hj => h j (List.mem_cons_of_mem _ hj)
      have h1 := h k (by simp) hk
      rw [List.filter_cons, List.filter_cons]
      split
      · rename_i hp; rw [if_pos (h1 hp)]; simp; omega
      · split <;> simp <;> omega
theorem ids_le1 {ρ σ : Type} {n : Nat} {A : Int → Option ρ} {B : Int → Option σ} (a : Int) (h : ∀ q, q ≠ a → (A q).isSome = true → (B q).isSome = true) : (ids n A).length ≤ (ids n B).length + 1 := by
  unfold ids
  rw [List.length_map, List.length_map]
  exact filter_le1 a.toNat _ (List.nodup_range' (step := 1)) fun k hk hka => h k (by rw [List.mem_range'_1] at hk; omega)
theorem ids_eq {ρ σ : Type} {n : Nat} {A : Int → Option ρ} {B : Int → Option σ} (h : ∀ q, (A q).isSome = (B q).isSome) : ids n A = ids n B := by
  unfold ids
  simp only [h]
theorem mkB_isSome (G : Gh) (q : Int) : ((mkG G).B q).isSome = (G.D q).isSome := by simp [mkG, mkB]
theorem mkN_isSome (G : Gh) (q : Int) : ((mkG G).N q).isSome = ((G.R q).isSome || (G.L q).isSome) := by
  simp only [mkG, mkN]
  cases G.R q <;> simp
/-! ### A new block -/
theorem blockE_ne {S : SI} {d : Bytes} (hd : d.length ≤ 6) : (blockE S d).2 = 0 ∨ (blockE S d).2 = 8 := by
  unfold blockE
  split
  · exact .inl rfl
  · rename_i h
    unfold putE
    rw [if_neg (by simp [h]; omega)]
    split
    · exact .inr rfl
    · exact .inl rfl
structure Blk (G G1 : Gh) (d : Bytes) (b : Int) : Prop where
  V : Val G1
  R : G1.R = G.R
  L : G1.L = G.L
  eR : G1.eR = G.eR
  eL : G1.eL = G.eL
  eB : G1.eB = if b = 0 then G.eB else del G.eB b 1
  D : dSub G.D G1.D
  b0 : b = 0 → d = []
  b1 : b ≠ 0 → G1.D b = some d
  ne : ∀ q, q ≠ b → G1.D q = G.D q
theorem block_mk {G : Gh} (V : Val G) {d : Bytes} {b : Int} (h : blockE (mkG G) d = (b, 0)) : ∃ G1, blockS (mkG G) d = mkG G1 ∧ Blk G G1 d b := by
  unfold blockE at h
  by_cases hd : d = []
  · rw [if_pos hd] at h
    injection h with h
    subst h
    exact ⟨G, by unfold blockS; rw [if_pos hd], V, rfl, rfl, rfl, rfl, rfl, fun q n h => h, fun _ => hd, fun h => absurd rfl h, fun q _ => rfl⟩
  · rw [if_neg hd] at h
    unfold putE at h
    by_cases h6 : 6 < d.length ∨ d = []
    · rw [if_pos h6] at h; injection h with _ h; cases h
    · rw [if_neg h6] at h
      cases hf : freeId 40 (mkG G).B with
      | none => rw [hf] at h; injection h with _ h; cases h
      | some k =>
        rw [hf] at h
        injection h with h
        subst h
        have hk := free_some hf
        have hk0 : (k : Int) ≠ 0 := by omega
        have hDk : G.D k = none := by
          have := hk.2.1
          cases e : G.D k with
          | none => rfl
          | some x => rw [mkB_some e] at this; cases this
        have hz : G.eB k = 0 ∧ tot G.L k = 0 := by
          have h1 := V.pD k hk0
          rw [hDk] at h1
          have h2 := V.nB k
          have h3 := tot_nn G.L k
          have h4 : ¬ (0 < G.eB k + tot G.L k) := fun h => by simpa using h1.2 h
          omega
        refine ⟨{ G with D := pset G.D k (some d), eB := del G.eB k 1 }, ?_, ⟨V.sR, V.sL, sup_set V.sD (fun _ => by omega), V.dj, V.nR, V.nL, fun q => ?_, V.pR, V.pL, fun q hq => ?_⟩, rfl, rfl, rfl, rfl, ?_, dSub_new hDk, fun h => absurd h hk0, fun _ => by simp [pset], fun q hq => by simp [pset, hq]⟩
        · unfold blockS putB
          rw [if_neg hd, if_neg h6, hf]
          refine SI_ext (funext fun q => ?_) rfl
          show pset (mkG G).B k _ q = (pset G.D k (some d) q).map fun d => (d, del G.eB k 1 q + tot G.L q)
          by_cases hq : q = k
          · subst hq; simp [pset, del]; omega
          · simp [pset, hq, del, mkG, mkB]
        · show 0 ≤ del G.eB k 1 q
          unfold del
          have := V.nB q
          split <;> omega
        · show (pset G.D k (some d) q).isSome = true ↔ 0 < del G.eB k 1 q + tot G.L q
          unfold pset del
          split
          · rename_i e; subst e; simp; omega
          · exact V.pD q hq
        · show del G.eB k 1 = _
          rw [if_neg hk0]
/-! ### A new leaf -/
theorem refB_one {B : BkT} {q : Int} {x : Bk} (h : B q = some x) (hx : 0 < x.2) : refB B q 1 = pset B q (some (x.1, x.2 + 1)) := by
  unfold refB
  rw [h]
  simp only
  rw [if_neg (by omega)]
theorem fold_bumpB : ∀ (l : List Int) (S : SI), (∀ q x, S.B q = some x → 0 < x.2) → (∀ k ∈ l, k = 0 ∨ ∃ x, S.B k = some x) → l.foldl (bump true) S = ⟨fun q => (S.B q).map fun x => (x.1, x.2 + cnt l q), S.N⟩
  | [], S, _, _ => SI_ext (funext fun q => by show S.B q = (S.B q).map _; cases S.B q <;> simp [cnt]) rfl
  | k :: l, S, hp, h => by
    rw [List.foldl_cons]
    by_cases hk : k = 0
    · subst hk
      rw [show bump true S 0 = S by simp [bump], fold_bumpB l S hp fun j hj => h j (List.mem_cons_of_mem _ hj)]
      refine SI_ext (funext fun q => ?_) rfl
      show (S.B q).map _ = (S.B q).map _
      rw [cnt_cons, if_neg (fun hh => hh.2 hh.1.symm), Int.add_zero]
    · obtain ⟨x, hx⟩ := (h k (by simp)).resolve_left hk
      have hb : bump true S k = ⟨pset S.B k (some (x.1, x.2 + 1)), S.N⟩ := by unfold bump; rw [if_neg hk, if_pos rfl, refB_one hx (hp k x hx)]
      rw [hb, fold_bumpB l _ (fun q y hy => ?_) fun j hj => ?_]
      · refine SI_ext (funext fun q => ?_) rfl
        show (pset S.B k (some (x.1, x.2 + 1)) q).map _ = (S.B q).map _
        rw [cnt_cons]
        unfold pset
        by_cases hq : q = k
        · subst hq; simp [hx, hk]; omega
        · rw [if_neg hq, if_neg (fun hh => hq hh.1.symm), Int.add_zero]
      · change pset S.B k (some (x.1, x.2 + 1)) q = some y at hy
        unfold pset at hy
        split at hy
        · injection hy with hy; subst hy; have := hp k x hx; simp only; omega
        · exact hp q y hy
      · refine (h j (List.mem_cons_of_mem _ hj)).imp id fun ⟨y, hy⟩ => ?_
        show ∃ x', pset S.B k (some (x.1, x.2 + 1)) j = some x'
        unfold pset
        split
        · exact ⟨_, rfl⟩
        · exact ⟨y, hy⟩
theorem rf_rf (n : Nd) (a b : Int) : rf (rf n a) b = rf n b := rfl
theorem fold_bumpN : ∀ (l : List Int) (S : SI), (∀ k ∈ l, k = 0 ∨ ∃ x, S.N k = some x) → l.foldl (bump false) S = ⟨S.B, fun q => (S.N q).map fun n => rf n (n.refs + cnt l q)⟩
  | [], S, _ => SI_ext rfl (funext fun q => by show S.N q = (S.N q).map _; cases S.N q <;> simp [cnt, rf])
  | k :: l, S, h => by
    rw [List.foldl_cons]
    by_cases hk : k = 0
    · subst hk
      rw [show bump false S 0 = S by simp [bump], fold_bumpN l S fun j hj => h j (List.mem_cons_of_mem _ hj)]
      refine SI_ext rfl (funext fun q => ?_)
      show (S.N q).map _ = (S.N q).map _
      rw [cnt_cons, if_neg (fun hh => hh.2 hh.1.symm), Int.add_zero]
    · obtain ⟨x, hx⟩ := (h k (by simp)).resolve_left hk
      have hb : bump false S k = ⟨S.B, pset S.N k (some (rf x (x.refs + 1)))⟩ := by unfold bump bumpN; rw [if_neg hk, if_neg (by simp), gN_some hx]
      rw [hb, fold_bumpN l _ fun j hj => ?_]
      · refine SI_ext rfl (funext fun q => ?_)
        show (pset S.N k (some (rf x (x.refs + 1))) q).map _ = (S.N q).map _
        rw [cnt_cons]
        unfold pset
        by_cases hq : q = k
        · subst hq; simp [hx, hk, rf]; omega
        · rw [if_neg hq, if_neg (fun hh => hq hh.1.symm), Int.add_zero]
      · refine (h j (List.mem_cons_of_mem _ hj)).imp id fun ⟨y, hy⟩ => ?_
        show ∃ x', pset S.N k (some (rf x (x.refs + 1))) j = some x'
        unfold pset
        split
        · exact ⟨_, rfl⟩
        · exact ⟨y, hy⟩
theorem kd_mem {n : Nd} {k : Int} (h : k ∈ kd n) : ∃ i, i < 4 ∧ kat n i = k := by
  simp only [kd, List.mem_cons, List.not_mem_nil, or_false] at h
  rcases h with rfl | rfl | rfl | rfl
  · exact ⟨0, by omega, rfl⟩
  · exact ⟨1, by omega, rfl⟩
  · exact ⟨2, by omega, rfl⟩
  · exact ⟨3, by omega, rfl⟩
theorem noKids_kat {n : Nd} (h : noKids n) (i : Nat) : kat n i = 0 := by
  unfold kat
  split
  · exact h.1
  · exact h.2.1
  · exact h.2.2.1
  · exact h.2.2.2
theorem nodeE_inv {S : SI} {n : Nd} {k : Int} (h : nodeE S n = (k, 0)) : (k = 0 ∧ noKids n ∧ ∀ leaf, nodeS leaf S n = S) ∨ ∃ j : Nat, k = j ∧ (1 ≤ j ∧ j ≤ 24) ∧ S.N k = none ∧ ¬ noKids n ∧ ∀ leaf, nodeS leaf S n = (kd n).foldl (bump leaf) ⟨S.B, pset S.N k (some (rf n 1))⟩ := by
  unfold nodeE at h
  by_cases h0 : noKids n
  · rw [if_pos h0] at h
    injection h with h
    exact .inl ⟨h.symm, h0, fun leaf => by unfold nodeS; rw [if_pos h0]⟩
  · rw [if_neg h0] at h
    cases hf : freeId 24 S.N with
    | none => rw [hf] at h; injection h with _ h; cases h
    | some j =>
      rw [hf] at h
      injection h with h
      subst h
      have := free_some hf
      exact .inr ⟨j, rfl, this.1, this.2.1, h0, fun leaf => by unfold nodeS; rw [if_neg h0, hf]⟩
theorem nodeE_ne (S : SI) (n : Nd) : (nodeE S n).2 = 0 ∨ (nodeE S n).2 = 8 := by
  unfold nodeE
  split
  · exact .inl rfl
  · split
    · exact .inr rfl
    · exact .inl rfl
theorem new_z {G : Gh} (V : Val G) {k : Int} (hk : k ≠ 0) (h : (mkG G).N k = none) : G.R k = none ∧ G.L k = none ∧ G.eR k = 0 ∧ G.eL k = 0 ∧ tot G.R k = 0 := by
  have h1 := mkN_inv h
  have h2 := V.pR k hk
  have h3 := V.pL k hk
  rw [h1.1] at h2
  rw [h1.2] at h3
  have h4 : ¬ (0 < G.eR k) := fun h => by simpa using h2.2 h
  have h5 : ¬ (0 < G.eL k + tot G.R k) := fun h => by simpa using h3.2 h
  have := V.nR k
  have := V.nL k
  have := tot_nn G.R k
  exact ⟨h1.1, h1.2, by omega, by omega, by omega⟩
theorem leaf_mk {G : Gh} (V : Val G) {n : Nd} {k : Int} (hk : ∀ i, i < 4 → bl G (kat n i)) (h : nodeE (mkG G) n = (k, 0)) : (k = 0 ∧ noKids n ∧ nodeS true (mkG G) n = mkG G) ∨ (k ≠ 0 ∧ (mkG G).N k = none ∧ nodeS true (mkG G) n = mkG { G with L := pset G.L k (some n), eL := del G.eL k 1 } ∧ Val { G with L := pset G.L k (some n), eL := del G.eL k 1 }) := by
  rcases nodeE_inv h with ⟨h1, h2, h3⟩ | ⟨j, h1, h2, h3, h4, h5⟩
  · exact .inl ⟨h1, h2, h3 true⟩
  · right
    have hk0 : k ≠ 0 := by omega
    obtain ⟨z1, z2, z3, z4, z5⟩ := new_z V hk0 h3
    have hkr : 1 ≤ k ∧ k ≤ 24 := by omega
    have ht : ∀ q, q ≠ 0 → tot (pset G.L k (some n)) q = tot G.L q + cnt (kd n) q := fun q hq => by rw [tot_pset hkr, z2, cnt_kd n hq]; simp only [occ]; omega
    refine ⟨hk0, h3, ?_, ⟨V.sR, sup_set V.sL (fun _ => hkr), V.sD, fun q => ?_, V.nR, fun q => ?_, V.nB, V.pR, fun q hq => ?_, fun q hq => ?_⟩⟩
    · rw [h5 true, fold_bumpB]
      · refine SI_ext (funext fun q => ?_) (funext fun q => ?_)
        · show (mkB G q).map _ = (G.D q).map _
          unfold mkB
          cases e : G.D q with
          | none => rfl
          | some d => simp only [Option.map_some, ht q (sup_ne V.sD e)]; congr 2; omega
        · show pset (mkG G).N k (some (rf n 1)) q = match G.R q with
            | some n => some (rf n (G.eR q))
            | none => (pset G.L k (some n) q).map fun m => rf m (del G.eL k 1 q + tot G.R q)
          unfold pset del
          by_cases hq : q = k
          · subst hq; rw [z1]; simp [z4, z5]
          · simp only [if_neg hq]; rfl
      · intro q x hx
        cases e : G.D q with
        | none => change (mkG G).B q = some x at hx; rw [mkB_none e] at hx; cases hx
        | some d =>
          change (mkG G).B q = some x at hx
          rw [mkB_some e] at hx
          injection hx with hx
          subst hx
          exact (V.pD q (sup_ne V.sD e)).1 (by rw [e]; rfl)
      · intro q hq
        obtain ⟨i, hi, rfl⟩ := kd_mem hq
        exact (hk i hi).imp id fun ⟨d, e⟩ => ⟨_, mkB_some e⟩
    · show G.R q = none ∨ pset G.L k (some n) q = none
      unfold pset
      split
      · rename_i e; subst e; exact .inl z1
      · exact V.dj q
    · show 0 ≤ del G.eL k 1 q
      have := V.nL q
      unfold del
      split <;> omega
    · show (pset G.L k (some n) q).isSome = true ↔ 0 < del G.eL k 1 q + tot G.R q
      unfold pset del
      split
      · rename_i e; subst e; simp; omega
      · exact V.pL q hq
    · show (G.D q).isSome = true ↔ 0 < G.eB q + tot (pset G.L k (some n)) q
      rw [ht q hq, V.pD q hq]
      have h6 := cnt_nn (kd n) q
      have h7 := V.nB q
      have h8 := tot_nn G.L q
      constructor
      · intro h; omega
      · intro h
        by_cases h9 : 0 < cnt (kd n) q
        · rw [cnt_kd n hq] at h9
          obtain ⟨i, hi, e⟩ := occ_pos h9
          obtain ⟨d, hd⟩ := (hk i hi).resolve_left (by rw [e]; exact hq)
          rw [e] at hd
          exact (V.pD q hq).1 (by rw [hd]; rfl)
        · omega
theorem root_mk {G : Gh} (V : Val G) {n : Nd} {k : Int} (hk : ∀ i, i < 4 → lf G (kat n i)) (h : nodeE (mkG G) n = (k, 0)) : (k = 0 ∧ noKids n ∧ nodeS false (mkG G) n = mkG G) ∨ (k ≠ 0 ∧ (mkG G).N k = none ∧ nodeS false (mkG G) n = mkG { G with R := pset G.R k (some n), eR := del G.eR k 1 } ∧ Val { G with R := pset G.R k (some n), eR := del G.eR k 1 }) := by
  rcases nodeE_inv h with ⟨h1, h2, h3⟩ | ⟨j, h1, h2, h3, h4, h5⟩
  · exact .inl ⟨h1, h2, h3 false⟩
  · right
    have hk0 : k ≠ 0 := by omega
    obtain ⟨z1, z2, z3, z4, z5⟩ := new_z V hk0 h3
    have hkr : 1 ≤ k ∧ k ≤ 24 := by omega
    have ht : ∀ q, q ≠ 0 → tot (pset G.R k (some n)) q = tot G.R q + cnt (kd n) q := fun q hq => by rw [tot_pset hkr, z1, cnt_kd n hq]; simp only [occ]; omega
    have hc : ∀ q, (∀ m, G.L q ≠ some m) → cnt (kd n) q = 0 := fun q hq => by
      by_cases hq0 : q = 0
      · subst hq0; rfl
      · have h6 := cnt_nn (kd n) q
        by_cases h9 : 0 < cnt (kd n) q
        · rw [cnt_kd n hq0] at h9
          obtain ⟨i, hi, e⟩ := occ_pos h9
          obtain ⟨m, hm⟩ := (hk i hi).resolve_left (by rw [e]; exact hq0)
          rw [e] at hm
          exact absurd hm (hq m)
        · omega
    refine ⟨hk0, h3, ?_, ⟨sup_set V.sR (fun _ => hkr), V.sL, V.sD, fun q => ?_, fun q => ?_, V.nL, V.nB, fun q hq => ?_, fun q hq => ?_, V.pD⟩⟩
    · rw [h5 false, fold_bumpN]
      · refine SI_ext rfl (funext fun q => ?_)
        show (pset (mkG G).N k (some (rf n 1)) q).map _ = match pset G.R k (some n) q with
            | some m => some (rf m (del G.eR k 1 q))
            | none => (G.L q).map fun m => rf m (G.eL q + tot (pset G.R k (some n)) q)
        by_cases hq : q = k
        · subst hq
          have : cnt (kd n) q = 0 := hc q fun m hm => by rw [z2] at hm; cases hm
          simp [pset, del, z3, this, rf]
        · have e1 : pset G.R k (some n) q = G.R q := by simp [pset, hq]
          have e2 : pset (mkG G).N k (some (rf n 1)) q = (mkG G).N q := by simp [pset, hq]
          have e3 : del G.eR k 1 q = G.eR q := by simp [del, hq]
          rw [e1, e2, e3]
          cases hr : G.R q with
          | some m =>
            have hl : G.L q = none := (V.dj q).resolve_left (by rw [hr]; simp)
            have : cnt (kd n) q = 0 := hc q fun m hm => by rw [hl] at hm; cases hm
            rw [mkN_R hr]
            simp [this, rf]
          | none => cases hl : G.L q with
            | none => rw [mkN_none hr hl]; rfl
            | some m =>
              rw [mkN_L V hl]
              simp only [Option.map_some, ht q (sup_ne V.sL hl), rf]
              congr 2
              omega
      · intro q hq
        obtain ⟨i, hi, rfl⟩ := kd_mem hq
        refine (hk i hi).imp id fun ⟨m, e⟩ => ?_
        have : kat n i ≠ k := fun h => by rw [h, z2] at e; cases e
        exact ⟨_, by show pset (mkG G).N k _ (kat n i) = _; unfold pset; rw [if_neg this]; exact mkN_L V e⟩
    · show pset G.R k (some n) q = none ∨ G.L q = none
      unfold pset
      split
      · rename_i e; subst e; exact .inr z2
      · exact V.dj q
    · show 0 ≤ del G.eR k 1 q
      have := V.nR q
      unfold del
      split <;> omega
    · show (pset G.R k (some n) q).isSome = true ↔ 0 < del G.eR k 1 q
      unfold pset del
      split
      · rename_i e; subst e; simp; omega
      · exact V.pR q hq
    · show (G.L q).isSome = true ↔ 0 < G.eL q + tot (pset G.R k (some n)) q
      rw [ht q hq, V.pL q hq]
      have h6 := cnt_nn (kd n) q
      have h7 := V.nL q
      have h8 := tot_nn G.R q
      constructor
      · intro h; omega
      · intro h
        by_cases h9 : 0 < cnt (kd n) q
        · cases hl : G.L q with
          | none => have := hc q fun m hm => by rw [hl] at hm; cases hm
                    omega
          | some m => exact (V.pL q hq).1 (by rw [hl]; rfl)
        · omega

end Go.Proofs.Ythdjckbjjfiopac
