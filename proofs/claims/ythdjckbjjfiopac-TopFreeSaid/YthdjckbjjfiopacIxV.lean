/- Indexes: Set and Share as a whole. No condition. -/
import Derived.Test.YthdjckbjjfiopacIxU
namespace Go.Proofs.Ythdjckbjjfiopac
open Go.Sl Go.Proofs
set_option linter.unusedVariables false
set_option linter.unusedSimpArgs false
def gZ : Gh := ⟨fun _ => none, fun _ => none, fun _ => none, fun _ => 0, fun _ => 0, fun _ => 0⟩
theorem gZ_mk : mkG gZ = ⟨fun _ => none, fun _ => none⟩ := rfl
theorem gZ_val : Val gZ := ⟨sup_none _, sup_none _, sup_none _, fun _ => .inl rfl, fun _ => Int.le_refl _, fun _ => Int.le_refl _, fun _ => Int.le_refl _,
  fun q _ => by simp [gZ], fun q _ => by have : tot gZ.R q = 0 := tot_none q
                                         rw [this]; simp [gZ], fun q _ => by have : tot gZ.L q = 0 := tot_none q
                                                                             rw [this]; simp [gZ]⟩
theorem share_mk {G : Gh} (V : Val G) {q : Int} (hq : rt G q) : ∃ G', Val G' ∧ shareS (mkG G) q = mkG G' ∧ G'.R = G.R ∧ G'.L = G.L ∧ G'.D = G.D ∧ G'.eL = G.eL ∧ G'.eB = G.eB ∧ ∀ p, G'.eR p = G.eR p + if p = q ∧ q ≠ 0 then 1 else 0 := by
  by_cases h0 : q = 0
  · subst h0
    exact ⟨G, V, by unfold shareS; rw [if_neg (by omega)], rfl, rfl, rfl, rfl, rfl, fun p => by simp⟩
  · obtain ⟨n, hn⟩ := hq.resolve_left h0
    have hr := V.sR q n hn
    have he := (V.pR q h0).1 (by rw [hn]; rfl)
    refine ⟨{ G with eR := del G.eR q 1 }, ⟨V.sR, V.sL, V.sD, V.dj, fun p => ?_, V.nL, V.nB, fun p hp => ?_, V.pL, V.pD⟩, ?_, rfl, rfl, rfl, rfl, rfl, fun p => ?_⟩
    · show 0 ≤ del G.eR q 1 p
      have := V.nR p
      unfold del
      split <;> omega
    · show (G.R p).isSome = true ↔ 0 < del G.eR q 1 p
      rw [V.pR p hp]
      unfold del
      split
      · rename_i e; subst e; omega
      · rfl
    · unfold shareS bumpN
      rw [if_pos (by omega), gN_some (mkN_R hn)]
      refine SI_ext rfl (funext fun p => ?_)
      show pset (mkG G).N q _ p = mkN _ p
      by_cases hp : p = q
      · subst hp
        simp only [pset, mkN, hn, if_pos, rf, del]
      · simp only [pset, if_neg hp, mkG, mkN, del]
    · show del G.eR q 1 p = _
      unfold del
      by_cases hp : p = q
      · simp [hp, h0]
      · simp [hp]
theorem kat_kset (n : Nd) (x : Int) : ∀ i j, i < 4 → j < 4 → kat (kset n i x) j = if j = i then x else kat n j
  | 0, 0, _, _ => rfl
  | 0, 1, _, _ => rfl
  | 0, 2, _, _ => rfl
  | 0, 3, _, _ => rfl
  | 1, 0, _, _ => rfl
  | 1, 1, _, _ => rfl
  | 1, 2, _, _ => rfl
  | 1, 3, _, _ => rfl
  | 2, 0, _, _ => rfl
  | 2, 1, _, _ => rfl
  | 2, 2, _, _ => rfl
  | 2, 3, _, _ => rfl
  | 3, 0, _, _ => rfl
  | 3, 1, _, _ => rfl
  | 3, 2, _, _ => rfl
  | 3, 3, _, _ => rfl
  | i + 4, _, h, _ => absurd h (by omega)
  | 0, j + 4, _, h => absurd h (by omega)
  | 1, j + 4, _, h => absurd h (by omega)
  | 2, j + 4, _, h => absurd h (by omega)
  | 3, j + 4, _, h => absurd h (by omega)
theorem del_del (f : Int → Int) (q : Int) : del (del f q 1) q (-1) = f := funext fun p => by unfold del; split <;> omega
/-- what Set leaves behind -/
structure SetOk (G G' : Gh) (root : Int) (at_ : Nat) (d : Bytes) (out : Int) : Prop where
  V : Val G'
  eR : ∀ p, G'.eR p = G.eR p + if p = out ∧ out ≠ 0 then 1 else 0
  eL : G'.eL = G.eL
  eB : G'.eB = G.eB
  R : ndSub G.R G'.R
  L : ndSub G.L G'.L
  D : dSub G.D G'.D
  o : rt G' out
  get : ∀ i, i < 16 → getS (mkG G') out i = if i = at_ then d else getS (mkG G) root i
  nB : (ids 40 (mkG G').B).length ≤ (ids 40 (mkG G).B).length + 1
  nN : (ids 24 (mkG G').N).length ≤ (ids 24 (mkG G).N).length + 2
theorem unB_mk {G : Gh} {b : Int} (V : Val G) (h0 : 0 ≤ b) (h : b ≠ 0 → 1 ≤ G.eB b ∧ 1 ≤ tot G.L b) : ∃ G', unB (mkG G) b = mkG G' ∧ Val G' ∧ G'.R = G.R ∧ G'.L = G.L ∧ G'.D = G.D ∧ G'.eR = G.eR ∧ G'.eL = G.eL ∧ G'.eB = if b = 0 then G.eB else del G.eB b (-1) := by
  unfold unB
  by_cases hb : b = 0
  · subst hb
    exact ⟨G, by rw [if_neg (by omega)], V, rfl, rfl, rfl, rfl, rfl, by rw [if_pos rfl]⟩
  · have h1 := h hb
    refine ⟨cutD G b, ?_, V.cutD hb h1.1, rfl, rfl, ?_, rfl, rfl, ?_⟩
    · rw [if_pos (by omega)]; exact refB_cut V hb h1.1
    · show (if G.eB b + tot G.L b = 1 then pset G.D b none else G.D) = G.D
      rw [if_neg (by omega)]
    · rw [if_neg hb]; rfl
theorem setE_inv {S : SI} {root : Int} {at_ : Nat} {d : Bytes} {out : Int} (h : setE S root at_ d = (out, 0)) : ∃ b k, blockE S d = (b, 0) ∧ nodeE (blockS S d) (setL (blockS S d) root at_ b) = (k, 0) ∧ nodeE (unB (nodeS true (blockS S d) (setL (blockS S d) root at_ b)) b) (setR (blockS S d) root at_ k) = (out, 0) ∧ setS S root at_ d = unL (nodeS false (unB (nodeS true (blockS S d) (setL (blockS S d) root at_ b)) b) (setR (blockS S d) root at_ k)) k := by
  unfold setE at h
  unfold setS
  simp only at h ⊢
  obtain ⟨b, eb⟩ : ∃ b, blockE S d = b := ⟨_, rfl⟩
  obtain ⟨b, e⟩ := b
  rw [eb] at h ⊢
  simp only at h ⊢
  by_cases h1 : e = 0
  · subst h1
    rw [if_neg (by simp)] at h ⊢
    obtain ⟨l, el⟩ : ∃ l, nodeE (blockS S d) (setL (blockS S d) root at_ b) = l := ⟨_, rfl⟩
    obtain ⟨k, e⟩ := l
    rw [el] at h ⊢
    simp only at h ⊢
    by_cases h2 : e = 0
    · subst h2
      rw [if_neg (by simp)] at h ⊢
      obtain ⟨o, eo⟩ : ∃ o, nodeE (unB (nodeS true (blockS S d) (setL (blockS S d) root at_ b)) b) (setR (blockS S d) root at_ k) = o := ⟨_, rfl⟩
      obtain ⟨o, e⟩ := o
      rw [eo] at h ⊢
      simp only at h ⊢
      by_cases h3 : e = 0
      · subst h3
        rw [if_neg (by simp)] at h ⊢
        injection h with h
        subst h
        exact ⟨b, k, rfl, el, eo, rfl⟩
      · rw [if_pos h3] at h
        injection h with _ h
        exact absurd h h3
    · rw [if_pos h2] at h
      injection h with _ h
      exact absurd h h2
  · rw [if_pos h1] at h
    injection h with _ h
    exact absurd h h1
theorem setE_err {S : SI} {root : Int} {at_ : Nat} {d : Bytes} (hd : d.length ≤ 6) : (setE S root at_ d).2 = 0 ∨ (setE S root at_ d).2 = 8 := by
  unfold setE
  simp only
  split
  · rename_i h; exact .inr ((blockE_ne hd).resolve_left h)
  · split
    · rename_i h; exact .inr ((nodeE_ne _ _).resolve_left h)
    · split
      · rename_i h; exact .inr ((nodeE_ne _ _).resolve_left h)
      · exact .inl rfl
theorem set_mk {G : Gh} (V : Val G) {root : Int} {at_ : Nat} {d : Bytes} {out : Int} (hr : rt G root) (ha : at_ < 16) (h : setE (mkG G) root at_ d = (out, 0)) : ∃ G', setS (mkG G) root at_ d = mkG G' ∧ SetOk G G' root at_ d out := by
  obtain ⟨b, k, hb, hl, ho, hS⟩ := setE_inv h
  obtain ⟨G1, e1, B1⟩ := block_mk V hb
  have V1 := B1.V
  rw [e1] at hl ho hS
  have hb0 : 0 ≤ b := by
    by_cases hb : b = 0
    · omega
    · have := V1.sD b d (B1.b1 hb); omega
  have hbl : bl G1 b := by
    by_cases hb : b = 0
    · exact .inl hb
    · exact .inr ⟨d, B1.b1 hb⟩
  have hr1 : rt G1 root := rt_mono (by rw [B1.R]; exact ndSub.rfl) hr
  have hli : at_ / 4 < 4 := by omega
  have hlj : at_ % 4 < 4 := by omega
  have hol := rt_kid V1 hr1 hli
  have hkL : ∀ i, i < 4 → bl G1 (kat (setL (mkG G1) root at_ b) i) := fun i hi => by
    unfold setL
    rw [kat_kset _ _ _ _ hlj hi]
    split
    · exact hbl
    · exact lf_kid V1 hol hi
  obtain ⟨nl, hnl⟩ : ∃ n, n = setL (mkG G1) root at_ b := ⟨_, rfl⟩
  have hnlk : ∀ i, i < 4 → kat nl i = if i = at_ % 4 then b else kat (gN (mkG G1).N (kat (gN (mkG G1).N root) (at_ / 4))) i := fun i hi => by rw [hnl]; exact kat_kset _ _ _ _ hlj hi
  rw [← hnl] at hl ho hS hkL
  obtain ⟨nr, hnr⟩ : ∃ n, n = setR (mkG G1) root at_ k := ⟨_, rfl⟩
  have hnrk : ∀ i, i < 4 → kat nr i = if i = at_ / 4 then k else kat (gN (mkG G1).N root) i := fun i hi => by rw [hnr]; exact kat_kset _ _ _ _ hli hi
  rw [← hnr] at ho hS
  -- the leaf
  obtain ⟨G2, V2, e2, r2, d2, er2, eb2, el2, l2, k2, lk2, nn2⟩ : ∃ G2, Val G2 ∧ nodeS true (mkG G1) nl = mkG G2 ∧ G2.R = G.R ∧ G2.D = G1.D ∧ G2.eR = G.eR ∧ G2.eB = G1.eB ∧ G2.eL = (if k = 0 then G.eL else del G.eL k 1) ∧ ndSub G.L G2.L ∧ lf G2 k ∧ (∀ i, i < 4 → kat (gN (mkG G2).N k) i = kat nl i) ∧ (∀ q, q ≠ k → (G2.L q).isSome = true → (G.L q).isSome = true) := by
    rcases leaf_mk V1 hkL hl with ⟨rfl, h2, h3⟩ | ⟨h1, h2, h3, h4⟩
    · exact ⟨G1, V1, h3, B1.R, rfl, B1.eR, rfl, by rw [if_pos rfl, B1.eL], by rw [B1.L]; exact ndSub.rfl, .inl rfl, fun i _ => by rw [noKids_kat h2, g0_kat V1], fun q _ h => by rw [B1.L] at h; exact h⟩
    · refine ⟨_, h4, h3, B1.R, rfl, B1.eR, rfl, by rw [if_neg h1, ← B1.eL], by rw [← B1.L]; exact ndSub_new (mkN_inv h2).2, .inr ⟨nl, by simp [pset]⟩, fun i _ => gL_kat h4 (by simp [pset]) i, fun q hq h => ?_⟩
      change (pset G1.L k (some nl) q).isSome = true at h
      simpa [pset, hq, B1.L] using h
  have l12 : ndSub G1.L G2.L := by rw [B1.L]; exact l2
  rw [e2] at ho hS
  -- the block's own
  have ht2 : b ≠ 0 → 1 ≤ G2.eB b ∧ 1 ≤ tot G2.L b := fun hb => by
    constructor
    · rw [eb2, B1.eB, if_neg hb, del_same]
      have := V.nB b
      omega
    · have hkb := hnlk (at_ % 4) hlj
      rw [if_pos rfl] at hkb
      have hk0 : k ≠ 0 := fun hk => by
        subst hk
        have := lk2 (at_ % 4) hlj
        rw [g0_kat V2, hkb] at this
        exact hb this.symm
      obtain ⟨m, hm⟩ := k2.resolve_left hk0
      have h5 := tot_ge (N := G2.L) (V2.sL k m hm) b
      have h6 := occ_kat m (at_ % 4) hlj
      have h7 := lk2 (at_ % 4) hlj
      rw [gL_kat V2 hm, hkb] at h7
      rw [h7, ← hm] at h6
      omega
  obtain ⟨G3, e3, V3, r3, l3, d3, er3, el3, eb3⟩ := unB_mk V2 hb0 ht2
  rw [e3] at ho hS
  have eb3' : G3.eB = G.eB := by
    rw [eb3, eb2, B1.eB]
    by_cases hb : b = 0
    · rw [if_pos hb, if_pos hb]
    · rw [if_neg hb, if_neg hb, del_del]
  -- the root
  have k3 : lf G3 k := lf_mono (by rw [l3]; exact ndSub.rfl) k2
  have hkR : ∀ i, i < 4 → lf G3 (kat nr i) := fun i hi => by
    rw [hnrk i hi]
    split
    · exact k3
    · exact lf_mono (by rw [l3]; exact l12) (rt_kid V1 hr1 hi)
  obtain ⟨G4, V4, e4, d4, l4, eb4, el4, r4, er4, o4, ok4, nn4, t4⟩ : ∃ G4, Val G4 ∧ nodeS false (mkG G3) nr = mkG G4 ∧ G4.D = G3.D ∧ G4.L = G3.L ∧ G4.eB = G3.eB ∧ G4.eL = G3.eL ∧ ndSub G3.R G4.R ∧ (∀ p, G4.eR p = G3.eR p + if p = out ∧ out ≠ 0 then 1 else 0) ∧ rt G4 out ∧ (∀ i, i < 4 → kat (gN (mkG G4).N out) i = kat nr i) ∧ (∀ q, q ≠ out → (G4.R q).isSome = true → (G3.R q).isSome = true) ∧ (k ≠ 0 → 1 ≤ tot G4.R k) := by
    rcases root_mk V3 hkR ho with ⟨rfl, h2, h3⟩ | ⟨h1, h2, h3, h4⟩
    · refine ⟨G3, V3, h3, rfl, rfl, rfl, rfl, ndSub.rfl, fun p => by simp, .inl rfl, fun i _ => by rw [noKids_kat h2, g0_kat V3], fun q _ h => h, fun hk => ?_⟩
      have := hnrk (at_ / 4) hli
      rw [if_pos rfl, noKids_kat h2] at this
      exact absurd this.symm hk
    · refine ⟨_, h4, h3, rfl, rfl, rfl, rfl, ndSub_new (mkN_inv h2).1, fun p => ?_, .inr ⟨nr, by simp [pset]⟩, fun i _ => gR_kat (by simp [pset]) i, fun q hq h => ?_, fun hk => ?_⟩
      · show del G3.eR out 1 p = _
        unfold del
        by_cases hp : p = out
        · simp [hp, h1]
        · simp [hp]
      · change (pset G3.R out (some nr) q).isSome = true at h
        simpa [pset, hq] using h
      · have h5 := tot_ge (N := pset G3.R out (some nr)) (h4.sR out nr (by simp [pset])) k
        have h6 := occ_kat nr (at_ / 4) hli
        have h7 := hnrk (at_ / 4) hli
        rw [if_pos rfl] at h7
        rw [h7] at h6
        rw [show pset G3.R out (some nr) out = some nr by simp [pset]] at h5
        exact Int.le_trans h6 h5
  rw [e4] at hS
  -- the leaf's own
  obtain ⟨G5, e5, V5, r5, d5, l5, er5, el5, eb5⟩ : ∃ G5, unL (mkG G4) k = mkG G5 ∧ Val G5 ∧ G5.R = G4.R ∧ G5.D = G4.D ∧ G5.L = G4.L ∧ G5.eR = G4.eR ∧ G5.eL = G.eL ∧ G5.eB = G4.eB := by
    by_cases hk : k = 0
    · subst hk
      exact ⟨G4, by simp [unL, unX], V4, rfl, rfl, rfl, rfl, by rw [el4, el3, el2, if_pos rfl], rfl⟩
    · have h1 : G4.eL k = G.eL k + 1 := by rw [el4, el3, el2, if_neg hk, del_same]
      have h2 := V.nL k
      have h3 := t4 hk
      refine ⟨_, unL_keep V4 hk (by omega) (by omega), V4.keepL hk (by omega) (by omega), rfl, rfl, rfl, rfl, ?_, rfl⟩
      show del G4.eL k (-1) = G.eL
      rw [el4, el3, el2, if_neg hk, del_del]
  have sR : ndSub G.R G5.R := by rw [r5, ← r2, ← r3]; exact r4
  have sL1 : ndSub G1.L G5.L := by rw [l5, l4, l3]; exact l12
  have sL : ndSub G.L G5.L := by rw [l5, l4, l3]; exact l2
  have sD : dSub G.D G5.D := by rw [d5, d4, d3, d2]; exact B1.D
  have sD1 : dSub G1.D G5.D := by rw [d5, d4, d3, d2]; exact dSub.rfl
  have sR1 : ndSub G1.R G5.R := by rw [B1.R]; exact sR
  refine ⟨G5, hS.trans e5, ⟨V5, fun p => by rw [er5, er4, er3, er2], el5, by rw [eb5, eb4, eb3'], sR, sL, sD, rt_mono (by rw [r5]; exact ndSub.rfl) o4, fun i hi => ?_, ?_, ?_⟩⟩
  · -- what the new root has
    have ho5 : ∀ i, i < 4 → kat (gN (mkG G5).N out) i = kat nr i := fun i hi => by rw [rt_same V4 V5 (by rw [r5]; exact ndSub.rfl) o4]; exact ok4 i hi
    rw [getS_dv, ho5 (i / 4) (by omega), hnrk (i / 4) (by omega)]
    by_cases h4 : i / 4 = at_ / 4
    · rw [if_pos h4, lf_same V2 V5 (by rw [l5, l4, l3]; exact ndSub.rfl) k2, lk2 _ (by omega), hnlk _ (by omega)]
      by_cases h5 : i % 4 = at_ % 4
      · rw [if_pos h5, if_pos (by omega)]
        by_cases hb : b = 0
        · rw [hb, dv_0 V5, B1.b0 hb]
        · exact dv_some (sD1 b d (B1.b1 hb))
      · rw [if_neg h5, if_neg (by omega), bl_same V1 V5 sD1 (lf_kid V1 hol (by omega)), getS_dv, ← h4]
        have h6 := lf_kid V1 (rt_kid V1 hr1 (i := i / 4) (by omega)) (i := i % 4) (by omega)
        have h7 := get_same V V1 (by rw [B1.R]; exact ndSub.rfl) (by rw [B1.L]; exact ndSub.rfl) B1.D hr hi
        rw [getS_dv, getS_dv] at h7
        exact h7
    · rw [if_neg h4, if_neg (by omega)]
      have h6 := rt_kid V1 hr1 (i := i / 4) (by omega)
      rw [lf_same V1 V5 sL1 h6, bl_same V1 V5 sD1 (lf_kid V1 h6 (by omega))]
      exact get_same V V1 (by rw [B1.R]; exact ndSub.rfl) (by rw [B1.L]; exact ndSub.rfl) B1.D hr hi
  · refine ids_le1 b fun q hq h => ?_
    rw [mkB_isSome, d5, d4, d3, d2, B1.ne q hq] at h
    rw [mkB_isSome]
    exact h
  · refine Nat.le_trans (ids_le1 (B := (mkG G3).N) out fun q hq h => ?_) (Nat.add_le_add_right (ids_le1 k fun q hq h => ?_) 1)
    · rw [mkN_isSome, r5, l5, l4, Bool.or_eq_true] at h
      rw [mkN_isSome, Bool.or_eq_true]
      exact h.imp (nn4 q hq) id
    · rw [mkN_isSome, r3, r2, l3, Bool.or_eq_true] at h
      rw [mkN_isSome, Bool.or_eq_true]
      exact h.imp id (nn2 q hq)

end Go.Proofs.Ythdjckbjjfiopac
