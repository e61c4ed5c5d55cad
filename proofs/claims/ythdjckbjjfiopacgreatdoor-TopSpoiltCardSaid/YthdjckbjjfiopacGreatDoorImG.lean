/- Consistent vaults: what is read is consistent, and what is consistent can be read. Plain laws. No condition. -/
import Derived.Test.YthdjckbjjfiopacGreatDoorImK
import Derived.Test.YthdjckbjjfiopacGreatDoorTopVa
namespace Go.Proofs.YthdjckbjjfiopacGreatDoor
open Go.Sl Go.Proofs
set_option linter.unusedVariables false
set_option linter.unusedSimpArgs false
/-- no node is empty, and blocks have one to six bytes -/
def Nz (S : SI) : Prop := (∀ q m, S.N q = some m → ¬ noKids m) ∧ ∀ q x, S.B q = some x → x.1 ≠ [] ∧ x.1.length ≤ 6
theorem noKids_rf (m : Nd) (r : Int) : noKids (rf m r) ↔ noKids m := Iff.rfl
theorem Nz_z : Nz (mkG gZ) := ⟨(fun q m h => by cases h), fun q x h => by cases h⟩
theorem Nz_refB {S : SI} (h : Nz S) (q n : Int) : Nz ⟨refB S.B q n, S.N⟩ := by
  refine ⟨h.1, fun p x e => ?_⟩
  change refB S.B q n p = some x at e
  unfold refB at e
  cases hq : S.B q with
  | none => rw [hq] at e; exact h.2 p x e
  | some y =>
    rw [hq] at e
    unfold pset at e
    simp only at e
    split at e
    · split at e
      · cases e
      · injection e with e; subst e; exact h.2 q y hq
    · exact h.2 p x e
theorem Nz_setN {S : SI} (h : Nz S) {q : Int} {x : Option Nd} (hx : ∀ m, x = some m → ¬ noKids m) : Nz ⟨S.B, pset S.N q x⟩ := ⟨fun p m e => by
  change pset S.N q x p = some m at e
  unfold pset at e
  split at e
  · exact hx m e
  · exact h.1 p m e, h.2⟩
theorem Nz_block {S : SI} (h : Nz S) (d : Bytes) : Nz (blockS S d) := by
  unfold blockS
  split
  · exact h
  · refine ⟨h.1, fun p x e => ?_⟩
    change putB S.B d p = some x at e
    unfold putB at e
    by_cases hd : 6 < d.length ∨ d = []
    · rw [if_pos hd] at e; exact h.2 p x e
    · rw [if_neg hd] at e
      cases hf : freeId 40 S.B with
      | none => rw [hf] at e; exact h.2 p x e
      | some k =>
        rw [hf] at e
        simp only at e
        unfold pset at e
        split at e
        · injection e with e; subst e; exact ⟨fun hh => hd (.inr hh), by simp only; omega⟩
        · exact h.2 p x e
theorem Nz_bumpT {S : SI} (h : Nz S) (k : Int) : Nz (bump true S k) := by
  unfold bump
  split
  · exact h
  · rw [if_pos rfl]; exact Nz_refB h k 1
theorem Nz_nodeT {S : SI} (h : Nz S) (n : Nd) : Nz (nodeS true S n) := by
  unfold nodeS
  split
  · exact h
  · rename_i hn
    split
    · exact h
    · exact foldl_ok (P := Nz) (fun a b ha => Nz_bumpT ha b) _ _ (Nz_setN h fun m e => by injection e with e; subst e; exact hn)
theorem Nz_dropB {S : SI} (h : Nz S) (k : Int) : Nz (dropB S k) := by
  unfold dropB
  split
  · exact h
  · exact Nz_refB h k (-1)
theorem Nz_unB {S : SI} (h : Nz S) (k : Int) : Nz (unB S k) := by
  unfold unB
  split
  · exact Nz_refB h k (-1)
  · exact h
theorem Nz_unX {S : SI} {f : SI → Int → SI} (hf : ∀ S k, Nz S → Nz (f S k)) (h : Nz S) (q : Int) : Nz (unX f S q) := by
  unfold unX
  split
  · exact h
  · split
    · rename_i hr
      refine Nz_setN h fun m e => ?_
      injection e with e
      subst e
      cases hq : S.N q with
      | none => unfold gN at hr; rw [hq] at hr; simp [nd0] at hr
      | some y => rw [show gN S.N q = y by unfold gN; rw [hq]; rfl]; exact h.1 q y hq
    · exact foldl_ok (P := Nz) (fun a b ha => hf a b ha) _ _ (Nz_setN h fun m e => by cases e)
theorem Nz_unL {S : SI} (h : Nz S) (q : Int) : Nz (unL S q) := Nz_unX (fun S k h => Nz_dropB h k) h q
theorem Nz_unR {S : SI} (h : Nz S) (q : Int) : Nz (unR S q) := Nz_unX (fun S k h => Nz_unL h k) h q
theorem Nz_bumpN {S : SI} (h : Nz S) {q : Int} (hq : ∃ x, S.N q = some x) : Nz ⟨S.B, bumpN S.N q⟩ := by
  obtain ⟨x, hx⟩ := hq
  refine Nz_setN h fun m e => ?_
  injection e with e
  subst e
  rw [show gN S.N q = x by unfold gN; rw [hx]; rfl]
  exact h.1 q x hx
theorem Nz_share {G : Gh} (V : Val G) (h : Nz (mkG G)) {q : Int} (hq : rt G q) : Nz (shareS (mkG G) q) := by
  unfold shareS
  split
  · refine Nz_bumpN h ?_
    obtain ⟨m, hm⟩ := hq.resolve_left (by omega)
    exact ⟨_, mkN_R hm⟩
  · exact h
theorem lf_some {G : Gh} (V : Val G) {q : Int} (h : lf G q) : q = 0 ∨ ∃ x, (mkG G).N q = some x := h.imp (fun h => h) fun ⟨m, hm⟩ => ⟨_, mkN_L V hm⟩
theorem bumpT_N (S : SI) (k : Int) : (bump true S k).N = S.N := by
  unfold bump
  split
  · rfl
  · rw [if_pos rfl]
theorem foldT_N : ∀ (l : List Int) (S : SI), (l.foldl (bump true) S).N = S.N
  | [], S => rfl
  | k :: l, S => by rw [List.foldl_cons, foldT_N l, bumpT_N]
theorem blockS_N (S : SI) (d : Bytes) : (blockS S d).N = S.N := by unfold blockS; split <;> rfl
theorem unB_N (S : SI) (b : Int) : (unB S b).N = S.N := by unfold unB; split <;> rfl
theorem Nz_set {G : Gh} (V : Val G) {root : Int} {at_ : Nat} {d : Bytes} {out : Int} (hr : rt G root) (ha : at_ < 16) (hz : Nz (mkG G)) (h : setE (mkG G) root at_ d = (out, 0)) : Nz (setS (mkG G) root at_ d) := by
  obtain ⟨b, k, hb, hl, ho, hS⟩ := setE_inv h
  rw [hS]
  refine Nz_unL ?_ k
  have hz3 : Nz (unB (nodeS true (blockS (mkG G) d) (setL (blockS (mkG G) d) root at_ b)) b) := Nz_unB (Nz_nodeT (Nz_block hz d) _) b
  have hN3 : (unB (nodeS true (blockS (mkG G) d) (setL (blockS (mkG G) d) root at_ b)) b).N = (nodeS true (blockS (mkG G) d) (setL (blockS (mkG G) d) root at_ b)).N := unB_N _ _
  -- what was there is there still, and so is the new leaf
  have hold : ∀ q x, (mkG G).N q = some x → ∃ y, (nodeS true (blockS (mkG G) d) (setL (blockS (mkG G) d) root at_ b)).N q = some y := fun q x hx => by
    rcases nodeE_inv hl with ⟨_, _, e⟩ | ⟨j, _, _, _, _, e⟩
    · rw [e true, blockS_N]; exact ⟨x, hx⟩
    · rw [e true, foldT_N]
      show ∃ y, pset (blockS (mkG G) d).N k _ q = some y
      unfold pset
      split
      · exact ⟨_, rfl⟩
      · rw [blockS_N]; exact ⟨x, hx⟩
  have hnew : k = 0 ∨ ∃ y, (nodeS true (blockS (mkG G) d) (setL (blockS (mkG G) d) root at_ b)).N k = some y := by
    rcases nodeE_inv hl with ⟨e0, _, _⟩ | ⟨j, _, _, _, _, e⟩
    · exact .inl e0
    · refine .inr ?_
      rw [e true, foldT_N]
      exact ⟨_, by show pset _ k _ k = _; unfold pset; rw [if_pos rfl]⟩
  rcases nodeE_inv ho with ⟨_, _, e⟩ | ⟨j, hk, hjr, hnone, hnk, e⟩
  · rw [e false]; exact hz3
  · rw [e false, fold_bumpN]
    · refine ⟨fun q m hm => ?_, hz3.2⟩
      change (pset _ out _ q).map _ = some m at hm
      obtain ⟨m0, hm0, rfl⟩ := Option.map_eq_some_iff.1 hm
      rw [noKids_rf]
      unfold pset at hm0
      split at hm0
      · injection hm0 with hm0; subst hm0; exact hnk
      · exact hz3.1 q m0 hm0
    · intro q hq
      obtain ⟨i, hi, rfl⟩ := kd_mem hq
      have key : kat (setR (blockS (mkG G) d) root at_ k) i = 0 ∨ ∃ y, (unB (nodeS true (blockS (mkG G) d) (setL (blockS (mkG G) d) root at_ b)) b).N (kat (setR (blockS (mkG G) d) root at_ k) i) = some y := by
        unfold setR
        rw [kat_kset _ _ _ _ (by omega) hi, hN3]
        split
        · exact hnew
        · rw [blockS_N]
          rcases lf_some V (rt_kid V hr hi) with h0 | ⟨x, hx⟩
          · exact .inl h0
          · exact .inr (hold _ x hx)
      refine key.imp (fun h => h) fun ⟨y, hy⟩ => ?_
      show ∃ x, pset _ out _ _ = some x
      unfold pset
      split
      · exact ⟨_, rfl⟩
      · exact ⟨y, hy⟩
theorem Nz_put1 {G : Gh} {root : Int} {rs : List Int} {at_ : Nat} {d : Bytes} {z : SI × Int} (h : Rt G (root :: rs)) (ha : at_ < 16) (hz : Nz (mkG G)) (e : put1 (mkG G, root) at_ d = .ok z) : Nz z.1 := by
  unfold put1 at e
  split at e
  · rename_i hE
    injection e with e
    subst e
    exact Nz_unR (Nz_set h.V (RtRt h (List.mem_cons_self ..)) ha hz (Prod.ext rfl hE)) root
  · cases e
theorem put1_rt {G : Gh} {root : Int} {rs : List Int} {at_ : Nat} {d : Bytes} {z : SI × Int} (h : Rt G (root :: rs)) (hl : rs.length ≤ 8) (ha : at_ < 16) (e : put1 (mkG G, root) at_ d = .ok z) : ∃ G', z.1 = mkG G' ∧ Rt G' (z.2 :: rs) := by
  unfold put1 at e
  split at e
  · rename_i hE
    injection e with e
    obtain ⟨G1, G2, e1, o1, r1, v1, e2, h2, _⟩ := put1_ok h hl ha hE
    simp only at e e1
    rw [e1, e2] at e
    subst e
    exact ⟨G2, rfl, h2⟩
  · cases e
theorem cutF_nz {rs : List Int} (hl : rs.length ≤ 8) : ∀ (l : List Nat) {G : Gh} {root : Int} {z : SI × Int}, Rt G (root :: rs) → (∀ a ∈ l, a < 16) → Nz (mkG G) → cutF (mkG G, root) l = .ok z → Nz z.1
  | [], G, root, z, h, _, hz, e => by simp only [cutF] at e; injection e with e; subst e; exact hz
  | a :: l, G, root, z, h, ha, hz, e => by
    unfold cutF at e
    cases hp : put1 (mkG G, root) a [] with
    | error e' => rw [hp] at e; cases e
    | ok z' =>
      rw [hp] at e
      simp only at e
      obtain ⟨z1, z2⟩ := z'
      obtain ⟨G', e1, h'⟩ := put1_rt h hl (ha a (by simp)) hp
      have hz' := Nz_put1 h (ha a (by simp)) hz hp
      simp only at e1 hz' h'
      subst e1
      exact cutF_nz hl l h' (fun b hb => ha b (List.mem_cons_of_mem _ hb)) hz' e
theorem putsF_nz {size : Int} (hs : size ≤ 16) {rs : List Int} (hl : rs.length ≤ 8) : ∀ (l : List PutM) {G : Gh} {root : Int} {z : SI × Int}, Rt G (root :: rs) → Nz (mkG G) → putsF size (mkG G, root) l = .ok z → Nz z.1
  | [], G, root, z, h, hz, e => by simp only [putsF] at e; injection e with e; subst e; exact hz
  | p :: l, G, root, z, h, hz, e => by
    unfold putsF at e
    split at e
    · cases e
    · rename_i hb
      split at e
      · exact putsF_nz hs hl l h hz e
      · cases hp : put1 (mkG G, root) p.at_.toNat p.data with
        | error e' => rw [hp] at e; cases e
        | ok z' =>
          rw [hp] at e
          simp only at e
          obtain ⟨z1, z2⟩ := z'
          obtain ⟨G', e1, h'⟩ := put1_rt h hl (by omega) hp
          have hz' := Nz_put1 h (by omega) hz hp
          simp only at e1 hz' h'
          subst e1
          exact putsF_nz hs hl l h' hz' e
theorem baseF_nz {S : SI} {L : List Pt} {n base disk size : Int} {G : Gh} {z : SI × Int} (h : Vok S L n G) (hs : 1 ≤ size ∧ size ≤ 16) (hz : Nz S) (e : baseF S L base disk size = .ok z) : Nz z.1 := by
  have hlen : (L.map (·.root)).length ≤ 8 := by have := h.len; simp; omega
  have hS := h.e
  subst hS
  unfold baseF at e
  split at e
  · injection e with e; subst e; exact hz
  · split at e
    · cases e
    · rename_i p hf
      split at e
      · cases e
      · have hps := (h.pts p (findP_some hf).1).2.2
        obtain ⟨G1, e1, h1, _⟩ := Rt_share h.rt (findP_mem hf)
        have hz1 := Nz_share h.rt.V hz (RtRt h.rt (findP_mem hf))
        rw [e1] at e hz1
        exact cutF_nz hlen _ h1 (fun a ha => by rw [List.mem_range'_1] at ha; omega) hz1 e
theorem ingF_nz {S : SI} {L : List Pt} {n base disk size : Int} {puts : List PutM} {G : Gh} {S' : SI} {L' : List Pt} {n' r : Int} (h : Vok S L n G) (hz : Nz S) (e : ingF S L n base disk size puts = .ok (S', L', n', r)) : Nz S' := by
  unfold ingF at e
  split at e
  · cases e
  · rename_i hbd
    have hlen : (L.map (·.root)).length ≤ 8 := by have := h.len; simp; omega
    cases hb : baseF S L base disk size with
    | error e' => rw [hb] at e; cases e
    | ok z =>
      rw [hb] at e
      simp only at e
      have hz1 := baseF_nz h (by omega) hz hb
      obtain ⟨G1, hz2, h1, _⟩ := baseF_ok h (by omega) hb
      obtain ⟨z1, z2⟩ := z
      simp only at hz1 hz2 h1
      subst hz2
      cases hp : putsF size (mkG G1, z2) puts with
      | error e' => rw [hp] at e; cases e
      | ok z' =>
        rw [hp] at e
        simp only at e
        have hz3 := putsF_nz (by omega) hlen puts h1 hz1 hp
        split at e
        · cases e
        · injection e with e
          injection e with e1 e
          subst e1
          exact hz3
theorem agnF_nz {S : SI} {L : List Pt} {n id : Int} {G : Gh} {S' : SI} {L' : List Pt} {n' r : Int} (h : Vok S L n G) (hz : Nz S) (e : agnF S L n id = .ok (S', L', n', r)) : Nz S' := by
  unfold agnF at e
  split at e
  · cases e
  · rename_i p hf
    split at e
    · cases e
    · injection e with e
      injection e with e1 e
      have hS := h.e
      subst hS
      subst e1
      exact Nz_share h.rt.V hz (RtRt h.rt (findP_mem hf))
theorem drpF_nz {S : SI} {L : List Pt} {n id : Int} {S' : SI} {L' : List Pt} {n' r : Int} (hz : Nz S) (e : drpF S L n id = .ok (S', L', n', r)) : Nz S' := by
  unfold drpF at e
  split at e
  · cases e
  · injection e with e
    injection e with e1 e
    subst e1
    exact Nz_unR hz _
/-- a vault that is consistent -/
structure Con (S : SI) (L : List Pt) (n : Int) (G : Gh) : Prop where
  v : Vok S L n G
  z : Nz S
  t : Top S L
theorem Con_z : Con (mkG gZ) [] 1 gZ := ⟨Vok_z, Nz_z, Top_z⟩
theorem ingF_con {S : SI} {L : List Pt} {n base disk size : Int} {puts : List PutM} {G : Gh} {S' : SI} {L' : List Pt} {n' r : Int} (h : Con S L n G) (e : ingF S L n base disk size puts = .ok (S', L', n', r)) : ∃ G', Con S' L' n' G' :=
  let ⟨G', _, hv, _⟩ := ingF_ok h.v e
  ⟨G', hv, ingF_nz h.v h.z e, ingF_top h.v h.t e⟩
theorem agnF_con {S : SI} {L : List Pt} {n id : Int} {G : Gh} {S' : SI} {L' : List Pt} {n' r : Int} (h : Con S L n G) (e : agnF S L n id = .ok (S', L', n', r)) : ∃ G', Con S' L' n' G' :=
  let ⟨G', _, hv, _⟩ := agnF_ok h.v e
  ⟨G', hv, agnF_nz h.v h.z e, agnF_top h.v h.t e⟩
theorem drpF_con {S : SI} {L : List Pt} {n id : Int} {G : Gh} {S' : SI} {L' : List Pt} {n' r : Int} (h : Con S L n G) (e : drpF S L n id = .ok (S', L', n', r)) : ∃ G', Con S' L' n' G' :=
  let ⟨G', _, hv, _⟩ := drpF_ok h.v e
  ⟨G', hv, drpF_nz h.z e, drpF_top h.v h.t e⟩
theorem fillF_con {S : SI} {L : List Pt} {n : Int} {G : Gh} {x : ActM} {S' : SI} {L' : List Pt} {n' r : Int} (h : Con S L n G) (e : fillF S L n x = .ok (S', L', n', r)) : ∃ G', Con S' L' n' G' := by
  unfold fillF at e
  split at e
  · exact ingF_con h e
  · split at e
    · exact agnF_con h e
    · split at e
      · exact drpF_con h e
      · injection e with e
        injection e with e1 e
        injection e with e2 e
        injection e with e3 e
        subst e1 e2 e3
        exact ⟨G, h⟩
/-! ### What is consistent can be written and read -/
theorem kids_rng {G : Gh} (V : Val G) {q : Int} {m : Nd} (h : (mkG G).N q = some m) {i : Nat} (hi : i < 4) : 0 ≤ kat m i ∧ kat m i ≤ 40 := by
  simp only [mkG, mkN] at h
  cases e : G.R q with
  | some n =>
    rw [e] at h
    injection h with h
    subst h
    rcases V.kidR e hi with h0 | ⟨y, hy⟩
    · have : kat (rf n (G.eR q)) i = kat n i := by unfold kat rf; split <;> rfl
      rw [this]; omega
    · have h1 := V.sL _ y hy
      have : kat (rf n (G.eR q)) i = kat n i := by unfold kat rf; split <;> rfl
      rw [this]; omega
  | none =>
    rw [e] at h
    simp only at h
    obtain ⟨n, hn, rfl⟩ := Option.map_eq_some_iff.1 h
    have ek : kat (rf n (G.eL q + tot G.R q)) i = kat n i := by unfold kat rf; split <;> rfl
    rw [ek]
    rcases V.kidL hn hi with h0 | ⟨y, hy⟩
    · omega
    · have h1 := V.sD _ y hy
      omega
theorem Con.wr {S : SI} {L : List Pt} {n : Int} {G : Gh} (h : Con S L n G) : Wr S L n := by
  have hok := Vok_ok h.v
  refine ⟨hok.1, hok.2.2.1, fun q x e => ?_, fun q m e => ?_, fun p hp => ?_, ?_, h.v.srt⟩
  · have := hok.2.1 q x e; exact ⟨by omega, h.z.2 q x e⟩
  · have := hok.2.2.2 q m e
    refine ⟨by omega, fun k hk => ?_⟩
    obtain ⟨i, hi, rfl⟩ := kd_mem hk
    have hS := h.v.e
    subst hS
    have := kids_rng h.v.rt.V e hi
    omega
  · have h1 := h.v.pts p hp
    have h2 := h.v.n1
    have h3 := rt_rng h.v.rt.V (RtRt h.v.rt (List.mem_map.2 ⟨p, hp, rfl⟩))
    omega
  · have := h.v.n1; omega
theorem Con.sm {S : SI} {L : List Pt} {n : Int} {G : Gh} (h : Con S L n G) : Sm S L n := by
  have w := h.wr
  exact ⟨okS_mono (Vok_ok h.v) (by decide), fun q x e => (w.b q x e).2.2, fun q m e => (w.nd q m e).2, fun p hp => by have := w.p p hp; omega, h.v.len, w.n1⟩
theorem isR_cnt {L : List Pt} {q : Int} (h0 : q ≠ 0) : isR L q ↔ 0 < cnt (L.map (·.root)) q := by
  unfold isR cnt
  rw [if_neg h0]
  have : (0 : Int) < ((L.map (·.root)).count q : Int) ↔ 0 < (L.map (·.root)).count q := by omega
  rw [this, List.count_pos_iff, List.mem_map]
  exact ⟨fun h => h.2, fun h => ⟨h0, h⟩⟩
theorem tot_pos {N : NdT} {q : Int} (h : 0 < tot N q) : ∃ r m, N r = some m ∧ q ∈ kd m := by
  refine Classical.byContradiction fun hn => ?_
  have : tot N q = 0 := sumL_zero fun k _ => by
    cases e : N (k : Int) with
    | none => rfl
    | some m =>
      have h1 := occ_nn (some m) q
      rcases Int.lt_or_eq_of_le h1 with h2 | h2
      · obtain ⟨i, hi, rfl⟩ := occ_pos h2
        exact absurd ⟨_, m, e, kd_kat hi⟩ hn
      · exact h2.symm
  omega
theorem tot_of {N : NdT} (hs : sup 24 N) {q r : Int} {m : Nd} (h : N r = some m) (hq : q ∈ kd m) : 0 < tot N q := by
  obtain ⟨i, hi, rfl⟩ := kd_mem hq
  have h1 := tot_ge (N := N) (hs r m h) (kat m i)
  rw [h] at h1
  have h2 := occ_kat m i hi
  omega
/-! ### What was read and goes together is consistent -/
theorem con_mk {st : PS} (hP : Pok st) (hs : st.L.Pairwise fun a b => a.id < b.id) (w : WholeP st) : ∃ G, Con ⟨st.B, st.N⟩ st.L st.n G := by
  obtain ⟨B, N, L, n⟩ := st
  simp only at hs ⊢
  have kR := w.kinds.r; have kL := w.kinds.l; have kD := w.kinds.dj; have kA := w.kinds.all
  have cZ := w.counted.nz; have cNn := w.counted.n; have cB := w.counted.b; have cA := w.counted.all
  have sN := w.sN; have sB := w.sB
  simp only at kR kL kD kA cZ cNn cB cA sN sB
  have hr24 : ∀ q m, rOf N L q = some m → N q = some m := fun q m h => by unfold rOf at h; split at h; exact h; cases h
  have hl24 : ∀ q m, lOf N L q = some m → N q = some m := fun q m h => by unfold lOf at h; split at h; cases h; exact h
  have totR : ∀ q, q ≠ 0 → (0 < tot (rOf N L) q ↔ isL N L q) := fun q h0 => by
    constructor
    · intro h
      obtain ⟨r, m, hr, hq⟩ := tot_pos h
      have hrr : isR L r := by unfold rOf at hr; split at hr; assumption; cases hr
      exact ⟨h0, r, m, hrr, hr24 r m hr, hq⟩
    · rintro ⟨_, r, m, hr, hm, hq⟩
      exact tot_of (N := rOf N L) (fun q m h => sN q m (hr24 q m h)) (by unfold rOf; rw [if_pos hr]; exact hm) hq
  let G : Gh := ⟨rOf N L, lOf N L, fun q => (B q).map (·.1), cnt (L.map (·.root)), fun _ => 0, fun _ => 0⟩
  have hrefs : ∀ q m, N q = some m → cnt (L.map (·.root)) q + tot (rOf N L) q = m.refs := cNn
  have eN : mkN G = N := funext fun q => by
    show (match rOf N L q with | some n => some (rf n (cnt (L.map (·.root)) q)) | none => (lOf N L q).map fun n => rf n (0 + tot (rOf N L) q)) = N q
    by_cases hr : isR L q
    · obtain ⟨m, hm⟩ := Option.isSome_iff_exists.1 (kR q hr)
      have h1 : rOf N L q = some m := by unfold rOf; rw [if_pos hr]; exact hm
      have h2 : ¬ 0 < tot (rOf N L) q := fun h => kD q hr ((totR q hr.1).1 h)
      have h3 := tot_nn (rOf N L) q
      have h4 := hrefs q m hm
      rw [h1, hm]
      simp only
      rw [show cnt (L.map (·.root)) q = m.refs by omega]
      rfl
    · have h1 : rOf N L q = none := by unfold rOf; rw [if_neg hr]
      have h2 : lOf N L q = N q := by unfold lOf; rw [if_neg hr]
      rw [h1, h2]
      simp only
      cases hm : N q with
      | none => rfl
      | some m =>
        have h0 : q ≠ 0 := sup_ne sN hm
        have h4 := hrefs q m hm
        have h5 : ¬ 0 < cnt (L.map (·.root)) q := fun h => hr ((isR_cnt h0).2 h)
        have h6 := cnt_nn (L.map (·.root)) q
        simp only [Option.map_some]
        rw [show 0 + tot (rOf N L) q = m.refs by omega]
        rfl
  have eB : mkB G = B := funext fun q => by
    show ((B q).map (·.1)).map (fun d => (d, 0 + tot (lOf N L) q)) = B q
    cases hx : B q with
    | none => rfl
    | some x =>
      simp only [Option.map_some]
      rw [Int.zero_add, cB q x hx]
  have V : Val G := by
    refine ⟨fun q m h => sN q m (hr24 q m h), fun q m h => sN q m (hl24 q m h), fun q d h => ?_, fun q => ?_, fun q => cnt_nn _ q, fun q => Int.le_refl _, fun q => Int.le_refl _, fun q h0 => ?_, fun q h0 => ?_, fun q h0 => ?_⟩
    · obtain ⟨x, hx, _⟩ := Option.map_eq_some_iff.1 h
      exact sB q x hx
    · show rOf N L q = none ∨ lOf N L q = none
      unfold rOf lOf
      split
      · exact .inr rfl
      · exact .inl rfl
    · show (rOf N L q).isSome = true ↔ 0 < cnt (L.map (·.root)) q
      rw [← isR_cnt h0]
      unfold rOf
      constructor
      · intro h
        split at h
        · assumption
        · cases h
      · intro h
        rw [if_pos h]
        exact kR q h
    · show (lOf N L q).isSome = true ↔ 0 < 0 + tot (rOf N L) q
      rw [Int.zero_add, totR q h0]
      unfold lOf
      constructor
      · intro h
        split at h
        · cases h
        · rename_i hr
          exact (kA q h).resolve_left hr
      · intro h
        rw [if_neg (fun hr => kD q hr h)]
        exact kL q h
    · show ((B q).map (·.1)).isSome = true ↔ 0 < 0 + tot (lOf N L) q
      rw [Int.zero_add]
      constructor
      · intro h
        cases hx : B q with
        | none => rw [hx] at h; cases h
        | some x => rw [cB q x hx]; exact (hP.b q x hx).1.1
      · intro h
        have := cA q h0 (by omega)
        cases hx : B q with
        | none => rw [hx] at this; cases this
        | some x => rfl
  have hlast : ∀ p ∈ L, p.id < n := fun p hp => by
    obtain ⟨i, hi, rfl⟩ := List.mem_iff_getElem.1 hp
    have hne : L ≠ [] := fun e => by rw [e] at hi; simp at hi
    have hl := w.last (L.getLast hne) (by rw [List.getLast?_eq_some_getLast hne])
    simp only at hl
    by_cases h1 : i = L.length - 1
    · subst h1
      rw [List.getLast_eq_getElem] at hl
      exact hl
    · have := (List.pairwise_iff_getElem.1 hs) i (L.length - 1) hi (by omega) (by omega)
      rw [List.getLast_eq_getElem] at hl
      omega
  refine ⟨G, ⟨SI_ext eB.symm eN.symm, ⟨V, fun _ => rfl, fun _ => rfl, fun _ => rfl⟩, w.len, ⟨w.n1, hP.n1.1⟩, fun p hp => ?_, hs⟩, ⟨cZ, fun q x hx => (hP.b q x hx).2⟩, w.within⟩
  have h1 := hP.p p hp
  have h2 := hlast p hp
  omega
/-- reading: just the rows of consistent vaults are read, as these vaults -/
theorem pars_con {l : List ChangeM} {st : PS} (e : parsF none ps0 l = some st) (w : WholeP st) : ∃ G, Con ⟨st.B, st.N⟩ st.L st.n G ∧ rowsF ⟨st.B, st.N⟩ st.L st.n = l := by
  obtain ⟨hP, hs, hr⟩ := pars_rows e
  obtain ⟨G, hG⟩ := con_mk hP hs w
  exact ⟨G, hG, hr w⟩
end Go.Proofs.YthdjckbjjfiopacGreatDoor
