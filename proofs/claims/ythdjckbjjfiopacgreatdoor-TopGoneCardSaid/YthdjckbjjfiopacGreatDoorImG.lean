/- Consistent vaults: what is read is consistent, and what is consistent can be read. Plain laws. No condition. -/
import Derived.Test.YthdjckbjjfiopacGreatDoorImK
import Derived.Test.YthdjckbjjfiopacGreatDoorTopVa
namespace Go.Proofs.YthdjckbjjfiopacGreatDoor
open Go.Sl Go.Proofs
set_option linter.unusedVariables false
set_option linter.unusedSimpArgs false
/-- no node is empty, and blocks have one to six bytes -/
def Nz (S : SI) : Prop := (∀ q m, S.N q = some m → ¬ noKids m) ∧ ∀ q x, S.B q = some x → x.1 ≠ [] ∧ x.1.length ≤ 6
theorem noKids_rf (m : Nd) (r : Int) : noKids (rf m r) ↔ noKids m := Iff.rfl
theorem Nz_z : Nz (mkG gZ) := ⟨(fun q m h => by cases h), fun q x h => by cases h⟩
theorem Nz_refB {S : SI} (h : Nz S) (q n : Int) : Nz ⟨refB S.B q n, S.N⟩ := by
  refine ⟨h.1, fun p x e => ?_⟩
  change refB S.B q n p = some x at e
  unfold refB at e
  cases hq : S.B q with
  | none => rw [hq] at e; exact h.2 p x e
  | some y =>
    rw [hq] at e
    unfold pset at e
    simp only at e
    split at e
    · split at e
      · cases e
      · injection e with e; subst e; exact h.2 q y hq
    · exact h.2 p x e
theorem Nz_setN {S : SI} (h : Nz S) {q : Int} {x : Option Nd} (hx : ∀ m, x = some m → ¬ noKids m) : Nz ⟨S.B, pset S.N q x⟩ := ⟨fun p m e => by
  change pset S.N q x p = some m at e
  unfold pset at e
  split at e
  · exact hx m e
  · exact h.1 p m e, h.2⟩
theorem Nz_block {S : SI} (h : Nz S) (d : Bytes) : Nz (blockS S d) := by
  unfold blockS
  split
  · exact h
  · refine ⟨h.1, fun p x e => ?_⟩
    change putB S.B d p = some x at e
    unfold putB at e
    by_cases hd : 6 < d.length ∨ d = []
    · rw [if_pos hd] at e; exact h.2 p x e
    · rw [if_neg hd] at e
      cases hf : freeId 40 S.B with
      | none => rw [hf] at e; exact h.2 p x e
      | some k =>
        rw [hf] at e
        simp only at e
        unfold pset at e
        split at e
        · injection e with e; subst e; exact ⟨fun hh => hd (.inr hh), by simp only; omega⟩
        · exact h.2 p x e
theorem Nz_bumpT {S : SI} (h : Nz S) (k : Int) : Nz (bump true S k) := by
  unfold bump
  split
  · exact h
  · rw [if_pos rfl]; exact Nz_refB h k 1
theorem Nz_nodeT {S : SI} (h : Nz S) (n : Nd) : Nz (nodeS true S n) := by
  unfold nodeS
  split
  · exact h
  · rename_i hn
    split
    · exact h
    · exact foldl_ok (P := Nz) (fun a b ha => Nz_bumpT ha b) _ _ (Nz_setN h fun m e => by injection e with e; subst e; exact hn)
theorem Nz_dropB {S : SI} (h : Nz S) (k : Int) : Nz (dropB S k) := by
  unfold dropB
  split
  · exact h
  · exact Nz_refB h k (-1)
theorem Nz_unB {S : SI} (h : Nz S) (k : Int) : Nz (unB S k) := by
  unfold unB
  split
  · exact Nz_refB h k (-1)
  · exact h
theorem Nz_unX {S : SI} {f : SI → Int → SI} (hf : ∀ S k, Nz S → Nz (f S k)) (h : Nz S) (q : Int) : Nz (unX f S q) := by
  unfold unX
  split
  · exact h
  · split
    · rename_i hr
      refine Nz_setN h fun m e => ?_
      injection e with e
      subst e
      cases hq : S.N q with
      | none => unfold gN at hr; rw [hq] at hr; simp [nd0] at hr
      | some y => rw [show gN S.N q = y by unfold gN; rw [hq]; rfl]; exact h.1 q y hq
    · exact foldl_ok (P := Nz) (fun a b ha => hf a b ha) _ _ (Nz_setN h fun m e => by cases e)
theorem Nz_unL {S : SI} (h : Nz S) (q : Int) : Nz (unL S q) := Nz_unX (fun S k h => Nz_dropB h k) h q
theorem Nz_unR {S : SI} (h : Nz S) (q : Int) : Nz (unR S q) := Nz_unX (fun S k h => Nz_unL h k) h q
theorem Nz_bumpN {S : SI} (h : Nz S) {q : Int} (hq : ∃ x, S.N q = some x) : Nz ⟨S.B, bumpN S.N q⟩ := by
  obtain ⟨x, hx⟩ := hq
  refine Nz_setN h fun m e => ?_
  injection e with e
  subst e
  rw [show gN S.N q = x by unfold gN; rw [hx]; rfl]
  exact h.1 q x hx
theorem Nz_share {G : Gh} (V : Val G) (h : Nz (mkG G)) {q : Int} (hq : rt G q) : Nz (shareS (mkG G) q) := by
  unfold shareS
  split
  · refine Nz_bumpN h ?_
    obtain ⟨m, hm⟩ := hq.resolve_left (by omega)
    exact ⟨_, mkN_R hm⟩
  · exact h
theorem lf_some {G : Gh} (V : Val G) {q : Int} (h : lf G q) : q = 0 ∨ ∃ x, (mkG G).N q = some x := h.imp (fun h => h) fun ⟨m, hm⟩ => ⟨_, mkN_L V hm⟩
theorem bumpT_N (S : SI) (k : Int) : (bump true S k).N = S.N := by
  unfold bump
  split
  · rfl
  · rw [if_pos rfl]
theorem foldT_N : ∀ (l : List Int) (S : SI), (l.foldl (bump true) S).N = S.N
  | [], S => rfl
  | k :: l, S => by rw [List.foldl_cons, foldT_N l, bumpT_N]
theorem blockS_N (S : SI) (d : Bytes) : (blockS S d).N = S.N := by unfold blockS; split <;> rfl
theorem unB_N (S : SI) (b : Int) : (unB S b).N = S.N := by unfold unB; split <;> rfl
theorem Nz_set {G : Gh} (V : Val G) {root : Int} {at_ : Nat} {d : Bytes} {out : Int} (hr : rt G root) (ha : at_ < 16) (hz : Nz (mkG G)) (h : setE (mkG G) root at_ d = (out, 0)) : Nz (setS (mkG G) root at_ d) := by
  obtain ⟨b, k, hb, hl, ho, hS⟩ := setE_inv h
  rw [hS]
  refine Nz_unL ?_ k
  have hz3 : Nz (unB (nodeS true (blockS (mkG G) d) (setL (blockS (mkG G) d) root at_ b)) b) := Nz_unB (Nz_nodeT (Nz_block hz d) _) b
  have hN3 : (unB (nodeS true (blockS (mkG G) d) (setL (blockS (mkG G) d) root at_ b)) b).N = (nodeS true (blockS (mkG G) d) (setL (blockS (mkG G) d) root at_ b)).N := unB_N _ _
  -- what was there is there still, and so is the new leaf
  have hold : ∀ q x, (mkG G).N q = some x → ∃ y, (nodeS true (blockS (mkG G) d) (setL (blockS (mkG G) d) root at_ b)).N q = some y := fun q x hx => by
    rcases nodeE_inv hl with ⟨_, _, e⟩ | ⟨j, _, _, _, _, e⟩
    · rw [e true, blockS_N]; exact ⟨x, hx⟩
    · rw [e true, foldT_N]
      show ∃ y, pset (blockS (mkG G) d).N k _ q = some y
      unfold pset
      split
      · exact ⟨_, rfl⟩
      · rw [blockS_N]; exact ⟨x, hx⟩
  have hnew : k = 0 ∨ ∃ y, (nodeS true (blockS (mkG G) d) (setL (blockS (mkG G) d) root at_ b)).N k = some y := by
    rcases nodeE_inv hl with ⟨e0, _, _⟩ | ⟨j, _, _, _, _, e⟩
    · exact .inl e0
    · refine .inr ?_
      rw [e true, foldT_N]
      exact ⟨_, by show pset _ k _ k = _; unfold pset; rw [if_pos rfl]⟩
  rcases nodeE_inv ho with ⟨_, _, e⟩ | ⟨j, hk, hjr, hnone, hnk, e⟩
  · rw [e false]; exact hz3
  · rw [e false, fold_bumpN]
    · refine ⟨fun q m hm => ?_, hz3.2⟩
      change (pset _ out _ q).map _ = some m at hm
      obtain ⟨m0, hm0, rfl⟩ := Option.map_eq_some_iff.1 hm
      rw [noKids_rf]
      unfold pset at hm0
      split at hm0
      · injection hm0 with hm0; subst hm0; exact hnk
      · exact hz3.1 q m0 hm0
    · intro q hq
      obtain ⟨i, hi, rfl⟩ := kd_mem hq
      have key : kat (setR (blockS (mkG G) d) root at_ k) i = 0 ∨ ∃ y, (unB (nodeS true (blockS (mkG G) d) (setL (blockS (mkG G) d) root at_ b)) b).N (kat (setR (blockS (mkG G) d) root at_ k) i) = some y := by
        unfold setR
        rw [kat_kset _ _ _ _ (by omega) hi, hN3]
        split
        · exact hnew
        · rw [blockS_N]
          rcases lf_some V (rt_kid V hr hi) with h0 | ⟨x, hx⟩
          · exact .inl h0
          · exact .inr (hold _ x hx)
      refine key.imp (fun h => h) fun ⟨y, hy⟩ => ?_
      show ∃ x, pset _ out _ _ = some x
      unfold pset
      split
      · exact ⟨_, rfl⟩
      · exact ⟨y, hy⟩
theorem Nz_put1 {G : Gh} {root : Int} {rs : List Int} {at_ : Nat} {d : Bytes} {z : SI × Int} (h : Rt G (root :: rs)) (ha : at_ < 16) (hz : Nz (mkG G)) (e : put1 (mkG G, root) at_ d = .ok z) : Nz z.1 := by
  unfold put1 at e
  split at e
  · rename_i hE
    injection e with e
    subst e
    exact Nz_unR (Nz_set h.V (RtRt h (List.mem_cons_self ..)) ha hz (Prod.ext rfl hE)) root
  · cases e
theorem put1_rt {G : Gh} {root : Int} {rs : List Int} {at_ : Nat} {d : Bytes} {z : SI × Int} (h : Rt G (root :: rs)) (hl : rs.length ≤ 8) (ha : at_ < 16) (e : put1 (mkG G, root) at_ d = .ok z) : ∃ G', z.1 = mkG G' ∧ Rt G' (z.2 :: rs) := by
  unfold put1 at e
  split at e
  · rename_i hE
    injection e with e
    obtain ⟨G1, G2, e1, o1, r1, v1, e2, h2, _⟩ := put1_ok h hl ha hE
    simp only at e e1
    rw [e1, e2] at e
    subst e
    exact ⟨G2, rfl, h2⟩
  · cases e
theorem cutF_nz {rs : List Int} (hl : rs.length ≤ 8) : ∀ (l : List Nat) {G : Gh} {root : Int} {z : SI × Int}, Rt G (root :: rs) → (∀ a ∈ l, a < 16) → Nz (mkG G) → cutF (mkG G, root) l = .ok z → Nz z.1
  | [], G, root, z, h, _, hz, e => by simp only [cutF] at e; injection e with e; subst e; exact hz
  | a :: l, G, root, z, h, ha, hz, e => by
    unfold cutF at e
    cases hp : put1 (mkG G, root) a [] with
    | error e' => rw [hp] at e; cases e
    | ok z' =>
      rw [hp] at e
      simp only at e
      obtain ⟨z1, z2⟩ := z'
      obtain ⟨G', e1, h'⟩ := put1_rt h hl (ha a (by simp)) hp
      have hz' := Nz_put1 h (ha a (by simp)) hz hp
      simp only at e1 hz' h'
      subst e1
      exact cutF_nz hl l h' (fun b hb => ha b (List.mem_cons_of_mem _ hb)) hz' e
theorem putsF_nz {size : Int} (hs : size ≤ 16) {rs : List Int} (hl : rs.length ≤ 8) : ∀ (l : List PutM) {G : Gh} {root : Int} {z : SI × Int}, Rt G (root :: rs) → Nz (mkG G) → putsF size (mkG G, root) l = .ok z → Nz z.1
  | [], G, root, z, h, hz, e => by simp only [putsF] at e; injection e with e; subst e; exact hz
  | p :: l, G, root, z, h, hz, e => by
    unfold putsF at e
    split at e
    · cases e
    · rename_i hb
      split at e
      · exact putsF_nz hs hl l h hz e
      · cases hp : put1 (mkG G, root) p.at_.toNat p.data with
        | error e' => rw [hp] at e; cases e
        | ok z' =>
          rw [hp] at e
          simp only at e
          obtain ⟨z1, z2⟩ := z'
          obtain ⟨G', e1, h'⟩ := put1_rt h hl (by omega) hp
          have hz' := Nz_put1 h (by omega) hz hp
          simp only at e1 hz' h'
          subst e1
          exact putsF_nz hs hl l h' hz' e
theorem baseF_nz {S : SI} {L : List Pt} {n base disk size : Int} {G : Gh} {z : SI × Int} (h : Vok S L n G) (hs : 1 ≤ size ∧ size ≤ 16) (hz : Nz S) (e : baseF S L base disk size = .ok z) : Nz z.1 := by
  have hlen : (L.map (·.root)).length ≤ 8 := by have := h.len; simp; omega
  have hS := h.e
  subst hS
  unfold baseF at e
  split at e
  · injection e with e; subst e; exact hz
  · split at e
    · cases e
    · rename_i p hf
      split at e
      · cases e
      · have hps := (h.pts p (findP_some hf).1).2.2
        obtain ⟨G1, e1, h1, _⟩ := Rt_share h.rt (findP_mem hf)
        have hz1 := Nz_share h.rt.V hz (RtRt h.rt (findP_mem hf))
        rw [e1] at e hz1
        exact cutF_nz hlen _ h1 (fun a ha => by rw [List.mem_range'_1] at ha; omega) hz1 e
theorem ingF_nz {S : SI} {L : List Pt} {n base disk size : Int} {puts : List PutM} {G : Gh} {S' : SI} {L' : List Pt} {n' r : Int} (h : Vok S L n G) (hz : Nz S) (e : ingF S L n base disk size puts = .ok (S', L', n', r)) : Nz S' := by
  unfold ingF at e
  split at e
  · cases e
  · rename_i hbd
    have hlen : (L.map (·.root)).length ≤ 8 := by have := h.len; simp; omega
    cases hb : baseF S L base disk size with
    | error e' => rw [hb] at e; cases e
    | ok z =>
      rw [hb] at e
      simp only at e
      have hz1 := baseF_nz h (by omega) hz hb
      obtain ⟨G1, hz2, h1, _⟩ := baseF_ok h (by omega) hb
      obtain ⟨z1, z2⟩ := z
      simp only at hz1 hz2 h1
      subst hz2
      cases hp : putsF size (mkG G1, z2) puts with
      | error e' => rw [hp] at e; cases e
      | ok z' =>
        rw [hp] at e
        simp only at e
        have hz3 := putsF_nz (by omega) hlen puts h1 hz1 hp
        split at e
        · cases e
        · injection e with e
          injection e with e1 e
          subst e1
          exact hz3
theorem agnF_nz {S : SI} {L : List Pt} {n id : Int} {G : Gh} {S' : SI} {L' : List Pt} {n' r : Int} (h : Vok S L n G) (hz : Nz S) (e : agnF S L n id = .ok (S', L', n', r)) : Nz S' := by
  unfold agnF at e
  split at e
  · cases e
  · rename_i p hf
    split at e
    · cases e
    · injection e with e
      injection e with e1 e
      have hS := h.e
      subst hS
      subst e1
      exact Nz_share h.rt.V hz (RtRt h.rt (findP_mem hf))
theorem drpF_nz {S : SI} {L : List Pt} {n id : Int} {S' : SI} {L' : List Pt} {n' r : Int} (hz : Nz S) (e : drpF S L n id = .ok (S', L', n', r)) : Nz S' := by
  unfold drpF at e
  split at e
  · cases e
  · injection e with e
    injection e with e1 e
    subst e1
    exact Nz_unR hz _
/-- a vault that is consistent -/
structure Con (S : SI) (L : List Pt) (n : Int) (G : Gh) : Prop where
  v : Vok S L n G
  z : Nz S
  t : Top S L
theorem Con_z : Con (mkG gZ) [] 1 gZ := ⟨Vok_z, Nz_z, Top_z⟩
theorem ingF_con {S : SI} {L : List Pt} {n base disk size : Int} {puts : List PutM} {G : Gh} {S' : SI} {L' : List Pt} {n' r : Int} (h : Con S L n G) (e : ingF S L n base disk size puts = .ok (S', L', n', r)) : ∃ G', Con S' L' n' G' :=
  let ⟨G', _, hv, _⟩ := ingF_ok h.v e
  ⟨G', hv, ingF_nz h.v h.z e, ingF_top h.v h.t e⟩
theorem agnF_con {S : SI} {L : List Pt} {n id : Int} {G : Gh} {S' : SI} {L' : List Pt} {n' r : Int} (h : Con S L n G) (e : agnF S L n id = .ok (S', L', n', r)) : ∃ G', Con S' L' n' G' :=
  let ⟨G', _, hv, _⟩ := agnF_ok h.v e
  ⟨G', hv, agnF_nz h.v h.z e, agnF_top h.v h.t e⟩
theorem drpF_con {S : SI} {L : List Pt} {n id : Int} {G : Gh} {S' : SI} {L' : List Pt} {n' r : Int} (h : Con S L n G) (e : drpF S L n id = .ok (S', L', n', r)) : ∃ G', Con S' L' n' G' :=
  let ⟨G', _, hv, _⟩ := drpF_ok h.v e
  ⟨G', hv, drpF_nz h.z e, drpF_top h.v h.t e⟩
theorem fillF_con {S : SI} {L : List Pt} {n : Int} {G : Gh} {x : ActM} {S' : SI} {L' : List Pt} {n' r : Int} (h : Con S L n G) (e : fillF S L n x = .ok (S', L', n', r)) : ∃ G', Con S' L' n' G' := by
  unfold fillF at e
  split at e
  · exact ingF_con h e
  · split at e
    · exact agnF_con h e
    · split at e
      · exact drpF_con h e
      · injection e with e
        injection e with e1 e
        injection e with e2 e
        injection e with e3 e
        subst e1 e2 e3
        exact ⟨G, h⟩
/-! ### What is consistent can be written and read -/
theorem kids_rng {G : Gh} (V : Val G) {q : Int} {m : Nd} (h : (mkG G).N q = some m) {i : Nat} (hi : i < 4) : 0 ≤ kat m i ∧ kat m i ≤ 40 := by
  simp only [mkG, mkN] at h
  cases e : G.R q with
  | some n =>
    rw [e] at h
    injection h with h
    subst h
    rcases V.kidR e hi with h0 | ⟨y, hy⟩
    · have : kat (rf n (G.eR q)) i = kat n i := by unfold kat rf; split <;> rfl
      rw [this]; omega
    · have h1 := V.sL _ y hy
      have : kat (rf n (G.eR q)) i = kat n i := by unfold kat rf; split <;> rfl
      rw [this]; omega
  | none =>
    rw [e] at h
    simp only at h
    obtain ⟨n, hn, rfl⟩ := Option.map_eq_some_iff.1 h
    have ek : kat (rf n (G.eL q + tot G.R q)) i = kat n i := by unfold kat rf; split <;> rfl
    rw [ek]
    rcases V.kidL hn hi with h0 | ⟨y, hy⟩
    · omega
    · have h1 := V.sD _ y hy
      omega
theorem Con.wr {S : SI} {L : List Pt} {n : Int} {G : Gh} (h : Con S L n G) : Wr S L n := by
  have hok := Vok_ok h.v
  refine ⟨hok.1, hok.2.2.1, fun q x e => ?_, fun q m e => ?_, fun p hp => ?_, ?_, h.v.srt⟩
  · have := hok.2.1 q x e; exact ⟨by omega, h.z.2 q x e⟩
  · have := hok.2.2.2 q m e
    refine ⟨by omega, fun k hk => ?_⟩
    obtain ⟨i, hi, rfl⟩ := kd_mem hk
    have hS := h.v.e
    subst hS
    have := kids_rng h.v.rt.V e hi
    omega
  · have h1 := h.v.pts p hp
    have h2 := h.v.n1
    have h3 := rt_rng h.v.rt.V (RtRt h.v.rt (List.mem_map.2 ⟨p, hp, rfl⟩))
    omega
  · have := h.v.n1; omega
theorem Con.sm {S : SI} {L : List Pt} {n : Int} {G : Gh} (h : Con S L n G) : Sm S L n := by
  have w := h.wr
  exact ⟨okS_mono (Vok_ok h.v) (by decide), fun q x e => (w.b q x e).2.2, fun q m e => (w.nd q m e).2, fun p hp => by have := w.p p hp; omega, h.v.len, w.n1⟩
theorem isR_cnt {L : List Pt} {q : Int} (h0 : q ≠ 0) : isR L q ↔ 0 < cnt (L.map (·.root)) q := by
  unfold isR cnt
  rw [if_neg h0]
  have : (0 : Int) < ((L.map (·.root)).count q : Int) ↔ 0 < (L.map (·.root)).count q := by omega
  rw [this, List.count_pos_iff, List.mem_map]
  exact ⟨fun h => h.2, fun h => ⟨h0, h⟩⟩
theorem tot_pos {N : NdT} {q : Int} (h : 0 < tot N q) : ∃ r m, N r = some m ∧ q ∈ kd m := by
  refine Classical.byContradiction fun hn => ?_
  have : tot N q = 0 := sumL_zero fun k _ => by
    cases e : N (k : Int) with
    | none => rfl
    | some m =>
      have h1 := occ_nn (some m) q
      rcases Int.lt_or_eq_of_le h1 with h2 | h2
      · obtain ⟨i, hi, rfl⟩ := occ_pos h2
        exact absurd ⟨_, m, e, kd_kat hi⟩ hn
      · exact h2.symm
  omega
theorem sumL_congr {A B : NdT} {q : Int} : ∀ {l : List Nat}, (∀ k ∈ l, occ (A (k : Int)) q = occ (B (k : Int)) q) → sumL A q l = sumL B q l
  | [], _ => rfl
  | k :: l, h => by simp only [sumL]; rw [h k (by simp), sumL_congr fun j hj => h j (List.mem_cons_of_mem _ hj)]
theorem tot_congr {A B : NdT} {q : Int} (h : ∀ k, occ (A k) q = occ (B k) q) : tot A q = tot B q := sumL_congr fun k _ => h k
theorem Con.whole {S : SI} {L : List Pt} {n : Int} {G : Gh} (h : Con S L n G) : WholeP ⟨S.B, S.N, L, n⟩ := by
  have hS := h.v.e
  subst hS
  have V := h.v.rt.V
  have hok := Vok_ok h.v
  have hR : ∀ q, isR L q ↔ q ≠ 0 ∧ ∃ m, G.R q = some m := fun q => by
    by_cases h0 : q = 0
    · subst h0
      exact ⟨fun hh => absurd rfl hh.1, fun hh => absurd rfl hh.1⟩
    · rw [isR_cnt h0, ← h.v.rt.eR, ← V.pR q h0]
      exact ⟨fun hh => ⟨h0, Option.isSome_iff_exists.1 hh⟩, fun hh => Option.isSome_iff_exists.2 hh.2⟩
  have hLf : ∀ q, isL (mkG G).N L q ↔ q ≠ 0 ∧ ∃ m, G.L q = some m := fun q => by
    constructor
    · rintro ⟨h0, r, m, hr, hm, hq⟩
      obtain ⟨_, m', hm'⟩ := (hR r).1 hr
      rw [mkN_R hm'] at hm
      injection hm with hm
      subst hm
      obtain ⟨i, hi, rfl⟩ := kd_mem hq
      have ek : kat (rf m' (G.eR r)) i = kat m' i := by unfold kat rf; split <;> rfl
      rw [ek] at h0 ⊢
      exact ⟨h0, (V.kidR hm' hi).resolve_left h0⟩
    · rintro ⟨h0, m, hm⟩
      have h1 := (V.pL q h0).1 (by rw [hm]; rfl)
      rw [h.v.rt.eL, Int.zero_add] at h1
      obtain ⟨r, m', hr, hq⟩ := tot_pos h1
      refine ⟨h0, r, _, (hR r).2 ⟨sup_ne V.sR hr, m', hr⟩, mkN_R hr, hq⟩
  have dj : ∀ q m m', G.R q = some m → G.L q = some m' → False := fun q m m' h1 h2 => by
    rcases V.dj q with h3 | h3
    · rw [h1] at h3; cases h3
    · rw [h2] at h3; cases h3
  have hk : KindsP (mkG G).N L := by
    refine ⟨fun q hq => ?_, fun q hq => ?_, fun q hr hl => ?_, fun q hq => ?_⟩
    · obtain ⟨_, m, hm⟩ := (hR q).1 hq; rw [mkN_R hm]; rfl
    · obtain ⟨_, m, hm⟩ := (hLf q).1 hq; rw [mkN_L V hm]; rfl
    · obtain ⟨_, m, hm⟩ := (hR q).1 hr
      obtain ⟨_, m', hm'⟩ := (hLf q).1 hl
      exact dj q m m' hm hm'
    · obtain ⟨x, hx⟩ := Option.isSome_iff_exists.1 hq
      have h0 := sup_ne hok.2.2.1 hx
      cases e : G.R q with
      | some m => exact .inl ((hR q).2 ⟨h0, m, e⟩)
      | none => cases e2 : G.L q with
        | some m => exact .inr ((hLf q).2 ⟨h0, m, e2⟩)
        | none => rw [mkN_none e e2] at hx; cases hx
  have hrO : ∀ q p, occ (rOf (mkG G).N L q) p = occ (G.R q) p := fun q p => by
    unfold rOf
    split
    · rename_i hr
      obtain ⟨_, m, hm⟩ := (hR q).1 hr
      rw [mkN_R hm, hm]; rfl
    · rename_i hr
      cases e : G.R q with
      | none => rfl
      | some m => exact absurd ((hR q).2 ⟨sup_ne V.sR e, m, e⟩) hr
  have hlO : ∀ q p, occ (lOf (mkG G).N L q) p = occ (G.L q) p := fun q p => by
    unfold lOf
    split
    · rename_i hr
      obtain ⟨_, m, hm⟩ := (hR q).1 hr
      cases e : G.L q with
      | none => rfl
      | some m' => exact (dj q m m' hm e).elim
    · rename_i hr
      cases e : G.L q with
      | some m => rw [mkN_L V e]; rfl
      | none => cases e2 : G.R q with
        | none => rw [mkN_none e2 e]
        | some m => exact absurd ((hR q).2 ⟨sup_ne V.sR e2, m, e2⟩) hr
  refine ⟨h.v.len, h.v.n1.1, fun p hp => (h.v.pts p (List.mem_of_getLast? hp)).1.2, hok.2.2.1, hok.1, hk, ⟨h.z.1, fun q m hm => ?_, fun q x hx => ?_, fun q h0 hq => ?_⟩, h.t⟩
  · change (mkG G).N q = some m at hm
    show cN (mkG G).N L q = m.refs
    unfold cN
    rw [tot_congr fun k => hrO k q, ← h.v.rt.eR]
    have h0 := sup_ne hok.2.2.1 hm
    cases e : G.R q with
    | some m' =>
      rw [mkN_R e] at hm
      injection hm with hm
      subst hm
      have : tot G.R q = 0 := by
        have h1 := tot_nn G.R q
        rcases Int.lt_or_eq_of_le h1 with h2 | h2
        · obtain ⟨x, hx⟩ := Option.isSome_iff_exists.1 ((V.pL q h0).2 (by have := V.nL q; omega))
          exact (dj q m' x e hx).elim
        · exact h2.symm
      rw [this]
      simp [rf]
    | none => cases e2 : G.L q with
      | none => rw [mkN_none e e2] at hm; cases hm
      | some m' =>
        rw [mkN_L V e2] at hm
        injection hm with hm
        subst hm
        have : G.eR q = 0 := by
          have h1 := V.nR q
          rcases Int.lt_or_eq_of_le h1 with h2 | h2
          · have := (V.pR q h0).2 h2; rw [e] at this; cases this
          · exact h2.symm
        rw [this, h.v.rt.eL]
        simp [rf]
  · change (mkG G).B q = some x at hx
    show tot (lOf (mkG G).N L) q = x.2
    rw [tot_congr fun k => hlO k q]
    cases e : G.D q with
    | none => rw [mkB_none e] at hx; cases hx
    | some d =>
      rw [mkB_some e, h.v.rt.eB] at hx
      injection hx with hx
      subst hx
      simp
  · change tot (lOf (mkG G).N L) q ≠ 0 at hq
    rw [tot_congr fun k => hlO k q] at hq
    have h1 := tot_nn G.L q
    have h2 := (V.pD q h0).2 (by have := V.nB q; omega)
    obtain ⟨d, hd⟩ := Option.isSome_iff_exists.1 h2
    show ((mkG G).B q).isSome = true
    rw [mkB_some hd]; rfl
theorem con_pars {S : SI} {L : List Pt} {n : Int} {G : Gh} (h : Con S L n G) : parsF none ps0 (rowsF S L n) = some ⟨S.B, S.N, L, n⟩ ∧ WholeP ⟨S.B, S.N, L, n⟩ := ⟨pars_mk h.wr, h.whole⟩

end Go.Proofs.YthdjckbjjfiopacGreatDoor
