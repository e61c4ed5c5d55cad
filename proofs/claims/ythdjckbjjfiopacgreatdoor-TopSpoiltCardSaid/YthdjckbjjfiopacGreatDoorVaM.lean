/- Vaults: what is computed, in plain words. No condition. -/
import Derived.Test.YthdjckbjjfiopacGreatDoorTopIx
namespace Go.Proofs.YthdjckbjjfiopacGreatDoor
open Go.Sl Go.Proofs
set_option linter.unusedVariables false
set_option linter.unusedSimpArgs false
structure Pt where
  id : Int
  disk : Int
  size : Int
  root : Int
deriving DecidableEq
abbrev encPt (p : Pt) : List Value := [I p.id, I p.disk, I p.size, I p.root]
def ptR (l : List Pt) : List (List Value) := l.map encPt
theorem ptR_len (l : List Pt) : (ptR l).length = l.length := by simp [ptR]
theorem ptR_at {l : List Pt} {k : Nat} {c : Pt} (h : l[k]? = some c) : (ptR l)[k]? = some (encPt c) := by simp [ptR, h]
def pt0 : Pt := ⟨0, 0, 0, 0⟩
def findP (l : List Pt) (id : Int) : Option Pt := l.find? fun p => decide (p.id = id)
def fidx (l : List Pt) (id : Int) : Nat := l.findIdx fun p => decide (p.id = id)
def ptI (l : List Pt) (id : Int) : Int := if fidx l id < l.length then (fidx l id : Int) else -1
theorem ptI_hit {l : List Pt} {id : Int} {k : Nat} {s : Pt} (hno : ∀ j, j < k → ∀ t, l[j]? = some t → t.id ≠ id) (hs : l[k]? = some s) (he : s.id = id) : ptI l id = k := by
  obtain ⟨hk, hk2⟩ := List.getElem?_eq_some_iff.1 hs
  have e : fidx l id = k := by
    unfold fidx
    rw [List.findIdx_eq hk]
    refine ⟨by rw [hk2]; simpa using he, fun j hj => ?_⟩
    have := hno j hj l[j] (List.getElem?_eq_getElem (by omega))
    simpa using this
  unfold ptI
  rw [if_pos (by omega), e]
theorem ptI_none {l : List Pt} {id : Int} (hno : ∀ j, j < l.length → ∀ t, l[j]? = some t → t.id ≠ id) : ptI l id = -1 := by
  unfold ptI
  rw [if_neg]
  intro h
  have := List.findIdx_getElem (w := h)
  simp at this
  exact hno _ h _ (List.getElem?_eq_getElem h) this
theorem ptI_pos {l : List Pt} {id : Int} (h : ¬ ptI l id < 0) : ∃ i s, ptI l id = ((i : Nat) : Int) ∧ l[i]? = some s ∧ s.id = id ∧ i < l.length ∧ findP l id = some s ∧ ∀ j, j < i → ∀ t, l[j]? = some t → t.id ≠ id := by
  unfold ptI at h ⊢
  split at h
  · rename_i hl
    have hid : l[fidx l id].id = id := of_decide_eq_true (List.findIdx_getElem (p := fun p : Pt => decide (p.id = id)) (w := hl))
    have hno : ∀ j, j < fidx l id → ∀ t, l[j]? = some t → t.id ≠ id := fun j hj t ht => by
      have h1 := List.not_of_lt_findIdx hj
      obtain ⟨hj', e⟩ := List.getElem?_eq_some_iff.1 ht
      subst e
      simpa using h1
    refine ⟨fidx l id, l[fidx l id], by rw [if_pos hl], List.getElem?_eq_getElem hl, hid, hl, ?_, hno⟩
    unfold findP
    rw [List.find?_eq_some_iff_getElem]
    refine ⟨decide_eq_true hid, _, hl, rfl, fun j hj => ?_⟩
    have := hno j hj l[j] (List.getElem?_eq_getElem (by omega))
    simpa using this
  · omega
theorem findP_none {l : List Pt} {id : Int} (h : ptI l id < 0) : findP l id = none := by
  unfold findP
  rw [List.find?_eq_none]
  intro x hx
  unfold ptI at h
  split at h
  · omega
  · rename_i hl
    intro he
    exact hl (List.findIdx_lt_length_of_exists ⟨x, hx, he⟩)
theorem findP_some {l : List Pt} {id : Int} {p : Pt} (h : findP l id = some p) : p ∈ l ∧ p.id = id := by
  unfold findP at h
  exact ⟨List.mem_of_find?_eq_some h, by simpa using List.find?_some h⟩
/-! ### Steps -/
def put1 (z : SI × Int) (at_ : Nat) (d : Bytes) : Except Int (SI × Int) := if (setE z.1 z.2 at_ d).2 = 0 then .ok (unR (setS z.1 z.2 at_ d) z.2, (setE z.1 z.2 at_ d).1) else .error (setE z.1 z.2 at_ d).2
def cutF : SI × Int → List Nat → Except Int (SI × Int)
  | z, [] => .ok z
  | z, a :: l => match put1 z a [] with
    | .ok z' => cutF z' l
    | .error e => .error e
def putsF (size : Int) : SI × Int → List PutM → Except Int (SI × Int)
  | z, [] => .ok z
  | z, p :: l => if p.at_ < 0 ∨ size ≤ p.at_ then .error 1 else if getS z.1 z.2 p.at_.toNat = p.data then putsF size z l else match put1 z p.at_.toNat p.data with
    | .ok z' => putsF size z' l
    | .error e => .error e
def baseF (S : SI) (L : List Pt) (base disk size : Int) : Except Int (SI × Int) := if base = 0 then .ok (S, 0) else match findP L base with
  | none => .error 5
  | some p => if p.disk ≠ disk then .error 3 else cutF (shareS S p.root, p.root) (List.range' size.toNat (p.size.toNat - size.toNat))
def addE (L : List Pt) (n : Int) : Int := if L.length = 6 ∨ 999 < n then 8 else 0
abbrev VR := Except Int (SI × List Pt × Int × Int)
def ingF (S : SI) (L : List Pt) (n base disk size : Int) (puts : List PutM) : VR := if disk < 1 ∨ 999 < disk ∨ size < 1 ∨ 16 < size then .error 1 else match baseF S L base disk size with
  | .error e => .error e
  | .ok z => match putsF size z puts with
    | .error e => .error e
    | .ok z => if addE L n ≠ 0 then .error (addE L n) else .ok (z.1, L ++ [⟨n, disk, size, z.2⟩], n + 1, n)
def agnF (S : SI) (L : List Pt) (n id : Int) : VR := match findP L id with
  | none => .error 5
  | some p => if addE L n ≠ 0 then .error (addE L n) else .ok (shareS S p.root, L ++ [⟨n, p.disk, p.size, p.root⟩], n + 1, n)
def drpF (S : SI) (L : List Pt) (n id : Int) : VR := match findP L id with
  | none => .error 5
  | some p => .ok (unR S p.root, L.filter (fun x => !decide (x.id = id)), n, 0)
def rdE (S : SI) (L : List Pt) (id at_ : Int) : Bytes × Int := match findP L id with
  | none => ([], 5)
  | some p => if at_ < 0 ∨ p.size ≤ at_ then ([], 1) else (getS S p.root at_.toNat, 0)
structure Vok (S : SI) (L : List Pt) (n : Int) (G : Gh) : Prop where
  e : S = mkG G
  rt : Rt G (L.map (·.root))
  len : L.length ≤ 6
  n1 : 1 ≤ n ∧ n ≤ 1000
  pts : ∀ p ∈ L, (1 ≤ p.id ∧ p.id < n) ∧ (1 ≤ p.disk ∧ p.disk ≤ 999) ∧ (1 ≤ p.size ∧ p.size ≤ 16)
  srt : L.Pairwise fun a b => a.id < b.id
theorem RtCnt {G : Gh} {l l' : List Int} (h : Rt G l) (e : ∀ q, cnt l q = cnt l' q) : Rt G l' := ⟨h.V, h.eL, h.eB, fun q => by rw [h.eR, e]⟩
theorem Rt_zero {G : Gh} {l : List Int} (h : Rt G l) : Rt G (0 :: l) := RtCnt h fun q => by
  rw [cnt_cons, if_neg (fun h => h.2 h.1.symm)]; omega
theorem Rt_unzero {G : Gh} {l : List Int} (h : Rt G (0 :: l)) : Rt G l := RtCnt h fun q => by
  rw [cnt_cons, if_neg (fun h => h.2 h.1.symm)]; omega
theorem Rt_app {G : Gh} {l : List Int} {x : Int} (h : Rt G (x :: l)) : Rt G (l ++ [x]) := RtCnt h fun q => by
  rw [cnt_cons, cnt_app]
  by_cases h : x = q
  · subst h; simp
  · simp [h, Ne.symm h]
theorem cnt_cons' (x : Int) (l : List Int) (q : Int) : cnt (x :: l) q = cnt l q + if q = x ∧ x ≠ 0 then 1 else 0 := by
  rw [cnt_cons]
  by_cases h : x = q
  · subst h; simp
  · simp [h, Ne.symm h]
theorem Rt_share {G : Gh} {l : List Int} {q : Int} (h : Rt G l) (hq : q ∈ l) : ∃ G', shareS (mkG G) q = mkG G' ∧ Rt G' (q :: l) ∧ G'.R = G.R ∧ G'.L = G.L ∧ G'.D = G.D := by
  obtain ⟨G', V', e, e1, e2, e3, e4, e5, e6⟩ := share_mk h.V (RtRt h hq)
  exact ⟨G', e, ⟨V', fun p => by rw [e4]; exact h.eL p, fun p => by rw [e5]; exact h.eB p, fun p => by rw [e6, h.eR, cnt_cons']⟩, e1, e2, e3⟩
theorem Rt_unR {G : Gh} {l l' : List Int} {q : Int} (h : Rt G l) (hq : q ∈ l) (hc : ∀ p, cnt l p = cnt l' p + if p = q ∧ q ≠ 0 then 1 else 0) : ∃ G', unR (mkG G) q = mkG G' ∧ Rt G' l' ∧ LessR G G' := by
  obtain ⟨G', V', e, s, e3⟩ := unR_mk h.V (q := q) fun h0 => by rw [h.eR]; exact cnt_mem hq h0
  exact ⟨G', e, ⟨V', fun p => by rw [s.eL]; exact h.eL p, fun p => by rw [s.eB]; exact h.eB p, fun p => by rw [e3, h.eR, hc]; omega⟩, s⟩
/-- what all roots of a list have is as before -/
def keeps (G G' : Gh) (rs : List Int) : Prop := ∀ r ∈ rs, ∀ i, i < 16 → getS (mkG G') r i = getS (mkG G) r i
theorem keeps_less {G G' : Gh} {l l' : List Int} (h : Rt G l) (h' : Rt G' l') (s : LessR G G') (rs : List Int) (hr : ∀ r ∈ rs, r ∈ l') : keeps G G' rs := fun r hrr i hi => (get_same h'.V h.V s.R s.L s.D (RtRt h' (hr r hrr)) hi).symm
theorem put1_ok {G : Gh} {root : Int} {rs : List Int} {at_ : Nat} {d : Bytes} (h : Rt G (root :: rs)) (hl : rs.length ≤ 8) (ha : at_ < 16) (hE : (setE (mkG G) root at_ d).2 = 0) :
    ∃ G1 G2, setS (mkG G) root at_ d = mkG G1 ∧ okS 200 (mkG G1) ∧ rt G1 root ∧ Val G1 ∧ unR (mkG G1) root = mkG G2 ∧ Rt G2 ((setE (mkG G) root at_ d).1 :: rs) ∧
      (∀ i, i < 16 → getS (mkG G2) (setE (mkG G) root at_ d).1 i = if i = at_ then d else getS (mkG G) root i) ∧ keeps G G2 rs := by
  obtain ⟨G1, e1, o⟩ := set_mk h.V (RtRt h (List.mem_cons_self ..)) ha (Prod.ext rfl hE : setE (mkG G) root at_ d = ((setE (mkG G) root at_ d).1, 0))
  have h1 := RtSet h o
  obtain ⟨G2, e2, h2, s⟩ := Rt_unR (l' := (setE (mkG G) root at_ d).1 :: rs) h1 (q := root) (by simp) fun p => by
    rw [cnt_app, cnt_cons', cnt_cons']; omega
  have k2 := keeps_less h1 h2 s ((setE (mkG G) root at_ d).1 :: rs) fun r hr => hr
  refine ⟨G1, G2, e1, RtOk h1 (by simp; omega), RtRt h1 (by simp), h1.V, e2, h2, fun i hi => ?_, fun r hr i hi => ?_⟩
  · rw [k2 _ (List.mem_cons_self ..) i hi]; exact o.get i hi
  · rw [k2 _ (List.mem_cons_of_mem _ hr) i hi]
    exact get_same h.V o.V o.R o.L o.D (RtRt h (List.mem_cons_of_mem _ hr)) hi
theorem put1_err {z : SI × Int} {at_ : Nat} {d : Bytes} {e : Int} (h : put1 z at_ d = .error e) : 0 < e := by
  unfold put1 at h
  split at h
  · cases h
  · injection h with h; have := setE_nn z.1 z.2 at_ d; omega
theorem cutF_err : ∀ (l : List Nat) {z : SI × Int} {e : Int}, cutF z l = .error e → 0 < e
  | [], z, e, h => by simp [cutF] at h
  | a :: l, z, e, h => by
    unfold cutF at h
    cases hp : put1 z a [] with
    | ok z' => rw [hp] at h; exact cutF_err l h
    | error e' => rw [hp] at h; injection h with h; subst h; exact put1_err hp
theorem putsF_err {size : Int} : ∀ (l : List PutM) {z : SI × Int} {e : Int}, putsF size z l = .error e → 0 < e
  | [], z, e, h => by simp [putsF] at h
  | p :: l, z, e, h => by
    unfold putsF at h
    split at h
    · injection h with h; omega
    · split at h
      · exact putsF_err l h
      · cases hp : put1 z p.at_.toNat p.data with
        | ok z' => rw [hp] at h; exact putsF_err l h
        | error e' => rw [hp] at h; injection h with h; subst h; exact put1_err hp
theorem baseF_err {S : SI} {L : List Pt} {base disk size e : Int} (h : baseF S L base disk size = .error e) : 0 < e := by
  unfold baseF at h
  split at h
  · cases h
  · split at h
    · injection h with h; omega
    · split at h
      · injection h with h; omega
      · exact cutF_err _ h
theorem addE_nn (L : List Pt) (n : Int) : addE L n = 0 ∨ addE L n = 8 := by unfold addE; split <;> simp
theorem ingF_err {S : SI} {L : List Pt} {n base disk size e : Int} {puts : List PutM} (h : ingF S L n base disk size puts = .error e) : 0 < e := by
  unfold ingF at h
  split at h
  · injection h with h; omega
  · cases hb : baseF S L base disk size with
    | error e' => rw [hb] at h; injection h with h; subst h; exact baseF_err hb
    | ok z =>
      rw [hb] at h
      simp only at h
      cases hp : putsF size z puts with
      | error e' => rw [hp] at h; injection h with h; subst h; exact putsF_err _ hp
      | ok z' =>
        rw [hp] at h
        simp only at h
        split at h
        · injection h with h; have := addE_nn L n; omega
        · cases h
theorem cutF_ok {rs : List Int} (hl : rs.length ≤ 8) : ∀ (l : List Nat) {G : Gh} {root : Int} {z : SI × Int}, Rt G (root :: rs) → (∀ a ∈ l, a < 16) → cutF (mkG G, root) l = .ok z →
    ∃ G', z.1 = mkG G' ∧ Rt G' (z.2 :: rs) ∧ (∀ i, i < 16 → getS (mkG G') z.2 i = if i ∈ l then [] else getS (mkG G) root i) ∧ keeps G G' rs
  | [], G, root, z, h, _, e => by
    simp only [cutF] at e
    injection e with e
    subst e
    exact ⟨G, rfl, h, fun i _ => by simp, fun r _ i _ => rfl⟩
  | a :: l, G, root, z, h, ha, e => by
    unfold cutF at e
    cases hp : put1 (mkG G, root) a [] with
    | error e' => rw [hp] at e; cases e
    | ok z' =>
      rw [hp] at e
      simp only at e
      unfold put1 at hp
      split at hp
      · rename_i hE
        injection hp with hp
        obtain ⟨G1, G2, e1, o1, r1, v1, e2, h2, g2, k2⟩ := put1_ok h hl (ha a (by simp)) hE
        simp only at hp e1
        rw [e1, e2] at hp
        subst hp
        obtain ⟨G', hz, h', g', k'⟩ := cutF_ok hl l h2 (fun b hb => ha b (List.mem_cons_of_mem _ hb)) e
        refine ⟨G', hz, h', fun i hi => ?_, fun r hr i hi => by rw [k' r hr i hi, k2 r hr i hi]⟩
        rw [g' i hi, g2 i hi]
        by_cases h5 : i ∈ l
        · simp [h5]
        · by_cases h6 : i = a
          · simp [h6]
          · simp [h5, h6]
      · cases hp
/-- the last one at a place counts -/
def lastP (l : List PutM) (i : Nat) (d : Bytes) : Bytes := l.foldl (fun d p => if p.at_ = (i : Int) then p.data else d) d
theorem putsF_ok {size : Int} (hs : size ≤ 16) {rs : List Int} (hl : rs.length ≤ 8) : ∀ (l : List PutM) {G : Gh} {root : Int} {z : SI × Int}, Rt G (root :: rs) → putsF size (mkG G, root) l = .ok z →
    ∃ G', z.1 = mkG G' ∧ Rt G' (z.2 :: rs) ∧ (∀ i, i < 16 → getS (mkG G') z.2 i = lastP l i (getS (mkG G) root i)) ∧ keeps G G' rs ∧ ∀ p ∈ l, 0 ≤ p.at_ ∧ p.at_ < size
  | [], G, root, z, h, e => by
    simp only [putsF] at e
    injection e with e
    subst e
    exact ⟨G, rfl, h, fun i _ => rfl, (fun r _ i _ => rfl), fun p hp => by simp at hp⟩
  | p :: l, G, root, z, h, e => by
    unfold putsF at e
    split at e
    · cases e
    · rename_i hb
      have hb2 : 0 ≤ p.at_ ∧ p.at_ < size := by omega
      have hcast : ∀ i : Nat, i = p.at_.toNat ↔ p.at_ = (i : Int) := fun i => by omega
      split at e
      · rename_i hg
        obtain ⟨G', hz, h', g', k', b'⟩ := putsF_ok hs hl l h e
        refine ⟨G', hz, h', fun i hi => ?_, k', fun q hq => ?_⟩
        · rw [g' i hi]
          unfold lastP
          rw [List.foldl_cons]
          by_cases h6 : p.at_ = (i : Int)
          · rw [if_pos h6, ← hg, ← (hcast i).2 h6]
          · rw [if_neg h6]
        · rcases List.mem_cons.1 hq with rfl | hq
          · exact hb2
          · exact b' q hq
      · cases hp : put1 (mkG G, root) p.at_.toNat p.data with
        | error e' => rw [hp] at e; cases e
        | ok z' =>
          rw [hp] at e
          simp only at e
          unfold put1 at hp
          split at hp
          · rename_i hE
            injection hp with hp
            obtain ⟨G1, G2, e1, o1, r1, v1, e2, h2, g2, k2⟩ := put1_ok h hl (by omega) hE
            simp only at hp e1
            rw [e1, e2] at hp
            subst hp
            obtain ⟨G', hz, h', g', k', b'⟩ := putsF_ok hs hl l h2 e
            refine ⟨G', hz, h', fun i hi => ?_, fun r hr i hi => by rw [k' r hr i hi, k2 r hr i hi], fun q hq => ?_⟩
            · rw [g' i hi, g2 i hi]
              unfold lastP
              rw [List.foldl_cons]
              by_cases h6 : p.at_ = (i : Int)
              · rw [if_pos h6, if_pos ((hcast i).2 h6)]
              · rw [if_neg h6, if_neg (fun h => h6 ((hcast i).1 h))]
            · rcases List.mem_cons.1 hq with rfl | hq
              · exact hb2
              · exact b' q hq
          · cases hp
theorem findP_mem {L : List Pt} {id : Int} {p : Pt} (h : findP L id = some p) : p.root ∈ L.map (·.root) := List.mem_map.2 ⟨p, (findP_some h).1, rfl⟩
theorem baseF_ok {S : SI} {L : List Pt} {n base disk size : Int} {G : Gh} {z : SI × Int} (h : Vok S L n G) (hs : 1 ≤ size ∧ size ≤ 16) (e : baseF S L base disk size = .ok z) :
    ∃ G', z.1 = mkG G' ∧ Rt G' (z.2 :: L.map (·.root)) ∧ keeps G G' (L.map (·.root)) ∧
      ∀ i : Nat, i < 16 → getS (mkG G') z.2 i = match (if base = 0 then none else findP L base) with | none => [] | some p => if size ≤ (i : Int) ∧ (i : Int) < p.size then [] else getS S p.root i := by
  have hlen : (L.map (·.root)).length ≤ 8 := by have := h.len; simp; omega
  have hS := h.e
  subst hS
  unfold baseF at e
  by_cases hb : base = 0
  · rw [if_pos hb] at e
    injection e with e
    subst e
    refine ⟨G, rfl, Rt_zero h.rt, (fun r _ i _ => rfl), fun i _ => ?_⟩
    rw [if_pos hb, getS_dv, g0_kat h.rt.V, g0_kat h.rt.V, dv_0 h.rt.V]
  · rw [if_neg hb] at e ⊢
    cases hf : findP L base with
    | none => rw [hf] at e; cases e
    | some p =>
      rw [hf] at e
      simp only at e ⊢
      split at e
      · cases e
      · obtain ⟨hpm, hpi⟩ := findP_some hf
        have hps := (h.pts p hpm).2.2
        obtain ⟨G1, e1, h1, q1, q2, q3⟩ := Rt_share h.rt (findP_mem hf)
        rw [e1] at e
        obtain ⟨G', hz, h', g', k'⟩ := cutF_ok hlen _ h1 (fun a ha => by rw [List.mem_range'_1] at ha; omega) e
        have same : ∀ r ∈ L.map (·.root), ∀ i, i < 16 → getS (mkG G1) r i = getS (mkG G) r i := fun r hr i hi => get_same h.rt.V h1.V (by rw [q1]; exact ndSub.rfl) (by rw [q2]; exact ndSub.rfl) (by rw [q3]; exact dSub.rfl) (RtRt h.rt hr) hi
        refine ⟨G', hz, h', fun r hr i hi => by rw [k' r hr i hi, same r hr i hi], fun i hi => ?_⟩
        rw [g' i (by omega), same _ (findP_mem hf) i (by omega)]
        have : i ∈ List.range' size.toNat (p.size.toNat - size.toNat) ↔ size ≤ (i : Int) ∧ (i : Int) < p.size := by rw [List.mem_range'_1]; omega
        simp only [this]
theorem Vok_add {S : SI} {L : List Pt} {n disk size root : Int} {G G' : Gh} (h : Vok S L n G) (h' : Rt G' (root :: L.map (·.root))) (ha : addE L n = 0) (hd : 1 ≤ disk ∧ disk ≤ 999) (hs : 1 ≤ size ∧ size ≤ 16) : Vok (mkG G') (L ++ [⟨n, disk, size, root⟩]) (n + 1) G' := by
  unfold addE at ha
  have ha : ¬ (L.length = 6 ∨ 999 < n) := fun hh => by rw [if_pos hh] at ha; cases ha
  have hl := h.len
  have hn := h.n1
  refine ⟨rfl, ?_, by simp; omega, by omega, fun p hp => ?_, ?_⟩
  · rw [List.map_append]; exact Rt_app h'
  · rcases List.mem_append.1 hp with hp | hp
    · have := h.pts p hp; omega
    · rw [List.mem_singleton] at hp
      subst hp
      simp only
      omega
  · rw [List.pairwise_append]
    refine ⟨h.srt, List.pairwise_singleton _ _, fun a ha b hb => ?_⟩
    rw [List.mem_singleton] at hb
    subst hb
    exact (h.pts a ha).1.2
theorem ingF_ok {S : SI} {L : List Pt} {n base disk size : Int} {puts : List PutM} {G : Gh} {S' : SI} {L' : List Pt} {n' r : Int} (h : Vok S L n G) (e : ingF S L n base disk size puts = .ok (S', L', n', r)) :
    ∃ G' root, Vok S' L' n' G' ∧ keeps G G' (L.map (·.root)) ∧ L' = L ++ [⟨n, disk, size, root⟩] ∧ n' = n + 1 ∧ r = n ∧ (1 ≤ disk ∧ disk ≤ 999) ∧ (1 ≤ size ∧ size ≤ 16) ∧ (∀ p ∈ puts, 0 ≤ p.at_ ∧ p.at_ < size) ∧
      ∀ i : Nat, i < 16 → getS S' root i = lastP puts i (match (if base = 0 then none else findP L base) with | none => [] | some p => if size ≤ (i : Int) ∧ (i : Int) < p.size then [] else getS S p.root i) := by
  unfold ingF at e
  split at e
  · cases e
  · rename_i hbd
    have hlen : (L.map (·.root)).length ≤ 8 := by have := h.len; simp; omega
    cases hb : baseF S L base disk size with
    | error e' => rw [hb] at e; cases e
    | ok z =>
      rw [hb] at e
      simp only at e
      obtain ⟨z1, z2⟩ := z
      obtain ⟨G1, hz, h1, k1, g1⟩ := baseF_ok h (by omega) hb
      simp only at hz
      subst hz
      cases hp : putsF size (mkG G1, z2) puts with
      | error e' => rw [hp] at e; cases e
      | ok z' =>
        rw [hp] at e
        simp only at e
        obtain ⟨y1, y2⟩ := z'
        obtain ⟨G2, hy, h2, g2, k2, b2⟩ := putsF_ok (by omega) hlen puts h1 hp
        simp only at hy
        subst hy
        split at e
        · cases e
        · rename_i ha
          injection e with e
          injection e with e1 e
          injection e with e2 e
          injection e with e3 e4
          subst e1 e2 e3 e4
          refine ⟨G2, y2, Vok_add h h2 (Decidable.not_not.1 ha) (by omega) (by omega), fun r hr i hi => by rw [k2 r hr i hi, k1 r hr i hi], rfl, rfl, rfl, by omega, by omega, b2, fun i hi => ?_⟩
          rw [g2 i (by omega), g1 i hi]
theorem agnF_ok {S : SI} {L : List Pt} {n id : Int} {G : Gh} {S' : SI} {L' : List Pt} {n' r : Int} (h : Vok S L n G) (e : agnF S L n id = .ok (S', L', n', r)) :
    ∃ G' p, Vok S' L' n' G' ∧ findP L id = some p ∧ keeps G G' (L.map (·.root)) ∧ L' = L ++ [⟨n, p.disk, p.size, p.root⟩] ∧ n' = n + 1 ∧ r = n := by
  unfold agnF at e
  cases hf : findP L id with
  | none => rw [hf] at e; cases e
  | some p =>
    rw [hf] at e
    simp only at e
    split at e
    · cases e
    · rename_i ha
      injection e with e
      injection e with e1 e
      injection e with e2 e
      injection e with e3 e4
      subst e1 e2 e3 e4
      obtain ⟨hpm, hpi⟩ := findP_some hf
      have hps := h.pts p hpm
      have hS := h.e
      subst hS
      obtain ⟨G1, e1, h1, q1, q2, q3⟩ := Rt_share h.rt (findP_mem hf)
      rw [e1]
      exact ⟨G1, p, Vok_add h h1 (Decidable.not_not.1 ha) hps.2.1 hps.2.2, rfl, fun r hr i hi => get_same h.rt.V h1.V (by rw [q1]; exact ndSub.rfl) (by rw [q2]; exact ndSub.rfl) (by rw [q3]; exact dSub.rfl) (RtRt h.rt hr) hi, rfl, rfl, rfl⟩
theorem cnt_filter {L : List Pt} {p : Pt} (hs : L.Pairwise fun a b => a.id < b.id) (hp : p ∈ L) (q : Int) : cnt (L.map (·.root)) q = cnt ((L.filter fun x => !decide (x.id = p.id)).map (·.root)) q + if q = p.root ∧ p.root ≠ 0 then 1 else 0 := by
  induction L with
  | nil => simp at hp
  | cons a L ih =>
    rw [List.pairwise_cons] at hs
    rw [List.map_cons, cnt_cons']
    rcases List.mem_cons.1 hp with rfl | hp
    · have hall : L.filter (fun x => !decide (x.id = p.id)) = L := List.filter_eq_self.2 fun b hb => by have := hs.1 b hb; simp; omega
      rw [List.filter_cons_of_neg (by simp), hall]
    · have := hs.1 p hp
      rw [List.filter_cons_of_pos (by simp; omega), List.map_cons, cnt_cons', ih hs.2 hp]
      omega
theorem drpF_ok {S : SI} {L : List Pt} {n id : Int} {G : Gh} {S' : SI} {L' : List Pt} {n' r : Int} (h : Vok S L n G) (e : drpF S L n id = .ok (S', L', n', r)) :
    ∃ G' p, Vok S' L' n' G' ∧ findP L id = some p ∧ keeps G G' (L'.map (·.root)) ∧ L' = L.filter (fun x => !decide (x.id = id)) ∧ n' = n ∧ r = 0 := by
  unfold drpF at e
  cases hf : findP L id with
  | none => rw [hf] at e; cases e
  | some p =>
    rw [hf] at e
    simp only at e
    injection e with e
    injection e with e1 e
    injection e with e2 e
    injection e with e3 e4
    subst e1 e2 e3 e4
    obtain ⟨hpm, hpi⟩ := findP_some hf
    have hS := h.e
    subst hS
    subst hpi
    obtain ⟨G1, e1, h1, s1⟩ := Rt_unR (l' := (L.filter fun x => !decide (x.id = p.id)).map (·.root)) h.rt (findP_mem hf) (cnt_filter h.srt hpm)
    rw [e1]
    refine ⟨G1, p, ⟨rfl, h1, Nat.le_trans (List.length_filter_le _ _) h.len, h.n1, fun x hx => h.pts x (List.mem_filter.1 hx).1, List.Pairwise.sublist List.filter_sublist h.srt⟩, rfl, keeps_less h.rt h1 s1 _ fun r hr => hr, rfl, rfl, rfl⟩
theorem Vok_z : Vok (mkG gZ) [] 1 gZ := ⟨rfl, Rt_unzero RtZ, by simp, by omega, (fun p hp => by simp at hp), List.Pairwise.nil⟩
theorem Vok_ok {S : SI} {L : List Pt} {n : Int} {G : Gh} (h : Vok S L n G) : okS 200 S := by rw [h.e]; exact RtOk h.rt (by have := h.len; simp; omega)
/-- nothing stands behind a point's end -/
def Top (S : SI) (L : List Pt) : Prop := ∀ p ∈ L, ∀ i : Nat, p.size ≤ (i : Int) → i < 16 → getS S p.root i = []
theorem lastP_out {puts : List PutM} {size : Int} (h : ∀ p ∈ puts, 0 ≤ p.at_ ∧ p.at_ < size) {i : Nat} (hi : size ≤ (i : Int)) : ∀ d : Bytes, lastP puts i d = d := by
  unfold lastP
  induction puts with
  | nil => intro d; rfl
  | cons p l ih =>
    intro d
    have := h p (by simp)
    rw [List.foldl_cons, if_neg (by omega)]
    exact ih (fun q hq => h q (List.mem_cons_of_mem _ hq)) d
theorem Top_keeps {G G' : Gh} {L : List Pt} (h : Top (mkG G) L) (k : keeps G G' (L.map (·.root))) : Top (mkG G') L := fun p hp i h1 h2 => by
  rw [k _ (List.mem_map.2 ⟨p, hp, rfl⟩) i h2]; exact h p hp i h1 h2
theorem ingF_top {S : SI} {L : List Pt} {n base disk size : Int} {puts : List PutM} {G : Gh} {S' : SI} {L' : List Pt} {n' r : Int} (h : Vok S L n G) (t : Top S L) (e : ingF S L n base disk size puts = .ok (S', L', n', r)) : Top S' L' := by
  obtain ⟨G', root, h', k', e1, _, _, _, hs, hp, g⟩ := ingF_ok h e
  have hS := h.e
  subst hS
  have hS' := h'.e
  subst hS'
  rw [e1]
  intro p hpm i h1 h2
  rcases List.mem_append.1 hpm with hpm | hpm
  · exact Top_keeps t k' p hpm i h1 h2
  · rw [List.mem_singleton] at hpm
    subst hpm
    simp only at h1 ⊢
    rw [g i h2, lastP_out hp h1]
    split
    · rfl
    · rename_i q hq
      split
      · rfl
      · rename_i hn
        have hqm : q ∈ L := by
          by_cases hb : base = 0
          · rw [if_pos hb] at hq; cases hq
          · rw [if_neg hb] at hq; exact (findP_some hq).1
        exact t q hqm i (by omega) h2
theorem agnF_top {S : SI} {L : List Pt} {n id : Int} {G : Gh} {S' : SI} {L' : List Pt} {n' r : Int} (h : Vok S L n G) (t : Top S L) (e : agnF S L n id = .ok (S', L', n', r)) : Top S' L' := by
  obtain ⟨G', q, h', hf, k', e1, _⟩ := agnF_ok h e
  have hS := h.e
  subst hS
  have hS' := h'.e
  subst hS'
  rw [e1]
  intro p hpm i h1 h2
  rcases List.mem_append.1 hpm with hpm | hpm
  · exact Top_keeps t k' p hpm i h1 h2
  · rw [List.mem_singleton] at hpm
    subst hpm
    exact Top_keeps t k' q (findP_some hf).1 i h1 h2
theorem drpF_top {S : SI} {L : List Pt} {n id : Int} {G : Gh} {S' : SI} {L' : List Pt} {n' r : Int} (h : Vok S L n G) (t : Top S L) (e : drpF S L n id = .ok (S', L', n', r)) : Top S' L' := by
  obtain ⟨G', q, h', hf, k', e1, _⟩ := drpF_ok h e
  have hS := h.e
  subst hS
  have hS' := h'.e
  subst hS'
  refine Top_keeps (fun p hp i h1 h2 => t p ?_ i h1 h2) k'
  rw [e1] at hp
  exact (List.mem_filter.1 hp).1
theorem Top_z : Top (mkG gZ) [] := fun p hp => by simp at hp
/-- what a vault's functions yield -/
def vR (b : Nat → SI → List Pt → Int → HProp) (Ev : Int → Value) (p : Nat) (F : List HProp) (R : VR) : Value → List HProp → Prop := fun v L' => match R with
  | .ok (S, L, n, r) => v = .tuple #[I r, Ev 0] ∧ L' = b p S L n :: F
  | .error e => v = .tuple #[I 0, Ev e] ∧ L' = F
def vR1 (b : Nat → SI → List Pt → Int → HProp) (Ev : Int → Value) (p : Nat) (F : List HProp) (R : VR) : Value → List HProp → Prop := fun v L' => match R with
  | .ok (S, L, n, _) => v = Ev 0 ∧ L' = b p S L n :: F
  | .error e => v = Ev e ∧ L' = F
def baseV (S : SI) (L : List Pt) (n base disk size : Int) : VR := match baseF S L base disk size with
  | .ok z => .ok (z.1, L, n, z.2)
  | .error e => .error e
def addL (L : List Pt) (n disk size root : Int) : List Pt := if addE L n = 0 then L ++ [⟨n, disk, size, root⟩] else L
def addN (L : List Pt) (n : Int) : Int := if addE L n = 0 then n + 1 else n
def addI (L : List Pt) (n : Int) : Int := if addE L n = 0 then n else 0
/-! ### Memory -/
def vaP (b : Nat) (S : SI) (L : List Pt) (n : Int) (z : Nat × Option Addr × Nat) : List HProp := [pt b (.cells #[ptr z.1 0, sl z.2.1 L.length z.2.2, I n] 47 (0, 0)), ixl z.1 S, owL 55 4 z.2.1 z.2.2 (ptR L)]
/-- a vault at b -/
def vlt (b : Nat) (S : SI) (L : List Pt) (n : Int) : HProp := hx (vaP b S L n)
section
variable {c : Cx} {E : Env} {L : List HProp} {K : List KI}
theorem g_openV {F : List HProp} (b : Nat) (S : SI) (P : List Pt) (n : Int) [R : Rem L (vlt b S P n) F] (k : ∀ x s cc, G c K E (pt b (.cells #[ptr x 0, sl s P.length cc, I n] 47 (0, 0)) :: ixl x S :: owL 55 4 s cc (ptR P) :: F)) : G c K E L := g_open (vlt b S P n) rfl fun z => k z.1 z.2.1 z.2.2
theorem g_shutV {F : List HProp} (b x : Nat) (s : Option Addr) (cc : Nat) (S : SI) (P : List Pt) (n : Int) [Sp : Split L [pt b (.cells #[ptr x 0, sl s P.length cc, I n] 47 (0, 0)), ixl x S, owL 55 4 s cc (ptR P)] F] (k : G c K E (vlt b S P n :: F)) : G c K E L :=
  g_pack (A := vaP b S P n) [pt b (.cells #[ptr x 0, sl s P.length cc, I n] 47 (0, 0)), ixl x S, owL 55 4 s cc (ptR P)] (vlt b S P n) (x, s, cc) rfl rfl k
theorem g_nones {F : List HProp} {R : VR} {vs : List Value} {b : Nat → SI → List Pt → Int → HProp} {Ev : Int → Value} {p : Nat} {e : Int} (hR : c.R = vR b Ev p F R) (he : R = .error e) (hr : resOf E c.fn.results.toList = some vs) (hv : tup vs = .tuple #[I 0, Ev e]) [S : Sub L F] (hds : c.n.ds = [] := by rfl) : G c (.code .ret :: K) E L :=
  fun a w hE hS => wp_ret (kq_ret (res_fpost (hds := hds) hr hE (S.sat hS) (by rw [hR, he]; exact ⟨hv, rfl⟩)))
theorem g_somes {F : List HProp} {R : VR} {vs : List Value} {b : Nat → SI → List Pt → Int → HProp} {Ev : Int → Value} {p : Nat} {S : SI} {P : List Pt} {n r : Int} (hR : c.R = vR b Ev p F R) (he : R = .ok (S, P, n, r)) (hr : resOf E c.fn.results.toList = some vs) (hv : tup vs = .tuple #[I r, Ev 0]) [Su : Sub L (b p S P n :: F)] (hds : c.n.ds = [] := by rfl) : G c (.code .ret :: K) E L :=
  fun a w hE hS => wp_ret (kq_ret (res_fpost (hds := hds) hr hE (Su.sat hS) (by rw [hR, he]; exact ⟨hv, rfl⟩)))
theorem g_nones1 {F : List HProp} {R : VR} {vs : List Value} {b : Nat → SI → List Pt → Int → HProp} {Ev : Int → Value} {p : Nat} {e : Int} (hR : c.R = vR1 b Ev p F R) (he : R = .error e) (hr : resOf E c.fn.results.toList = some vs) (hv : tup vs = Ev e) [S : Sub L F] (hds : c.n.ds = [] := by rfl) : G c (.code .ret :: K) E L :=
  fun a w hE hS => wp_ret (kq_ret (res_fpost (hds := hds) hr hE (S.sat hS) (by rw [hR, he]; exact ⟨hv, rfl⟩)))
theorem g_somes1 {F : List HProp} {R : VR} {vs : List Value} {b : Nat → SI → List Pt → Int → HProp} {Ev : Int → Value} {p : Nat} {S : SI} {P : List Pt} {n r : Int} (hR : c.R = vR1 b Ev p F R) (he : R = .ok (S, P, n, r)) (hr : resOf E c.fn.results.toList = some vs) (hv : tup vs = Ev 0) [Su : Sub L (b p S P n :: F)] (hds : c.n.ds = [] := by rfl) : G c (.code .ret :: K) E L :=
  fun a w hE hS => wp_ret (kq_ret (res_fpost (hds := hds) hr hE (Su.sat hS) (by rw [hR, he]; exact ⟨hv, rfl⟩)))
theorem g_ownTake {T sz cap : Nat} {rows : List (List Value)} {F : List HProp} (s : Option Addr) (n : Nat) [R : OwR L s T sz cap rows F] (k : G c K E (owL T sz s cap (rows.take n) :: F)) : G c K E L := fun a w hE hS => k a w hE ((R.sat hS).weak fun m hm => by
  rcases hm with ⟨rfl, rfl, rfl⟩ | ⟨b, cs, hs, hm, h1, h2, h3, h4⟩
  · exact .inl ⟨rfl, by simp, rfl⟩
  · refine .inr ⟨b, cs, hs, hm, h1, by simp; omega, fun r hr => h3 r (List.mem_of_mem_take hr), fun j row hj f v hf => h4 j row ?_ f v hf⟩
    rw [List.getElem?_take] at hj
    split at hj
    · exact hj
    · cases hj)
end

end Go.Proofs.YthdjckbjjfiopacGreatDoor
