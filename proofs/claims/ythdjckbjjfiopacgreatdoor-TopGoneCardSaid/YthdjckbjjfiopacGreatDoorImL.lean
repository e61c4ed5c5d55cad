/- Rows of a vault: what is read of them is what was written, and the other way round. Plain laws. No condition. -/
import Derived.Test.YthdjckbjjfiopacGreatDoorImM
namespace Go.Proofs.YthdjckbjjfiopacGreatDoor
open Go.Sl Go.Proofs
set_option linter.unusedVariables false
set_option linter.unusedSimpArgs false
theorem kl_cons (x : UInt8) (a b : Bytes) : kl (x :: a) (x :: b) = kl a b := by
  show (decide (x < x) || (x == x && Op.bytesLess a b)) = Op.bytesLess a b
  simp
theorem dgt_lt {a b : Nat} (ha : a < 10) (hb : b < 10) : (dgt a < dgt b) ↔ a < b := by
  rw [UInt8.lt_iff_toNat_lt, dgt_nat ha, dgt_nat hb]; omega
theorem dgt_eq {a b : Nat} (ha : a < 10) (hb : b < 10) : (dgt a = dgt b) ↔ a = b := by
  rw [← UInt8.toNat_inj, dgt_nat ha, dgt_nat hb]; omega
theorem kl_thr {a b : Int} (ha : 0 ≤ a ∧ a ≤ 999) (hb : 0 ≤ b ∧ b ≤ 999) : kl (thr a) (thr b) = true ↔ a < b := by
  obtain ⟨u, rfl⟩ : ∃ u : Nat, a = u := ⟨a.toNat, by omega⟩
  obtain ⟨v, rfl⟩ : ∃ v : Nat, b = v := ⟨b.toNat, by omega⟩
  rw [thr_eq (by omega), thr_eq (by omega)]
  simp only [kl, Op.bytesLess, Bool.or_eq_true, Bool.and_eq_true, decide_eq_true_eq, beq_iff_eq]
  rw [dgt_lt (by omega) (by omega), dgt_lt (by omega) (by omega), dgt_lt (by omega) (by omega), dgt_eq (by omega) (by omega), dgt_eq (by omega) (by omega), dgt_eq (by omega) (by omega)]
  simp only [Bool.false_eq_true, and_false, or_false]
  omega
theorem kl_bn (a b : Bytes) : kl (98 :: a) (110 :: b) = true := rfl
theorem kl_bp (a b : Bytes) : kl (98 :: a) (112 :: b) = true := rfl
theorem kl_bx (a b : Bytes) : kl (98 :: a) (120 :: b) = true := rfl
theorem kl_np (a b : Bytes) : kl (110 :: a) (112 :: b) = true := rfl
theorem kl_nx (a b : Bytes) : kl (110 :: a) (120 :: b) = true := rfl
theorem kl_px (a b : Bytes) : kl (112 :: a) (120 :: b) = true := rfl
theorem ids_cut {ρ : Type} {m n : Nat} {B : Int → Option ρ} (hmn : m ≤ n) (h : sup m B) : ids n B = ids m B := by
  unfold ids
  rw [show n = m + (n - m) by omega, List.range'_append_1.symm, List.filter_append]
  have : (List.range' (1 + m) (n - m)).filter (fun k : Nat => (B (k : Int)).isSome) = [] := List.filter_eq_nil_iff.2 fun j hj hh => by
    rw [List.mem_range'_1] at hj
    obtain ⟨x, hx⟩ := Option.isSome_iff_exists.1 hh
    have := h _ x hx
    omega
  rw [this, List.append_nil]
theorem tb_cut {ρ : Type} {enc : ρ → Value} {m n : Nat} {B : Int → Option ρ} (hmn : m ≤ n) (h : sup m B) : tb enc n B = tb enc m B := by
  unfold tb tbl
  rw [show n = m + (n - m) by omega, List.range'_append_1.symm, List.filterMap_append]
  have : (List.range' (1 + m) (n - m)).filterMap (fun k : Nat => (B (k : Int)).map fun x => ((k : Int), enc x)) = [] := List.filterMap_eq_nil_iff.2 fun j hj => by
    rw [List.mem_range'_1] at hj
    cases hx : B (j : Int) with
    | none => rfl
    | some x => have := h _ x hx; omega
  rw [this, List.append_nil]
/-! ### What was read -/
def lstP (st : PS) (hx : Bool) : List ChangeM := bRows 999 st.B ++ nRows 999 st.N ++ st.L.map pRow ++ if hx then [xRow st.n] else []
structure Inv (pre : List ChangeM) (st : PS) (hx : Bool) : Prop where
  e : pre = lstP st hx
  x : hx = false → st.n = 0
  ok : Pok st
  srt : st.L.Pairwise fun a b => a.id < b.id
theorem rowF_key {st st' : PS} {c : ChangeM} (hx : c.key ≠ [120]) (e : rowF st c = some st') : ∃ id y, (1 ≤ id ∧ id ≤ 999) ∧ c.key = y :: thr id ∧ c.gone = false ∧ kF st id c = some st' := by
  unfold rowF at e
  rw [if_neg hx] at e
  split at e
  · cases e
  · rename_i h4
    split at e
    · rename_i id hid
      split at e
      · cases e
      · have h5 := (numsG_text hid)
        have h6 := h5.2 id (by simp)
        have hk4 : c.key.length = 4 := by omega
        obtain ⟨y, r, hy⟩ : ∃ y r, c.key = y :: r := by
          cases hk : c.key with
          | nil => rw [hk] at hk4; simp at hk4
          | cons y r => exact ⟨y, r, rfl⟩
        rw [hy] at h5 hk4
        simp only [List.drop_succ_cons, List.drop_zero, List.flatMap_cons, List.flatMap_nil, List.append_nil] at h5
        rw [List.drop_of_length_le (by simp at hk4; omega), List.append_nil] at h5
        refine ⟨id, y, by omega, by rw [hy, ← h5.1], ?_, e⟩
        cases hg : c.gone with
        | false => rfl
        | true => exact absurd (.inr hg) h4
    · cases e
/-! ### What was written -/
theorem pars_list (l : List ChangeM) (st : Nat → PS) (hs : srt l) (h : ∀ k c, l[k]? = some c → c.gone = false ∧ rowF (st k) c = some (st (k + 1))) : parsF none (st 0) l = some (st l.length) := by
  have key : ∀ (m k : Nat) (pv : Option Bytes), m + k = l.length → (∀ p, pv = some p → ∀ c, l[k]? = some c → kl p c.key = true) → parsF pv (st k) (l.drop k) = some (st l.length) := by
    intro m
    induction m with
    | zero => intro k pv hk _; rw [List.drop_of_length_le (by omega)]; simp only [parsF]; rw [show k = l.length by omega]
    | succ m ih =>
      intro k pv hk hp
      have hkl : k < l.length := by omega
      have hc : l[k]? = some l[k] := List.getElem?_eq_getElem hkl
      obtain ⟨h1, h2⟩ := h k _ hc
      rw [List.drop_eq_getElem_cons hkl]
      simp only [parsF]
      rw [if_neg, h2]
      · simp only
        refine ih (k + 1) _ (by omega) fun p hp' c hc' => ?_
        injection hp' with hp'
        subst hp'
        exact List.pairwise_iff_getElem.1 hs k (k + 1) hkl (List.getElem?_eq_some_iff.1 hc').1 (by omega) |> fun h9 => by rw [(List.getElem?_eq_some_iff.1 hc').2] at h9; exact h9
      · intro hh
        rcases hh with hh | hh
        · cases pv with
          | none => cases hh
          | some p =>
            have h3 := hp p rfl _ hc
            have hb : (kl l[k].key p || decide (l[k].key = p)) = true := hh
            rw [kl_asym h3, Bool.false_or, decide_eq_true_eq] at hb
            rw [hb, kl_irr] at h3
            cases h3
        · rw [h1] at hh; cases hh
  exact key l.length 0 none (by omega) (fun p hp => by cases hp)
def rst {ρ : Type} (B : Int → Option ρ) (l : List Int) : Int → Option ρ := fun q => if q ∈ l then B q else none
theorem rst_nil {ρ : Type} (B : Int → Option ρ) : rst B [] = fun _ => none := funext fun q => by simp [rst]
theorem rst_all {ρ : Type} {n : Nat} {B : Int → Option ρ} (h : sup n B) : rst B (ids n B) = B := funext fun q => by
  unfold rst
  split
  · rfl
  · rename_i hq
    cases e : B q with
    | none => rfl
    | some x => exact absurd (mem_ids.2 ⟨h q x e, by rw [e]; rfl⟩) hq
theorem rst_snoc {ρ : Type} {B : Int → Option ρ} {l : List Int} {q : Int} : pset (rst B l) q (B q) = rst B (l ++ [q]) := funext fun p => by
  unfold pset rst
  by_cases h : p = q
  · subst h; simp
  · simp [h]
theorem thr1 {id : Int} (h : 0 ≤ id ∧ id ≤ 999) (t : Bytes) : numsG 1 (thr id ++ t) = some [id] := by
  unfold numsG
  have := thr_len h
  rw [if_neg (by simp; omega)]
  have := numsF_mk (l := [id]) (k := 1) t rfl (by intro v hv; simp at hv; subst hv; exact h)
  simpa using this
theorem rowF_mk {st : PS} {c : ChangeM} {id : Int} {y : UInt8} (hid : 1 ≤ id ∧ id ≤ 999) (hk : c.key = y :: thr id) (hg : c.gone = false) : rowF st c = kF st id c := by
  have h3 := thr_len (n := id) (by omega)
  unfold rowF
  rw [if_neg (by rw [hk]; intro hh; injection hh with _ hh; rw [hh] at h3; simp at h3), if_neg (by rw [hk, hg]; simp [h3]), hk]
  simp only [List.drop_succ_cons, List.drop_zero]
  have := thr1 (id := id) (by omega) []
  rw [List.append_nil] at this
  rw [this]
  simp only
  rw [if_neg (by omega)]
/-- a vault's own rows are read as this vault -/
structure Wr (S : SI) (L : List Pt) (n : Int) : Prop where
  sB : sup 40 S.B
  sN : sup 24 S.N
  b : ∀ q x, S.B q = some x → (0 < x.2 ∧ x.2 ≤ 999) ∧ x.1 ≠ [] ∧ x.1.length ≤ 6
  nd : ∀ q m, S.N q = some m → (0 < m.refs ∧ m.refs ≤ 999) ∧ ∀ k ∈ kd m, 0 ≤ k ∧ k ≤ 999
  p : ∀ p ∈ L, (1 ≤ p.id ∧ p.id ≤ 999) ∧ (0 < p.disk ∧ p.disk ≤ 999) ∧ (0 < p.size ∧ p.size ≤ 16) ∧ (0 ≤ p.root ∧ p.root ≤ 999)
  n1 : 0 ≤ n ∧ n ≤ 1000
  srt : L.Pairwise fun a b => a.id < b.id
theorem srt_rows {S : SI} {L : List Pt} {n : Int} (h : Wr S L n) : srt (rowsF S L n) := by
  unfold rowsF srt
  have hb : ∀ c ∈ bRows 40 S.B, ∃ q, c.key = 98 :: thr q := fun c hc => by
    unfold bRows at hc; obtain ⟨q, _, rfl⟩ := List.mem_map.1 hc; exact ⟨q, rfl⟩
  have hn : ∀ c ∈ nRows 24 S.N, ∃ q, c.key = 110 :: thr q := fun c hc => by
    unfold nRows at hc; obtain ⟨q, _, rfl⟩ := List.mem_map.1 hc; exact ⟨q, rfl⟩
  have hp : ∀ c ∈ L.map pRow, ∃ q, c.key = 112 :: thr q := fun c hc => by
    obtain ⟨q, _, rfl⟩ := List.mem_map.1 hc; exact ⟨q.id, rfl⟩
  rw [List.pairwise_append, List.pairwise_append, List.pairwise_append]
  refine ⟨⟨⟨?_, ?_, fun a ha b hb' => ?_⟩, ?_, fun a ha b hb' => ?_⟩, List.pairwise_singleton _ _, fun a ha b hb' => ?_⟩
  · unfold bRows
    rw [List.pairwise_map]
    refine List.Pairwise.imp_of_mem ?_ (ids_sorted 40 S.B)
    intro a b ha hb' hab
    have h1 := (mem_ids.1 ha).1
    have h2 := (mem_ids.1 hb').1
    show kl (98 :: thr a) (98 :: thr b) = true
    rw [kl_cons]
    exact (kl_thr (by omega) (by omega)).2 hab
  · unfold nRows
    rw [List.pairwise_map]
    refine List.Pairwise.imp_of_mem ?_ (ids_sorted 24 S.N)
    intro a b ha hb' hab
    have h1 := (mem_ids.1 ha).1
    have h2 := (mem_ids.1 hb').1
    show kl (110 :: thr a) (110 :: thr b) = true
    rw [kl_cons]
    exact (kl_thr (by omega) (by omega)).2 hab
  · obtain ⟨q, e⟩ := hb a ha
    obtain ⟨r, e'⟩ := hn b hb'
    rw [e, e', kl_bn]
  · rw [List.pairwise_map]
    refine List.Pairwise.imp_of_mem ?_ h.srt
    intro a b ha hb' hab
    have h1 := (h.p a ha).1
    have h2 := (h.p b hb').1
    show kl (112 :: thr a.id) (112 :: thr b.id) = true
    rw [kl_cons]
    exact (kl_thr (by omega) (by omega)).2 hab
  · obtain ⟨r, e'⟩ := hp b hb'
    rcases List.mem_append.1 ha with ha | ha
    · obtain ⟨q, e⟩ := hb a ha; rw [e, e', kl_bp]
    · obtain ⟨q, e⟩ := hn a ha; rw [e, e', kl_np]
  · rw [List.mem_singleton] at hb'
    subst hb'
    rcases List.mem_append.1 ha with ha | ha
    · rcases List.mem_append.1 ha with ha | ha
      · obtain ⟨q, e⟩ := hb a ha; rw [e]; exact kl_bx _ _
      · obtain ⟨q, e⟩ := hn a ha; rw [e]; exact kl_nx _ _
    · obtain ⟨q, e⟩ := hp a ha; rw [e]; exact kl_px _ _
def stW (S : SI) (L : List Pt) (n : Int) (k : Nat) : PS :=
  ⟨rst S.B ((ids 40 S.B).take k), rst S.N ((ids 24 S.N).take (k - (ids 40 S.B).length)), L.take (k - (ids 40 S.B).length - (ids 24 S.N).length), if (ids 40 S.B).length + (ids 24 S.N).length + L.length < k then n else 0⟩
theorem tk_snoc' {α : Type} {l : List α} {k : Nat} {x : α} (h : l[k]? = some x) : l.take (k + 1) = l.take k ++ [x] := by
  rw [List.take_add_one, h]; rfl
theorem pars_mk {S : SI} {L : List Pt} {n : Int} (h : Wr S L n) : parsF none ps0 (rowsF S L n) = some ⟨S.B, S.N, L, n⟩ := by
  have hz : ps0 = stW S L n 0 := by
    unfold stW ps0; simp [rst_nil]
  have he : stW S L n (rowsF S L n).length = ⟨S.B, S.N, L, n⟩ := by
    unfold stW
    have hl := show (rowsF S L n).length = (ids 40 S.B).length + (ids 24 S.N).length + L.length + 1 by rw [rowsF_len]
    rw [hl, List.take_of_length_le (by omega), List.take_of_length_le (by omega), List.take_of_length_le (by omega), if_pos (by omega), rst_all h.sB, rst_all h.sN]
  rw [hz, ← he]
  refine pars_list _ _ (srt_rows h) fun k c hc => ?_
  unfold rowsF at hc
  have hbl : (bRows 40 S.B).length = (ids 40 S.B).length := by simp [bRows]
  have hnl : (nRows 24 S.N).length = (ids 24 S.N).length := by simp [nRows]
  by_cases h1 : k < (ids 40 S.B).length
  · rw [List.append_assoc, List.append_assoc, List.getElem?_append_left (by omega)] at hc
    unfold bRows at hc
    rw [List.getElem?_map] at hc
    obtain ⟨q, hq, rfl⟩ := Option.map_eq_some_iff.1 hc
    have hqm := mem_ids.1 (List.mem_of_getElem? hq)
    obtain ⟨x, hx⟩ := Option.isSome_iff_exists.1 hqm.2
    have hgx : gB S.B q = x := by unfold gB; rw [hx]; rfl
    have hbx := h.b q x hx
    refine ⟨rfl, ?_⟩
    rw [hgx, rowF_mk (id := q) (y := 98) (by omega) rfl rfl]
    rw [kF_98 rfl]
    unfold bF
    show (match numsG 1 (thr x.2 ++ x.1) with | some [r] => _ | _ => _) = _
    rw [thr1 (by omega)]
    simp only
    have h3 := thr_len (n := x.2) (by omega)
    have hne : 0 < x.1.length := List.length_pos_iff.2 hbx.2.1
    rw [if_pos (by show 0 < x.2 ∧ 3 < (thr x.2 ++ x.1).length ∧ (thr x.2 ++ x.1).length ≤ 9; rw [List.length_append]; omega)]
    show some (PS.mk (pset (rst S.B ((ids 40 S.B).take k)) q (some ((thr x.2 ++ x.1).drop 3, x.2))) (rst S.N ((ids 24 S.N).take (k - (ids 40 S.B).length))) (L.take (k - (ids 40 S.B).length - (ids 24 S.N).length)) (if (ids 40 S.B).length + (ids 24 S.N).length + L.length < k then n else 0)) = some (stW S L n (k + 1))
    unfold stW
    rw [List.drop_append_of_le_length (by omega), List.drop_of_length_le (by omega), List.nil_append, show ((x.1, x.2) : Bk) = x from rfl, ← hx, rst_snoc, tk_snoc' hq, if_neg (by omega), if_neg (by omega), show k + 1 - (ids 40 S.B).length = k - (ids 40 S.B).length by omega]
  · rw [List.append_assoc, List.append_assoc, List.getElem?_append_right (by omega), hbl] at hc
    by_cases h2 : k - (ids 40 S.B).length < (ids 24 S.N).length
    · rw [List.getElem?_append_left (by omega)] at hc
      unfold nRows at hc
      rw [List.getElem?_map] at hc
      obtain ⟨q, hq, rfl⟩ := Option.map_eq_some_iff.1 hc
      have hqm := mem_ids.1 (List.mem_of_getElem? hq)
      obtain ⟨x, hx⟩ := Option.isSome_iff_exists.1 hqm.2
      have hgx : gN S.N q = x := by unfold gN; rw [hx]; rfl
      have hbx := h.nd q x hx
      refine ⟨rfl, ?_⟩
      rw [hgx, rowF_mk (id := q) (y := 110) (by omega) rfl rfl]
      rw [kF_110 rfl]
      unfold nF
      have hk5 : numsG 5 (nVal x) = some [x.refs, x.k0, x.k1, x.k2, x.k3] ∧ (nVal x).length = 15 := by
        have hv : ∀ v ∈ [x.refs, x.k0, x.k1, x.k2, x.k3], 0 ≤ v ∧ v ≤ 999 := by
          intro v hv
          simp only [List.mem_cons, List.not_mem_nil, or_false] at hv
          rcases hv with rfl | hv
          · omega
          · exact hbx.2 v (by simp only [kd, List.mem_cons, List.not_mem_nil, or_false]; exact hv)
        have h5 := numsF_mk (l := [x.refs, x.k0, x.k1, x.k2, x.k3]) (k := 5) [] rfl hv
        rw [List.append_nil] at h5
        have e : nVal x = [x.refs, x.k0, x.k1, x.k2, x.k3].flatMap thr := by simp [nVal, kd]
        have hl : (nVal x).length = 15 := by
          rw [e]
          simp only [List.flatMap_cons, List.flatMap_nil, List.length_append, List.length_nil]
          rw [thr_len (hv _ (by simp)), thr_len (hv x.k0 (by simp)), thr_len (hv x.k1 (by simp)), thr_len (hv x.k2 (by simp)), thr_len (hv x.k3 (by simp))]
        refine ⟨?_, hl⟩
        unfold numsG
        rw [if_neg (by omega), e]
        exact h5
      show (match numsG 5 (nVal x) with | some [r, k0, k1, k2, k3] => _ | _ => _) = _
      rw [hk5.1]
      simp only
      rw [if_pos (by show 0 < x.refs ∧ (nVal x).length = 15; exact ⟨by omega, hk5.2⟩)]
      show some (PS.mk (rst S.B ((ids 40 S.B).take k)) (pset (rst S.N ((ids 24 S.N).take (k - (ids 40 S.B).length))) q (some x)) (L.take (k - (ids 40 S.B).length - (ids 24 S.N).length)) (if (ids 40 S.B).length + (ids 24 S.N).length + L.length < k then n else 0)) = some (stW S L n (k + 1))
      unfold stW
      rw [← hx, rst_snoc, if_neg (by omega), if_neg (by omega), show k + 1 - (ids 40 S.B).length = (k - (ids 40 S.B).length) + 1 by omega, tk_snoc' hq, List.take_of_length_le (l := ids 40 S.B) (i := k) (by omega), List.take_of_length_le (l := ids 40 S.B) (i := k + 1) (by omega), show k - (ids 40 S.B).length + 1 - (ids 24 S.N).length = k - (ids 40 S.B).length - (ids 24 S.N).length by omega]
    · rw [List.getElem?_append_right (by omega), hnl] at hc
      by_cases h3 : k - (ids 40 S.B).length - (ids 24 S.N).length < L.length
      · rw [List.getElem?_append_left (by simp; omega)] at hc
        rw [List.getElem?_map] at hc
        obtain ⟨x, hx, rfl⟩ := Option.map_eq_some_iff.1 hc
        have hbx := h.p x (List.mem_of_getElem? hx)
        refine ⟨rfl, ?_⟩
        rw [rowF_mk (id := x.id) (y := 112) (by omega) rfl rfl]
        rw [kF_112 rfl]
        unfold pF
        have hk5 : numsG 3 (pRow x).val = some [x.disk, x.size, x.root] ∧ (pRow x).val.length = 9 := by
          have hv : ∀ v ∈ [x.disk, x.size, x.root], 0 ≤ v ∧ v ≤ 999 := by
            intro v hv
            simp only [List.mem_cons, List.not_mem_nil, or_false] at hv
            rcases hv with rfl | rfl | rfl <;> omega
          have h5 := numsF_mk (l := [x.disk, x.size, x.root]) (k := 3) [] rfl hv
          rw [List.append_nil] at h5
          have e : (pRow x).val = [x.disk, x.size, x.root].flatMap thr := by simp [pRow]
          have hl : (pRow x).val.length = 9 := by
            rw [e]
            simp only [List.flatMap_cons, List.flatMap_nil, List.length_append, List.length_nil]
            rw [thr_len (hv x.disk (by simp)), thr_len (hv x.size (by simp)), thr_len (hv x.root (by simp))]
          refine ⟨?_, hl⟩
          unfold numsG
          rw [if_neg (by omega), e]
          exact h5
        rw [hk5.1]
        simp only
        rw [if_pos ⟨hk5.2, by omega⟩]
        show some (PS.mk (rst S.B ((ids 40 S.B).take k)) (rst S.N ((ids 24 S.N).take (k - (ids 40 S.B).length))) (L.take (k - (ids 40 S.B).length - (ids 24 S.N).length) ++ [x]) (if (ids 40 S.B).length + (ids 24 S.N).length + L.length < k then n else 0)) = some (stW S L n (k + 1))
        unfold stW
        rw [if_neg (by omega), if_neg (by omega), show k + 1 - (ids 40 S.B).length - (ids 24 S.N).length = (k - (ids 40 S.B).length - (ids 24 S.N).length) + 1 by omega, tk_snoc' hx, List.take_of_length_le (l := ids 40 S.B) (i := k) (by omega), List.take_of_length_le (l := ids 40 S.B) (i := k + 1) (by omega), List.take_of_length_le (l := ids 24 S.N) (i := k - (ids 40 S.B).length) (by omega), List.take_of_length_le (l := ids 24 S.N) (i := k + 1 - (ids 40 S.B).length) (by omega)]
      · rw [List.getElem?_append_right (by simp; omega), List.length_map] at hc
        have hk0 : k - (ids 40 S.B).length - (ids 24 S.N).length - L.length = 0 := by
          have := (List.getElem?_eq_some_iff.1 hc).1; simp at this; omega
        rw [hk0] at hc
        injection hc with hc
        subst hc
        refine ⟨rfl, ?_⟩
        have hfin : stW S L n (k + 1) = { stW S L n k with n := n } := by
          unfold stW
          rw [if_pos (by omega), List.take_of_length_le (l := ids 40 S.B) (i := k) (by omega), List.take_of_length_le (l := ids 40 S.B) (i := k + 1) (by omega), List.take_of_length_le (l := ids 24 S.N) (i := k - (ids 40 S.B).length) (by omega), List.take_of_length_le (l := ids 24 S.N) (i := k + 1 - (ids 40 S.B).length) (by omega), List.take_of_length_le (l := L) (i := k - (ids 40 S.B).length - (ids 24 S.N).length) (by omega), List.take_of_length_le (l := L) (i := k + 1 - (ids 40 S.B).length - (ids 24 S.N).length) (by omega)]
        rw [hfin]
        show (if (xRow n).key = [120] then xF (stW S L n k) (xRow n) else _) = _
        rw [if_pos (show (xRow n).key = [120] from rfl)]
        unfold xF
        show (if thr n = [49, 48, 48, 48] then _ else _) = _
        by_cases hn : n = 1000
        · subst hn
          rw [if_pos thr_1000]
        · have hn1 := h.n1
          have h3 := thr_len (n := n) (by omega)
          rw [if_neg (by intro hh; rw [hh] at h3; simp at h3)]
          show (match numsG 1 (thr n) with | some [v] => if (thr n).length = 3 then _ else _ | _ => _) = _
          have := thr1 (id := n) (by omega) []
          rw [List.append_nil] at this
          rw [this]
          simp only
          rw [if_pos h3]

end Go.Proofs.YthdjckbjjfiopacGreatDoor
