/- Rows of a vault: what is read of them is what was written, and the other way round. Plain laws. No condition. -/
import Derived.Test.YthdjckbjjfiopacGreatDoorImM
namespace Go.Proofs.YthdjckbjjfiopacGreatDoor
open Go.Sl Go.Proofs
set_option linter.unusedVariables false
set_option linter.unusedSimpArgs false
theorem kl_cons (x : UInt8) (a b : Bytes) : kl (x :: a) (x :: b) = kl a b := by
  show (decide (x < x) || (x == x && Op.bytesLess a b)) = Op.bytesLess a b
  simp
theorem dgt_lt {a b : Nat} (ha : a < 10) (hb : b < 10) : (dgt a < dgt b) ↔ a < b := by
  rw [UInt8.lt_iff_toNat_lt, dgt_nat ha, dgt_nat hb]; omega
theorem dgt_eq {a b : Nat} (ha : a < 10) (hb : b < 10) : (dgt a = dgt b) ↔ a = b := by
  rw [← UInt8.toNat_inj, dgt_nat ha, dgt_nat hb]; omega
theorem kl_thr {a b : Int} (ha : 0 ≤ a ∧ a ≤ 999) (hb : 0 ≤ b ∧ b ≤ 999) : kl (thr a) (thr b) = true ↔ a < b := by
  obtain ⟨u, rfl⟩ : ∃ u : Nat, a = u := ⟨a.toNat, by omega⟩
  obtain ⟨v, rfl⟩ : ∃ v : Nat, b = v := ⟨b.toNat, by omega⟩
  rw [thr_eq (by omega), thr_eq (by omega)]
  simp only [kl, Op.bytesLess, Bool.or_eq_true, Bool.and_eq_true, decide_eq_true_eq, beq_iff_eq]
  rw [dgt_lt (by omega) (by omega), dgt_lt (by omega) (by omega), dgt_lt (by omega) (by omega), dgt_eq (by omega) (by omega), dgt_eq (by omega) (by omega), dgt_eq (by omega) (by omega)]
  simp only [Bool.false_eq_true, and_false, or_false]
  omega
theorem kl_bn (a b : Bytes) : kl (98 :: a) (110 :: b) = true := rfl
theorem kl_bp (a b : Bytes) : kl (98 :: a) (112 :: b) = true := rfl
theorem kl_bx (a b : Bytes) : kl (98 :: a) (120 :: b) = true := rfl
theorem kl_np (a b : Bytes) : kl (110 :: a) (112 :: b) = true := rfl
theorem kl_nx (a b : Bytes) : kl (110 :: a) (120 :: b) = true := rfl
theorem kl_px (a b : Bytes) : kl (112 :: a) (120 :: b) = true := rfl
theorem no_nb (a b : Bytes) : kl (110 :: a) (98 :: b) = false := rfl
theorem no_pb (a b : Bytes) : kl (112 :: a) (98 :: b) = false := rfl
theorem no_xb (a b : Bytes) : kl (120 :: a) (98 :: b) = false := rfl
theorem no_pn (a b : Bytes) : kl (112 :: a) (110 :: b) = false := rfl
theorem no_xn (a b : Bytes) : kl (120 :: a) (110 :: b) = false := rfl
theorem no_xp (a b : Bytes) : kl (120 :: a) (112 :: b) = false := rfl
/-! ### Numbers at the end -/
theorem filter_snoc {n : Nat} {p : Nat → Bool} {k : Nat} (hk : 1 ≤ k ∧ k ≤ n) (h : ∀ j, 1 ≤ j → j ≤ n → p j = true → j < k) : (List.range' 1 n).filter (fun j => decide (j = k) || p j) = (List.range' 1 n).filter p ++ [k] := by
  have e : List.range' 1 n = List.range' 1 (k - 1) ++ k :: List.range' (k + 1) (n - k) := by
    rw [show n = (k - 1) + (n - k + 1) by omega, List.range'_append_1.symm, show 1 + (k - 1) = k by omega, List.range'_succ]
    congr 3
    omega
  have hkn : p k = false := by
    cases hp : p k with
    | false => rfl
    | true => have := h k hk.1 hk.2 hp; omega
  rw [e, List.filter_append, List.filter_append, List.filter_cons_of_pos (by simp), List.filter_cons_of_neg (by simp [hkn])]
  have h1 : (List.range' 1 (k - 1)).filter (fun j => decide (j = k) || p j) = (List.range' 1 (k - 1)).filter p := List.filter_congr fun j hj => by
    rw [List.mem_range'_1] at hj
    simp [show ¬ j = k by omega]
  have h2 : (List.range' (k + 1) (n - k)).filter (fun j => decide (j = k) || p j) = [] := List.filter_eq_nil_iff.2 fun j hj => by
    rw [List.mem_range'_1] at hj
    intro hh
    simp only [Bool.or_eq_true, decide_eq_true_eq] at hh
    rcases hh with hh | hh
    · omega
    · have := h j (by omega) (by omega) hh; omega
  have h3 : (List.range' (k + 1) (n - k)).filter p = [] := List.filter_eq_nil_iff.2 fun j hj hh => by
    rw [List.mem_range'_1] at hj
    have := h j (by omega) (by omega) hh; omega
  rw [h1, h2, h3, List.append_nil]
theorem ids_snoc {ρ : Type} {n : Nat} {B : Int → Option ρ} {id : Int} {x : ρ} (hid : 1 ≤ id ∧ id ≤ n) (h : ∀ q ∈ ids n B, q < id) : ids n (pset B id (some x)) = ids n B ++ [id] := by
  obtain ⟨k, rfl⟩ : ∃ k : Nat, id = k := ⟨id.toNat, by omega⟩
  unfold ids
  have e : (fun j : Nat => (pset B (k : Int) (some x) (j : Int)).isSome) = fun j : Nat => decide (j = k) || (B (j : Int)).isSome := by
    funext j
    unfold pset
    by_cases hj : j = k
    · subst hj; simp
    · have : ¬ (j : Int) = (k : Int) := by omega
      simp [hj, this]
  rw [e, filter_snoc (by omega) fun j h1 h2 hp => ?_, List.map_append]
  · rfl
  · have := h (j : Int) (mem_ids.2 ⟨by omega, hp⟩)
    omega
theorem gB_same {B : BkT} {id q : Int} {x : Option Bk} (h : q ≠ id) : gB (pset B id x) q = gB B q := by unfold gB pset; rw [if_neg h]
theorem gB_new {B : BkT} {id : Int} {x : Bk} : gB (pset B id (some x)) id = x := by unfold gB pset; rw [if_pos rfl]; rfl
theorem gN_same {N : NdT} {id q : Int} {x : Option Nd} (h : q ≠ id) : gN (pset N id x) q = gN N q := by unfold gN pset; rw [if_neg h]
theorem gN_new {N : NdT} {id : Int} {x : Nd} : gN (pset N id (some x)) id = x := by unfold gN pset; rw [if_pos rfl]; rfl
theorem bRows_snoc {n : Nat} {B : BkT} {id : Int} {x : Bk} (hid : 1 ≤ id ∧ id ≤ n) (h : ∀ q ∈ ids n B, q < id) : bRows n (pset B id (some x)) = bRows n B ++ [bRow id x] := by
  unfold bRows
  rw [ids_snoc hid h, List.map_append, List.map_cons, List.map_nil, gB_new]
  congr 1
  exact List.map_congr_left fun q hq => by rw [gB_same (by have := h q hq; omega)]
theorem nRows_snoc {n : Nat} {N : NdT} {id : Int} {x : Nd} (hid : 1 ≤ id ∧ id ≤ n) (h : ∀ q ∈ ids n N, q < id) : nRows n (pset N id (some x)) = nRows n N ++ [nRow id x] := by
  unfold nRows
  rw [ids_snoc hid h, List.map_append, List.map_cons, List.map_nil, gN_new]
  congr 1
  exact List.map_congr_left fun q hq => by rw [gN_same (by have := h q hq; omega)]
theorem ids_cut {ρ : Type} {m n : Nat} {B : Int → Option ρ} (hmn : m ≤ n) (h : sup m B) : ids n B = ids m B := by
  unfold ids
  rw [show n = m + (n - m) by omega, List.range'_append_1.symm, List.filter_append]
  have : (List.range' (1 + m) (n - m)).filter (fun k : Nat => (B (k : Int)).isSome) = [] := List.filter_eq_nil_iff.2 fun j hj hh => by
    rw [List.mem_range'_1] at hj
    obtain ⟨x, hx⟩ := Option.isSome_iff_exists.1 hh
    have := h _ x hx
    omega
  rw [this, List.append_nil]
theorem tb_cut {ρ : Type} {enc : ρ → Value} {m n : Nat} {B : Int → Option ρ} (hmn : m ≤ n) (h : sup m B) : tb enc n B = tb enc m B := by
  unfold tb tbl
  rw [show n = m + (n - m) by omega, List.range'_append_1.symm, List.filterMap_append]
  have : (List.range' (1 + m) (n - m)).filterMap (fun k : Nat => (B (k : Int)).map fun x => ((k : Int), enc x)) = [] := List.filterMap_eq_nil_iff.2 fun j hj => by
    rw [List.mem_range'_1] at hj
    cases hx : B (j : Int) with
    | none => rfl
    | some x => have := h _ x hx; omega
  rw [this, List.append_nil]
/-! ### What was read -/
def lstP (st : PS) (hx : Bool) : List ChangeM := bRows 999 st.B ++ nRows 999 st.N ++ st.L.map pRow ++ if hx then [xRow st.n] else []
structure Inv (pre : List ChangeM) (st : PS) (hx : Bool) : Prop where
  e : pre = lstP st hx
  x : hx = false → st.n = 0
  ok : Pok st
  srt : st.L.Pairwise fun a b => a.id < b.id
theorem mem_b {st : PS} {hx : Bool} {q : Int} (h : q ∈ ids 999 st.B) : bRow q (gB st.B q) ∈ lstP st hx := by
  unfold lstP bRows; simp only [List.mem_append, List.mem_map]; exact .inl (.inl (.inl ⟨q, h, rfl⟩))
theorem mem_n {st : PS} {hx : Bool} {q : Int} (h : q ∈ ids 999 st.N) : nRow q (gN st.N q) ∈ lstP st hx := by
  unfold lstP nRows; simp only [List.mem_append, List.mem_map]; exact .inl (.inl (.inr ⟨q, h, rfl⟩))
theorem mem_p {st : PS} {hx : Bool} {p : Pt} (h : p ∈ st.L) : pRow p ∈ lstP st hx := by
  unfold lstP; simp only [List.mem_append, List.mem_map]; exact .inl (.inr ⟨p, h, rfl⟩)
theorem mem_x {st : PS} : xRow st.n ∈ lstP st true := by unfold lstP; simp
theorem no_of {l : List Int} (h : ∀ q, q ∉ l) : l = [] := List.eq_nil_iff_forall_not_mem.2 h
theorem rowF_key {st st' : PS} {c : ChangeM} (hx : c.key ≠ [120]) (e : rowF st c = some st') : ∃ id y, (1 ≤ id ∧ id ≤ 999) ∧ c.key = y :: thr id ∧ c.gone = false ∧ kF st id c = some st' := by
  unfold rowF at e
  rw [if_neg hx] at e
  split at e
  · cases e
  · rename_i h4
    split at e
    · rename_i id hid
      split at e
      · cases e
      · have h5 := (numsG_text hid)
        have h6 := h5.2 id (by simp)
        have hk4 : c.key.length = 4 := by omega
        obtain ⟨y, r, hy⟩ : ∃ y r, c.key = y :: r := by
          cases hk : c.key with
          | nil => rw [hk] at hk4; simp at hk4
          | cons y r => exact ⟨y, r, rfl⟩
        rw [hy] at h5 hk4
        simp only [List.drop_succ_cons, List.drop_zero, List.flatMap_cons, List.flatMap_nil, List.append_nil] at h5
        rw [List.drop_of_length_le (by simp at hk4; omega), List.append_nil] at h5
        refine ⟨id, y, by omega, by rw [hy, ← h5.1], ?_, e⟩
        cases hg : c.gone with
        | false => rfl
        | true => exact absurd (.inr hg) h4
    · cases e
theorem inv_row {pre : List ChangeM} {st st' : PS} {hx : Bool} {c : ChangeM} (h : Inv pre st hx) (hlt : ∀ d ∈ pre, kl d.key c.key = true) (hg : c.gone = false) (e : rowF st c = some st') : ∃ hx', Inv (pre ++ [c]) st' hx' := by
  have hok' := Pok_row h.ok e
  by_cases hX : c.key = [120]
  · have hxf : hx = false := by
      cases hx with
      | false => rfl
      | true =>
        have := hlt (xRow st.n) (by rw [h.e]; exact mem_x)
        rw [hX] at this
        exact absurd this (by rw [show (xRow st.n).key = [120] from rfl, kl_irr]; simp)
    subst hxf
    have hc : ∀ v, c.val = thr v → c = xRow v := fun v hv => by
      obtain ⟨k, w, g⟩ := c
      simp only at hX hv hg
      subst hX hv hg
      rfl
    unfold rowF at e
    rw [if_pos hX] at e
    unfold xF at e
    split at e
    · rename_i hv
      injection e with e
      subst e
      refine ⟨true, ?_, (fun hh => by cases hh), hok', h.srt⟩
      rw [hc 1000 (by rw [hv, thr_1000]), h.e]
      simp [lstP]
    · split at e
      · rename_i v hv
        split at e
        · rename_i h3
          injection e with e
          subst e
          refine ⟨true, ?_, (fun hh => by cases hh), hok', h.srt⟩
          have h5 := (numsG_text hv).1
          rw [List.drop_of_length_le (by omega)] at h5
          simp only [List.flatMap_cons, List.flatMap_nil, List.append_nil] at h5
          rw [hc v h5, h.e]
          simp [lstP]
        · cases e
      · cases e
  · obtain ⟨id, y, hid, hkey, _, ek⟩ := rowF_key hX e
    have hlow : ∀ (z : UInt8) (q : Int), (0 ≤ q ∧ q ≤ 999) → z = y → kl (z :: thr q) c.key = true → q < id := fun z q hq hz hk => by
      rw [hkey, hz, kl_cons] at hk
      exact (kl_thr hq (by omega)).1 hk
    unfold kF at ek
    rw [hkey] at ek
    simp only [List.head?_cons, Option.some.injEq] at ek
    split at ek
    · rename_i hy
      subst hy
      have hN : ids 999 st.N = [] := no_of fun q hq => by
        have := hlt _ (by rw [h.e]; exact mem_n hq)
        rw [hkey, show (nRow q (gN st.N q)).key = 110 :: thr q from rfl, no_nb] at this
        cases this
      have hL : st.L = [] := List.eq_nil_iff_forall_not_mem.2 fun p hp => by
        have := hlt _ (by rw [h.e]; exact mem_p hp)
        rw [hkey, show (pRow p).key = 112 :: thr p.id from rfl, no_pb] at this
        cases this
      have hxf : hx = false := by
        cases hx with
        | false => rfl
        | true =>
          have := hlt (xRow st.n) (by rw [h.e]; exact mem_x)
          rw [hkey, show (xRow st.n).key = [120] from rfl, no_xb] at this
          cases this
      subst hxf
      unfold bF at ek
      split at ek
      · rename_i r hv
        split at ek
        · injection ek with ek
          subst ek
          refine ⟨false, ?_, h.x, hok', h.srt⟩
          have h5 := (numsG_text hv).1
          simp only [List.flatMap_cons, List.flatMap_nil, List.append_nil] at h5
          have hc : c = bRow id (c.val.drop 3, r) := by
            obtain ⟨k, w, g⟩ := c
            simp only at hkey h5 hg ⊢
            subst hkey hg
            unfold bRow
            simp only
            rw [← h5]
          rw [h.e]
          unfold lstP
          simp only
          rw [bRows_snoc (by omega) fun q hq => ?_, ← hc]
          · simp [nRows, hN, hL]
          · have h7 := mem_ids.1 hq
            exact hlow 98 q (by omega) rfl (hlt _ (by rw [h.e]; exact mem_b hq))
        · cases ek
      · cases ek
    · split at ek
      · rename_i hy
        subst hy
        have hL : st.L = [] := List.eq_nil_iff_forall_not_mem.2 fun p hp => by
          have := hlt _ (by rw [h.e]; exact mem_p hp)
          rw [hkey, show (pRow p).key = 112 :: thr p.id from rfl, no_pn] at this
          cases this
        have hxf : hx = false := by
          cases hx with
          | false => rfl
          | true =>
            have := hlt (xRow st.n) (by rw [h.e]; exact mem_x)
            rw [hkey, show (xRow st.n).key = [120] from rfl, no_xn] at this
            cases this
        subst hxf
        unfold nF at ek
        split at ek
        · rename_i r k0 k1 k2 k3 hv
          split at ek
          · rename_i hcnd
            injection ek with ek
            subst ek
            refine ⟨false, ?_, h.x, hok', h.srt⟩
            have h5 := (numsG_text hv).1
            rw [List.drop_of_length_le (by omega), List.append_nil] at h5
            have hc : c = nRow id ⟨k0, k1, k2, k3, r⟩ := by
              obtain ⟨k, w, g⟩ := c
              simp only at hkey h5 hg ⊢
              subst hkey hg
              unfold nRow nVal kd
              simp only
              rw [h5, List.flatMap_cons]
            rw [h.e]
            unfold lstP
            simp only
            rw [nRows_snoc (by omega) fun q hq => ?_, ← hc]
            · simp [hL]
            · have h7 := mem_ids.1 hq
              exact hlow 110 q (by omega) rfl (hlt _ (by rw [h.e]; exact mem_n hq))
          · cases ek
        · cases ek
      · split at ek
        · rename_i hy
          subst hy
          have hxf : hx = false := by
            cases hx with
            | false => rfl
            | true =>
              have := hlt (xRow st.n) (by rw [h.e]; exact mem_x)
              rw [hkey, show (xRow st.n).key = [120] from rfl, no_xp] at this
              cases this
          subst hxf
          unfold pF at ek
          split at ek
          · rename_i d s r hv
            split at ek
            · rename_i hcnd
              injection ek with ek
              subst ek
              refine ⟨false, ?_, h.x, hok', ?_⟩
              · have h5 := (numsG_text hv).1
                rw [List.drop_of_length_le (by omega), List.append_nil] at h5
                have hc : c = pRow ⟨id, d, s, r⟩ := by
                  obtain ⟨k, w, g⟩ := c
                  simp only at hkey h5 hg ⊢
                  subst hkey hg
                  unfold pRow
                  simp only
                  rw [h5]
                  simp
                rw [h.e]
                unfold lstP
                simp only
                rw [List.map_append, List.map_cons, List.map_nil, ← hc]
                simp
              · simp only
                rw [List.pairwise_append]
                refine ⟨h.srt, List.pairwise_singleton _ _, fun a ha b hb => ?_⟩
                rw [List.mem_singleton] at hb
                subst hb
                have h7 := (h.ok.p a ha).1
                exact hlow 112 a.id (by omega) rfl (hlt _ (by rw [h.e]; exact mem_p ha))
            · cases ek
          · cases ek
        · cases ek
theorem inv_pars : ∀ (l : List ChangeM) {pre : List ChangeM} {pv : Option Bytes} {st st' : PS} {hx : Bool}, Inv pre st hx → (∀ d ∈ pre, ∃ p, pv = some p ∧ (d.key = p ∨ kl d.key p = true)) → parsF pv st l = some st' → ∃ hx', Inv (pre ++ l) st' hx'
  | [], pre, pv, st, st', hx, h, _, e => by
    simp only [parsF] at e
    injection e with e
    subst e
    exact ⟨hx, by rw [List.append_nil]; exact h⟩
  | c :: l, pre, pv, st, st', hx, h, hp, e => by
    simp only [parsF] at e
    split at e
    · cases e
    · rename_i hb
      split at e
      · cases e
      · rename_i st1 hr
        have hlt : ∀ d ∈ pre, kl d.key c.key = true := fun d hd => by
          obtain ⟨p, rfl, hdp⟩ := hp d hd
          have hb1 : ¬ (kl c.key p = true ∨ c.key = p) := fun hh => hb (.inl (by
            show (kl c.key p || decide (c.key = p)) = true
            rcases hh with hh | hh
            · rw [hh]; rfl
            · simp [hh]))
          have hpc : kl p c.key = true := by
            rcases kl_tri p c.key with h1 | h1 | h1
            · exact h1
            · exact absurd (.inr h1.symm) hb1
            · exact absurd (.inl h1) hb1
          rcases hdp with h1 | h1
          · rw [h1]; exact hpc
          · exact kl_trans h1 hpc
        have hg : c.gone = false := by
          cases hg : c.gone with
          | false => rfl
          | true => exact absurd (.inr hg) hb
        obtain ⟨hx1, h1⟩ := inv_row h hlt hg hr
        obtain ⟨hx2, h2⟩ := inv_pars l h1 (fun d hd => ⟨c.key, rfl, by
          rcases List.mem_append.1 hd with hd | hd
          · exact .inr (hlt d hd)
          · rw [List.mem_singleton] at hd; exact .inl (by rw [hd])⟩) e
        exact ⟨hx2, by rw [List.append_assoc] at h2; exact h2⟩
theorem Inv_0 : Inv [] ps0 false := ⟨by
  have h1 : ids 999 (fun _ => (none : Option Bk)) = [] := no_of fun q hq => by have := (mem_ids.1 hq).2; cases this
  have h2 : ids 999 (fun _ => (none : Option Nd)) = [] := no_of fun q hq => by have := (mem_ids.1 hq).2; cases this
  unfold lstP bRows nRows ps0; simp only [h1, h2]; rfl, fun _ => rfl, Pok_0, List.Pairwise.nil⟩
/-- rows that can be read, and go together, are the rows of what was read -/
theorem pars_rows {l : List ChangeM} {st : PS} (e : parsF none ps0 l = some st) : Pok st ∧ (st.L.Pairwise fun a b => a.id < b.id) ∧ (WholeP st → rowsF ⟨st.B, st.N⟩ st.L st.n = l) := by
  obtain ⟨hx, h⟩ := inv_pars l Inv_0 (fun d hd => by simp at hd) e
  rw [List.nil_append] at h
  refine ⟨h.ok, h.srt, fun w => ?_⟩
  have hxt : hx = true := by
    cases hx with
    | true => rfl
    | false => have := h.x rfl; have := w.n1; omega
  subst hxt
  rw [h.e]
  unfold lstP rowsF bRows nRows
  rw [ids_cut (n := 999) (by decide) w.sB, ids_cut (n := 999) (by decide) w.sN]
  rfl
/-- a vault's own rows are read as this vault -/
structure Wr (S : SI) (L : List Pt) (n : Int) : Prop where
  sB : sup 40 S.B
  sN : sup 24 S.N
  b : ∀ q x, S.B q = some x → (0 < x.2 ∧ x.2 ≤ 999) ∧ x.1 ≠ [] ∧ x.1.length ≤ 6
  nd : ∀ q m, S.N q = some m → (0 < m.refs ∧ m.refs ≤ 999) ∧ ∀ k ∈ kd m, 0 ≤ k ∧ k ≤ 999
  p : ∀ p ∈ L, (1 ≤ p.id ∧ p.id ≤ 999) ∧ (0 < p.disk ∧ p.disk ≤ 999) ∧ (0 < p.size ∧ p.size ≤ 16) ∧ (0 ≤ p.root ∧ p.root ≤ 999)
  n1 : 0 ≤ n ∧ n ≤ 1000
  srt : L.Pairwise fun a b => a.id < b.id
theorem srt_rows {S : SI} {L : List Pt} {n : Int} (h : Wr S L n) : srt (rowsF S L n) := by
  unfold rowsF srt
  have hb : ∀ c ∈ bRows 40 S.B, ∃ q, c.key = 98 :: thr q := fun c hc => by
    unfold bRows at hc; obtain ⟨q, _, rfl⟩ := List.mem_map.1 hc; exact ⟨q, rfl⟩
  have hn : ∀ c ∈ nRows 24 S.N, ∃ q, c.key = 110 :: thr q := fun c hc => by
    unfold nRows at hc; obtain ⟨q, _, rfl⟩ := List.mem_map.1 hc; exact ⟨q, rfl⟩
  have hp : ∀ c ∈ L.map pRow, ∃ q, c.key = 112 :: thr q := fun c hc => by
    obtain ⟨q, _, rfl⟩ := List.mem_map.1 hc; exact ⟨q.id, rfl⟩
  rw [List.pairwise_append, List.pairwise_append, List.pairwise_append]
  refine ⟨⟨⟨?_, ?_, fun a ha b hb' => ?_⟩, ?_, fun a ha b hb' => ?_⟩, List.pairwise_singleton _ _, fun a ha b hb' => ?_⟩
  · unfold bRows
    rw [List.pairwise_map]
    refine List.Pairwise.imp_of_mem ?_ (ids_sorted 40 S.B)
    intro a b ha hb' hab
    have h1 := (mem_ids.1 ha).1
    have h2 := (mem_ids.1 hb').1
    show kl (98 :: thr a) (98 :: thr b) = true
    rw [kl_cons]
    exact (kl_thr (by omega) (by omega)).2 hab
  · unfold nRows
    rw [List.pairwise_map]
    refine List.Pairwise.imp_of_mem ?_ (ids_sorted 24 S.N)
    intro a b ha hb' hab
    have h1 := (mem_ids.1 ha).1
    have h2 := (mem_ids.1 hb').1
    show kl (110 :: thr a) (110 :: thr b) = true
    rw [kl_cons]
    exact (kl_thr (by omega) (by omega)).2 hab
  · obtain ⟨q, e⟩ := hb a ha
    obtain ⟨r, e'⟩ := hn b hb'
    rw [e, e', kl_bn]
  · rw [List.pairwise_map]
    refine List.Pairwise.imp_of_mem ?_ h.srt
    intro a b ha hb' hab
    have h1 := (h.p a ha).1
    have h2 := (h.p b hb').1
    show kl (112 :: thr a.id) (112 :: thr b.id) = true
    rw [kl_cons]
    exact (kl_thr (by omega) (by omega)).2 hab
  · obtain ⟨r, e'⟩ := hp b hb'
    rcases List.mem_append.1 ha with ha | ha
    · obtain ⟨q, e⟩ := hb a ha; rw [e, e', kl_bp]
    · obtain ⟨q, e⟩ := hn a ha; rw [e, e', kl_np]
  · rw [List.mem_singleton] at hb'
    subst hb'
    rcases List.mem_append.1 ha with ha | ha
    · rcases List.mem_append.1 ha with ha | ha
      · obtain ⟨q, e⟩ := hb a ha; rw [e]; exact kl_bx _ _
      · obtain ⟨q, e⟩ := hn a ha; rw [e]; exact kl_nx _ _
    · obtain ⟨q, e⟩ := hp a ha; rw [e]; exact kl_px _ _
end Go.Proofs.YthdjckbjjfiopacGreatDoor
