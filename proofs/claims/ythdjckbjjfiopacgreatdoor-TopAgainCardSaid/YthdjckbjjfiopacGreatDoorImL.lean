/- Rows of a vault: what is read of them is what was written, and the other way round. Plain laws. No condition. -/
import Derived.Test.YthdjckbjjfiopacGreatDoorImM
namespace Go.Proofs.YthdjckbjjfiopacGreatDoor
open Go.Sl Go.Proofs
set_option linter.unusedVariables false
set_option linter.unusedSimpArgs false
theorem kl_cons (x : UInt8) (a b : Bytes) : kl (x :: a) (x :: b) = kl a b := by
  show (decide (x < x) || (x == x && Op.bytesLess a b)) = Op.bytesLess a b
  simp
theorem dgt_lt {a b : Nat} (ha : a < 10) (hb : b < 10) : (dgt a < dgt b) ↔ a < b := by
  rw [UInt8.lt_iff_toNat_lt, dgt_nat ha, dgt_nat hb]; omega
theorem dgt_eq {a b : Nat} (ha : a < 10) (hb : b < 10) : (dgt a = dgt b) ↔ a = b := by
  rw [← UInt8.toNat_inj, dgt_nat ha, dgt_nat hb]; omega
theorem kl_thr {a b : Int} (ha : 0 ≤ a ∧ a ≤ 999) (hb : 0 ≤ b ∧ b ≤ 999) : kl (thr a) (thr b) = true ↔ a < b := by
  obtain ⟨u, rfl⟩ : ∃ u : Nat, a = u := ⟨a.toNat, by omega⟩
  obtain ⟨v, rfl⟩ : ∃ v : Nat, b = v := ⟨b.toNat, by omega⟩
  rw [thr_eq (by omega), thr_eq (by omega)]
  simp only [kl, Op.bytesLess, Bool.or_eq_true, Bool.and_eq_true, decide_eq_true_eq, beq_iff_eq]
  rw [dgt_lt (by omega) (by omega), dgt_lt (by omega) (by omega), dgt_lt (by omega) (by omega), dgt_eq (by omega) (by omega), dgt_eq (by omega) (by omega), dgt_eq (by omega) (by omega)]
  simp only [Bool.false_eq_true, and_false, or_false]
  omega
theorem kl_bn (a b : Bytes) : kl (98 :: a) (110 :: b) = true := rfl
theorem kl_bp (a b : Bytes) : kl (98 :: a) (112 :: b) = true := rfl
theorem kl_bx (a b : Bytes) : kl (98 :: a) (120 :: b) = true := rfl
theorem kl_np (a b : Bytes) : kl (110 :: a) (112 :: b) = true := rfl
theorem kl_nx (a b : Bytes) : kl (110 :: a) (120 :: b) = true := rfl
theorem kl_px (a b : Bytes) : kl (112 :: a) (120 :: b) = true := rfl
/-! ### What was read -/
def lstP (st : PS) (hx : Bool) : List ChangeM := bRows 999 st.B ++ nRows 999 st.N ++ st.L.map pRow ++ if hx then [xRow st.n] else []
structure Inv (pre : List ChangeM) (st : PS) (hx : Bool) : Prop where
  e : pre = lstP st hx
  x : hx = false → st.n = 0
  ok : Pok st
  srt : st.L.Pairwise fun a b => a.id < b.id
/-- a vault's own rows are read as this vault -/
structure Wr (S : SI) (L : List Pt) (n : Int) : Prop where
  sB : sup 40 S.B
  sN : sup 24 S.N
  b : ∀ q x, S.B q = some x → (0 < x.2 ∧ x.2 ≤ 999) ∧ x.1 ≠ [] ∧ x.1.length ≤ 6
  nd : ∀ q m, S.N q = some m → (0 < m.refs ∧ m.refs ≤ 999) ∧ ∀ k ∈ kd m, 0 ≤ k ∧ k ≤ 999
  p : ∀ p ∈ L, (1 ≤ p.id ∧ p.id ≤ 999) ∧ (0 < p.disk ∧ p.disk ≤ 999) ∧ (0 < p.size ∧ p.size ≤ 16) ∧ (0 ≤ p.root ∧ p.root ≤ 999)
  n1 : 0 ≤ n ∧ n ≤ 1000
  srt : L.Pairwise fun a b => a.id < b.id
theorem srt_rows {S : SI} {L : List Pt} {n : Int} (h : Wr S L n) : srt (rowsF S L n) := by
  unfold rowsF srt
  have hb : ∀ c ∈ bRows 40 S.B, ∃ q, c.key = 98 :: thr q := fun c hc => by
    unfold bRows at hc; obtain ⟨q, _, rfl⟩ := List.mem_map.1 hc; exact ⟨q, rfl⟩
  have hn : ∀ c ∈ nRows 24 S.N, ∃ q, c.key = 110 :: thr q := fun c hc => by
    unfold nRows at hc; obtain ⟨q, _, rfl⟩ := List.mem_map.1 hc; exact ⟨q, rfl⟩
  have hp : ∀ c ∈ L.map pRow, ∃ q, c.key = 112 :: thr q := fun c hc => by
    obtain ⟨q, _, rfl⟩ := List.mem_map.1 hc; exact ⟨q.id, rfl⟩
  rw [List.pairwise_append, List.pairwise_append, List.pairwise_append]
  refine ⟨⟨⟨?_, ?_, fun a ha b hb' => ?_⟩, ?_, fun a ha b hb' => ?_⟩, List.pairwise_singleton _ _, fun a ha b hb' => ?_⟩
  · unfold bRows
    rw [List.pairwise_map]
    refine List.Pairwise.imp_of_mem ?_ (ids_sorted 40 S.B)
    intro a b ha hb' hab
    have h1 := (mem_ids.1 ha).1
    have h2 := (mem_ids.1 hb').1
    show kl (98 :: thr a) (98 :: thr b) = true
    rw [kl_cons]
    exact (kl_thr (by omega) (by omega)).2 hab
  · unfold nRows
    rw [List.pairwise_map]
    refine List.Pairwise.imp_of_mem ?_ (ids_sorted 24 S.N)
    intro a b ha hb' hab
    have h1 := (mem_ids.1 ha).1
    have h2 := (mem_ids.1 hb').1
    show kl (110 :: thr a) (110 :: thr b) = true
    rw [kl_cons]
    exact (kl_thr (by omega) (by omega)).2 hab
  · obtain ⟨q, e⟩ := hb a ha
    obtain ⟨r, e'⟩ := hn b hb'
    rw [e, e', kl_bn]
  · rw [List.pairwise_map]
    refine List.Pairwise.imp_of_mem ?_ h.srt
    intro a b ha hb' hab
    have h1 := (h.p a ha).1
    have h2 := (h.p b hb').1
    show kl (112 :: thr a.id) (112 :: thr b.id) = true
    rw [kl_cons]
    exact (kl_thr (by omega) (by omega)).2 hab
  · obtain ⟨r, e'⟩ := hp b hb'
    rcases List.mem_append.1 ha with ha | ha
    · obtain ⟨q, e⟩ := hb a ha; rw [e, e', kl_bp]
    · obtain ⟨q, e⟩ := hn a ha; rw [e, e', kl_np]
  · rw [List.mem_singleton] at hb'
    subst hb'
    rcases List.mem_append.1 ha with ha | ha
    · rcases List.mem_append.1 ha with ha | ha
      · obtain ⟨q, e⟩ := hb a ha; rw [e]; exact kl_bx _ _
      · obtain ⟨q, e⟩ := hn a ha; rw [e]; exact kl_nx _ _
    · obtain ⟨q, e⟩ := hp a ha; rw [e]; exact kl_px _ _
end Go.Proofs.YthdjckbjjfiopacGreatDoor
