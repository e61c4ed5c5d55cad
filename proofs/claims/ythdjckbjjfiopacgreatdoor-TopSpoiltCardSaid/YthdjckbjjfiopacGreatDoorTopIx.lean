/- Walks: an index made of actions. No condition. -/
import Derived.Test.YthdjckbjjfiopacGreatDoorLight2
import Derived.Test.YthdjckbjjfiopacGreatDoorIx3
import Derived.Test.YthdjckbjjfiopacGreatDoorIxT
namespace Go.Proofs.YthdjckbjjfiopacGreatDoor
open Go.Sl Go.Proofs
set_option linter.unusedVariables false
set_option linter.unusedSimpArgs false
theorem cnt_app (l : List Int) (x q : Int) : cnt (l ++ [x]) q = cnt l q + if q = x ∧ x ≠ 0 then 1 else 0 := by
  unfold cnt
  by_cases hq : q = 0
  · subst hq
    rw [if_pos rfl, if_pos rfl, if_neg (fun h => h.2 h.1.symm)]
    rfl
  · rw [if_neg hq, if_neg hq, List.count_append, List.count_cons]
    by_cases hx : x = q
    · subst hx; simp [hq]
    · simp [hx, Ne.symm hx]
theorem cnt_le (l : List Int) (q : Int) : cnt l q ≤ l.length := by
  unfold cnt
  split
  · omega
  · have := List.count_le_length (l := l) (a := q)
    omega
theorem cnt_mem {l : List Int} {q : Int} (h : q ∈ l) (h0 : q ≠ 0) : 1 ≤ cnt l q := by
  unfold cnt
  rw [if_neg h0]
  have := List.count_pos_iff.2 h
  omega
/-- an index and the roots that are held -/
structure Rt (G : Gh) (roots : List Int) : Prop where
  V : Val G
  eL : ∀ q, G.eL q = 0
  eB : ∀ q, G.eB q = 0
  eR : ∀ q, G.eR q = cnt roots q
theorem RtRt {G : Gh} {roots : List Int} (h : Rt G roots) {q : Int} (hq : q ∈ roots) : rt G q := by
  by_cases h0 : q = 0
  · exact .inl h0
  · refine .inr (Option.isSome_iff_exists.1 ((h.V.pR q h0).2 ?_))
    have := cnt_mem hq h0
    rw [h.eR]
    omega
theorem RtOk {G : Gh} {roots : List Int} (h : Rt G roots) {m : Int} (hm : (roots.length : Int) + 96 ≤ m) : okS m (mkG G) := okS_mono (mk_ok h.V (m := roots.length) (fun q => by rw [h.eR]; exact cnt_le _ _) (fun q => by rw [h.eL]; omega) (fun q => by rw [h.eB]; omega)) hm
theorem rt_kidr {G : Gh} (V : Val G) {q : Int} (h : rt G q) : ∀ i, i < 4 → 0 ≤ kat (gN (mkG G).N q) i ∧ kat (gN (mkG G).N q) i ≤ 24 := fun i hi => lf_rng V (rt_kid V h hi)
theorem RtSet {G G' : Gh} {roots : List Int} {root out : Int} {at_ : Nat} {d : Bytes} (h : Rt G roots) (o : SetOk G G' root at_ d out) : Rt G' (roots ++ [out]) :=
  ⟨o.V, fun q => by rw [o.eL]; exact h.eL q, fun q => by rw [o.eB]; exact h.eB q, fun q => by rw [o.eR, h.eR, cnt_app]⟩
theorem RtZ : Rt gZ [0] := ⟨gZ_val, fun _ => rfl, fun _ => rfl, fun q => by
  show (0 : Int) = cnt [0] q
  unfold cnt
  by_cases h : q = 0
  · simp [h]
  · simp [h, Ne.symm h]⟩
/-- which root an action names -/
def pk (a : Int) (n : Nat) : Nat := (a % 2 ^ 10).toNat % n
theorem pk_rem (a : Int) {n : Nat} : (a % 2 ^ 10).tmod (n : Int) = ((pk a n : Nat) : Int) := by
  have h := Int.emod_nonneg a (show (2 : Int) ^ 10 ≠ 0 by decide)
  obtain ⟨k, hk⟩ : ∃ k : Nat, a % 2 ^ 10 = k := ⟨_, (Int.toNat_of_nonneg h).symm⟩
  unfold pk
  rw [hk]
  rfl
theorem pk_lt (a : Int) {n : Nat} (h : 0 < n) : pk a n < n := Nat.mod_lt _ h
theorem lightL {l : List ActM} {m : Int} (h : lightA l m = true) : (l.length : Int) ≤ m := by
  unfold lightA at h
  simp only [Bool.and_eq_true, decide_eq_true_eq] at h
  exact h.1
theorem setE_nn (S : SI) (root : Int) (at_ : Nat) (d : Bytes) : 0 ≤ (setE S root at_ d).2 := by
  have hb : 0 ≤ (blockE S d).2 := by
    unfold blockE
    split
    · simp
    · unfold putE
      split
      · simp
      · cases freeId 40 S.B <;> simp
  have hn : ∀ S n, 0 ≤ (nodeE S n).2 := fun S n => by have := nodeE_ne S n; omega
  unfold setE
  simp only
  split
  · exact hb
  · split
    · exact hn _ _
    · split
      · exact hn _ _
      · simp
end Go.Proofs.YthdjckbjjfiopacGreatDoor
