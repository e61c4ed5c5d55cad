/- Walks through the law functions on disks of package vdisk. No condition. -/
import Derived.Test.YthdjckbjjfiopaaVdLaw
import Derived.Test.YthdjckbjjfiopaaLight2
namespace Go.Proofs.Ythdjckbjjfiopaa
open Go.Sl Go.Proofs
set_option linter.unusedVariables false
set_option linter.unusedSimpArgs false
def RChd (n : Int) (l : List ActM) (Fr : List HProp) : Value → List HProp → Prop := fun v L' => (v = .tuple #[.pointer none, Bo false] ∧ L' = Fr) ∨ ((1 ≤ n ∧ n ≤ 16) ∧ l.length ≤ 80 ∧ ∃ b, v = .tuple #[ptr b 0, Bo true] ∧ L' = vdk b (runD (vdNew n) l) :: Fr)
section
variable {c : Cx} {E : Env} {L : List HProp} {K : List KI}
theorem g_retCh0 {n : Int} {l : List ActM} {Fr : List HProp} {vs : List Value} (hR : c.R = RChd n l Fr) (hr : resOf E c.fn.results.toList = some vs) (hv : tup vs = .tuple #[.pointer none, Bo false]) [S : Sub L Fr] : G c (.code .ret :: K) E L :=
  fun a w hE hS => wp_ret (kq_ret (res_fpost hr hE (S.sat hS) (by rw [hR]; exact .inl ⟨hv, rfl⟩)))
theorem g_retCh1 {n : Int} {l : List ActM} {Fr : List HProp} {vs : List Value} (b : Nat) (hR : c.R = RChd n l Fr) (hr : resOf E c.fn.results.toList = some vs) (hn : 1 ≤ n ∧ n ≤ 16) (hl : l.length ≤ 80) (hv : tup vs = .tuple #[ptr b 0, Bo true]) [S : Sub L (vdk b (runD (vdNew n) l) :: Fr)] : G c (.code .ret :: K) E L :=
  fun a w hE hS => wp_ret (kq_ret (res_fpost hr hE (S.sat hS) (by rw [hR]; exact .inr ⟨hn, hl, b, hv, rfl⟩)))
end
def tk0 : VdM := vdNew 4
def tk1 : VdM := snD tk0
def tk2 : VdM := wrD tk1 2 [120]
def tk3 : VdM := snD tk2
def tkA : List Area := [⟨2, 1⟩]
theorem tk_ch : chA tk3 1 2 = tkA := by decide
theorem rd_nn (D : VdM) (x n : Int) : 0 ≤ (rdS D x n).2.2 := by unfold rdS; split; simp; split <;> simp
def unlS (D : VdM) (x y n : Int) : Bool := !decide ((rdS D x n).1 = (rdS D y n).1) || !decide (decide ((rdS D x n).2.2 = 0) = decide ((rdS D y n).2.2 = 0))

-- counterfoil/counterfoiltop.number is not in this seat
-- counterfoil/counterfoiltop.unlike is not in this seat
-- counterfoil/counterfoiltop.tracked is not in this seat
-- counterfoil/counterfoiltop.change is not in this seat
-- counterfoil/counterfoiltop.changed is not in this seat
end Go.Proofs.Ythdjckbjjfiopaa
