/- Walks: a vault filled by actions. No condition. -/
import Derived.Test.YthdjckbjjfiopaaGreatDoorVa2
import Derived.Test.YthdjckbjjfiopaaGreatDoorPartA
import Derived.Test.YthdjckbjjfiopaaGreatDoorNums
namespace Go.Proofs.YthdjckbjjfiopaaGreatDoor
open Go.Sl Go.Proofs
set_option linter.unusedVariables false
set_option linter.unusedSimpArgs false
def kIng : Bytes := [105, 110, 103, 101, 115, 116]
def kAgn : Bytes := [97, 103, 97, 105, 110]
def kDrp : Bytes := [100, 114, 111, 112]
def fillF (S : SI) (L : List Pt) (n : Int) (x : ActM) : VR := if x.kind = kIng then ingF S L n x.a x.b x.c x.puts else if x.kind = kAgn then agnF S L n x.a else if x.kind = kDrp then drpF S L n x.a else .ok (S, L, n, 0)
theorem agnF_err {S : SI} {L : List Pt} {n id e : Int} (h : agnF S L n id = .error e) : 0 < e := by
  unfold agnF at h
  split at h
  · injection h with h; omega
  · split at h
    · injection h with h; have := addE_nn L n; omega
    · cases h
theorem drpF_err {S : SI} {L : List Pt} {n id e : Int} (h : drpF S L n id = .error e) : 0 < e := by
  unfold drpF at h
  split at h
  · injection h with h; omega
  · cases h
/-- the blocks of a point -/
def blk (S : SI) (p : Pt) : List Bytes := (List.range p.size.toNat).map (getS S p.root)
theorem lightPu {l : List ActM} {m : Int} {x : ActM} (h : lightA l m = true) (hx : x ∈ l) : x.puts.length ≤ 24 ∧ ∀ p ∈ x.puts, p.data.length ≤ 20 := by
  unfold lightA at h
  simp only [Bool.and_eq_true, List.all_eq_true] at h
  have := h.2 x hx
  unfold lightA1 at this
  simp only [Bool.and_eq_true, decide_eq_true_eq, List.all_eq_true] at this
  refine ⟨by have := this.1.1.2; omega, fun p hp => ?_⟩
  have h2 := this.2 p hp
  unfold lightP at h2
  simpa using h2
section
variable {c : Cx} {E : Env} {L : List HProp} {K : List KI}
end
end Go.Proofs.YthdjckbjjfiopaaGreatDoor
