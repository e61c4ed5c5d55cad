/- The reference's disk of chapter 2: what lies where. No condition. -/
import Derived.Test.YthdjckbjjfiopaaVd4
import Derived.Test.YthdjckbjjfiopaaSl19
namespace Go.Proofs.Ythdjckbjjfiopaa
open Go.Sl Go.Proofs
set_option linter.unusedVariables false
set_option linter.unusedSimpArgs false
def rvC (sz : Int) (B : Nat → Bytes) (m : Nat → Bool) (tm nx : Int) (ss : Value) : Array Value := #[I sz, Str (B 0), Str (B 1), Str (B 2), Str (B 3), Str (B 4), Str (B 5), Str (B 6), Str (B 7), Str (B 8), Str (B 9), Str (B 10), Str (B 11), Str (B 12), Str (B 13), Str (B 14), Str (B 15), Bo (m 0), Bo (m 1), Bo (m 2), Bo (m 3), Bo (m 4), Bo (m 5), Bo (m 6), Bo (m 7), Bo (m 8), Bo (m 9), Bo (m 10), Bo (m 11), Bo (m 12), Bo (m 13), Bo (m 14), Bo (m 15), I tm, I nx, ss]
def encR (x : SnapM) : List Value := let B := x.blocks; let m := x.dirty; [I x.id, I x.time, I x.size, Str (B 0), Str (B 1), Str (B 2), Str (B 3), Str (B 4), Str (B 5), Str (B 6), Str (B 7), Str (B 8), Str (B 9), Str (B 10), Str (B 11), Str (B 12), Str (B 13), Str (B 14), Str (B 15), Bo (m 0), Bo (m 1), Bo (m 2), Bo (m 3), Bo (m 4), Bo (m 5), Bo (m 6), Bo (m 7), Bo (m 8), Bo (m 9), Bo (m 10), Bo (m 11), Bo (m 12), Bo (m 13), Bo (m 14), Bo (m 15)]
def rsnapR (l : List SnapM) : List (List Value) := l.map encR
theorem rsnapR_len (l : List SnapM) : (rsnapR l).length = l.length := by simp [rsnapR]
theorem rsnapR_at {l : List SnapM} {k : Nat} {x : SnapM} (h : l[k]? = some x) : (rsnapR l)[k]? = some (encR x) := by simp [rsnapR, h]
theorem encR_len (x : SnapM) : (encR x).length = 35 := rfl
theorem rvC_size (sz x tm nx : Int) (B : Nat → Bytes) (m : Nat → Bool) (ss : Value) : (rvC sz B m tm nx ss).setIfInBounds 0 (I x) = rvC x B m tm nx ss := rfl
theorem rvC_time (sz x tm nx : Int) (B : Nat → Bytes) (m : Nat → Bool) (ss : Value) : (rvC sz B m tm nx ss).setIfInBounds 33 (I x) = rvC sz B m x nx ss := rfl
theorem rvC_next (sz x tm nx : Int) (B : Nat → Bytes) (m : Nat → Bool) (ss : Value) : (rvC sz B m tm nx ss).setIfInBounds 34 (I x) = rvC sz B m tm x ss := rfl
theorem rvC_snaps (sz tm nx : Int) (B : Nat → Bytes) (m : Nat → Bool) (ss ss' : Value) : (rvC sz B m tm nx ss).setIfInBounds 35 ss' = rvC sz B m tm nx ss' := rfl
theorem rvC_len (sz tm nx : Int) (B : Nat → Bytes) (m : Nat → Bool) (ss : Value) : (rvC sz B m tm nx ss).size = 36 := rfl
theorem rvC_set (sz tm nx : Int) (B : Nat → Bytes) (m : Nat → Bool) (ss : Value) (x : Bytes) : ∀ j, j < 16 → (rvC sz B m tm nx ss).setIfInBounds (0 + 1 + j * 1) (Str x) = rvC sz (upd B j x) m tm nx ss
  := fun j h => match j, h with
    | 0, _ => rfl
    | 1, _ => rfl
    | 2, _ => rfl
    | 3, _ => rfl
    | 4, _ => rfl
    | 5, _ => rfl
    | 6, _ => rfl
    | 7, _ => rfl
    | 8, _ => rfl
    | 9, _ => rfl
    | 10, _ => rfl
    | 11, _ => rfl
    | 12, _ => rfl
    | 13, _ => rfl
    | 14, _ => rfl
    | 15, _ => rfl
    | k + 16, h => absurd h (by omega)
theorem updM_eq (m : Nat → Bool) (i j : Nat) : updM m j i = if i = j then true else m i := by unfold updM; split <;> simp_all
theorem rvC_mark (sz tm nx : Int) (B : Nat → Bytes) (m : Nat → Bool) (ss : Value) : ∀ j, j < 16 → (rvC sz B m tm nx ss).setIfInBounds (0 + 17 + j * 1) (Bo true) = rvC sz B (updM m j) tm nx ss
  := fun j h => by
    have e : updM m j = fun i => if i = j then true else m i := funext fun i => updM_eq m i j
    rw [e]
    exact match j, h with
    | 0, _ => rfl
    | 1, _ => rfl
    | 2, _ => rfl
    | 3, _ => rfl
    | 4, _ => rfl
    | 5, _ => rfl
    | 6, _ => rfl
    | 7, _ => rfl
    | 8, _ => rfl
    | 9, _ => rfl
    | 10, _ => rfl
    | 11, _ => rfl
    | 12, _ => rfl
    | 13, _ => rfl
    | 14, _ => rfl
    | 15, _ => rfl
    | k + 16, h => absurd h (by omega)
def rvP (b : Nat) (D : VdM) (z : Loc) : List HProp :=
  [pt b (.cells (rvC D.size D.blocks D.dirty D.time D.next (sl z.1 D.snaps.length z.2)) 80 (0, 0)), owL 93 35 z.1 z.2 (rsnapR D.snaps)]
/-- a disk of the reference at b -/
def rvd (b : Nat) (D : VdM) : HProp := hx (rvP b D)
section
variable {c : Cx} {E : Env} {L : List HProp} {K : List KI}
theorem g_openR {F : List HProp} (b : Nat) (D : VdM) [R : Rem L (rvd b D) F] (k : ∀ ss cs, G c K E (pt b (.cells (rvC D.size D.blocks D.dirty D.time D.next (sl ss D.snaps.length cs)) 80 (0, 0)) :: owL 93 35 ss cs (rsnapR D.snaps) :: F)) : G c K E L := g_open (rvd b D) rfl fun z => k z.1 z.2
theorem g_shutR {F : List HProp} (C : Array Value) (rs : List (List Value)) (ss : Option Addr) (cs b : Nat) (D : VdM) (hC : C = rvC D.size D.blocks D.dirty D.time D.next (sl ss D.snaps.length cs)) (hrs : rs = rsnapR D.snaps) [S : Split L [pt b (.cells C 80 (0, 0)), owL 93 35 ss cs rs] F] (k : G c K E (rvd b D :: F)) : G c K E L := fun a w hE hS => by
  subst hC hrs
  exact k a w hE (Sat.hx_mk (A := rvP b D) (ss, cs) (S.sat hS))
end

end Go.Proofs.Ythdjckbjjfiopaa
