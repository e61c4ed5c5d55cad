/- Arguments that are lists of actions: what lies where. No condition. -/
import Derived.Test.YthdjckbjjfiopacLight
namespace Go.Proofs.Ythdjckbjjfiopac
open Go.Sl Go.Proofs
set_option linter.unusedVariables false
set_option linter.unusedSimpArgs false
structure PutM where
  at_ : Int
  data : Bytes
  deriving DecidableEq
def encP (p : PutM) : List Value := [I p.at_, Str p.data]
def putR (l : List PutM) : List (List Value) := l.map encP
theorem putR_len (l : List PutM) : (putR l).length = l.length := by simp [putR]
theorem putR_at {l : List PutM} {k : Nat} {c : PutM} (h : l[k]? = some c) : (putR l)[k]? = some (encP c) := by simp [putR, h]
structure ActM where
  kind : Bytes
  s : Bytes
  a : Int
  b : Int
  c : Int
  d : Int
  k : Int
  puts : List PutM
  changes : List ChangeM
abbrev ActZ := (Option Addr × Nat) × (Option Addr × Nat)
def encAct (x : ActM) (z : ActZ) : List Value := [Str x.kind, Str x.s, I x.a, I x.b, I x.c, I x.d, Uw x.k, sl z.1.1 x.puts.length z.1.2, sl z.2.1 x.changes.length z.2.2]
def actR (l : List ActM) (f : Nat → ActZ) : List (List Value) := l.mapIdx fun i x => encAct x (f i)
theorem actR_len (l : List ActM) (f : Nat → ActZ) : (actR l f).length = l.length := by simp [actR]
theorem actR_at {l : List ActM} {f : Nat → ActZ} {k : Nat} {x : ActM} (h : l[k]? = some x) : (actR l f)[k]? = some (encAct x (f k)) := by simp [actR, h]
/-- actions at s, and what each refers to -/
def acts (s : Option Addr) (l : List ActM) (f : Nat → ActZ) : HProp := fun m => roL 9 s (actR l f) m ∧ ∀ i x, l[i]? = some x → roL 2 (f i).1.1 (putR x.puts) m ∧ roL 3 (f i).2.1 (chR x.changes) m
def ros (m : Res) : Res := fun b => match m b with
  | some (o, true) => some (o, true)
  | _ => none
theorem ros_at {m : Res} {b : Nat} {o : Obj} (h : m b = some (o, true)) : ros m b = some (o, true) := by simp [ros, h]
theorem roL_ros {sz : Nat} {s : Option Addr} {rows : List (List Value)} {m : Res} (h : roL sz s rows m) : roL sz s rows (ros m) := by
  rcases h with h | ⟨b, off, o, h1, h2, h3⟩
  · exact .inl h
  · exact .inr ⟨b, off, o, h1, ros_at h2, h3⟩
theorem acts_pers (s : Option Addr) (l : List ActM) (f : Nat → ActZ) : Pers (acts s l f) := fun m h => by
  refine ⟨ros m, fun b x hx => ?_, fun b x hx => ?_, roL_ros h.1, fun i x hx => ⟨roL_ros (h.2 i x hx).1, roL_ros (h.2 i x hx).2⟩⟩
  · unfold ros at hx
    split at hx
    · rename_i o ho; rw [ho]; exact hx
    · cases hx
  · unfold ros at hx
    split at hx
    · injection hx with hx; subst hx; rfl
    · cases hx
section
variable {c : Cx} {E : Env} {L : List HProp} {K : List KI} {s : Option Addr} {l : List ActM} {f : Nat → ActZ} {w0 w : World}
instance (priority := high) SlR.acts : SlR (acts s l f :: L) s 9 (actR l f) := ⟨fun w0 w h => SlR.ro.out w0 w (h.weak (B := roL 9 s (actR l f)) fun m hm => hm.1)⟩
/-- what action i refers to -/
theorem g_actPuts {F : List HProp} (s : Option Addr) (l : List ActM) (f : Nat → ActZ) (i : Nat) {x : ActM} (hx : l[i]? = some x) [R : Rem L (acts s l f) F] (h : G c K E (roL 2 (f i).1.1 (putR x.puts) :: acts s l f :: F)) : G c K E L := fun a w hE hS =>
  h a w hE (((R.sat hS).dup (acts_pers s l f)).weak fun m hm => (hm.2 i x hx).1)
theorem g_actChanges {F : List HProp} (s : Option Addr) (l : List ActM) (f : Nat → ActZ) (i : Nat) {x : ActM} (hx : l[i]? = some x) [R : Rem L (acts s l f) F] (h : G c K E (roL 3 (f i).2.1 (chR x.changes) :: acts s l f :: F)) : G c K E L := fun a w hE hS =>
  h a w hE (((R.sat hS).dup (acts_pers s l f)).weak fun m hm => (hm.2 i x hx).2)
end

end Go.Proofs.Ythdjckbjjfiopac
