/- Stores: what is computed, in plain words. No condition. -/
import Derived.Test.YthdjckbjjfiopacLgC
import Derived.Test.YthdjckbjjfiopacLg3
import Derived.Test.YthdjckbjjfiopacRow3
namespace Go.Proofs.Ythdjckbjjfiopac
open Go.Sl Go.Proofs
set_option linter.unusedVariables false
set_option linter.unusedSimpArgs false
structure HdM where
  ep : Nat
  side : Nat
  size : Nat
  first : Nat
deriving DecidableEq
def HdM.no : HdM := ⟨0, 0, 0, 0⟩
def encH (h : HdM) : List Value := [I h.ep, I h.side, I h.size, I h.first]
def headB (h : HdM) : Bytes := [72] ++ fourN h.ep ++ fourN h.side ++ fourN h.size ++ fourN h.first
def unN (s : Bytes) : Nat := (sk s 0).toNat + 2 ^ 8 * (sk s 1).toNat + 2 ^ 16 * (sk s 2).toNat + 2 ^ 24 * (sk s 3).toNat
def rawH (s : Bytes) : HdM := ⟨unN ((s.take 5).drop 1), unN ((s.take 9).drop 5), unN ((s.take 13).drop 9), unN ((s.take 17).drop 13)⟩
def offH (s : Bytes) : Prop := sk s 0 ≠ 72 ∨ 1 < (rawH s).side ∨ 4800 < (rawH s).size ∨ (rawH s).first < 1
instance (s : Bytes) : Decidable (offH s) := by unfold offH; infer_instance
def headO (s : Bytes) : HdM := if offH s then HdM.no else rawH s
theorem u8_lt (x : UInt8) : x.toNat < 256 := x.toNat_lt
theorem unN_lt (s : Bytes) : unN s < 4294967296 := by
  unfold unN
  have h0 := u8_lt (sk s 0); have h1 := u8_lt (sk s 1); have h2 := u8_lt (sk s 2); have h3 := u8_lt (sk s 3)
  omega
theorem unN_four {n : Nat} (h : n < 4294967296) : unN (fourN n) = n := by
  unfold unN fourN
  simp only [sk, List.getElem?_cons_zero, List.getElem?_cons_succ, Option.getD_some, UInt8.toNat_ofNat']
  omega
theorem headB_len (h : HdM) : (headB h).length = 17 := by simp [headB, fourN]
theorem rawH_head {h : HdM} (h1 : h.ep < 4294967296) (h2 : h.side < 4294967296) (h3 : h.size < 4294967296) (h4 : h.first < 4294967296) : rawH (fullB (headB h)) = h ∧ sk (fullB (headB h)) 0 = 72 := by
  have e : fullB (headB h) = 72 :: (fourN h.ep ++ (fourN h.side ++ (fourN h.size ++ (fourN h.first ++ nulls (80 - (headB h).length))))) := by
    unfold fullB headB; simp
  rw [e]
  generalize nulls (80 - (headB h).length) = z
  have l : ∀ n, (fourN n).length = 4 := fun n => rfl
  refine ⟨?_, rfl⟩
  unfold rawH
  have f1 : (List.drop 1 (List.take 5 (72 :: (fourN h.ep ++ (fourN h.side ++ (fourN h.size ++ (fourN h.first ++ z))))))) = fourN h.ep := by simp [fourN]
  have f2 : (List.drop 5 (List.take 9 (72 :: (fourN h.ep ++ (fourN h.side ++ (fourN h.size ++ (fourN h.first ++ z))))))) = fourN h.side := by simp [fourN]
  have f3 : (List.drop 9 (List.take 13 (72 :: (fourN h.ep ++ (fourN h.side ++ (fourN h.size ++ (fourN h.first ++ z))))))) = fourN h.size := by simp [fourN]
  have f4 : (List.drop 13 (List.take 17 (72 :: (fourN h.ep ++ (fourN h.side ++ (fourN h.size ++ (fourN h.first ++ z))))))) = fourN h.first := by simp [fourN]
  rw [f1, f2, f3, f4, unN_four h1, unN_four h2, unN_four h3, unN_four h4]
theorem headO_head {h : HdM} (h1 : h.ep < 4294967296) (h2 : h.side ≤ 1) (h3 : h.size ≤ 4800) (h4 : 1 ≤ h.first ∧ h.first < 4294967296) : headO (fullB (headB h)) = h := by
  obtain ⟨e1, e2⟩ := rawH_head (h := h) h1 (by omega) (by omega) h4.2
  unfold headO
  rw [if_neg, e1]
  unfold offH
  rw [e1, e2]
  rintro (h | h | h | h)
  · exact h rfl
  · omega
  · omega
  · omega
/-! ### all rows as a text -/
def rowB (r : ChangeM) : Bytes := [UInt8.ofNat r.key.length, UInt8.ofNat r.val.length, UInt8.ofNat (r.val.length / 256)] ++ r.key ++ r.val
def allB (l : List ChangeM) : Bytes := l.flatMap rowB
def okR (r : ChangeM) : Prop := chkC r = 0 ∧ r.gone = false
theorem okR_len {r : ChangeM} (h : okR r) : (rowB r).length ≤ 59 ∧ 4 ≤ (rowB r).length := by
  obtain ⟨hk, _, h1, h2⟩ := chkC_ok h.1
  unfold rowB
  have : r.key.length ≠ 0 := fun e => hk (List.length_eq_zero_iff.1 e)
  simp
  omega
theorem allB_len : ∀ {l : List ChangeM}, (∀ r ∈ l, okR r) → (allB l).length ≤ 59 * l.length
  | [], _ => by simp [allB]
  | r :: l, h => by
    have h1 := okR_len (h r (by simp))
    have h2 := allB_len (l := l) fun x hx => h x (List.mem_cons_of_mem _ hx)
    simp only [allB, List.flatMap_cons, List.length_append, List.length_cons] at h2 ⊢
    omega
theorem allB_cons (r : ChangeM) (l : List ChangeM) : allB (r :: l) = rowB r ++ allB l := rfl
theorem allB_snoc (l : List ChangeM) (r : ChangeM) : allB (l ++ [r]) = allB l ++ rowB r := by simp [allB]
/-- rows in their order, laid one behind the other -/
theorem aps_snoc {l : List ChangeM} {r : ChangeM} (h : srt (l ++ [r])) (hr : r.gone = false) : apS l r = l ++ [r] := by
  have h1 := List.pairwise_append.1 h
  unfold apS
  rw [fl_all (fun x hx => h1.2.2 x hx r (by simp)), fl_no (fun x hx => kl_asym (h1.2.2 x hx r (by simp))), hr]
  simp
theorem srt_take {l : List ChangeM} (h : srt l) (k : Nat) : srt (l.take k) := h.sublist (List.take_sublist k l)
/-! ### chunks -/
def chunk (t : Bytes) (k : Nat) : Bytes := (t.drop (80 * k)).take 80
def chunks (t : Bytes) : Nat := (t.length + 79) / 80
def ckW (side : Nat) (t : Bytes) : Nat → Nat → List Stp
  | k, 0 => []
  | k, f + 1 => some (2 + side * 60 + k, chunk t k) :: ckW side t (k + 1) f
theorem ckW_len (side : Nat) (t : Bytes) : ∀ f k, (ckW side t k f).length = f
  | 0, _ => rfl
  | f + 1, k => by simp [ckW, ckW_len side t f]
def ckL (h : HdM) (t : Bytes) : List Stp := ckW h.side t 0 (chunks t) ++ [none, some (h.ep % 2, headB h), none]
def nxH (h : HdM) (rows : List ChangeM) (many : Nat) : HdM := ⟨h.ep + 1, 1 - h.side, (allB rows).length, h.first + many⟩
theorem chunk_len (t : Bytes) (k : Nat) : (chunk t k).length ≤ 80 := by unfold chunk; rw [List.length_take]; omega
/-! ### opening -/
def hdK (L : List Bytes) : Nat → HdM
  | 0 => HdM.no
  | k + 1 => if (hdK L k).ep < (headO (L.getD k [])).ep then headO (L.getD k []) else hdK L k
def bestH (L : List Bytes) : HdM := hdK L 2
def txt (L : List Bytes) (side : Nat) : Bytes := ((L.drop (2 + side * 60)).take 60).flatten
/-- what is on a disk of a store: the head, the rows laid as a whole, the deeds of the log -/
structure Good (L : List Bytes) (h : HdM) (r0 : List ChangeM) (ds : Deeds) (used : Nat) : Prop where
  best : bestH L = h
  ep : 1 ≤ h.ep
  side : h.side ≤ 1
  first : 1 ≤ h.first ∧ h.first ≤ 1000000000
  size : h.size = (allB r0).length
  text : (txt L h.side).take h.size = allB r0
  hsrt : srt r0
  hok : ∀ r ∈ r0, okR r
  len : r0.length ≤ 80
  log : scanF h.first (fun i => L.getD (122 + i) []) (L.length - 122) 0 [] [] 0 = (ds, used)
  lens : ∀ d ∈ ds, d.length ≤ 72
  chk : ∀ d ∈ ds, ∀ x ∈ d, chkC x = 0
  fits : ∀ k, ((ds.take k).foldl apsS r0).length ≤ 80
def cur (r0 : List ChangeM) (ds : Deeds) : List ChangeM := ds.foldl apsS r0
/-! ### committing -/
def cmV (many : Nat) (rows c : List ChangeM) : Int := if 72 < c.length then 2 else if fltC c ≠ 0 then fltC c else if 80 < (apsS rows c).length ∨ many < c.length + 1 then 8 else 0

end Go.Proofs.Ythdjckbjjfiopac
