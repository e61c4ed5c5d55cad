/- Logs: what is computed, in plain words; lists of deeds in memory. No condition. -/
import Derived.Test.YthdjckbjjfiopacDisk2
import Derived.Test.YthdjckbjjfiopacRowS
import Derived.Test.YthdjckbjjfiopacActs
import Derived.Test.YthdjckbjjfiopacDisk4
namespace Go.Proofs.Ythdjckbjjfiopac
open Go.Sl Go.Proofs
set_option linter.unusedVariables false
set_option linter.unusedSimpArgs false
def fourN (n : Nat) : Bytes := [UInt8.ofNat n, UInt8.ofNat (n / 256), UInt8.ofNat (n / 65536), UInt8.ofNat (n / 16777216)]
def textB (kind : UInt8) (n : Nat) (s : Bytes) : Bytes := kind :: (fourN n ++ ([UInt8.ofNat s.length, UInt8.ofNat (s.length / 256)] ++ s))
def sk (s : Bytes) (i : Nat) : UInt8 := (s[i]?).getD 0
def skN (s : Bytes) : Nat := (sk s 5).toNat + 256 * (sk s 6).toNat
def lookB (num : Nat) (s : Bytes) : Option (UInt8 × Bytes) := if (s.take 5).drop 1 = fourN num ∧ (sk s 0 = 111 ∨ sk s 0 = 99) ∧ skN s ≤ 73 then some (sk s 0, (s.take (7 + skN s)).drop 7) else none
abbrev Deeds := List (List ChangeM)
def scanF (first : Nat) (sec : Nat → Bytes) : Nat → Nat → Deeds → List ChangeM → Nat → Deeds × Nat
  | 0, _, out, _, used => (out, used)
  | f + 1, i, out, deed, used => match lookB (first + i) (sec i) with
    | none => (out, used)
    | some (k, t) => if k = 99 then (if t = fourN deed.length then scanF first sec f (i + 1) (out ++ [deed]) [] (i + 1) else (out, used)) else if (prS t).2 = 0 then scanF first sec f (i + 1) out (deed ++ [(prS t).1]) used else (out, used)
theorem sk_at {s : Bytes} {i : Nat} (h : i < s.length) : s[i]? = some (sk s i) := by unfold sk; rw [List.getElem?_eq_getElem h]; rfl
theorem ofNat_small {n : Nat} (h : n < 256) : (UInt8.ofNat n).toNat = n := by rw [UInt8.toNat_ofNat']; omega
theorem look_text {kind : UInt8} {num : Nat} {s : Bytes} (hk : kind = 111 ∨ kind = 99) (hs : s.length ≤ 73) : lookB num (fullB (textB kind num s)) = some (kind, s) := by
  have e : fullB (textB kind num s) = kind :: (UInt8.ofNat num :: UInt8.ofNat (num / 256) :: UInt8.ofNat (num / 65536) :: UInt8.ofNat (num / 16777216) :: UInt8.ofNat s.length :: UInt8.ofNat (s.length / 256) :: (s ++ nulls (80 - (textB kind num s).length))) := by
    unfold fullB textB fourN; simp
  rw [e]
  generalize nulls (80 - (textB kind num s).length) = z
  unfold lookB
  have h5 : skN (kind :: (UInt8.ofNat num :: UInt8.ofNat (num / 256) :: UInt8.ofNat (num / 65536) :: UInt8.ofNat (num / 16777216) :: UInt8.ofNat s.length :: UInt8.ofNat (s.length / 256) :: (s ++ z))) = s.length := by
    show (UInt8.ofNat s.length).toNat + 256 * (UInt8.ofNat (s.length / 256)).toNat = s.length
    rw [ofNat_small (by omega), ofNat_small (by omega)]; omega
  rw [h5, if_pos ⟨rfl, hk, by omega⟩]
  congr 2
  rw [show 7 + s.length = s.length + 7 by omega]
  simp only [List.take_succ_cons, List.drop_succ_cons, List.drop_zero]
  rw [List.take_left]
theorem look_blank (num : Nat) : lookB num (fullB []) = none := by
  unfold lookB
  rw [if_neg]
  intro h
  have : sk (fullB []) 0 = 0 := by decide
  rw [this] at h
  rcases h.2.1 with h | h <;> cases h
theorem pr_raw {c : ChangeM} (h : chkC c = 0) : prS (rawC c) = (c, 0) := by
  obtain ⟨_, _, hk, hv⟩ := chkC_ok h
  unfold rawC head2
  show prS ((if c.gone then 1 else 0) :: UInt8.ofNat c.key.length :: (c.key ++ c.val)) = _
  rw [pr_cons]
  have e1 : (UInt8.ofNat c.key.length).toNat = c.key.length := ofNat_small (by omega)
  have e0 : ((if c.gone = true then (1 : UInt8) else 0)).toNat ≤ 1 := by split <;> decide
  rw [if_neg (by rw [e1]; simp; omega)]
  have ec : cutC (if c.gone = true then 1 else 0) (UInt8.ofNat c.key.length) (c.key ++ c.val) = c := by
    unfold cutC
    rw [e1, List.take_left, List.drop_left]
    cases c with
    | mk k v g => cases g <;> rfl
  rw [ec, if_pos h]
theorem raw_len {c : ChangeM} (h : chkC c = 0) : (rawC c).length ≤ 58 := by
  obtain ⟨_, _, hk, hv⟩ := chkC_ok h
  unfold rawC head2
  simp
  omega
theorem text_len (k : UInt8) (n : Nat) (s : Bytes) : (textB k n s).length = 7 + s.length := by simp [textB, fourN]; omega
theorem scan_s (first : Nat) (sec : Nat → Bytes) (f i : Nat) (out : Deeds) (deed : List ChangeM) (used : Nat) : scanF first sec (f + 1) i out deed used = match lookB (first + i) (sec i) with
    | none => (out, used)
    | some (k, t) => if k = 99 then (if t = fourN deed.length then scanF first sec f (i + 1) (out ++ [deed]) [] (i + 1) else (out, used)) else if (prS t).2 = 0 then scanF first sec f (i + 1) out (deed ++ [(prS t).1]) used else (out, used) := rfl
/-- what was read up to the end of a deed does not depend on what follows -/
theorem scan_pre {first : Nat} {sec : Nat → Bytes} : ∀ (f i : Nat) (out : Deeds) (deed : List ChangeM) (used : Nat) (o : Deeds) (u : Nat), scanF first sec f i out deed used = (o, u) → (u = used ∧ o = out) ∨
    ((i < u ∧ u ≤ i + f) ∧ ∀ sec' : Nat → Bytes, (∀ j, i ≤ j → j < u → sec' j = sec j) → scanF first sec' f i out deed used = scanF first sec' (i + f - u) u o [] u)
  | 0, i, out, deed, used, o, u, e => by
    injection e with e1 e2
    exact .inl ⟨e2.symm, e1.symm⟩
  | f + 1, i, out, deed, used, o, u, e => by
    rw [scan_s] at e
    cases hl : lookB (first + i) (sec i) with
    | none => rw [hl] at e; injection e with e1 e2; exact .inl ⟨e2.symm, e1.symm⟩
    | some kt =>
      obtain ⟨k, t⟩ := kt
      rw [hl] at e
      simp only at e
      by_cases hk : k = 99
      · rw [if_pos hk] at e
        by_cases ht : t = fourN deed.length
        · rw [if_pos ht] at e
          right
          have step : ∀ sec' : Nat → Bytes, sec' i = sec i → scanF first sec' (f + 1) i out deed used = scanF first sec' f (i + 1) (out ++ [deed]) [] (i + 1) := fun sec' hs => by
            rw [scan_s, hs, hl]; simp only; rw [if_pos hk, if_pos ht]
          rcases scan_pre f (i + 1) (out ++ [deed]) [] (i + 1) o u e with ⟨h1, h2⟩ | ⟨⟨h1, h2⟩, h3⟩
          · subst h1 h2
            exact ⟨⟨by omega, by omega⟩, fun sec' hs => by rw [step sec' (hs i (by omega) (by omega)), show i + (f + 1) - (i + 1) = f by omega]⟩
          · exact ⟨⟨by omega, by omega⟩, fun sec' hs => by rw [step sec' (hs i (by omega) (by omega)), h3 sec' (fun j hj1 hj2 => hs j (by omega) hj2), show i + (f + 1) = i + 1 + f by omega]⟩
        · rw [if_neg ht] at e; injection e with e1 e2; exact .inl ⟨e2.symm, e1.symm⟩
      · rw [if_neg hk] at e
        by_cases hp : (prS t).2 = 0
        · rw [if_pos hp] at e
          have step : ∀ sec' : Nat → Bytes, sec' i = sec i → scanF first sec' (f + 1) i out deed used = scanF first sec' f (i + 1) out (deed ++ [(prS t).1]) used := fun sec' hs => by
            rw [scan_s, hs, hl]; simp only; rw [if_neg hk, if_pos hp]
          rcases scan_pre f (i + 1) out (deed ++ [(prS t).1]) used o u e with h | ⟨⟨h1, h2⟩, h3⟩
          · exact .inl h
          · exact .inr ⟨⟨by omega, by omega⟩, fun sec' hs => by rw [step sec' (hs i (by omega) (by omega)), h3 sec' (fun j hj1 hj2 => hs j (by omega) hj2), show i + (f + 1) = i + 1 + f by omega]⟩
        · rw [if_neg hp] at e; injection e with e1 e2; exact .inl ⟨e2.symm, e1.symm⟩
theorem scan_open {first : Nat} {sec : Nat → Bytes} {f : Nat} : ∀ (c : List ChangeM) (i : Nat) (out : Deeds) (deed : List ChangeM) (used : Nat), (∀ x ∈ c, chkC x = 0) → (∀ k x, c[k]? = some x → sec (i + k) = fullB (textB 111 (first + (i + k)) (rawC x))) →
    scanF first sec (c.length + f) i out deed used = scanF first sec f (i + c.length) out (deed ++ c) used
  | [], i, out, deed, used, _, _ => by simp
  | x :: c, i, out, deed, used, hc, hs => by
    have h0 := hs 0 x rfl
    have hx := hc x (by simp)
    rw [show (x :: c).length + f = (c.length + f) + 1 by simp; omega]
    rw [scan_s, show sec i = _ from h0, Nat.add_zero, look_text (.inl rfl) (by have := raw_len hx; omega)]
    simp only
    rw [if_neg (by decide), pr_raw hx, if_pos rfl, scan_open c (i + 1) out (deed ++ [x]) used (fun y hy => hc y (List.mem_cons_of_mem _ hy)) (fun k y hy => by have := hs (k + 1) y (by simpa using hy); rw [show i + 1 + k = i + (k + 1) by omega]; exact this)]
    simp only [List.length_cons, List.append_assoc, List.singleton_append]
    rw [show i + 1 + c.length = i + (c.length + 1) by omega]
/-- a deed behind what there is -/
theorem scan_add {first many : Nat} {sec sec' : Nat → Bytes} {out : Deeds} {used : Nat} {c : List ChangeM} (h : scanF first sec many 0 [] [] 0 = (out, used)) (hc : ∀ x ∈ c, chkC x = 0) (hr : used + c.length + 1 ≤ many) (hlen : c.length ≤ 72)
    (h1 : ∀ j, j < used → sec' j = sec j) (h2 : ∀ k x, c[k]? = some x → sec' (used + k) = fullB (textB 111 (first + (used + k)) (rawC x))) (h3 : sec' (used + c.length) = fullB (textB 99 (first + (used + c.length)) (fourN c.length)))
    (h4 : used + c.length + 1 < many → sec' (used + c.length + 1) = fullB []) : scanF first sec' many 0 [] [] 0 = (out ++ [c], used + c.length + 1) := by
  have hpre := scan_pre many 0 [] [] 0 out used h
  have e : scanF first sec' many 0 [] [] 0 = scanF first sec' (many - used) used out [] used := by
    rcases hpre with ⟨e1, e2⟩ | ⟨_, h5⟩
    · subst e1 e2; rfl
    · have := h5 sec' fun j _ hj => h1 j hj
      rw [this, Nat.zero_add]
  rw [e, show many - used = c.length + ((many - used - c.length - 1) + 1) by omega, scan_open c used out [] used hc h2]
  rw [scan_s, h3, look_text (.inr rfl) (by simp [fourN])]
  simp only [List.nil_append, if_true]
  cases hf : many - used - c.length - 1 with
  | zero => rfl
  | succ f =>
    rw [scan_s, h4 (by omega), look_blank]
/-! ### Lists of deeds -/
abbrev LocA := Option Addr × Nat
def dR (gl : List (List ChangeM × LocA)) : List (List Value) := gl.map fun x => [sl x.2.1 x.1.length x.2.2]
theorem dR_len (gl : List (List ChangeM × LocA)) : (dR gl).length = gl.length := by simp [dR]
theorem dR_at {gl : List (List ChangeM × LocA)} {k : Nat} {x : List ChangeM × LocA} (h : gl[k]? = some x) : (dR gl)[k]? = some [sl x.2.1 x.1.length x.2.2] := by simp [dR, h]
def dees (gl : List (List ChangeM × LocA)) : HProp := fun m => ∀ x ∈ gl, roL 3 x.2.1 (chR x.1) m
theorem ro_mono {sz : Nat} {s : Option Addr} {rows : List (List Value)} {m n : Res} (h : roL sz s rows m) (hs : Res.sub m n) : roL sz s rows n := by
  rcases h with h | ⟨b, off, o, h1, h2, h3⟩
  · exact .inl h
  · exact .inr ⟨b, off, o, h1, hs b _ h2, h3⟩
theorem dees_pers (gl : List (List ChangeM × LocA)) : Pers (dees gl) := fun m h => by
  refine ⟨ros m, fun b x hx => ?_, fun b x hx => ?_, fun x hx => roL_ros (h x hx)⟩
  · unfold ros at hx
    split at hx
    · rename_i o ho; rw [ho]; exact hx
    · cases hx
  · unfold ros at hx
    split at hx
    · injection hx with hx; subst hx; rfl
    · cases hx
section
variable {c : Cx} {E : Env} {L : List HProp} {K : List KI}
theorem g_dees0 (k : G c K E (dees [] :: L)) : G c K E L := fun a w hE hS => k a w hE ((Sat.pure_mk (φ := True) trivial hS).weak fun m _ => fun x hx => nomatch hx)
theorem g_deesAt {F : List HProp} (gl : List (List ChangeM × LocA)) {x : List ChangeM × LocA} (h : x ∈ gl) [R : Rem L (dees gl) F] (k : G c K E (roL 3 x.2.1 (chR x.1) :: dees gl :: F)) : G c K E L := fun a w hE hS => k a w hE (((R.sat hS).dup (dees_pers gl)).weak fun m hm => hm x h)
theorem g_deesDup {F : List HProp} (gl : List (List ChangeM × LocA)) [R : Rem L (dees gl) F] (k : G c K E (dees gl :: dees gl :: F)) : G c K E L := fun a w hE hS => k a w hE ((R.sat hS).dup (dees_pers gl))
theorem g_roDup {F : List HProp} {sz : Nat} (s : Option Addr) (rows : List (List Value)) [R : Rem L (roL sz s rows) F] (k : G c K E (roL sz s rows :: roL sz s rows :: F)) : G c K E L := fun a w hE hS => k a w hE ((R.sat hS).dup (Pers.roL sz s rows))
/-- and one more -/
theorem g_deesApp {F F2 : List HProp} (gl : List (List ChangeM × LocA)) (d : List ChangeM) (s : Option Addr) (n : Nat) [R : Rem L (dees gl) F] [R2 : Rem F (roL 3 s (chR d)) F2] (k : G c K E (dees (gl ++ [(d, s, n)]) :: F2)) : G c K E L := fun a w hE hS => by
  have h1 := R.sat hS
  have r2 : Rem (dees gl :: F) (roL 3 s (chR d)) (dees gl :: F2) := inferInstance
  have h2 : Sat c.w0 w (roL 3 s (chR d) :: dees gl :: F2) := r2.sat h1
  refine k a w hE (h2.two.weak fun m hm => ?_)
  obtain ⟨m1, m2, hd, s1, s2, ha, hb⟩ := hm
  intro y hy
  rcases List.mem_append.1 hy with hy | hy
  · exact ro_mono (hb y hy) s2
  · rw [List.mem_singleton] at hy
    subst hy
    exact ro_mono ha s1
end

end Go.Proofs.Ythdjckbjjfiopac
