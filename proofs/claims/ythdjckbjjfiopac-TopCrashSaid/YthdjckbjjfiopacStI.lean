/- What holds of a store between its actions: plain laws. No condition. -/
import Derived.Test.YthdjckbjjfiopacStL
namespace Go.Proofs.Ythdjckbjjfiopac
open Go.Sl Go.Proofs
set_option linter.unusedVariables false
set_option linter.unusedSimpArgs false
structure Inv (N : Nat) (D : DiskM) (h : HdM) (r0 : List ChangeM) (ds : Deeds) (used : Nat) : Prop where
  len : D.now.length = N
  big : 196 ≤ N ∧ N ≤ 260
  good : Good D.now h r0 ds used
  num : ∀ m, 122 ≤ m → m < N → numb (h.first + (N - 122)) (D.now.getD m [])
theorem Inv.used_le {N : Nat} {D : DiskM} {h : HdM} {r0 : List ChangeM} {ds : Deeds} {used : Nat} (I : Inv N D h r0 ds used) : used ≤ N - 122 := by
  have := scan_used I.good.log
  rw [I.len] at this
  exact this
theorem Inv.now {N : Nat} {D D' : DiskM} {h : HdM} {r0 : List ChangeM} {ds : Deeds} {used : Nat} (I : Inv N D h r0 ds used) (hn : D'.now = D.now) : Inv N D' h r0 ds used := ⟨by rw [hn]; exact I.len, I.big, by rw [hn]; exact I.good, by rw [hn]; exact I.num⟩
theorem nowS_ck (h : HdM) (t : Bytes) (L : List Bytes) : nowS L (ckL h t) = (nowS L (ckW h.side t 0 (chunks t))).set (h.ep % 2) (fullB (headB h)) := by unfold ckL; rw [nowS_app]; rfl
theorem Inv.new {N : Nat} {D D1 : DiskM} {h : HdM} {r0 : List ChangeM} {ds : Deeds} {used : Nat} (I : Inv N D h r0 ds used) (hep : h.ep ≤ 1000000) (hf : h.first ≤ 900000000) (hn : D1.now = nowS D.now (ckL (nxH h (cur r0 ds) (N - 122)) (allB (cur r0 ds)))) :
    Inv N D1 (nxH h (cur r0 ds) (N - 122)) (cur r0 ds) [] 0 := by
  have hl := I.len
  have g := good_new I.good (by rw [hl]; exact I.big) hep hf (by rw [hl]; exact I.num)
  rw [hl] at g
  rw [nowS_ck] at hn
  have hc60 := chunks_le I.good.lenC I.good.okC
  refine ⟨by rw [hn, List.length_set, nowS_len, hl], I.big, by rw [hn]; exact g, fun m h1 h2 => ?_⟩
  rw [hn, getD_set, if_neg (by simp only [nxH]; omega), ck_at, if_neg (by simp only [nxH]; omega)]
  exact numb_mono (I.num m h1 h2) (by simp only [nxH]; omega)
/-- all rows are laid: the machine is up -/
theorem up_ck {N : Nat} {D : DiskM} {h : HdM} {r0 : List ChangeM} {ds : Deeds} {used : Nat} (hu : upW D) (I : Inv N D h r0 ds used) (hep : h.ep ≤ 1000000) (hf : h.first ≤ 900000000) :
    ∃ D1, runS D (ckL (nxH h (cur r0 ds) (N - 122)) (allB (cur r0 ds))) = (0, D1) ∧ upW D1 ∧ Inv N D1 (nxH h (cur r0 ds) (N - 122)) (cur r0 ds) [] 0 := by
  obtain ⟨r1, r2, r3⟩ := run_up _ D hu (by rw [I.len]; exact nx_ok (h := h) I.good.lenC I.good.okC I.big.1)
  exact ⟨_, Prod.ext r1 rfl, r2, I.new hep hf r3⟩
theorem scan_pair {first many : Nat} {sec : Nat → Bytes} {a b : Deeds} {u v : Nat} (h1 : scanF first sec many 0 [] [] 0 = (a, u)) (h2 : scanF first sec many 0 [] [] 0 = (b, v)) : a = b ∧ u = v := by
  rw [h1] at h2; injection h2 with e1 e2; exact ⟨e1, e2⟩
/-- a deed is added: what is on the disk then -/
theorem Inv.add {N : Nat} {D D1 : DiskM} {h : HdM} {r0 : List ChangeM} {ds ds' : Deeds} {used used' : Nat} (I : Inv N D h r0 ds used) (hl : D1.now.length = N) (hP : ∀ m, (m < 122 → D1.now.getD m [] = D.now.getD m []) ∧ (122 ≤ m → m < N → numb (h.first + (N - 122)) (D1.now.getD m [])))
    (hlog : scanF h.first (secK D1.now 122) (N - 122) 0 [] [] 0 = (ds', used')) (h1 : ∀ d ∈ ds', d.length ≤ 72) (h2 : ∀ d ∈ ds', ∀ x ∈ d, chkC x = 0) (h3 : ∀ k, ((ds'.take k).foldl apsS r0).length ≤ 80) : Inv N D1 h r0 ds' used' := by
  have hb := I.big
  have hs := I.good.side
  exact ⟨hl, I.big, good_log I.good (by rw [hl, I.len]) (by rw [I.len]; omega) (fun m hm => (hP m).1 (by omega)) (fun m a b => (hP m).1 (by omega)) (by rw [I.len]; exact hlog) h1 h2 h3, fun m a b => (hP m).2 a b⟩
theorem addP {N : Nat} {D : DiskM} {h : HdM} {r0 : List ChangeM} {ds : Deeds} {used : Nat} {c : List ChangeM} (I : Inv N D h r0 ds used) (hf : h.first ≤ 900000000) (hv : addV (N - 122) used c = 0) : ∀ x ∈ addL 122 (N - 122) h.first used c, okP (fun m s => (m < 122 → s = D.now.getD m []) ∧ (122 ≤ m → m < N → numb (h.first + (N - 122)) s)) x := by
  obtain ⟨v1, v2, v3⟩ := addV_ok hv
  have hb := I.big
  intro x hx
  have := add_num (many := N - 122) (first := h.first) (used := used) (c := c) (by omega) (by omega) x hx
  cases x with
  | none => trivial
  | some y => exact ⟨fun hm => absurd this.1 (by omega), fun _ _ => this.2⟩
theorem up_add {N : Nat} {D : DiskM} {h : HdM} {r0 : List ChangeM} {ds : Deeds} {used : Nat} {c : List ChangeM} (hu : upW D) (h80 : ∀ x ∈ D.now, x.length = 80) (I : Inv N D h r0 ds used) (hf : h.first ≤ 900000000) (hv : addV (N - 122) used c = 0) (hfit : (apsS (cur r0 ds) c).length ≤ 80) :
    addE 122 (N - 122) h.first used c D = 0 ∧ upW (addD 122 (N - 122) h.first used c D) ∧ addU 122 (N - 122) h.first used c D = used + c.length + 1 ∧ Inv N (addD 122 (N - 122) h.first used c D) h r0 (ds ++ [c]) (used + c.length + 1) := by
  obtain ⟨v1, v2, v3⟩ := addV_ok hv
  have hb := I.big
  have hlog := I.good.log
  rw [I.len] at hlog
  obtain ⟨a1, a2, a3, a4, a5⟩ := add_up hu h80 (by rw [I.len]; omega) hv hlog
  refine ⟨a1, a2, by unfold addU; rw [if_pos a1], ?_⟩
  have hall : AllP (fun m s => (m < 122 → s = D.now.getD m []) ∧ (122 ≤ m → m < N → numb (h.first + (N - 122)) s)) { D with kept := D.now, wait := [] } := AllP.calm rfl rfl fun m => ⟨fun _ => rfl, fun h1 h2 => I.num m h1 h2⟩
  have hD : addD 122 (N - 122) h.first used c D = (runS D (addL 122 (N - 122) h.first used c)).2 := by unfold addD; rw [if_pos hv]
  have hok : ∀ x ∈ addL 122 (N - 122) h.first used c, okStp D.now.length x := by rw [I.len]; exact addL_ok (by omega) hv
  have hrn := (run_up _ D hu hok).2.2
  have hrn2 := (run_up _ ({ D with kept := D.now, wait := [] } : DiskM) hu hok).2.2
  have hP := (hall.run (addL 122 (N - 122) h.first used c) (addP I hf hv)).now
  rw [hrn2] at hP
  rw [← hrn, ← hD] at hP
  exact I.add (by rw [a4, I.len]) hP a5 (mem_snoc I.good.lens v1) (mem_snoc I.good.chk v3) (fits_snoc I.good.fits hfit)
theorem cm0 {many : Nat} {rows c : List ChangeM} (h : cmV many rows c = 0) : c.length ≤ 72 ∧ fltC c = 0 ∧ (apsS rows c).length ≤ 80 ∧ c.length + 1 ≤ many := by
  unfold cmV at h
  split at h
  · cases h
  · split at h
    · rename_i h1 h2; exact absurd h h2
    · split at h
      · cases h
      · rename_i h1 h2 h3
        exact ⟨by omega, by simpa using h2, by omega, by omega⟩
/-- a commit: the machine is up -/
theorem com_up {N : Nat} {D : DiskM} {h : HdM} {r0 : List ChangeM} {ds : Deeds} {used : Nat} {c : List ChangeM} {e : Int} {D2 : DiskM} {h2 : HdM} {used2 : Nat} {rows2 : List ChangeM} (hu : upW D) (hS : S80 D) (I : Inv N D h r0 ds used) (hep : h.ep ≤ 1000000) (hf : h.first ≤ 800000000) (hc : ComR D h (cur r0 ds) (N - 122) used c e D2 h2 used2 rows2) :
    e = cmV (N - 122) (cur r0 ds) c ∧ upW D2 ∧ S80 D2 ∧ h2.ep ≤ h.ep + 1 ∧ h2.first ≤ h.first + N ∧ rows2 = (if cmV (N - 122) (cur r0 ds) c = 0 then apsS (cur r0 ds) c else cur r0 ds) ∧
      used2 = (if cmV (N - 122) (cur r0 ds) c = 0 then (if N - 122 - used < c.length + 1 then 0 else used) + c.length + 1 else used) ∧ ∃ r0' ds', Inv N D2 h2 r0' ds' used2 ∧ cur r0' ds' = rows2 := by
  have hb := I.big
  rcases hc with ⟨hne, rfl, rfl, rfl, rfl, rfl⟩ | ⟨h0, e1, D1, h1, used1, hmid, hrest⟩
  · exact ⟨rfl, hu, hS, by omega, by omega, by rw [if_neg hne], by rw [if_neg hne], r0, ds, I, rfl⟩
  · obtain ⟨c1, c2, c3, c4⟩ := cm0 h0
    have hm : e1 = 0 ∧ upW D1 ∧ S80 D1 ∧ h1.ep ≤ h.ep + 1 ∧ h1.first ≤ h.first + N ∧ used1 = (if N - 122 - used < c.length + 1 then 0 else used) ∧ ∃ r1 d1, Inv N D1 h1 r1 d1 used1 ∧ cur r1 d1 = cur r0 ds := by
      rcases hmid with ⟨hroom, hrun, hck⟩ | ⟨hroom, rfl, rfl, rfl, rfl⟩
      · obtain ⟨D1', hr1, hu1, I1⟩ := up_ck hu I hep (by omega)
        rw [hr1] at hrun
        injection hrun with q1 q2
        subst q1 q2
        have h80 := S80_run _ D hS (nx_ok (h := h) I.good.lenC I.good.okC I.big.1)
        rw [hr1] at h80
        rcases hck with ⟨hx, _⟩ | ⟨_, rfl, hu1', d', hsc⟩
        · exact absurd rfl hx
        · have hlog := I1.good.log
          rw [I1.len] at hlog
          have := (scan_pair hsc hlog).2
          subst this
          exact ⟨rfl, hu1, h80, by simp only [nxH]; omega, by simp only [nxH]; omega, by rw [if_pos hroom], _, _, I1, rfl⟩
      · exact ⟨rfl, hu, hS, by omega, by omega, by rw [if_neg hroom], r0, ds, I, rfl⟩
    obtain ⟨rfl, hu1, hS1, m1, m2, m3, r1, d1, I1, hcur⟩ := hm
    rcases hrest with ⟨hx, _⟩ | ⟨_, rfl, rfl, rfl, rfl, rfl⟩
    · exact absurd rfl hx
    · have hv : addV (N - 122) used1 c = 0 := by rw [addV_of c1 (by rw [m3]; split <;> omega)]; exact c2
      obtain ⟨a1, a2, a3, a4⟩ := up_add (c := c) hu1 hS1.2.1 I1 (by omega) hv (by rw [hcur]; exact c3)
      refine ⟨by rw [a1, h0], a2, S80_add hS1 (N := N) (by omega), m1, m2, by rw [if_pos a1, if_pos h0], by rw [a3, if_pos h0, m3], r1, d1 ++ [c], by rw [a3]; exact a4, ?_⟩
      rw [if_pos a1, cur_snoc, hcur]
theorem okW_addS {N i : Nat} {D : DiskM} (h : okW N i D) (from_ many first used : Nat) (c : List ChangeM) : okW N (i + 200) (addD from_ many first used c D) := by
  unfold addD
  split
  · rename_i hv
    obtain ⟨h1, _, _⟩ := addV_ok hv
    refine okW_le (okW_run _ _ _ h) ?_
    have := layL_len from_ many first used c
    simp only [addL, List.length_append, List.length_cons, List.length_nil]
    omega
  · exact okW_le h (by omega)
theorem com_ok {N i : Nat} {D : DiskM} {h : HdM} {r0 : List ChangeM} {ds : Deeds} {used : Nat} {c : List ChangeM} {e : Int} {D2 : DiskM} {h2 : HdM} {used2 : Nat} {rows2 : List ChangeM} (hok : okW N i D) (hS : S80 D) (I : Inv N D h r0 ds used) (hc : ComR D h (cur r0 ds) (N - 122) used c e D2 h2 used2 rows2) : okW N (i + 263) D2 := by
  rcases hc with ⟨_, _, rfl, _⟩ | ⟨_, e1, D1, h1, used1, hmid, hr⟩
  · exact okW_le hok (by omega)
  · have hm := (mid_bd hmid hok hS I.good.lenC I.good.okC I.big.1 I.used_le).1
    rcases hr with ⟨_, _, rfl, _⟩ | ⟨_, _, rfl, _⟩
    · exact okW_le hm (by omega)
    · exact okW_le (okW_addS hm _ _ _ _ _) (by omega)
/-! ### formatting -/
theorem fmW_at : ∀ (k : Nat) (L : List Bytes) (m : Nat), (nowS L (fmW k)).getD m [] = if (m = 0 ∨ (122 ≤ m ∧ m < 122 + k)) ∧ m < L.length then fullB [] else L.getD m []
  | 0, L, m => by
    show (L.set 0 (fullB [])).getD m [] = _
    rw [getD_set]
    by_cases h : m = 0
    · subst h
      by_cases h2 : 0 < L.length
      · rw [if_pos ⟨rfl, h2⟩, if_pos ⟨.inl rfl, h2⟩]
      · rw [if_neg (fun hc => h2 hc.2), if_neg (fun hc => h2 hc.2)]
    · rw [if_neg (fun hc => h hc.1.symm), if_neg (by omega)]
  | k + 1, L, m => by
    rw [fmW, nowS_app]
    show ((nowS L (fmW k)).set (122 + k) (fullB [])).getD m [] = _
    rw [getD_set, nowS_len, fmW_at k L m]
    by_cases h : 122 + k = m ∧ 122 + k < L.length
    · rw [if_pos h, if_pos ⟨.inr (by omega), by omega⟩]
    · rw [if_neg h]
      by_cases h2 : (m = 0 ∨ (122 ≤ m ∧ m < 122 + k)) ∧ m < L.length
      · rw [if_pos h2, if_pos ⟨by omega, h2.2⟩]
      · rw [if_neg h2, if_neg (by omega)]
theorem fmW_ok {N : Nat} (hN : 196 ≤ N) : ∀ k, 122 + k ≤ N → ∀ x ∈ fmW k, okStp N x
  | 0, _, x, h => by
    rw [fmW, List.mem_singleton] at h
    subst h
    exact ⟨by simp only; omega, by simp⟩
  | k + 1, hk, x, h => by
    rw [fmW] at h
    rcases List.mem_append.1 h with h | h
    · exact fmW_ok hN k (by omega) x h
    · rw [List.mem_singleton] at h
      subst h
      exact ⟨by simp only; omega, by simp⟩
theorem fmL_ok {N : Nat} (hN : 196 ≤ N) : ∀ x ∈ fmL N, okStp N x := fun x hx => by
  unfold fmL fmT at hx
  simp only [List.mem_append, List.mem_cons, List.not_mem_nil, or_false] at hx
  rcases hx with hx | rfl | rfl | rfl
  · exact fmW_ok hN _ (by omega) x hx
  · trivial
  · exact ⟨by simp only; omega, by rw [headB_len]; decide⟩
  · trivial
theorem headO_blank : headO (fullB []) = HdM.no := by
  unfold headO
  rw [if_pos]
  left
  decide
/-- a new disk, or one that was formatted -/
theorem blank_ep {L : List Bytes} (h0 : L.getD 0 [] = fullB []) (h1 : L.getD 1 [] = fullB []) : (bestH L).ep = 0 := by
  rw [best_eq, h0, h1, headO_blank]
  rfl
theorem fmt_good {L : List Bytes} (hN : 196 ≤ L.length) : Good (nowS L (fmL L.length)) hd1 [] [] 0 := by
  have e : nowS L (fmL L.length) = (nowS L (fmW (L.length - 122))).set 1 (fullB (headB hd1)) := by unfold fmL; rw [nowS_app]; rfl
  rw [e]
  have hat := fmW_at (L.length - 122) L
  have hl : (nowS L (fmW (L.length - 122))).length = L.length := nowS_len ..
  generalize nowS L (fmW (L.length - 122)) = M at hat hl ⊢
  have hh : headO (fullB (headB hd1)) = hd1 := headO_head (by decide) (by decide) (by decide) (by decide)
  refine ⟨?_, by decide, by decide, by decide, rfl, ?_, List.Pairwise.nil, (fun r hr => by cases hr), by decide, ?_, (fun d hd => by cases hd), (fun d hd => by cases hd), fun k => by rw [List.take_nil]; decide⟩
  · rw [best_eq, getD_set, getD_set, if_neg (fun hc => absurd hc.1 (by decide)), if_pos ⟨rfl, by omega⟩, hat, if_pos ⟨.inl rfl, by omega⟩, headO_blank, hh]
    rfl
  · show List.take 0 _ = _
    rfl
  · rw [List.length_set, hl]
    obtain ⟨m, hm⟩ : ∃ m, L.length - 122 = m + 1 := ⟨L.length - 123, by omega⟩
    rw [hm]
    refine scan_none ?_
    show lookB _ ((M.set 1 (fullB (headB hd1))).getD (122 + 0) []) = none
    rw [getD_set, if_neg (by omega), hat, if_pos ⟨.inr (by omega), by omega⟩]
    exact look_blank _
theorem fmt_inv {N : Nat} {D D1 : DiskM} (hN : 196 ≤ N ∧ N ≤ 260) (hl : D.now.length = N) (hn : D1.now = nowS D.now (fmL N)) : Inv N D1 hd1 [] [] 0 := by
  have e : nowS D.now (fmL N) = (nowS D.now (fmW (N - 122))).set 1 (fullB (headB hd1)) := by unfold fmL; rw [nowS_app]; rfl
  have g := fmt_good (L := D.now) (by rw [hl]; exact hN.1)
  rw [hl] at g
  refine ⟨by rw [hn, nowS_len, hl], hN, by rw [hn]; exact g, fun m h1 h2 => ?_⟩
  rw [hn, e, getD_set, if_neg (by omega), fmW_at, if_pos ⟨.inr (by omega), by omega⟩]
  exact numb_blank _

end Go.Proofs.Ythdjckbjjfiopac
