/- What a fall leaves of a store: plain laws. No condition. -/
import Derived.Test.YthdjckbjjfiopacStI
namespace Go.Proofs.Ythdjckbjjfiopac
open Go.Sl Go.Proofs
set_option linter.unusedVariables false
set_option linter.unusedSimpArgs false
theorem run_lens {N : Nat} : ∀ (l : List Stp) {D : DiskM}, D.now.length = N → D.kept.length = N → (runS D l).2.now.length = N ∧ (runS D l).2.kept.length = N
  | [], D, h1, h2 => ⟨h1, h2⟩
  | x :: l, D, h1, h2 => by
    have hs : (stD D x).now.length = N ∧ (stD D x).kept.length = N := by
      cases x with
      | none =>
        show (flushD D).now.length = N ∧ (flushD D).kept.length = N
        unfold flushD
        split <;> simp [flushedD, stepD_now, stepD_kept, h1, h2]
      | some z =>
        show (writeD D z.1 z.2).now.length = N ∧ (writeD D z.1 z.2).kept.length = N
        unfold writeD
        split
        · exact ⟨h1, h2⟩
        · split <;> simp [wroteD, stepD_now, stepD_kept, h1, h2]
    by_cases h0 : stE D x = 0
    · rw [run_ok h0]; exact run_lens l hs.1 hs.2
    · rw [run_bad h0]; exact hs
theorem run_flush {l : List Stp} {D D2 : DiskM} (ho : ∀ x ∈ l, okStp D.now.length x) (h : runS D (l ++ [none]) = (0, D2)) : calm D2 ∧ D2.now = nowS D.now l := by
  cases h1 : runS D l with
  | mk e1 D1 =>
    by_cases he : e1 = 0
    · subst he
      rw [run_snoc h1] at h
      injection h with q1 q2
      have hc := flush_calm (D := D1) q1
      rw [← q2]
      exact ⟨hc.1, hc.2.trans (run_now l ho h1)⟩
    · rw [run_stop h1 he] at h
      injection h with q1 _
      exact absurd q1 he
def Cal (N : Nat) (D : DiskM) (h : HdM) (r0 : List ChangeM) (ds : Deeds) (used : Nat) : Prop := calm D ∧ Inv N D h r0 ds used ∧ Safe 122 (N - 122) h.first D.now ds used
/-- what a restart finds -/
def Fell (N : Nat) (D : DiskM) (E Fi : Nat) (φ : List ChangeM → Prop) : Prop := ∀ keep, ∃ h r0 ds used, Inv N (restD keep D) h r0 ds used ∧ φ (cur r0 ds) ∧ h.ep ≤ E ∧ h.first ≤ Fi
theorem not_shut {B j first : Nat} {s : Bytes} (h : numb B s) (h1 : B ≤ first + j) (h2 : first + j < 4294967296) : ¬ shuts first j s := fun ⟨t, ht⟩ => by rw [h _ h1 h2] at ht; cases ht
theorem safe_new {N : Nat} {D D1 : DiskM} {h : HdM} {r0 : List ChangeM} {ds : Deeds} {used : Nat} (I : Inv N D h r0 ds used) (hf : h.first ≤ 900000000) (hn : D1.now = nowS D.now (ckL (nxH h (cur r0 ds) (N - 122)) (allB (cur r0 ds)))) (I1 : Inv N D1 (nxH h (cur r0 ds) (N - 122)) (cur r0 ds) [] 0) : Safe 122 (N - 122) (nxH h (cur r0 ds) (N - 122)).first D1.now [] 0 := by
  have hlg := I1.good.log
  rw [I1.len] at hlg
  have hb := I.big
  have hc60 := chunks_le I.good.lenC I.good.okC
  refine ⟨hlg, fun j _ hj => ?_⟩
  have e : secK D1.now 122 j = D.now.getD (122 + j) [] := by
    show List.getD _ _ _ = _
    rw [hn, nowS_ck, getD_set, if_neg (by simp only [nxH]; omega), ck_at, if_neg (by simp only [nxH]; omega)]
  rw [e]
  exact not_shut (I.num (122 + j) (by omega) (by omega)) (by simp only [nxH]; omega) (by simp only [nxH]; omega)
/-- all rows are laid, on a disk that may fall -/
theorem ck_crash {N : Nat} {D : DiskM} {h : HdM} {r0 : List ChangeM} {ds : Deeds} {used : Nat} (hq : calm D) (I : Inv N D h r0 ds used) (hep : h.ep ≤ 1000000) (hf : h.first ≤ 900000000) {e : Int} {D1 : DiskM} (hr : runS D (ckL (nxH h (cur r0 ds) (N - 122)) (allB (cur r0 ds))) = (e, D1)) :
    (e = 0 ∧ Cal N D1 (nxH h (cur r0 ds) (N - 122)) (cur r0 ds) [] 0) ∨ (e = 9 ∧ Fell N D1 (h.ep + 1) (h.first + N) (fun x => x = cur r0 ds)) := by
  have hb := I.big
  have hl := I.len
  have hs := I.good.side
  have hc60 := chunks_le I.good.lenC I.good.okC
  have hokA : ∀ x ∈ ckL (nxH h (cur r0 ds) (N - 122)) (allB (cur r0 ds)), okStp D.now.length x := by rw [hl]; exact nx_ok (h := h) I.good.lenC I.good.okC hb.1
  have hall : AllP (fun m s => (m < 2 + (1 - h.side) * 60 ∨ 2 + (1 - h.side) * 60 + 60 ≤ m) → s = D.now.getD m []) D := AllP.calm hq.1 hq.2.1 fun m _ => rfl
  have invH : ∀ D' : DiskM, D'.now.length = N → (∀ m, (m < 2 + (1 - h.side) * 60 ∨ 2 + (1 - h.side) * 60 + 60 ≤ m) → D'.now.getD m [] = D.now.getD m []) → Inv N D' h r0 ds used := fun D' hl' hP =>
    ⟨hl', hb, good_half I.good (by rw [hl', hl]) (by rw [hl]; omega) hP, fun m h1 h2 => by rw [hP m (by omega)]; exact I.num m h1 h2⟩
  have e0 : ckL (nxH h (cur r0 ds) (N - 122)) (allB (cur r0 ds)) = (ckW (1 - h.side) (allB (cur r0 ds)) 0 (chunks (allB (cur r0 ds))) ++ [none]) ++ [some ((h.ep + 1) % 2, headB (nxH h (cur r0 ds) (N - 122))), none] := by rw [List.append_assoc]; rfl
  have hokW : ∀ x ∈ ckW (1 - h.side) (allB (cur r0 ds)) 0 (chunks (allB (cur r0 ds))), okStp D.now.length x := fun x hx => hokA x (by rw [e0]; simp [hx])
  have fell : ∀ D' : DiskM, (∀ keep, ∃ h' r0' ds' used', Inv N (restD keep D') h' r0' ds' used' ∧ cur r0' ds' = cur r0 ds ∧ h'.ep ≤ h.ep + 1 ∧ h'.first ≤ h.first + N) → Fell N D' (h.ep + 1) (h.first + N) (fun x => x = cur r0 ds) := fun D' H => H
  have old : ∀ D' : DiskM, (∀ keep, (restL keep D').length = N ∧ ∀ m, (m < 2 + (1 - h.side) * 60 ∨ 2 + (1 - h.side) * 60 + 60 ≤ m) → (restL keep D').getD m [] = D.now.getD m []) → Fell N D' (h.ep + 1) (h.first + N) (fun x => x = cur r0 ds) := fun D' H =>
    fell D' fun keep => ⟨h, r0, ds, used, invH (restD keep D') (H keep).1 (H keep).2, rfl, by omega, by omega⟩
  rw [e0] at hr
  cases hr1 : runS D (ckW (1 - h.side) (allB (cur r0 ds)) 0 (chunks (allB (cur r0 ds))) ++ [none]) with
  | mk e1 D2 =>
    have hP2 := hall.run (ckW (1 - h.side) (allB (cur r0 ds)) 0 (chunks (allB (cur r0 ds))) ++ [none]) (fun x hx => by
      rcases List.mem_append.1 hx with hx | hx
      · exact ck_part hc60 x hx
      · rw [List.mem_singleton] at hx; subst hx; trivial)
    have hln := run_lens (ckW (1 - h.side) (allB (cur r0 ds)) 0 (chunks (allB (cur r0 ds))) ++ [none]) hl (by rw [hq.1]; exact hl)
    have he9 := run_e (ckW (1 - h.side) (allB (cur r0 ds)) 0 (chunks (allB (cur r0 ds))) ++ [none]) D (fun x hx => hokA x (by rw [e0]; exact List.mem_append_left _ hx))
    rw [hr1] at hP2 hln he9
    simp only at hP2 hln he9
    by_cases he : e1 = 0
    · subst he
      obtain ⟨hq2, hn2⟩ := run_flush hokW hr1
      rw [run_on hr1] at hr
      have hbad : ¬ badW D2 (((h.ep + 1) % 2 : Nat) : Int) (headB (nxH h (cur r0 ds) (N - 122))) := by unfold badW; rw [headB_len, hln.1]; omega
      by_cases h0 : stepE D2 = 0
      · have hwe : writeE D2 (((h.ep + 1) % 2 : Nat) : Int) (headB (nxH h (cur r0 ds) (N - 122))) = 0 := by unfold writeE; rw [if_neg hbad, h0]
        have hwd : writeD D2 (((h.ep + 1) % 2 : Nat) : Int) (headB (nxH h (cur r0 ds) (N - 122))) = wroteD (stepD D2) (((h.ep + 1) % 2 : Nat) : Int) (headB (nxH h (cur r0 ds) (N - 122))) := by unfold writeD; rw [if_neg hbad, if_pos h0]
        rw [run_okW hwe, hwd] at hr
        generalize hD3 : wroteD (stepD D2) (((h.ep + 1) % 2 : Nat) : Int) (headB (nxH h (cur r0 ds) (N - 122))) = D3 at hr
        have k3 : D3.kept = D2.now := by rw [← hD3, ← hq2.1]; exact stepD_kept D2
        have n3 : D3.now = nowS D.now (ckL (nxH h (cur r0 ds) (N - 122)) (allB (cur r0 ds))) := by
          rw [← hD3, nowS_ck]
          show (stepD D2).now.set ((((h.ep + 1) % 2 : Nat) : Int)).toNat _ = _
          rw [stepD_now, Int.toNat_natCast, hn2]
          rfl
        have w3 : D3.wait = [((h.ep + 1) % 2, fullB (headB (nxH h (cur r0 ds) (N - 122))))] := by
          rw [← hD3]
          show (stepD D2).wait ++ _ = _
          rw [stepD_wait, hq2.2.1, Int.toNat_natCast]
          rfl
        have hkn : D2.now.set ((h.ep + 1) % 2) (fullB (headB (nxH h (cur r0 ds) (N - 122)))) = nowS D.now (ckL (nxH h (cur r0 ds) (N - 122)) (allB (cur r0 ds))) := by rw [nowS_ck, hn2]; rfl
        by_cases h3 : stepE D3 = 0
        · rw [run_okF h3, run_nil] at hr
          injection hr with q1 q2
          have hfc := flush_calm h3
          left
          rw [← q2]
          have I1 := I.new (D1 := flushD D3) hep hf (hfc.2.trans n3)
          exact ⟨q1.symm, hfc.1, I1, safe_new I hf (hfc.2.trans n3) I1⟩
        · rw [run_badF h3] at hr
          injection hr with q1 q2
          have h9 : stepE D3 = 9 := (stepW_cases D3).resolve_left h3
          right
          refine ⟨by rw [← q1, h9], fell D1 fun keep => ?_⟩
          have k4 : D1.kept = D2.now := by rw [← q2]; unfold flushD; rw [if_neg h3, stepD_kept, k3]
          have w4 : D1.wait = [((h.ep + 1) % 2, fullB (headB (nxH h (cur r0 ds) (N - 122))))] := by rw [← q2]; unfold flushD; rw [if_neg h3, stepD_wait, w3]
          have hrl : restL keep D1 = if kb keep 0 = true then D2.now.set ((h.ep + 1) % 2) (fullB (headB (nxH h (cur r0 ds) (N - 122)))) else D2.now := by
            unfold restL
            rw [k4, w4]
            rfl
          by_cases hk : kb keep 0 = true
          · rw [if_pos hk, hkn] at hrl
            exact ⟨_, _, _, _, I.new (D1 := restD keep D1) hep hf hrl, rfl, by simp only [nxH]; omega, by simp only [nxH]; omega⟩
          · rw [if_neg hk] at hrl
            exact ⟨h, r0, ds, used, invH (restD keep D1) (by show (restL keep D1).length = N; rw [hrl]; exact hln.1) (fun m hm => by show (restL keep D1).getD m [] = _; rw [hrl]; exact hP2.now m hm), rfl, by omega, by omega⟩
      · have hwe : writeE D2 (((h.ep + 1) % 2 : Nat) : Int) (headB (nxH h (cur r0 ds) (N - 122))) = stepE D2 := by unfold writeE; rw [if_neg hbad]
        have hwd : writeD D2 (((h.ep + 1) % 2 : Nat) : Int) (headB (nxH h (cur r0 ds) (N - 122))) = stepD D2 := by unfold writeD; rw [if_neg hbad, if_neg h0]
        rw [run_badW (by rw [hwe]; exact h0), hwe, hwd] at hr
        injection hr with q1 q2
        have h9 : stepE D2 = 9 := (stepW_cases D2).resolve_left h0
        right
        refine ⟨by rw [← q1, h9], old D1 fun keep => ?_⟩
        have hrl : restL keep D1 = D2.now := by
          rw [← q2]
          unfold restL
          rw [stepD_kept, stepD_wait, hq2.2.1, hq2.1]
          rfl
        rw [hrl]
        exact ⟨hln.1, hP2.now⟩
    · rw [run_stop hr1 he] at hr
      injection hr with q1 q2
      right
      refine ⟨by rw [← q1]; exact he9.resolve_left he, old D1 fun keep => ?_⟩
      rw [← q2]
      exact ⟨by rw [rest_lenL]; exact hln.2, hP2.rest keep⟩
/-- a deed is added, on a disk that may fall -/
theorem add_cr {N : Nat} {D : DiskM} {h : HdM} {r0 : List ChangeM} {ds : Deeds} {used : Nat} {c : List ChangeM} (C : Cal N D h r0 ds used) (hf : h.first ≤ 900000000) (hv : addV (N - 122) used c = 0) (hfit : (apsS (cur r0 ds) c).length ≤ 80) :
    (addE 122 (N - 122) h.first used c D = 0 ∧ Cal N (addD 122 (N - 122) h.first used c D) h r0 (ds ++ [c]) (addU 122 (N - 122) h.first used c D)) ∨
    (addE 122 (N - 122) h.first used c D = 9 ∧ Fell N (addD 122 (N - 122) h.first used c D) h.ep h.first (fun x => x = cur r0 ds ∨ x = apsS (cur r0 ds) c)) := by
  obtain ⟨hq, I, hs⟩ := C
  obtain ⟨v1, v2, v3⟩ := addV_ok hv
  have hb := I.big
  have hl := I.len
  cases hr : runS D (addL 122 (N - 122) h.first used c) with
  | mk e D' =>
    have hE : addE 122 (N - 122) h.first used c D = e := by unfold addE; rw [if_pos hv, hr]
    have hD : addD 122 (N - 122) h.first used c D = D' := by unfold addD; rw [if_pos hv, hr]
    have hall : AllP (fun m s => (m < 122 → s = D.now.getD m []) ∧ (122 ≤ m → m < N → numb (h.first + (N - 122)) s)) D := AllP.calm hq.1 hq.2.1 fun m => ⟨fun _ => rfl, fun h1 h2 => I.num m h1 h2⟩
    have hP := hall.run (addL 122 (N - 122) h.first used c) (addP I hf hv)
    have hln := run_lens (addL 122 (N - 122) h.first used c) hl (by rw [hq.1]; exact hl)
    rw [hr] at hP hln
    simp only at hP hln
    rw [hE, hD]
    rcases add_crash hq (by rw [hl]; omega) hv hs hr with ⟨h0, h1, h2⟩ | ⟨h0, h1⟩
    · left
      refine ⟨h0, h1, ?_, ?_⟩
      · rw [show addU 122 (N - 122) h.first used c D = used + c.length + 1 by unfold addU; rw [hE, if_pos h0]]
        exact I.add hln.1 hP.now h2.1 (mem_snoc I.good.lens v1) (mem_snoc I.good.chk v3) (fits_snoc I.good.fits hfit)
      · rw [show addU 122 (N - 122) h.first used c D = used + c.length + 1 by unfold addU; rw [hE, if_pos h0]]
        exact h2
    · right
      refine ⟨h0, fun keep => ?_⟩
      obtain ⟨u, hu | hu⟩ := h1 keep
      · exact ⟨h, r0, ds, u, I.add (D1 := restD keep D') ((rest_lenL keep D').trans hln.2) (hP.rest keep) hu I.good.lens I.good.chk I.good.fits, .inl rfl, Nat.le_refl _, Nat.le_refl _⟩
      · exact ⟨h, r0, ds ++ [c], u, I.add (D1 := restD keep D') ((rest_lenL keep D').trans hln.2) (hP.rest keep) hu (mem_snoc I.good.lens v1) (mem_snoc I.good.chk v3) (fits_snoc I.good.fits hfit), .inr (cur_snoc r0 ds c), Nat.le_refl _, Nat.le_refl _⟩
theorem cmV_ne9 (many : Nat) (rows c : List ChangeM) : cmV many rows c ≠ 9 := by
  have hflt : ∀ (c : List ChangeM), fltC c = 0 ∨ fltC c = 2 ∨ fltC c = 3 := by
    intro c
    induction c with
    | nil => exact .inl rfl
    | cons x c ih =>
      unfold fltC
      split
      · exact ih
      · unfold chkC; split; simp; split <;> simp
  unfold cmV
  split
  · decide
  · split
    · rcases hflt c with h | h | h <;> rw [h] <;> decide
    · split <;> decide
/-- a commit, on a disk that may fall -/
theorem com_cr {N : Nat} {D : DiskM} {h : HdM} {r0 : List ChangeM} {ds : Deeds} {used : Nat} {c : List ChangeM} {e : Int} {D2 : DiskM} {h2 : HdM} {used2 : Nat} {rows2 : List ChangeM} (C : Cal N D h r0 ds used) (hep : h.ep ≤ 900000) (hf : h.first ≤ 800000000) (hc : ComR D h (cur r0 ds) (N - 122) used c e D2 h2 used2 rows2) :
    (e = 0 ∧ h2.ep ≤ h.ep + 1 ∧ h2.first ≤ h.first + N ∧ ∃ r2 d2, Cal N D2 h2 r2 d2 used2 ∧ cur r2 d2 = rows2 ∧ rows2 = apsS (cur r0 ds) c) ∨
    (e ≠ 0 ∧ e ≠ 9 ∧ D2 = D ∧ h2 = h ∧ used2 = used ∧ rows2 = cur r0 ds) ∨
    (e = 9 ∧ Fell N D2 (h.ep + 1) (h.first + N) (fun x => x = cur r0 ds ∨ x = apsS (cur r0 ds) c)) := by
  obtain ⟨hq, I, hs⟩ := C
  have hb := I.big
  rcases hc with ⟨hne, rfl, rfl, rfl, rfl, rfl⟩ | ⟨h0, e1, D1, h1, used1, hmid, hrest⟩
  · exact .inr (.inl ⟨hne, cmV_ne9 _ _ _, rfl, rfl, rfl, rfl⟩)
  · obtain ⟨c1, c2, c3, c4⟩ := cm0 h0
    have hm : (e1 = 0 ∧ h1.ep ≤ h.ep + 1 ∧ h1.first ≤ h.first + N ∧ c.length + 1 ≤ N - 122 - used1 ∧ ∃ r1 d1, Cal N D1 h1 r1 d1 used1 ∧ cur r1 d1 = cur r0 ds) ∨ (e1 = 9 ∧ Fell N D1 (h.ep + 1) (h.first + N) (fun x => x = cur r0 ds)) := by
      rcases hmid with ⟨hroom, hrun, hck⟩ | ⟨hroom, rfl, rfl, rfl, rfl⟩
      · rcases ck_crash hq I (by omega) (by omega) hrun with ⟨rfl, C1⟩ | ⟨h9, F⟩
        · rcases hck with ⟨hx, _⟩ | ⟨_, rfl, _, d', hsc⟩
          · exact absurd rfl hx
          · have hlg := C1.2.1.good.log
            rw [C1.2.1.len] at hlg
            have hu := (scan_pair hsc hlg).2
            subst hu
            exact .inl ⟨rfl, by simp only [nxH]; omega, by simp only [nxH]; omega, by omega, _, _, C1, rfl⟩
        · exact .inr ⟨h9, F⟩
      · exact .inl ⟨rfl, by omega, by omega, by omega, r0, ds, ⟨hq, I, hs⟩, rfl⟩
    rcases hm with ⟨rfl, m1, m2, m3, r1, d1, C1, hcur⟩ | ⟨h9, F⟩
    · rcases hrest with ⟨hx, _⟩ | ⟨_, rfl, rfl, rfl, rfl, rfl⟩
      · exact absurd rfl hx
      · have hv : addV (N - 122) used1 c = 0 := by rw [addV_of c1 m3]; exact c2
        rcases add_cr C1 (by omega) hv (by rw [hcur]; exact c3) with ⟨a1, a2⟩ | ⟨a1, a2⟩
        · exact .inl ⟨a1, m1, m2, r1, d1 ++ [c], a2, by rw [if_pos a1, cur_snoc, hcur], by rw [if_pos a1]⟩
        · refine .inr (.inr ⟨a1, fun keep => ?_⟩)
          obtain ⟨h', r', d', u', i', p', e', f'⟩ := a2 keep
          rw [hcur] at p'
          exact ⟨h', r', d', u', i', p', by omega, by omega⟩
    · rcases hrest with ⟨_, rfl, rfl, rfl, rfl, rfl⟩ | ⟨hx, _⟩
      · refine .inr (.inr ⟨h9, fun keep => ?_⟩)
        obtain ⟨h', r', d', u', i', p', e', f'⟩ := F keep
        exact ⟨h', r', d', u', i', .inl p', e', f'⟩
      · rw [h9] at hx; cases hx
/-- nothing fell -/
theorem cal_rest {N : Nat} {D : DiskM} {h : HdM} {r0 : List ChangeM} {ds : Deeds} {used : Nat} (C : Cal N D h r0 ds used) : Fell N D h.ep h.first (fun x => x = cur r0 ds) := fun keep => by
  obtain ⟨hq, I, _⟩ := C
  have e : restL keep D = D.now := by unfold restL; rw [hq.2.1, hq.1]; rfl
  exact ⟨h, r0, ds, used, I.now (D' := restD keep D) e, rfl, Nat.le_refl _, Nat.le_refl _⟩
theorem Fell.mono {N : Nat} {D : DiskM} {E E' Fi Fi' : Nat} {φ ψ : List ChangeM → Prop} (h : Fell N D E Fi φ) (h1 : E ≤ E') (h2 : Fi ≤ Fi') (h3 : ∀ x, φ x → ψ x) : Fell N D E' Fi' ψ := fun keep => by
  obtain ⟨h', r', d', u', i', p', e', f'⟩ := h keep
  exact ⟨h', r', d', u', i', h3 _ p', by omega, by omega⟩
theorem com_s80 {N i : Nat} {D : DiskM} {h : HdM} {r0 : List ChangeM} {ds : Deeds} {used : Nat} {c : List ChangeM} {e : Int} {D2 : DiskM} {h2 : HdM} {used2 : Nat} {rows2 : List ChangeM} (hok : okW N i D) (hS : S80 D) (I : Inv N D h r0 ds used) (hc : ComR D h (cur r0 ds) (N - 122) used c e D2 h2 used2 rows2) : S80 D2 := by
  have hb := I.big
  rcases hc with ⟨_, _, rfl, _⟩ | ⟨_, e1, D1, h1, used1, hmid, hr⟩
  · exact hS
  · have hm := (mid_bd hmid hok hS I.good.lenC I.good.okC I.big.1 I.used_le).2.1
    rcases hr with ⟨_, _, rfl, _⟩ | ⟨_, _, rfl, _⟩
    · exact hm
    · exact S80_add hm (N := N) (by omega)
theorem ck_s80 {N i : Nat} {D : DiskM} {h : HdM} {r0 : List ChangeM} {ds : Deeds} {used : Nat} {e : Int} {D1 : DiskM} (hok : okW N i D) (hS : S80 D) (I : Inv N D h r0 ds used) (hr : runS D (ckL (nxH h (cur r0 ds) (N - 122)) (allB (cur r0 ds))) = (e, D1)) : okW N (i + 63) D1 ∧ S80 D1 := by
  have h1 := okW_run (ckL (nxH h (cur r0 ds) (N - 122)) (allB (cur r0 ds))) i D hok
  have h2 := S80_run _ D hS (nx_ok (h := h) I.good.lenC I.good.okC I.big.1)
  have hc := chunks_le I.good.lenC I.good.okC
  rw [hr, ckL_len] at h1
  rw [hr] at h2
  exact ⟨okW_le h1 (by omega), h2⟩
/-- a disk that was formatted -/
theorem fmt_cal {N : Nat} {D D1 : DiskM} (hN : 196 ≤ N ∧ N ≤ 260) (hl : D.now.length = N) (hr : runS D (fmL N) = (0, D1)) : Cal N D1 hd1 [] [] 0 := by
  have e : fmL N = (fmW (N - 122) ++ [none, some (1, headB hd1)]) ++ [none] := by unfold fmL fmT; rw [List.append_assoc]; rfl
  have hok := fmL_ok hN.1
  have hr2 := hr
  rw [e] at hr2
  have hf := run_flush (D := D) (fun x hx => by rw [hl]; exact hok x (by rw [e]; exact List.mem_append_left _ hx)) hr2
  have hn := run_now (fmL N) (D := D) (by rw [hl]; exact hok) hr
  have I := fmt_inv hN hl hn
  have hlg := I.good.log
  rw [I.len] at hlg
  refine ⟨hf.1, I, hlg, fun j _ hj => ?_⟩
  have e2 : nowS D.now (fmL N) = (nowS D.now (fmW (N - 122))).set 1 (fullB (headB hd1)) := by unfold fmL; rw [nowS_app]; rfl
  have e3 : secK D1.now 122 j = fullB [] := by
    show List.getD _ _ _ = _
    rw [hn, e2, getD_set, if_neg (by omega), fmW_at, if_pos ⟨.inr (by omega), by omega⟩]
  rw [e3]
  rintro ⟨t, ht⟩
  rw [look_blank] at ht
  cases ht

end Go.Proofs.Ythdjckbjjfiopac
