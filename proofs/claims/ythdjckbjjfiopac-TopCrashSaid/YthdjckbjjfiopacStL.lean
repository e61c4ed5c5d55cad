/- What a store's disk holds: plain laws. No condition. -/
import Derived.Test.YthdjckbjjfiopacStS
import Derived.Test.YthdjckbjjfiopacStO
namespace Go.Proofs.Ythdjckbjjfiopac
open Go.Sl Go.Proofs
set_option linter.unusedVariables false
set_option linter.unusedSimpArgs false
/-! ### rows -/
theorem okR_ap {l : List ChangeM} {c : ChangeM} (h : ∀ r ∈ l, okR r) (hc : chkC c = 0) : ∀ r ∈ apS l c, okR r := by
  intro r hr
  unfold apS at hr
  simp only [List.mem_append] at hr
  rcases hr with (hr | hr) | hr
  · exact h r (List.mem_filter.1 hr).1
  · split at hr
    · cases hr
    · rename_i hg
      rw [List.mem_singleton] at hr
      subst hr
      exact ⟨hc, by simpa using hg⟩
  · exact h r (List.mem_filter.1 hr).1
theorem okR_aps : ∀ (c : List ChangeM) {l : List ChangeM}, (∀ r ∈ l, okR r) → (∀ x ∈ c, chkC x = 0) → ∀ r ∈ apsS l c, okR r
  | [], l, h, _ => h
  | x :: c, l, h, hc => okR_aps c (okR_ap h (hc x (by simp))) fun y hy => hc y (List.mem_cons_of_mem _ hy)
theorem okR_cur : ∀ (ds : Deeds) {l : List ChangeM}, (∀ r ∈ l, okR r) → (∀ d ∈ ds, ∀ x ∈ d, chkC x = 0) → ∀ r ∈ cur l ds, okR r
  | [], l, h, _ => h
  | d :: ds, l, h, hc => okR_cur ds (okR_aps d h (hc d (by simp))) fun e he => hc e (List.mem_cons_of_mem _ he)
theorem cur_snoc (r0 : List ChangeM) (ds : Deeds) (c : List ChangeM) : cur r0 (ds ++ [c]) = apsS (cur r0 ds) c := by unfold cur; rw [List.foldl_append]; rfl
theorem Good.srtC {L : List Bytes} {h : HdM} {r0 : List ChangeM} {ds : Deeds} {used : Nat} (g : Good L h r0 ds used) : srt (cur r0 ds) := srt_fold ds g.hsrt
theorem Good.okC {L : List Bytes} {h : HdM} {r0 : List ChangeM} {ds : Deeds} {used : Nat} (g : Good L h r0 ds used) : ∀ r ∈ cur r0 ds, okR r := okR_cur ds g.hok g.chk
theorem Good.lenC {L : List Bytes} {h : HdM} {r0 : List ChangeM} {ds : Deeds} {used : Nat} (g : Good L h r0 ds used) : (cur r0 ds).length ≤ 80 := by
  have := g.fits ds.length
  rw [List.take_length] at this
  exact this
/-! ### low sectors -/
def best2 (a b : HdM) : HdM := if (if HdM.no.ep < a.ep then a else HdM.no).ep < b.ep then b else if HdM.no.ep < a.ep then a else HdM.no
theorem best_eq (L : List Bytes) : bestH L = best2 (headO (L.getD 0 [])) (headO (L.getD 1 [])) := rfl
theorem best_low {L L' : List Bytes} (h0 : L'.getD 0 [] = L.getD 0 []) (h1 : L'.getD 1 [] = L.getD 1 []) : bestH L' = bestH L := by rw [best_eq, best_eq, h0, h1]
theorem no_ep : HdM.no.ep = 0 := rfl
theorem best2_le (a b : HdM) : a.ep ≤ (best2 a b).ep ∧ b.ep ≤ (best2 a b).ep := by
  unfold best2
  by_cases h1 : HdM.no.ep < a.ep
  · simp only [if_pos h1]
    by_cases h2 : a.ep < b.ep
    · rw [if_pos h2]; omega
    · rw [if_neg h2]; omega
  · simp only [if_neg h1]
    have := no_ep
    by_cases h2 : HdM.no.ep < b.ep
    · rw [if_pos h2]; omega
    · rw [if_neg h2]; omega
theorem best2_l {a b h : HdM} (hh : (best2 a b).ep < h.ep) : best2 h b = h := by
  have := best2_le a b
  have := no_ep
  unfold best2
  rw [if_pos (show HdM.no.ep < h.ep by omega), if_neg (by omega)]
theorem best2_r {a b h : HdM} (hh : (best2 a b).ep < h.ep) : best2 a h = h := by
  have := best2_le a b
  have := no_ep
  unfold best2
  rw [if_pos]
  split <;> omega
theorem txK_low {L L' : List Bytes} {side : Nat} (hl : L'.length = L.length) : ∀ k, 2 + side * 60 + k ≤ L.length → (∀ m, 2 + side * 60 ≤ m → m < 2 + side * 60 + k → L'.getD m [] = L.getD m []) → txK L' side k = txK L side k
  | 0, _, _ => rfl
  | k + 1, hk, h => by
    rw [← txK_s (by omega), ← txK_s (L := L) (by omega), txK_low hl k (by omega) (fun m a b => h m a (by omega)), h _ (by omega) (by omega)]
theorem good_log {L L' : List Bytes} {h : HdM} {r0 : List ChangeM} {ds ds' : Deeds} {used used' : Nat} (g : Good L h r0 ds used) (hl : L'.length = L.length) (h122 : 122 ≤ L.length) (hlow : ∀ m, m < 2 → L'.getD m [] = L.getD m []) (htx : ∀ m, 2 + h.side * 60 ≤ m → m < 2 + h.side * 60 + 60 → L'.getD m [] = L.getD m [])
    (hlog : scanF h.first (secK L' 122) (L.length - 122) 0 [] [] 0 = (ds', used')) (h1 : ∀ d ∈ ds', d.length ≤ 72) (h2 : ∀ d ∈ ds', ∀ x ∈ d, chkC x = 0) (h3 : ∀ k, ((ds'.take k).foldl apsS r0).length ≤ 80) : Good L' h r0 ds' used' := by
  have hs := g.side
  have ht : txK L' h.side 60 = txK L h.side 60 := txK_low hl 60 (by omega) htx
  exact ⟨(best_low (hlow 0 (by decide)) (hlow 1 (by decide))).trans g.best, g.ep, g.side, g.first, g.size, by
    have := g.text
    show (txK L' h.side 60).take h.size = _
    rw [ht]; exact this, g.hsrt, g.hok, g.len, by rw [hl]; exact hlog, h1, h2, h3⟩
theorem good_same {L L' : List Bytes} {h : HdM} {r0 : List ChangeM} {ds : Deeds} {used : Nat} (g : Good L h r0 ds used) (hl : L'.length = L.length) (h122 : 122 ≤ L.length) (hlow : ∀ m, m < 2 → L'.getD m [] = L.getD m []) (htx : ∀ m, 2 + h.side * 60 ≤ m → m < 2 + h.side * 60 + 60 → L'.getD m [] = L.getD m []) (hlg : ∀ m, 122 ≤ m → L'.getD m [] = L.getD m []) : Good L' h r0 ds used :=
  good_log g hl h122 hlow htx (by
    have : secK L' 122 = secK L 122 := funext fun i => hlg _ (by omega)
    rw [this]; exact g.log) g.lens g.chk g.fits
/-! ### numbers of sectors -/
def numb (B : Nat) (s : Bytes) : Prop := ∀ n, B ≤ n → n < 4294967296 → lookB n s = none
theorem numb_mono {B B' : Nat} {s : Bytes} (h : numb B s) (hB : B ≤ B') : numb B' s := fun n h1 h2 => h n (by omega) h2
theorem numb_blank (B : Nat) : numb B (fullB []) := fun n _ _ => look_blank n
theorem four_inj {m n : Nat} (hm : m < 4294967296) (hn : n < 4294967296) (h : fourN m = fourN n) : m = n := by rw [← unN_four hm, h, unN_four hn]
theorem numb_text {B m : Nat} {k : UInt8} {s : Bytes} (hm : m < B) (hB : B ≤ 4294967296) : numb B (fullB (textB k m s)) := fun n h1 h2 => by
  unfold lookB
  rw [if_neg]
  intro h
  have e : ((fullB (textB k m s)).take 5).drop 1 = fourN m := by
    unfold fullB textB fourN
    simp [List.take]
  rw [e] at h
  have := four_inj (by omega) h2 h.1
  omega
/-- what a run leaves at each place -/
structure AllP (P : Nat → Bytes → Prop) (D : DiskM) : Prop where
  now : ∀ m, P m (D.now.getD m [])
  kept : ∀ m, P m (D.kept.getD m [])
  wait : ∀ t ∈ D.wait, P t.1 t.2
def okP (P : Nat → Bytes → Prop) : Stp → Prop
  | some x => P x.1 (fullB x.2)
  | none => True
theorem AllP.step {P : Nat → Bytes → Prop} {D : DiskM} (h : AllP P D) : AllP P (stepD D) := ⟨by rw [stepD_now]; exact h.now, by rw [stepD_kept]; exact h.kept, by rw [stepD_wait]; exact h.wait⟩
theorem AllP.st {P : Nat → Bytes → Prop} {D : DiskM} {x : Stp} (h : AllP P D) (hx : okP P x) : AllP P (stD D x) := by
  cases x with
  | none =>
    show AllP P (flushD D)
    unfold flushD
    split
    · exact ⟨h.step.now, h.step.now, fun t ht => by cases ht⟩
    · exact h.step
  | some y =>
    show AllP P (writeD D y.1 y.2)
    unfold writeD
    split
    · exact h
    · split
      · refine ⟨fun m => ?_, h.step.kept, fun t ht => ?_⟩
        · show P m (((stepD D).now.set ((y.1 : Int)).toNat (fullB y.2)).getD m [])
          rw [getD_set]
          split
          · rename_i hc; rw [← hc.1, Int.toNat_natCast]; exact hx
          · exact h.step.now m
        · simp only [wroteD, List.mem_append, List.mem_singleton] at ht
          rcases ht with ht | rfl
          · exact h.step.wait t ht
          · simp only [Int.toNat_natCast]; exact hx
      · exact h.step
theorem AllP.run {P : Nat → Bytes → Prop} : ∀ (l : List Stp) {D : DiskM}, AllP P D → (∀ x ∈ l, okP P x) → AllP P (runS D l).2
  | [], D, h, _ => h
  | x :: l, D, h, ho => by
    have h1 := h.st (ho x (List.mem_cons_self ..))
    by_cases h0 : stE D x = 0
    · rw [run_ok h0]; exact AllP.run l h1 fun y hy => ho y (List.mem_cons_of_mem _ hy)
    · rw [run_bad h0]; exact h1
theorem AllP.rest {P : Nat → Bytes → Prop} {D : DiskM} (h : AllP P D) (keep : Int) (m : Nat) : P m ((restL keep D).getD m []) := by
  rcases rest_from (keep := keep) (w := D.wait) (K := D.kept) D.wait.length m with e | ⟨t, ht, e1, e2⟩
  · show P m ((restK keep D.wait D.kept D.wait.length).getD m [])
    rw [e]; exact h.kept m
  · show P m ((restK keep D.wait D.kept D.wait.length).getD m [])
    rw [e2, ← e1]; exact h.wait t ht
theorem AllP.calm {P : Nat → Bytes → Prop} {D : DiskM} (hk : D.kept = D.now) (hw : D.wait = []) (h : ∀ m, P m (D.now.getD m [])) : AllP P D := ⟨h, by rw [hk]; exact h, by rw [hw]; intro t ht; cases ht⟩
theorem rest_lenL (keep : Int) (D : DiskM) : (restL keep D).length = D.kept.length := restK_len ..
/-- a run that went through -/
theorem run_now : ∀ (l : List Stp) {D D' : DiskM}, (∀ x ∈ l, okStp D.now.length x) → runS D l = (0, D') → D'.now = nowS D.now l
  | [], D, D', _, h => by injection h with _ h; rw [← h]; rfl
  | none :: l, D, D', ho, h => by
    by_cases h0 : stepE D = 0
    · rw [run_okF h0] at h
      have hn := (flush_calm h0).2
      have := run_now l (D := flushD D) (fun x hx => by rw [hn]; exact ho x (List.mem_cons_of_mem _ hx)) h
      rw [this, hn]; rfl
    · rw [run_badF h0] at h; injection h with h _; exact absurd h h0
  | some y :: l, D, D', ho, h => by
    obtain ⟨n, s⟩ := y
    have hy := ho _ (List.mem_cons_self ..)
    have hb : ¬ badW D (n : Int) s := by unfold badW; have h1 := hy.1; have h2 := hy.2; simp only at h1 h2; omega
    by_cases h0 : writeE D (n : Int) s = 0
    · rw [run_okW h0] at h
      have hs : stepE D = 0 := by unfold writeE at h0; rw [if_neg hb] at h0; exact h0
      have hn : (writeD D (n : Int) s).now = D.now.set n (fullB s) := by
        unfold writeD
        rw [if_neg hb, if_pos hs]
        show (stepD D).now.set ((n : Int)).toNat _ = _
        rw [stepD_now, Int.toNat_natCast]
      have := run_now l (D := writeD D (n : Int) s) (fun x hx => by rw [hn, List.length_set]; exact ho x (List.mem_cons_of_mem _ hx)) h
      rw [this, hn]; rfl
    · rw [run_badW h0] at h; injection h with h _; exact absurd h h0
theorem run_lenN : ∀ (l : List Stp) (D : DiskM), (runS D l).2.now.length = D.now.length
  | [], D => rfl
  | x :: l, D => by
    have hl : (stD D x).now.length = D.now.length := by
      cases x with
      | none =>
        show (flushD D).now.length = _
        unfold flushD
        split <;> simp [flushedD, stepD_now]
      | some z =>
        show (writeD D z.1 z.2).now.length = _
        unfold writeD
        split
        · rfl
        · split <;> simp [wroteD, stepD_now]
    by_cases h0 : stE D x = 0
    · rw [run_ok h0, run_lenN l, hl]
    · rw [run_bad h0]; exact hl
/-! ### laying all rows -/
theorem ck_at {side : Nat} {t : Bytes} : ∀ (f k : Nat) (L : List Bytes) (m : Nat), (nowS L (ckW side t k f)).getD m [] = if 2 + side * 60 + k ≤ m ∧ m < 2 + side * 60 + k + f ∧ m < L.length then fullB (chunk t (m - (2 + side * 60))) else L.getD m []
  | 0, k, L, m => by rw [if_neg (by omega)]; rfl
  | f + 1, k, L, m => by
    rw [ckW, nowS, ck_at f (k + 1), List.length_set, getD_set]
    by_cases h1 : 2 + side * 60 + (k + 1) ≤ m ∧ m < 2 + side * 60 + (k + 1) + f ∧ m < L.length
    · rw [if_pos h1, if_pos (by omega)]
    · rw [if_neg h1]
      by_cases h2 : 2 + side * 60 + k = m ∧ 2 + side * 60 + k < L.length
      · rw [if_pos h2, if_pos (by omega), show m - (2 + side * 60) = k by omega]
      · rw [if_neg h2, if_neg (by omega)]
theorem fullB_chunk {t : Bytes} {k : Nat} (h : 80 * (k + 1) ≤ t.length) : fullB (chunk t k) = chunk t k := by
  have : (chunk t k).length = 80 := by rw [chunk_len_eq, show Nat.min 80 (t.length - 80 * k) = 80 from Nat.min_eq_left (by omega)]
  unfold fullB
  rw [this]
  simp [nulls]
theorem take_chunk {t : Bytes} {k : Nat} : t.take (80 * k) ++ chunk t k = t.take (80 * (k + 1)) := by
  unfold chunk
  rw [show 80 * (k + 1) = 80 * k + 80 by omega, List.take_add]
theorem tx_full {L : List Bytes} {side : Nat} {t : Bytes} (hL : 2 + side * 60 + 60 ≤ L.length) (hs : ∀ k, k < chunks t → L.getD (2 + side * 60 + k) [] = fullB (chunk t k)) (h60 : chunks t ≤ 60) : ∀ k, 80 * k ≤ t.length → txK L side k = t.take (80 * k)
  | 0, _ => rfl
  | k + 1, h => by
    have hk : k < chunks t := chunks_lt.2 (by omega)
    rw [← txK_s (by omega), tx_full hL hs h60 k (by omega), hs k hk, fullB_chunk h, take_chunk]
theorem txK_app {L : List Bytes} {side : Nat} (hL : 2 + side * 60 + 60 ≤ L.length) : ∀ (g k : Nat), k + g ≤ 60 → ∃ r, txK L side (k + g) = txK L side k ++ r
  | 0, k, _ => ⟨[], by simp⟩
  | g + 1, k, h => by
    obtain ⟨r, hr⟩ := txK_app hL g k (by omega)
    exact ⟨r ++ L.getD (2 + side * 60 + (k + g)) [], by rw [show k + (g + 1) = (k + g) + 1 by omega, ← txK_s (by omega), hr, List.append_assoc]⟩
theorem tx_all {L : List Bytes} {side : Nat} {t : Bytes} (hL : 2 + side * 60 + 60 ≤ L.length) (hs : ∀ k, k < chunks t → L.getD (2 + side * 60 + k) [] = fullB (chunk t k)) (h60 : chunks t ≤ 60) : (txK L side 60).take t.length = t := by
  have hq : ∃ r, txK L side (chunks t) = t ++ r := by
    by_cases he : 80 * chunks t = t.length
    · exact ⟨[], by rw [tx_full hL hs h60 _ (by omega), he, List.take_length, List.append_nil]⟩
    · obtain ⟨q, hq⟩ : ∃ q, chunks t = q + 1 := ⟨chunks t - 1, by unfold chunks at *; omega⟩
      have h1 : 80 * q < t.length := chunks_lt.1 (by omega)
      refine ⟨nulls (80 - (chunk t q).length), ?_⟩
      rw [hq, ← txK_s (by omega), tx_full hL hs h60 q (by omega), hs q (by omega)]
      unfold fullB
      rw [← List.append_assoc, take_chunk, List.take_of_length_le (by unfold chunks at *; omega)]
  obtain ⟨r, hr⟩ := hq
  obtain ⟨r2, hr2⟩ := txK_app hL (60 - chunks t) (chunks t) (by omega)
  rw [show chunks t + (60 - chunks t) = 60 by omega] at hr2
  rw [hr2, hr, List.append_assoc, List.take_left]
theorem best_new {L : List Bytes} {h : HdM} {i : Nat} (hi : i < 2) (hL : 2 ≤ L.length) (hb : (bestH L).ep < h.ep) (ho : headO (fullB (headB h)) = h) : bestH (L.set i (fullB (headB h))) = h := by
  rw [best_eq, getD_set, getD_set]
  rw [best_eq] at hb
  match i, hi with
  | 0, _ =>
    rw [if_pos ⟨rfl, by omega⟩, if_neg (fun hc => absurd hc.1 (by decide)), ho]
    exact best2_l hb
  | 1, _ =>
    rw [if_neg (fun hc => absurd hc.1 (by decide)), if_pos ⟨rfl, by omega⟩, ho]
    exact best2_r hb
/-- all rows are laid: what is there then -/
theorem good_new {L : List Bytes} {h : HdM} {r0 : List ChangeM} {ds : Deeds} {used : Nat} (g : Good L h r0 ds used) (hL : 196 ≤ L.length ∧ L.length ≤ 260) (hep : h.ep ≤ 1000000) (hfi : h.first ≤ 900000000) (hnb : ∀ m, 122 ≤ m → m < L.length → numb (h.first + (L.length - 122)) (L.getD m [])) :
    Good ((nowS L (ckW (1 - h.side) (allB (cur r0 ds)) 0 (chunks (allB (cur r0 ds))))).set ((h.ep + 1) % 2) (fullB (headB (nxH h (cur r0 ds) (L.length - 122))))) (nxH h (cur r0 ds) (L.length - 122)) (cur r0 ds) [] 0 := by
  have hc60 := chunks_le g.lenC g.okC
  have hal := allB_len g.okC
  have hlc := g.lenC
  have hs := g.side
  generalize hL2 : nowS L (ckW (1 - h.side) (allB (cur r0 ds)) 0 (chunks (allB (cur r0 ds)))) = L2
  have hl2 : L2.length = L.length := by rw [← hL2, nowS_len]
  have hat : ∀ m, L2.getD m [] = if 2 + (1 - h.side) * 60 ≤ m ∧ m < 2 + (1 - h.side) * 60 + chunks (allB (cur r0 ds)) ∧ m < L.length then fullB (chunk (allB (cur r0 ds)) (m - (2 + (1 - h.side) * 60))) else L.getD m [] := fun m => by rw [← hL2, ck_at]; rfl
  have hho : headO (fullB (headB (nxH h (cur r0 ds) (L.length - 122)))) = nxH h (cur r0 ds) (L.length - 122) := headO_head (by simp only [nxH]; omega) (by simp only [nxH]; omega) (by simp only [nxH]; omega) (by have := g.first; simp only [nxH]; omega)
  have hset : ∀ m, 2 ≤ m → (L2.set ((h.ep + 1) % 2) (fullB (headB (nxH h (cur r0 ds) (L.length - 122))))).getD m [] = L2.getD m [] := fun m hm => by rw [getD_set, if_neg (by omega)]
  have hbest : bestH L2 = h := (best_low (by rw [hat, if_neg (by omega)]) (by rw [hat, if_neg (by omega)])).trans g.best
  refine ⟨best_new (by omega) (by omega) (by rw [hbest]; simp only [nxH]; omega) hho, by simp only [nxH]; omega, by simp only [nxH]; omega, by have := g.first; simp only [nxH]; omega, rfl, ?_, g.srtC, g.okC, g.lenC, ?_, (fun d hd => by cases hd), (fun d hd => by cases hd), fun k => by rw [List.take_nil]; exact g.lenC⟩
  · show (txK _ (1 - h.side) 60).take (allB (cur r0 ds)).length = _
    refine tx_all (by rw [List.length_set]; omega) (fun k hk => ?_) hc60
    rw [hset _ (by omega), hat, if_pos ⟨by omega, by omega, by omega⟩, Nat.add_sub_cancel_left]
  · rw [List.length_set, hl2]
    have h0 : secK (L2.set ((h.ep + 1) % 2) (fullB (headB (nxH h (cur r0 ds) (L.length - 122))))) 122 0 = L.getD 122 [] := by
      show List.getD _ _ _ = _
      rw [hset _ (by omega), hat, if_neg (by omega)]
    obtain ⟨m, hm⟩ : ∃ m, L.length - 122 = m + 1 := ⟨L.length - 123, by omega⟩
    rw [show L.length - 122 = m + 1 from hm]
    refine scan_none ?_
    show lookB (h.first + (m + 1) + 0) (secK _ 122 0) = none
    rw [← hm, h0]
    exact hnb 122 (Nat.le_refl _) (by omega) _ (by omega) (by omega)
/-- what laying writes, and where -/
theorem ck_part {h : HdM} {t : Bytes} {L : List Bytes} (hc : chunks t ≤ 60) : ∀ x ∈ ckW (1 - h.side) t 0 (chunks t), okP (fun m s => (m < 2 + (1 - h.side) * 60 ∨ 2 + (1 - h.side) * 60 + 60 ≤ m) → s = L.getD m []) x := by
  have : ∀ (f k : Nat), k + f ≤ 60 → ∀ x ∈ ckW (1 - h.side) t k f, okP (fun m s => (m < 2 + (1 - h.side) * 60 ∨ 2 + (1 - h.side) * 60 + 60 ≤ m) → s = L.getD m []) x := by
    intro f
    induction f with
    | zero => intro k _ x hx; simp [ckW] at hx
    | succ f ih =>
      intro k hk x hx
      rw [ckW] at hx
      rcases List.mem_cons.1 hx with rfl | hx
      · intro hm; simp only at hm; omega
      · exact ih (k + 1) (by omega) x hx
  exact this _ 0 (by omega)
theorem good_half {L L' : List Bytes} {h : HdM} {r0 : List ChangeM} {ds : Deeds} {used : Nat} (g : Good L h r0 ds used) (hl : L'.length = L.length) (h122 : 122 ≤ L.length) (hP : ∀ m, (m < 2 + (1 - h.side) * 60 ∨ 2 + (1 - h.side) * 60 + 60 ≤ m) → L'.getD m [] = L.getD m []) : Good L' h r0 ds used := by
  have hs := g.side
  refine good_same g hl h122 (fun m hm => hP m (by omega)) (fun m h1 h2 => hP m ?_) (fun m hm => hP m (by omega))
  have : h.side = 0 ∨ h.side = 1 := by omega
  rcases this with e | e <;> rw [e] at h1 h2 ⊢ <;> omega
/-! ### adding to the log -/
theorem lay_num {many first used : Nat} : ∀ (c : List ChangeM) (k : Nat), used + k + c.length ≤ many → first + many ≤ 4294967296 → ∀ x ∈ layW 122 first used k c, okP (fun m s => 122 ≤ m ∧ numb (first + many) s) x
  | [], k, _, _, x, h => by simp [layW] at h
  | y :: c, k, hk, hf, x, h => by
    rw [layW] at h
    simp only [List.length_cons] at hk
    rcases List.mem_cons.1 h with rfl | h
    · exact ⟨by simp only; omega, numb_text (by omega) hf⟩
    · exact lay_num c (k + 1) (by omega) hf x h
theorem add_num {many first used : Nat} {c : List ChangeM} (hu : used + c.length + 1 ≤ many) (hf : first + many ≤ 4294967296) : ∀ x ∈ addL 122 many first used c, okP (fun m s => 122 ≤ m ∧ numb (first + many) s) x := by
  intro x hx
  unfold addL layL at hx
  simp only [List.mem_append, List.mem_cons, List.not_mem_nil, or_false] at hx
  rcases hx with (hx | hx) | rfl | rfl | rfl
  · exact lay_num c 0 (by omega) hf x hx
  · unfold blkW at hx
    split at hx
    · simp only [List.mem_singleton] at hx
      subst hx
      exact ⟨by simp only; omega, numb_blank _⟩
    · simp at hx
  · trivial
  · exact ⟨by simp only; omega, numb_text (by omega) hf⟩
  · trivial
theorem fits_snoc {r0 : List ChangeM} {ds : Deeds} {c : List ChangeM} (h : ∀ k, ((ds.take k).foldl apsS r0).length ≤ 80) (hc : (apsS (cur r0 ds) c).length ≤ 80) : ∀ k, (((ds ++ [c]).take k).foldl apsS r0).length ≤ 80 := fun k => by
  rcases Nat.lt_or_ge ds.length k with hk | hk
  · rw [List.take_of_length_le (by simp; omega), show (ds ++ [c]).foldl apsS r0 = apsS (cur r0 ds) c from cur_snoc r0 ds c]
    exact hc
  · rw [List.take_append_of_le_length hk]
    exact h k
theorem mem_snoc {α : Type} {p : α → Prop} {l : List α} {c : α} (h : ∀ d ∈ l, p d) (hc : p c) : ∀ d ∈ l ++ [c], p d := fun d hd => by
  rcases List.mem_append.1 hd with hd | hd
  · exact h d hd
  · rw [List.mem_singleton] at hd; rw [hd]; exact hc

end Go.Proofs.Ythdjckbjjfiopac
