/- Walks through the reference's reading of a log, and what compares deeds. No condition. -/
import Derived.Test.YthdjckbjjfiopaaLg3
import Derived.Test.YthdjckbjjfiopaaLib1
namespace Go.Proofs.Ythdjckbjjfiopaa
open Go.Sl Go.Proofs
set_option linter.unusedVariables false
set_option linter.unusedSimpArgs false
def secL (l : List Bytes) (i : Nat) : Bytes := l.getD i []
theorem secL_at {l : List Bytes} {i : Nat} {x : Bytes} (h : l[i]? = some x) : secL l i = x := by unfold secL; rw [List.getD_eq_getElem?_getD, h]; rfl
def RClosed (TC : Nat) (l : List Bytes) (first : Nat) (A F : List HProp) : Value → List HProp → Prop := fun v L' => ∃ (gl : LogG) (so : Option Addr) (co used : Nat),
  v = .tuple #[sl so gl.length co, I used] ∧ scanF first (secL l) l.length 0 [] [] 0 = (gl.map (·.1), used) ∧ used ≤ l.length ∧ gl.length ≤ l.length ∧ L' = owL TC 1 so co (dR gl) :: dees gl :: (A ++ F)
theorem prN_nn : ∀ s : Bytes, 0 ≤ (prS s).2
  | [] => by simp [prS]
  | [_] => by simp [prS]
  | x0 :: x1 :: r => by rw [pr_cons]; split; simp; split <;> simp
theorem look_no1 {num : Nat} {s : Bytes} (h : ¬ ((s.take 5).drop 1 = fourN num ∧ skN s ≤ 73)) : lookB num s = none := by unfold lookB; rw [if_neg (fun h' => h ⟨h'.1, h'.2.2⟩)]
theorem look_no2 {num : Nat} {s : Bytes} (h : ¬ (sk s 0 = 111 ∨ sk s 0 = 99)) : lookB num s = none := by unfold lookB; rw [if_neg (fun h' => h h'.2.1)]
theorem look_is {num : Nat} {s : Bytes} (h1 : (s.take 5).drop 1 = fourN num) (h2 : skN s ≤ 73) (h3 : sk s 0 = 111 ∨ sk s 0 = 99) : lookB num s = some (sk s 0, (s.take (7 + skN s)).drop 7) := by unfold lookB; rw [if_pos ⟨h1, h3, h2⟩]

theorem ct_R_ClosedDeeds (l : List Bytes) (s : Option Addr) (cap first : Nat) (hl : l.length ≤ 1000000) (hS : ∀ x ∈ l, x.length = 80) (hb : first ≤ 1000000000000) (F : List HProp) : Ct Try.prog 69 [sl s l.length cap, I first] ([roL 1 s (strR l)] ++ F) (RClosed 50 l first [roL 1 s (strR l)] F) := by
  show Ct Try.prog 69 [sl s l.length cap, I first] (roL 1 s (strR l) :: F) _
  refine Ct.of Try.func69 rfl 80 Try.ntmps69 (by simp) fun w0 => ?_
  refine g_seq ?_
  refine g_reg ?_
  refine g_v (v_assign rfl) rfl ?_
  refine g_v (v_assign rfl) rfl ?_
  refine g_nil ?_
  refine g_seq ?_
  refine g_reg ?_
  refine g_v (v_assign rfl) rfl ?_
  refine g_nil ?_
  refine g_seq ?_
  refine g_reg ?_
  refine g_v (v_assign rfl) rfl ?_
  refine g_nil ?_
  refine g_seq ?_
  refine g_reg ?_
  refine g_v (v_assign rfl) rfl ?_
  refine g_nil ?_
  refine g_seq ?_
  refine g_seq ?_
  refine g_nilown 50 1 (dR []) rfl ?_
  refine g_nilown 95 3 (chR []) rfl ?_
  refine g_dees0 ?_
  refine g_reg ?_
  refine g_v (v_assign rfl) rfl ?_
  refine g_nil ?_
  refine g_block ?_
  refine g_loop (α := Nat × LogG × List ChangeM × Nat × LocA × LocA) (fun z => z.1 ≤ l.length ∧ scanF first (secL l) l.length 0 [] [] 0 = scanF first (secL l) (l.length - z.1) z.1 (z.2.1.map (·.1)) z.2.2.1 z.2.2.2.1 ∧ z.2.2.1.length ≤ z.1 ∧ z.2.1.length ≤ z.1 ∧ z.2.2.2.1 ≤ z.1) (fun z => U [(0, sl s l.length cap), (1, I first), (6, sl z.2.2.2.2.1.1 z.2.1.length z.2.2.2.2.1.2), (7, sl z.2.2.2.2.2.1 z.2.2.1.length z.2.2.2.2.2.2), (8, I z.2.2.2.1), (9, I z.1)]) (fun z => owL 50 1 z.2.2.2.2.1.1 z.2.2.2.2.1.2 (dR z.2.1) :: owL 95 3 z.2.2.2.2.2.1 z.2.2.2.2.2.2 (chR z.2.2.1) :: dees z.2.1 :: roL 1 s (strR l) :: F) (fun z => l.length - z.1) (0, [], [], 0, (none, 0), (none, 0)) ⟨by simp, rfl, by simp, by simp, by simp⟩ [0, 1, 6, 7, 8, 9] rfl rfl ?_
  rintro ⟨i, gl, deed, used, ⟨so, co⟩, ⟨sd, cd⟩⟩ ⟨hi, hsc, hdl, hgl, hul⟩
  simp only [] at hi hsc hdl hgl hul ⊢
  refine g_seq ?_
  refine g_seq ?_
  refine g_reg ?_
  refine g_v (v_move rfl) rfl ?_
  refine g_v (v_move rfl) rfl ?_
  refine g_v (v_len Try.underlying61 rfl) rfl ?_
  refine g_v (v_lss rfl rfl) rfl ?_
  refine g_nil ?_
  refine g_cond rfl (fun h18 => ?_) (fun h18 => ?_)
  · simp at h18
    have him : i < l.length := by omega
    obtain ⟨x, hx⟩ : ∃ x, l[i]? = some x := ⟨_, List.getElem?_eq_getElem him⟩
    have hxl := hS x (List.mem_of_getElem? hx)
    have hsx := secL_at hx
    have hn5 := skN_lt x
    have hso : scanF first (secL l) l.length 0 [] [] 0 = scanF first (secL l) ((l.length - (i + 1)) + 1) i (gl.map (·.1)) deed used := by rw [hsc, show (l.length - (i + 1)) + 1 = l.length - i by omega]
    refine g_skip ?_
    refine g_seq ?_
    refine g_block ?_
    refine g_seq ?_
    refine g_reg ?_
    refine g_v (v_move rfl) rfl ?_
    refine g_v (v_move rfl) rfl ?_
    refine g_v (v_idxS i Try.underlying61 Try.sizeOf9 rfl rfl rfl him (by rw [strR_len]; exact him)) rfl ?_
    refine g_v (v_loadS0 Try.isAgg9 rfl (strR_at hx) rfl) rfl ?_
    refine g_v (v_assign rfl) rfl ?_
    refine g_nil ?_
    refine g_seq ?_
    refine g_drawL [(0, false), (1, false), (2, false), (3, false), (4, false), (5, false), (6, false), (7, false), (8, false)] (by kernel_rfl) (by kernel_rfl) rfl (by kernel_rfl) ?_
    refine d_v rfl (v_move rfl) rfl ?_
    refine d_v rfl (v_indexStr (r := sk x 5) 5 Try.underlying9 rfl rfl rfl (sk_at (by omega))) rfl ?_
    refine d_v rfl (v_conv (r := ((sk x 5).toNat : Int)) Try.underlying5 Try.underlying3 rfl (w64 (by have := (sk x 5).toNat_lt; omega))) rfl ?_
    refine d_v rfl (v_move rfl) rfl ?_
    refine d_v rfl (v_indexStr (r := sk x 6) 6 Try.underlying9 rfl rfl rfl (sk_at (by omega))) rfl ?_
    refine d_v rfl (v_conv (r := ((sk x 6).toNat : Int)) Try.underlying5 Try.underlying3 rfl (w64 (by have := (sk x 6).toNat_lt; omega))) rfl ?_
    refine d_v rfl (v_mul rfl rfl (w64 (by have := (sk x 6).toNat_lt; omega))) rfl ?_
    refine d_v rfl (v_add (r := ((skN x : Nat) : Int)) rfl rfl (by rw [show ((sk x 5).toNat : Int) + 256 * ((sk x 6).toNat : Int) = ((skN x : Nat) : Int) by unfold skN; omega]; exact w64 (by omega))) rfl ?_
    refine d_v rfl (v_assign rfl) rfl ?_
    refine d_nil ?_
    refine g_seq ?_
    refine g_seq ?_
    refine g_drawL [(0, false), (1, false), (2, false), (3, false), (4, false), (5, true), (6, false), (7, false), (8, false), (9, false), (10, false)] (by kernel_rfl) (by kernel_rfl) rfl (by kernel_rfl) ?_
    refine d_v rfl (v_move rfl) rfl ?_
    refine d_v rfl (v_strBoth (l := 1) (h := 5) Try.underlying9 rfl rfl rfl rfl rfl (by decide) (by omega)) rfl ?_
    refine d_v rfl (v_move rfl) rfl ?_
    refine d_v rfl (v_move rfl) rfl ?_
    refine d_v rfl (v_add (r := ((first + i : Nat) : Int)) rfl rfl (by rw [show ((first : Nat) : Int) + ((i : Nat) : Int) = ((first + i : Nat) : Int) by omega]; exact w64 (by omega))) rfl ?_
    refine d_l rfl (l_call (Pre := []) Try.call152 rfl (ct_R_four (first + i) (by omega))) rfl ?_
    rintro _ _ ⟨rfl, rfl⟩
    refine d_v rfl (v_sneq rfl rfl) rfl ?_
    refine d_v rfl (v_move rfl) rfl ?_
    refine d_gv rfl rfl rfl (fun hg => v_move rfl) rfl rfl ?_
    refine d_gv rfl rfl rfl (fun hg => v_gtr rfl rfl) rfl rfl ?_
    refine d_v rfl (v_or rfl rfl) rfl ?_
    refine d_nil ?_
    refine g_cond rfl (fun h43 => ?_) (fun h43 => ?_)
    · simp [-List.drop_one] at h43
      have hfin : scanF first (secL l) l.length 0 [] [] 0 = (gl.map (·.1), used) := by rw [hso, scan_none (by rw [hsx]; exact look_no1 (fun h => by rcases h43 with h' | h'; exact h' h.1; have := h.2; omega))]
      refine g_exit rfl ?_
      refine g_seq ?_
      refine g_reg ?_
      refine g_v (v_move rfl) rfl ?_
      refine g_v (v_move rfl) rfl ?_
      refine g_v (v_assign rfl) rfl ?_
      refine g_v (v_assign rfl) rfl ?_
      refine g_nil ?_
      exact g_retAny (owL 50 1 so co (dR gl) :: dees gl :: (roL 1 s (strR l) :: F)) rfl ⟨gl, so, co, used, rfl, hfin, Nat.le_trans hul (by omega), Nat.le_trans hgl (by omega), rfl⟩
    · simp [-List.drop_one] at h43
      obtain ⟨hnum, hn73⟩ := h43
      refine g_skip ?_
      refine g_seq ?_
      refine g_reg ?_
      refine g_v (v_move rfl) rfl ?_
      refine g_v (v_move rfl) rfl ?_
      refine g_v (v_add (r := ((7 + skN x : Nat) : Int)) rfl rfl (by rw [show (7 : Int) + ((skN x : Nat) : Int) = ((7 + skN x : Nat) : Int) by omega]; exact w64 (by omega))) rfl ?_
      refine g_v (v_strBoth (l := 7) (h := 7 + skN x) Try.underlying9 rfl rfl rfl rfl rfl (by omega) (by omega)) rfl ?_
      refine g_v (v_assign rfl) rfl ?_
      refine g_nil ?_
      refine g_seq ?_
      refine g_seq ?_
      refine g_reg ?_
      refine g_v (v_move rfl) rfl ?_
      refine g_v (v_indexStr (r := sk x 0) 0 Try.underlying9 rfl rfl rfl (sk_at (by omega))) rfl ?_
      refine g_v (v_eql rfl rfl) rfl ?_
      refine g_v (v_move rfl) rfl ?_
      refine g_gv rfl rfl (fun hg => v_move rfl) rfl rfl ?_
      refine g_gv rfl rfl (fun hg => v_move rfl) rfl rfl ?_
      refine g_gv rfl rfl (fun hg => v_len Try.underlying50 rfl) rfl rfl ?_
      refine g_gq rfl rfl (fun hg => l_call (Pre := []) (R := fun F => R1 (Str (fourN deed.length)) F) Try.call152 rfl (ct_R_four deed.length (by omega))) rfl rfl ?_
      refine g_gv rfl rfl (fun hg => v_seql rfl rfl) rfl rfl ?_
      refine g_v (v_and rfl rfl) rfl ?_
      refine g_nil ?_
      refine g_cond rfl (fun h57 => ?_) (fun h57 => ?_)
      · simp at h57
        rw [show ((sk x 0).toNat : Int) = 99 ↔ sk x 0 = 99 from u99] at h57
        have hlk := look_is hnum (by omega) (.inr h57.1)
        rw [h57.1] at hlk
        refine g_seq ?_
        refine g_reg ?_
        refine g_v (v_move rfl) rfl ?_
        refine g_v (v_move rfl) rfl ?_
        refine g_l (l_buildSlice [[sl sd deed.length cd]] Try.underlying110 Try.sizeOf50 Try.zeroValue50 rfl rfl rfl (by simp) (by decide) (by decide)) rfl ?_
        rintro _ _ ⟨b60, rfl, rfl⟩
        refine g_l (l_append Try.underlying110 Try.sizeOf50 Try.zeroValue50 rfl Try.typeInfo50 (by decide) rfl rfl (dR_len _) rfl (by simp) (by simp [ones, one, sl]) ⟨by omega, by decide, by decide⟩) rfl ?_
        rintro _ _ ⟨s61, c61, rfl, rfl⟩
        rw [dR_snoc, show gl.length + 1 = (gl ++ [(deed, (sd, cd))]).length by simp]
        refine g_v (v_assign rfl) rfl ?_
        refine g_nil ?_
        refine g_seq ?_
        refine g_reg ?_
        refine g_v (v_assign rfl) rfl ?_
        refine g_nil ?_
        refine g_seq ?_
        refine g_reg ?_
        refine g_v (v_move rfl) rfl ?_
        refine g_v (v_add (r := ((i + 1 : Nat) : Int)) rfl rfl (by rw [show (i : Int) + 1 = ((i + 1 : Nat) : Int) by omega]; exact w64 (by omega))) rfl ?_
        refine g_v (v_assign rfl) rfl ?_
        refine g_nil ?_
        refine g_exit rfl ?_
        refine g_reg ?_
        refine g_v (v_move rfl) rfl ?_
        refine g_v (v_add (r := ((i + 1 : Nat) : Int)) rfl rfl (by rw [show (i : Int) + 1 = ((i + 1 : Nat) : Int) by omega]; exact w64 (by omega))) rfl ?_
        refine g_v (v_assign rfl) rfl ?_
        refine g_nil ?_
        refine g_freeze (T := 95) (cap := cd) sd ?_
        refine g_deesApp gl deed sd cd ?_
        refine g_nilown 95 3 (chR []) rfl ?_
        refine g_again (i + 1, gl ++ [(deed, (sd, cd))], [], i + 1, (s61, c61), (none, 0)) ⟨by simp; omega, ?_, by simp, by simp; omega, by simp⟩ (by simp; omega) [0, 1, 6, 7, 8, 9] rfl rfl
        simp only []
        rw [hso, scan_shut (by rw [hsx]; exact hlk) h57.2, map_snoc]
      · simp at h57
        rw [show ((sk x 0).toNat : Int) = 99 ↔ sk x 0 = 99 from u99] at h57
        refine g_skip ?_
        refine g_seq ?_
        refine g_seq ?_
        refine g_reg ?_
        refine g_v (v_move rfl) rfl ?_
        refine g_v (v_indexStr (r := sk x 0) 0 Try.underlying9 rfl rfl rfl (sk_at (by omega))) rfl ?_
        refine g_v (v_neq rfl rfl) rfl ?_
        refine g_nil ?_
        refine g_cond rfl (fun h66 => ?_) (fun h66 => ?_)
        · simp at h66
          have hfin : scanF first (secL l) l.length 0 [] [] 0 = (gl.map (·.1), used) := by
              rw [hso]
              by_cases hk9 : sk x 0 = 99
              · exact scan_off (by rw [hsx, look_is hnum (by omega) (.inr hk9), hk9]) (h57 hk9)
              · exact scan_none (by rw [hsx]; exact look_no2 (fun h => by rcases h with h | h; exact h66 ((sk_eq _ _ 111).2 h); exact hk9 h))
          refine g_exit rfl ?_
          refine g_seq ?_
          refine g_reg ?_
          refine g_v (v_move rfl) rfl ?_
          refine g_v (v_move rfl) rfl ?_
          refine g_v (v_assign rfl) rfl ?_
          refine g_v (v_assign rfl) rfl ?_
          refine g_nil ?_
          exact g_retAny (owL 50 1 so co (dR gl) :: dees gl :: (roL 1 s (strR l) :: F)) rfl ⟨gl, so, co, used, rfl, hfin, Nat.le_trans hul (by omega), Nat.le_trans hgl (by omega), rfl⟩
        · simp at h66
          have hk1 : sk x 0 = 111 := (sk_eq _ _ 111).1 h66
          have hlk := look_is hnum (by omega) (.inl hk1)
          have hk99 : ¬ sk x 0 = 99 := by rw [hk1]; decide
          refine g_skip ?_
          refine g_seq ?_
          refine g_reg ?_
          refine g_v (v_move rfl) rfl ?_
          refine g_l (l_call (Pre := []) Try.call60 rfl (ct_R_ChangeOf ((x.take (7 + skN x)).drop 7) (by simp only [List.length_drop, List.length_take]; omega))) rfl ?_
          rintro _ _ ⟨rfl, rfl⟩
          refine g_v (v_move rfl) rfl ?_
          refine g_v (v_extract (v := .agg (encC (prS ((x.take (7 + skN x)).drop 7)).1).toArray) rfl rfl) rfl ?_
          refine g_v (v_extract (v := I (prS ((x.take (7 + skN x)).drop 7)).2) rfl rfl) rfl ?_
          refine g_l (l_alloc #[Str [], Str [], Bo false] Try.zeroValue95) rfl ?_
          rintro _ _ ⟨b13, rfl, rfl⟩
          refine g_l0 (l_storeA (cs := #[Str [], Str [], Bo false]) (vs := encC (prS ((x.take (7 + skN x)).drop 7)).1) (encC (prS ((x.take (7 + skN x)).drop 7)).1).toArray Try.sizeOf95 rfl rfl rfl rfl (by decide) (splice_all rfl)) ?_
          rintro _ _ rfl
          refine g_v (v_assign rfl) rfl ?_
          refine g_nil ?_
          refine g_seq ?_
          refine g_seq ?_
          refine g_reg ?_
          refine g_v (v_move rfl) rfl ?_
          refine g_v (v_gtr rfl rfl) rfl ?_
          refine g_nil ?_
          refine g_cond rfl (fun h73 => ?_) (fun h73 => ?_)
          · simp at h73
            have hfin : scanF first (secL l) l.length 0 [] [] 0 = (gl.map (·.1), used) := by rw [hso, scan_bad (by rw [hsx]; exact hlk) hk99 (by omega)]
            refine g_exit rfl ?_
            refine g_seq ?_
            refine g_reg ?_
            refine g_v (v_move rfl) rfl ?_
            refine g_v (v_move rfl) rfl ?_
            refine g_v (v_assign rfl) rfl ?_
            refine g_v (v_assign rfl) rfl ?_
            refine g_nil ?_
            exact g_retAny (owL 50 1 so co (dR gl) :: dees gl :: (roL 1 s (strR l) :: F)) rfl ⟨gl, so, co, used, rfl, hfin, Nat.le_trans hul (by omega), Nat.le_trans hgl (by omega), rfl⟩
          · simp at h73
            have hpe : (prS ((x.take (7 + skN x)).drop 7)).2 = 0 := by have := prN_nn ((x.take (7 + skN x)).drop 7); omega
            refine g_skip ?_
            refine g_reg ?_
            refine g_v (v_move rfl) rfl ?_
            refine g_v (v_loadA (vs := encC ((prS ((x.take (7 + skN x)).drop 7)).1)) Try.isAgg95 Try.sizeOf95 rfl rfl arr_ld) rfl ?_
            refine g_l (l_buildSlice [encC (prS ((x.take (7 + skN x)).drop 7)).1] Try.underlying50 Try.sizeOf95 Try.zeroValue95 rfl rfl rfl (by simp [encC]) (by decide) (by decide)) rfl ?_
            rintro _ _ ⟨b76, rfl, rfl⟩
            refine g_l (l_append Try.underlying50 Try.sizeOf95 Try.zeroValue95 rfl Try.typeInfo95 (by decide) rfl rfl (chR_len _) rfl (by simp [encC]) (by simp [ones, one, encC]) ⟨by omega, by decide, by decide⟩) rfl ?_
            rintro _ _ ⟨s77, c77, rfl, rfl⟩
            rw [chR_snoc', show deed.length + 1 = (deed ++ [(prS ((x.take (7 + skN x)).drop 7)).1]).length by simp]
            refine g_v (v_assign rfl) rfl ?_
            refine g_nil ?_
            refine g_blk ?_
            refine g_reg ?_
            refine g_v (v_move rfl) rfl ?_
            refine g_v (v_add (r := ((i + 1 : Nat) : Int)) rfl rfl (by rw [show (i : Int) + 1 = ((i + 1 : Nat) : Int) by omega]; exact w64 (by omega))) rfl ?_
            refine g_v (v_assign rfl) rfl ?_
            refine g_nil ?_
            refine g_again (i + 1, gl, deed ++ [(prS ((x.take (7 + skN x)).drop 7)).1], used, (so, co), (s77, c77)) ⟨by simp; omega, ?_, by simp; omega, by simp only []; omega, by simp only []; omega⟩ (by simp; omega) [0, 1, 6, 7, 8, 9] rfl rfl
            simp only []
            rw [hso, scan_row (by rw [hsx]; exact hlk) hk99 hpe]
  · simp at h18
    have hie : l.length = i := by omega
    have hfin : scanF first (secL l) l.length 0 [] [] 0 = (gl.map (·.1), used) := by rw [hsc, show l.length - i = 0 by omega]; rfl
    refine g_exit rfl ?_
    refine g_seq ?_
    refine g_reg ?_
    refine g_v (v_move rfl) rfl ?_
    refine g_v (v_move rfl) rfl ?_
    refine g_v (v_assign rfl) rfl ?_
    refine g_v (v_assign rfl) rfl ?_
    refine g_nil ?_
    exact g_retAny (owL 50 1 so co (dR gl) :: dees gl :: (roL 1 s (strR l) :: F)) rfl ⟨gl, so, co, used, rfl, hfin, Nat.le_trans hul (by omega), Nat.le_trans hgl (by omega), rfl⟩

theorem ct_R_SameDeeds (ga gb : LogG) (s s' : Option Addr) (ca cb : Nat) (ha : ga.length ≤ 1000000 ∧ ∀ x ∈ ga, x.1.length ≤ 1000000) (hb : gb.length ≤ 1000000 ∧ ∀ x ∈ gb, x.1.length ≤ 1000000) (F : List HProp) : Ct Try.prog 70 [sl s ga.length ca, sl s' gb.length cb] ([roL 1 s (dR ga), dees ga, roL 1 s' (dR gb), dees gb] ++ F) (R1 (Bo (decide (ga.map (·.1) = gb.map (·.1)))) (roL 1 s (dR ga) :: dees ga :: roL 1 s' (dR gb) :: dees gb :: F)) := by
  show Ct Try.prog 70 [sl s ga.length ca, sl s' gb.length cb] (roL 1 s (dR ga) :: dees ga :: roL 1 s' (dR gb) :: dees gb :: F) _
  refine Ct.of Try.func70 rfl 29 Try.ntmps70 (by simp) fun w0 => ?_
  refine g_seq ?_
  refine g_reg ?_
  refine g_v (v_assign rfl) rfl ?_
  refine g_nil ?_
  refine g_seq ?_
  refine g_seq ?_
  refine g_reg ?_
  refine g_v (v_move rfl) rfl ?_
  refine g_v (v_len Try.underlying110 rfl) rfl ?_
  refine g_v (v_move rfl) rfl ?_
  refine g_v (v_len Try.underlying110 rfl) rfl ?_
  refine g_v (v_neq rfl rfl) rfl ?_
  refine g_nil ?_
  refine g_cond rfl (fun h11 => ?_) (fun h11 => ?_)
  · simp at h11
    refine g_seq ?_
    refine g_reg ?_
    refine g_v (v_assign rfl) rfl ?_
    refine g_nil ?_
    refine g_ret1 rfl rfl ?_
    show Bo false = _
    rw [decide_eq_false (fun e => h11 (by have := congrArg List.length e; simp at this; omega))]
  · simp at h11
    refine g_skip ?_
    refine g_seq ?_
    refine g_seq ?_
    refine g_reg ?_
    refine g_v (v_assign rfl) rfl ?_
    refine g_nil ?_
    refine g_block ?_
    refine g_loop (α := Nat) (fun k => k ≤ ga.length ∧ (ga.map (·.1)).take k = (gb.map (·.1)).take k) (fun k => U [(0, sl s ga.length ca), (1, sl s' gb.length cb), (5, I k)]) (fun _ => roL 1 s (dR ga) :: dees ga :: roL 1 s' (dR gb) :: dees gb :: F) (fun k => ga.length - k) 0 ⟨by simp, by simp⟩ [0, 1, 5] rfl rfl ?_
    rintro k ⟨hk, hab⟩
    refine g_seq ?_
    refine g_seq ?_
    refine g_reg ?_
    refine g_v (v_move rfl) rfl ?_
    refine g_v (v_move rfl) rfl ?_
    refine g_v (v_len Try.underlying110 rfl) rfl ?_
    refine g_v (v_lss rfl rfl) rfl ?_
    refine g_nil ?_
    refine g_cond rfl (fun h15 => ?_) (fun h15 => ?_)
    · simp at h15
      have hka : k < ga.length := by omega
      have hkb : k < gb.length := by omega
      obtain ⟨x, hx⟩ : ∃ x, ga[k]? = some x := ⟨_, List.getElem?_eq_getElem hka⟩
      obtain ⟨y, hy⟩ : ∃ y, gb[k]? = some y := ⟨_, List.getElem?_eq_getElem hkb⟩
      refine g_skip ?_
      refine g_seq ?_
      refine g_block ?_
      refine g_seq ?_
      refine g_deesAt gb (List.mem_of_getElem? hy) ?_
      refine g_deesAt ga (List.mem_of_getElem? hx) ?_
      refine g_draw (Lf := [roL 1 s (dR ga), roL 1 s' (dR gb)]) [(0, false), (1, false), (2, false), (3, false), (4, false), (5, false), (6, false), (7, false), (8, true), (9, false)] (by kernel_rfl) (by kernel_rfl) rfl (by kernel_rfl) ?_
      refine d_v rfl (v_move rfl) rfl ?_
      refine d_v rfl (v_move rfl) rfl ?_
      refine d_v rfl (v_idxS k Try.underlying110 Try.sizeOf50 rfl rfl rfl hka (by rw [dR_len]; exact hka)) rfl ?_
      refine d_v rfl (v_loadS0 (v := sl x.2.1 x.1.length x.2.2) Try.isAgg50 rfl (dR_at hx) rfl) rfl ?_
      refine d_v rfl (v_move rfl) rfl ?_
      refine d_v rfl (v_move rfl) rfl ?_
      refine d_v rfl (v_idxS k Try.underlying110 Try.sizeOf50 rfl rfl rfl hkb (by rw [dR_len]; exact hkb)) rfl ?_
      refine d_v rfl (v_loadS0 (v := sl y.2.1 y.1.length y.2.2) Try.isAgg50 rfl (dR_at hy) rfl) rfl ?_
      refine d_l rfl (l_call (Pre := [roL 3 x.2.1 (chR x.1), roL 3 y.2.1 (chR y.1)]) Try.call64 rfl (ct_R_SameChanges x.1 y.1 x.2.1 y.2.1 x.2.2 y.2.2 (ha.2 x (List.mem_of_getElem? hx)) (hb.2 y (List.mem_of_getElem? hy)))) rfl ?_
      rintro _ _ ⟨rfl, rfl⟩
      refine d_v rfl (v_assign rfl) rfl ?_
      refine d_nil ?_
      refine g_seq ?_
      refine g_reg ?_
      refine g_v (v_move rfl) rfl ?_
      refine g_v (v_not rfl) rfl ?_
      refine g_nil ?_
      refine g_cond rfl (fun h28 => ?_) (fun h28 => ?_)
      · simp at h28
        refine g_seq ?_
        refine g_reg ?_
        refine g_v (v_assign rfl) rfl ?_
        refine g_nil ?_
        refine g_ret1 rfl rfl ?_
        show Bo false = _
        rw [decide_eq_false (fun e => h28 (by have h1 : (ga.map (·.1))[k]? = some x.1 := by simp [hx]
                                              have h2 : (gb.map (·.1))[k]? = some y.1 := by simp [hy]
                                              rw [e, h2] at h1; injection h1 with h1; exact h1.symm))]
      · simp at h28
        have h27' := h28
        refine g_skip ?_
        refine g_blk ?_
        refine g_reg ?_
        refine g_v (v_move rfl) rfl ?_
        refine g_v (v_add rfl rfl (w64 (by omega))) rfl ?_
        refine g_v (v_assign rfl) rfl ?_
        refine g_nil ?_
        exact g_again (k + 1) ⟨by omega, take_eq_of hab (x := x.1) (y := y.1) (by simp [hx]) (by simp [hy]) h27'⟩ (by omega) [0, 1, 5] rfl rfl
    · simp at h15
      obtain rfl : k = ga.length := by omega
      refine g_exit rfl ?_
      refine g_seq ?_
      refine g_reg ?_
      refine g_v (v_assign rfl) rfl ?_
      refine g_nil ?_
      refine g_ret1 rfl rfl ?_
      show Bo true = _
      rw [decide_eq_true (show ga.map (·.1) = gb.map (·.1) by
          have e1 := List.take_of_length_le (l := ga.map (·.1)) (i := ga.length) (by simp)
          have e2 := List.take_of_length_le (l := gb.map (·.1)) (i := ga.length) (by simp; omega)
          rw [e1, e2] at hab; exact hab)]

end Go.Proofs.Ythdjckbjjfiopaa
