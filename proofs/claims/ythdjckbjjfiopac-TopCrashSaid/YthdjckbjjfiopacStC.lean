/- Walks through package store: committing; the reference's store. No condition. -/
import Derived.Test.YthdjckbjjfiopacStP
namespace Go.Proofs.Ythdjckbjjfiopac
open Go Go.Sl Go.Proofs
set_option linter.unusedVariables false
set_option linter.unusedSimpArgs false
theorem cmV_long {many : Nat} {rows c : List ChangeM} (h : 72 < c.length) : cmV many rows c = 2 := by unfold cmV; rw [if_pos h]
theorem cmV_flt {many : Nat} {rows c : List ChangeM} (h : c.length ≤ 72) (hf : fltC c ≠ 0) : cmV many rows c = fltC c := by unfold cmV; rw [if_neg (by omega), if_pos hf]
theorem cmV_full {many : Nat} {rows c : List ChangeM} (h : c.length ≤ 72) (hf : fltC c = 0) (hb : 80 < (apsS rows c).length ∨ many < c.length + 1) : cmV many rows c = 8 := by unfold cmV; rw [if_neg (by omega), if_neg (by simpa using hf), if_pos hb]
theorem cmV_ok {many : Nat} {rows c : List ChangeM} (h : c.length ≤ 72) (hf : fltC c = 0) (hb : ¬ (80 < (apsS rows c).length ∨ many < c.length + 1)) : cmV many rows c = 0 := by unfold cmV; rw [if_neg (by omega), if_neg (by simpa using hf), if_neg hb]

theorem ct_store_Commit (bs bd : Nat) (h : HdM) (bl : Nat) (s : Option Addr) (cap : Nat) (rows : List ChangeM) (N i used : Nat) (D : DiskM) (hok : okW N i D) (hi : i ≤ 100000) (hS : S80 D) (hN0 : 196 ≤ N ∧ N ≤ 260) (hh : h.ep ≤ 1000000 ∧ h.side ≤ 1 ∧ 1 ≤ h.first ∧ h.first ≤ 1000000000) (hl : rows.length ≤ 80) (hrw : ∀ r ∈ rows, okR r) (hu : used ≤ N - 122) (hs : srt rows) (c : List ChangeM) (s' : Option Addr) (cap' : Nat) (hcl : c.length ≤ 9223372036854775807) (F : List HProp) : Ct Try.prog 34 [ptr bs 0, sl s' c.length cap'] ([pt bs (.cells (stC bd h bl s (rows.length) cap) 123 (0, 0)), pt bl (.cells (lgC bd 122 (N - 122) h.first (used)) 154 (0, 0)), dsk 117 135 bd (D), roL 3 s (chR rows), roL 3 s' (chR c)] ++ F) (fun v L' => ∃ e D2 h2 used2 rows2 bl2 s2 cap2, ComR D h rows (N - 122) used c e D2 h2 used2 rows2 ∧ v = errV e ∧ L' = pt bs (.cells (stC bd h2 bl2 s2 rows2.length cap2) 123 (0, 0)) :: pt bl2 (.cells (lgC bd 122 (N - 122) h2.first used2) 154 (0, 0)) :: dsk 117 135 bd (D2) :: roL 3 s2 (chR rows2) :: roL 3 s' (chR c) :: F) := by
  show Ct Try.prog 34 [ptr bs 0, sl s' c.length cap'] (pt bs (.cells (stC bd h bl s (rows.length) cap) 123 (0, 0)) :: pt bl (.cells (lgC bd 122 (N - 122) h.first (used)) 154 (0, 0)) :: dsk 117 135 bd (D) :: roL 3 s (chR rows) :: roL 3 s' (chR c) :: F) _
  refine Ct.of Try.func34 rfl 76 Try.ntmps34 (by simp) fun w0 => ?_
  refine g_seq ?_
  refine g_reg ?_
  refine g_v (v_assign rfl) rfl ?_
  refine g_nil ?_
  refine g_seq ?_
  refine g_seq ?_
  refine g_reg ?_
  refine g_v (v_move rfl) rfl ?_
  refine g_v (v_len Try.underlying49 rfl) rfl ?_
  refine g_v (v_gtr rfl rfl) rfl ?_
  refine g_nil ?_
  refine g_cond rfl (fun h13 => ?_) (fun h13 => ?_)
  · simp at h13
    have hlong : 72 < c.length := by omega
    refine g_seq ?_
    refine g_reg ?_
    refine g_v (v_iface Try.underlying94 rfl rfl) rfl ?_
    refine g_v (v_assign rfl) rfl ?_
    refine g_nil ?_
    exact g_retAny (pt bs (.cells (stC bd h bl s (rows.length) cap) 123 (0, 0)) :: pt bl (.cells (lgC bd 122 (N - 122) h.first (used)) 154 (0, 0)) :: dsk 117 135 bd (D) :: roL 3 s (chR rows) :: roL 3 s' (chR c) :: F) rfl ⟨2, D, h, used, rows, bl, s, cap, .inl ⟨by rw [cmV_long hlong]; decide, by rw [cmV_long hlong], rfl, rfl, rfl, rfl⟩, rfl, rfl⟩
  · simp at h13
    have hshort : c.length ≤ 72 := by omega
    refine g_skip ?_
    refine g_seq ?_
    refine g_seq ?_
    refine g_reg ?_
    refine g_v (v_move rfl) rfl ?_
    refine g_v (v_len Try.underlying49 rfl) rfl ?_
    refine g_v (v_move rfl) rfl ?_
    refine g_nil ?_
    refine g_block ?_
    refine g_loop (α := Nat) (fun k => k ≤ c.length ∧ fltC c = fltC (c.drop k)) (fun k => U [(0, ptr bs 0), (1, sl s' c.length cap'), (15, sl s' c.length cap'), (16, I c.length), (17, I (k : Int))]) (fun k => pt bs (.cells (stC bd h bl s (rows.length) cap) 123 (0, 0)) :: pt bl (.cells (lgC bd 122 (N - 122) h.first (used)) 154 (0, 0)) :: dsk 117 135 bd (D) :: roL 3 s (chR rows) :: roL 3 s' (chR c) :: F) (fun k => c.length - k) 0 ⟨Nat.zero_le _, rfl⟩ [0, 1, 15, 16, 17] rfl rfl ?_
    rintro k ⟨hk, hfk⟩
    refine g_seq ?_
    refine g_reg ?_
    refine g_v (v_lss rfl rfl) rfl ?_
    refine g_nil ?_
    refine g_seq ?_
    refine g_cond rfl (fun h18 => ?_) (fun h18 => ?_)
    · simp at h18
      have hkn : k < c.length := by omega
      obtain ⟨x, hx⟩ : ∃ x, c[k]? = some x := ⟨_, List.getElem?_eq_getElem hkn⟩
      have hkr : k < (chR c).length := by rw [chR_len]; exact hkn
      have hfd := flt_drop hx
      refine g_skip ?_
      refine g_seq ?_
      refine g_block ?_
      refine g_seq ?_
      refine g_reg ?_
      refine g_v (v_idxS k Try.underlying49 Try.sizeOf111 rfl rfl rfl hkn hkr) rfl ?_
      refine g_v (v_loadAS (row := encC x) Try.isAgg111 Try.sizeOf111 rfl (chR_at hx) rfl) rfl ?_
      refine g_l (l_alloc #[Str [], Str [], Bo false] Try.zeroValue111) rfl ?_
      rintro _ _ ⟨b6, rfl, rfl⟩
      refine g_l0 (l_storeA (cs := #[Str [], Str [], Bo false]) (vs := encC x) (encC x).toArray Try.sizeOf111 rfl rfl rfl rfl (by decide) (splice_all rfl)) ?_
      rintro _ _ rfl
      refine g_nil ?_
      refine g_seq ?_
      refine g_reg ?_
      refine g_v (v_loadA (vs := encC (x)) Try.isAgg111 Try.sizeOf111 rfl rfl arr_ld) rfl ?_
      refine g_l (l_call (Pre := []) Try.call64 rfl (ct_row_Check x)) rfl ?_
      rintro _ _ ⟨rfl, rfl⟩
      refine g_v (v_assign rfl) rfl ?_
      refine g_nil ?_
      refine g_seq ?_
      refine g_reg ?_
      refine g_v (v_move rfl) rfl ?_
      refine g_v (v_ineq Try.underlying33 rfl) rfl ?_
      refine g_nil ?_
      refine g_cond rfl (fun h24 => ?_) (fun h24 => ?_)
      · have hx0 : ¬ chkC x = 0 := by simpa using h24
        have hfx : fltC c = chkC x := by rw [hfk, hfd, if_neg hx0]
        refine g_seq ?_
        refine g_reg ?_
        refine g_v (v_move rfl) rfl ?_
        refine g_v (v_assign rfl) rfl ?_
        refine g_nil ?_
        exact g_retAny (pt bs (.cells (stC bd h bl s (rows.length) cap) 123 (0, 0)) :: pt bl (.cells (lgC bd 122 (N - 122) h.first (used)) 154 (0, 0)) :: dsk 117 135 bd (D) :: roL 3 s (chR rows) :: roL 3 s' (chR c) :: F) rfl ⟨(chkC x), D, h, used, rows, bl, s, cap, .inl ⟨by rw [cmV_flt hshort (by rw [hfx]; exact hx0), hfx]; exact hx0, by rw [cmV_flt hshort (by rw [hfx]; exact hx0), hfx], rfl, rfl, rfl, rfl⟩, rfl, rfl⟩
      · have hx0 : chkC x = 0 := by simpa using h24
        refine g_skip ?_
        refine g_blk ?_
        refine g_reg ?_
        refine g_v (v_add (r := ((k + 1 : Nat) : Int)) rfl rfl (by rw [show (k : Int) + 1 = ((k + 1 : Nat) : Int) by omega]; exact w64 (by omega))) rfl ?_
        refine g_v (v_move rfl) rfl ?_
        refine g_nil ?_
        exact g_again (k + 1) ⟨by omega, by rw [hfk, hfd, if_pos hx0]⟩ (by omega) [0, 1, 15, 16, 17] rfl rfl
    · simp at h18
      obtain rfl : k = c.length := by omega
      rw [List.drop_length] at hfk
      have hf0 : fltC c = 0 := hfk
      refine g_exit rfl ?_
      refine g_seq ?_
      refine g_reg ?_
      refine g_v (v_move rfl) rfl ?_
      refine g_v (v_nilCheck rfl) rfl ?_
      refine g_v (v_fieldAddr 6 Try.underlying123 rfl rfl Try.sizeOf49 (by decide) rfl) rfl ?_
      refine g_v (v_load (v := sl s rows.length cap) Try.isAgg49 rfl rfl) rfl ?_
      refine g_v (v_move rfl) rfl ?_
      refine g_l (l_call (Pre := [roL 3 s (chR rows), roL 3 s' (chR c)]) Try.call65 rfl (ct_row_Apply rows c s s' cap cap' hs (by omega) (by omega))) rfl ?_
      rintro _ _ ⟨s32, c32, rfl, rfl⟩
      refine g_freeze (T := 111) (cap := c32) s32 ?_
      refine g_v (v_assign rfl) rfl ?_
      refine g_nil ?_
      refine g_seq ?_
      refine g_seq ?_
      refine g_reg ?_
      refine g_v (v_move rfl) rfl ?_
      refine g_v (v_len Try.underlying49 rfl) rfl ?_
      refine g_v (v_gtr rfl rfl) rfl ?_
      refine g_v (v_move rfl) rfl ?_
      refine g_gv rfl rfl (fun hg => v_move rfl) rfl rfl ?_
      refine g_gv rfl rfl (fun hg => v_len Try.underlying49 rfl) rfl rfl ?_
      refine g_gv rfl rfl (fun hg => v_add (r := ((c.length + 1 : Nat) : Int)) rfl rfl (by rw [show (c.length : Int) + 1 = ((c.length + 1 : Nat) : Int) by omega]; exact w64 (by omega))) rfl rfl ?_
      refine g_gv rfl rfl (fun hg => v_move rfl) rfl rfl ?_
      refine g_gv rfl rfl (fun hg => v_nilCheck rfl) rfl rfl ?_
      refine g_gv rfl rfl (fun hg => v_fieldAddr 0 Try.underlying123 rfl rfl Try.sizeOf69 (by decide) rfl) rfl rfl ?_
      refine g_gv rfl rfl (fun hg => v_load (v := ptr bd 0) Try.isAgg69 rfl rfl) rfl rfl ?_
      refine g_gq rfl rfl (fun hg => l_call (Pre := [dsk 117 135 bd (D)]) (R := fun F => R1 (I ((D).now.length : Int)) (dsk 117 135 bd (D) :: F)) Try.call63 rfl (ct_disk_Sectors bd D)) rfl rfl ?_
      refine g_gv rfl rfl (fun hg => v_sub (r := ((N - 122 : Nat) : Int)) rfl rfl (by rw [hok.2.1, show (N : Int) - 122 = ((N - 122 : Nat) : Int) by omega]; exact w64 (by omega))) rfl rfl ?_
      refine g_gv rfl rfl (fun hg => v_gtr rfl rfl) rfl rfl ?_
      refine g_v (v_or rfl rfl) rfl ?_
      refine g_nil ?_
      refine g_cond rfl (fun h47 => ?_) (fun h47 => ?_)
      · simp at h47
        have hfull : 80 < (apsS rows c).length ∨ N - 122 < c.length + 1 := by omega
        refine g_seq ?_
        refine g_reg ?_
        refine g_v (v_iface Try.underlying94 rfl rfl) rfl ?_
        refine g_v (v_assign rfl) rfl ?_
        refine g_nil ?_
        exact g_retAny (pt bs (.cells (stC bd h bl s (rows.length) cap) 123 (0, 0)) :: pt bl (.cells (lgC bd 122 (N - 122) h.first (used)) 154 (0, 0)) :: dsk 117 135 bd (D) :: roL 3 s (chR rows) :: roL 3 s' (chR c) :: F) rfl ⟨8, D, h, used, rows, bl, s, cap, .inl ⟨by rw [cmV_full hshort hf0 hfull]; decide, by rw [cmV_full hshort hf0 hfull], rfl, rfl, rfl, rfl⟩, rfl, rfl⟩
      · simp at h47
        have hfull : ¬ (80 < (apsS rows c).length ∨ N - 122 < c.length + 1) := by omega
        have hcm := cmV_ok hshort hf0 hfull
        refine g_skip ?_
        refine g_seq ?_
        refine g_seq ?_
        refine g_reg ?_
        refine g_v (v_move rfl) rfl ?_
        refine g_v (v_len Try.underlying49 rfl) rfl ?_
        refine g_v (v_add (r := ((c.length + 1 : Nat) : Int)) rfl rfl (by rw [show (c.length : Int) + 1 = ((c.length + 1 : Nat) : Int) by omega]; exact w64 (by omega))) rfl ?_
        refine g_v (v_move rfl) rfl ?_
        refine g_v (v_nilCheck rfl) rfl ?_
        refine g_v (v_fieldAddr 5 Try.underlying123 rfl rfl Try.sizeOf121 (by decide) rfl) rfl ?_
        refine g_v (v_load (v := ptr bl 0) Try.isAgg121 rfl rfl) rfl ?_
        refine g_l (l_call (Pre := [pt bl (.cells (lgC bd 122 (N - 122) h.first (used)) 154 (0, 0))]) Try.call66 rfl (ct_log_Room bl bd 122 (N - 122) h.first used ⟨hu, by omega⟩)) rfl ?_
        rintro _ _ ⟨rfl, rfl⟩
        refine g_v (v_gtr rfl rfl) rfl ?_
        refine g_nil ?_
        refine g_cut (α := DiskM × HdM × Nat × Nat) (fun z => MidR D h rows (N - 122) used c 0 z.1 z.2.1 z.2.2.1) (fun z => U [(0, ptr bs 0), (1, sl s' c.length cap'), (8, sl s32 (apsS rows c).length c32)]) (fun z => pt bs (.cells (stC bd z.2.1 z.2.2.2 s rows.length cap) 123 (0, 0)) :: pt z.2.2.2 (.cells (lgC bd 122 (N - 122) z.2.1.first z.2.2.1) 154 (0, 0)) :: dsk 117 135 bd (z.1) :: roL 3 s (chR rows) :: roL 3 s' (chR c) :: roL 3 s32 (chR (apsS rows c)) :: F) ?_ ?_
        · skip
          refine g_cond rfl (fun h57 => ?_) (fun h57 => ?_)
          · simp at h57
            have hroom : N - 122 - used < c.length + 1 := by omega
            refine g_seq ?_
            refine g_reg ?_
            refine g_v (v_move rfl) rfl ?_
            refine g_l (l_call (Pre := [pt bs (.cells (stC bd h bl s (rows.length) cap) 123 (0, 0)), pt bl (.cells (lgC bd 122 (N - 122) h.first (used)) 154 (0, 0)), dsk 117 135 bd (D), roL 3 s (chR rows)]) Try.call33 rfl (ct_store_Checkpoint bs bd h bl s cap rows N i used D hok hi hS hN0 hh hl hrw)) rfl ?_
            rintro _ _ ⟨e59, D59, hck, ⟨hne, rfl, rfl⟩ | ⟨h0, bl9, ds9, used9, hu9, hsc9, rfl, rfl⟩⟩
            · skip
              refine g_v (v_assign rfl) rfl ?_
              refine g_nil ?_
              refine g_seq ?_
              refine g_reg ?_
              refine g_v (v_move rfl) rfl ?_
              refine g_v (v_ineq Try.underlying33 rfl) rfl ?_
              refine g_nil ?_
              refine g_cond rfl (fun h61 => ?_) (fun h61 => ?_)
              · skip
                refine g_seq ?_
                refine g_reg ?_
                refine g_v (v_move rfl) rfl ?_
                refine g_v (v_assign rfl) rfl ?_
                refine g_nil ?_
                exact g_retAny (pt bs (.cells (stC bd h bl s (rows.length) cap) 123 (0, 0)) :: pt bl (.cells (lgC bd 122 (N - 122) h.first (used)) 154 (0, 0)) :: dsk 117 135 bd (D59) :: roL 3 s (chR rows) :: roL 3 s' (chR c) :: F) rfl ⟨e59, D59, h, used, rows, bl, s, cap, .inr ⟨hcm, e59, D59, h, used, .inl ⟨hroom, hck, .inl ⟨hne, rfl, rfl⟩⟩, .inl ⟨hne, rfl, rfl, rfl, rfl, rfl⟩⟩, rfl, rfl⟩
              · exact absurd (by simpa using h61) hne
            · subst h0
              refine g_v (v_assign rfl) rfl ?_
              refine g_nil ?_
              refine g_seq ?_
              refine g_reg ?_
              refine g_v (v_move rfl) rfl ?_
              refine g_v (v_ineq Try.underlying33 rfl) rfl ?_
              refine g_nil ?_
              refine g_cond rfl (fun h61 => ?_) (fun h61 => ?_)
              · simp at h61
              · skip
                refine g_skip ?_
                rw [show h.first + (N - 122) = (nxH h rows (N - 122)).first from rfl]
                exact g_here (D59, (nxH h rows (N - 122)), used9, bl9) (.inl ⟨hroom, hck, .inr ⟨rfl, rfl, hu9, ds9, hsc9⟩⟩) [0, 1, 8] rfl rfl
          · simp at h57
            have hroom : ¬ N - 122 - used < c.length + 1 := by omega
            refine g_skip ?_
            exact g_here (D, h, used, bl) (.inr ⟨hroom, rfl, rfl, rfl, rfl⟩) [0, 1, 8] rfl rfl
        rintro ⟨D1, h1, used1, bl1⟩ hmid
        simp only [] at hmid ⊢
        obtain ⟨hm1, hm2, hm3, hm4, hm5, hm6, hm7⟩ := mid_bd hmid hok hS hl hrw hN0.1 hu
        refine g_seq ?_
        refine g_reg ?_
        refine g_v (v_move rfl) rfl ?_
        refine g_v (v_nilCheck rfl) rfl ?_
        refine g_v (v_fieldAddr 5 Try.underlying123 rfl rfl Try.sizeOf121 (by decide) rfl) rfl ?_
        refine g_v (v_load (v := ptr bl1 0) Try.isAgg121 rfl rfl) rfl ?_
        refine g_v (v_move rfl) rfl ?_
        refine g_l (l_call (Pre := [pt bl1 (.cells (lgC bd 122 (N - 122) h1.first used1) 154 (0, 0)), dsk 117 135 bd (D1), roL 3 s' (chR c)]) Try.call67 rfl (ct_log_Add bl1 bd 122 (N - 122) h1.first used1 c s' cap' N (i + 63) D1 hm1 ⟨by omega, by omega⟩ ⟨by omega, by omega, by decide, hm3⟩ hcl)) rfl ?_
        rintro _ _ ⟨rfl, rfl⟩
        refine g_v (v_assign rfl) rfl ?_
        refine g_nil ?_
        refine g_seq ?_
        refine g_seq ?_
        refine g_reg ?_
        refine g_v (v_move rfl) rfl ?_
        refine g_v (v_ieql Try.underlying33 rfl) rfl ?_
        refine g_nil ?_
        refine g_cond rfl (fun h70 => ?_) (fun h70 => ?_)
        · have h70' : addE 122 (N - 122) h1.first used1 c D1 = 0 := by simpa using h70
          refine g_reg ?_
          refine g_v (v_move rfl) rfl ?_
          refine g_v (v_move rfl) rfl ?_
          refine g_v (v_nilCheck rfl) rfl ?_
          refine g_v (v_fieldAddr 6 Try.underlying123 rfl rfl Try.sizeOf49 (by decide) rfl) rfl ?_
          refine g_l0 (l_store (stC bd h1 bl1 s32 (apsS rows c).length c32) Try.sizeOf49 rfl rfl rfl (by simp) rfl) ?_
          rintro _ _ rfl
          refine g_nil ?_
          refine g_seq ?_
          refine g_reg ?_
          refine g_v (v_move rfl) rfl ?_
          refine g_v (v_assign rfl) rfl ?_
          refine g_nil ?_
          first
          | exact g_retAny (pt bs (.cells (stC bd h1 bl1 s32 (apsS rows c).length c32) 123 (0, 0)) :: pt bl1 (.cells (lgC bd 122 (N - 122) h1.first (addU 122 (N - 122) h1.first used1 c D1)) 154 (0, 0)) :: dsk 117 135 bd (addD 122 (N - 122) h1.first used1 c D1) :: roL 3 s32 (chR (apsS rows c)) :: roL 3 s' (chR c) :: F) rfl ⟨_, addD 122 (N - 122) h1.first used1 c D1, h1, addU 122 (N - 122) h1.first used1 c D1, (apsS rows c), bl1, s32, c32, .inr ⟨hcm, 0, D1, h1, used1, hmid, .inr ⟨rfl, rfl, rfl, rfl, rfl, (if_pos h70').symm⟩⟩, rfl, rfl⟩
          | exact g_retAny (pt bs (.cells (stC bd h1 bl1 s rows.length cap) 123 (0, 0)) :: pt bl1 (.cells (lgC bd 122 (N - 122) h1.first (addU 122 (N - 122) h1.first used1 c D1)) 154 (0, 0)) :: dsk 117 135 bd (addD 122 (N - 122) h1.first used1 c D1) :: roL 3 s (chR rows) :: roL 3 s' (chR c) :: F) rfl ⟨_, addD 122 (N - 122) h1.first used1 c D1, h1, addU 122 (N - 122) h1.first used1 c D1, rows, bl1, s, cap, .inr ⟨hcm, 0, D1, h1, used1, hmid, .inr ⟨rfl, rfl, rfl, rfl, rfl, (if_neg h70').symm⟩⟩, rfl, rfl⟩
        · have h70' : ¬ addE 122 (N - 122) h1.first used1 c D1 = 0 := by simpa using h70
          refine g_skip ?_
          refine g_seq ?_
          refine g_reg ?_
          refine g_v (v_move rfl) rfl ?_
          refine g_v (v_assign rfl) rfl ?_
          refine g_nil ?_
          first
          | exact g_retAny (pt bs (.cells (stC bd h1 bl1 s32 (apsS rows c).length c32) 123 (0, 0)) :: pt bl1 (.cells (lgC bd 122 (N - 122) h1.first (addU 122 (N - 122) h1.first used1 c D1)) 154 (0, 0)) :: dsk 117 135 bd (addD 122 (N - 122) h1.first used1 c D1) :: roL 3 s32 (chR (apsS rows c)) :: roL 3 s' (chR c) :: F) rfl ⟨_, addD 122 (N - 122) h1.first used1 c D1, h1, addU 122 (N - 122) h1.first used1 c D1, (apsS rows c), bl1, s32, c32, .inr ⟨hcm, 0, D1, h1, used1, hmid, .inr ⟨rfl, rfl, rfl, rfl, rfl, (if_pos h70').symm⟩⟩, rfl, rfl⟩
          | exact g_retAny (pt bs (.cells (stC bd h1 bl1 s rows.length cap) 123 (0, 0)) :: pt bl1 (.cells (lgC bd 122 (N - 122) h1.first (addU 122 (N - 122) h1.first used1 c D1)) 154 (0, 0)) :: dsk 117 135 bd (addD 122 (N - 122) h1.first used1 c D1) :: roL 3 s (chR rows) :: roL 3 s' (chR c) :: F) rfl ⟨_, addD 122 (N - 122) h1.first used1 c D1, h1, addU 122 (N - 122) h1.first used1 c D1, rows, bl1, s, cap, .inr ⟨hcm, 0, D1, h1, used1, hmid, .inr ⟨rfl, rfl, rfl, rfl, rfl, (if_neg h70').symm⟩⟩, rfl, rfl⟩

-- (*counterfoil/counterfoilref.Store).Commit is not in this seat
end Go.Proofs.Ythdjckbjjfiopac
