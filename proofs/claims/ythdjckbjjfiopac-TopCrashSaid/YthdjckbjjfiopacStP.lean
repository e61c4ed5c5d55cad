/- Walks through package store: laying all rows. No condition. -/
import Derived.Test.YthdjckbjjfiopacStK
import Derived.Test.YthdjckbjjfiopacLg3
namespace Go.Proofs.Ythdjckbjjfiopac
open Go Go.Sl Go.Proofs
set_option linter.unusedVariables false
set_option linter.unusedSimpArgs false
/-- a disk of which something is known -/
def dskR (T TT b : Nat) (φ : DiskM → Prop) : HProp := fun m => ∃ D, φ D ∧ dsk T TT b D m
section
variable {c : Cx} {E : Env} {L F : List HProp} {K : List KI} {T TT b l : Nat} {Q : Post} {φ : DiskM → Prop}
theorem dskR_open {w0 w : World} (h : Sat w0 w (dskR T TT b φ :: F)) : ∃ D, φ D ∧ Sat w0 w (dsk T TT b D :: F) := by
  have h1 : Sat w0 w (hex (fun D => hstar (hpure (φ D)) (dsk T TT b D)) :: F) := h.weak fun m ⟨D, h1, h2⟩ => ⟨D, fun _ => none, m, (fun _ _ _ h => nomatch h), (fun _ _ h => nomatch h), Res.sub.refl m, h1, h2⟩
  obtain ⟨D, h2⟩ := h1.ex
  exact ⟨D, h2.star.pure_.1, h2.star.pure_.2⟩
theorem h_dskR [R : Rem L (dskR T TT b φ) F] (h : ∀ D, φ D → H c l Q K E (dsk T TT b D :: F)) : H c l Q K E L := fun a w hE hS => by
  obtain ⟨D, h1, h2⟩ := dskR_open (R.sat hS)
  exact h D h1 a w hE h2
theorem g_dskR [R : Rem L (dskR T TT b φ) F] (h : ∀ D, φ D → G c K E (dsk T TT b D :: F)) : G c K E L := fun a w hE hS => by
  obtain ⟨D, h1, h2⟩ := dskR_open (R.sat hS)
  exact h D h1 a w hE h2
theorem h_dskMk (D : DiskM) (hD : φ D) [R : Rem L (dsk T TT b D) F] (h : H c l Q K E (dskR T TT b φ :: F)) : H c l Q K E L := fun a w hE hS => h a w hE ((R.sat hS).weak fun m hm => ⟨D, hD, hm⟩)
theorem g_dskMk (D : DiskM) (hD : φ D) [R : Rem L (dsk T TT b D) F] (h : G c K E (dskR T TT b φ :: F)) : G c K E L := fun a w hE hS => h a w hE ((R.sat hS).weak fun m hm => ⟨D, hD, hm⟩)
end
theorem encH_len (h : HdM) : (encH h).length = 4 := rfl
theorem one_err (e : Int) : one (errV e) = true := by unfold errV errT; split <;> rfl

theorem ct_store_Checkpoint (bs bd : Nat) (h : HdM) (bl : Nat) (s : Option Addr) (cap : Nat) (rows : List ChangeM) (N i used : Nat) (D : DiskM) (hok : okW N i D) (hi : i ≤ 100000) (hS : S80 D) (hN0 : 196 ≤ N ∧ N ≤ 260) (hh : h.ep ≤ 1000000 ∧ h.side ≤ 1 ∧ 1 ≤ h.first ∧ h.first ≤ 1000000000) (hl : rows.length ≤ 80) (hrw : ∀ r ∈ rows, okR r) (F : List HProp) : Ct Try.prog 33 [ptr bs 0] ([pt bs (.cells (stC bd h bl s (rows.length) cap) 123 (0, 0)), pt bl (.cells (lgC bd 122 (N - 122) h.first (used)) 154 (0, 0)), dsk 117 135 bd (D), roL 3 s (chR rows)] ++ F) (fun v L' => ∃ e D1, runS D (ckL (nxH h rows (N - 122)) (allB rows)) = (e, D1) ∧ ((e ≠ 0 ∧ v = errV e ∧ L' = pt bs (.cells (stC bd h bl s (rows.length) cap) 123 (0, 0)) :: pt bl (.cells (lgC bd 122 (N - 122) h.first (used)) 154 (0, 0)) :: dsk 117 135 bd (D1) :: roL 3 s (chR rows) :: F) ∨ (e = 0 ∧ ∃ bl' ds used', used' ≤ N - 122 ∧ scanF (h.first + (N - 122)) (secD D1 122) (N - 122) 0 [] [] 0 = (ds, used') ∧ v = errV 0 ∧ L' = pt bs (.cells (stC bd (nxH h rows (N - 122)) bl' s (rows.length) cap) 123 (0, 0)) :: pt bl' (.cells (lgC bd 122 (N - 122) (h.first + (N - 122)) (used')) 154 (0, 0)) :: dsk 117 135 bd (D1) :: roL 3 s (chR rows) :: F))) := by
  show Ct Try.prog 33 [ptr bs 0] (pt bs (.cells (stC bd h bl s (rows.length) cap) 123 (0, 0)) :: pt bl (.cells (lgC bd 122 (N - 122) h.first (used)) 154 (0, 0)) :: dsk 117 135 bd (D) :: roL 3 s (chR rows) :: F) _
  refine Ct.of Try.func33 rfl 113 Try.ntmps33 (by simp) fun w0 => ?_
  have hal := allB_len hrw
  have hcs : chunks (allB rows) ≤ 60 := by unfold chunks; omega
  have hckl : ∀ x ∈ ckL (nxH h rows (N - 122)) (allB rows), okStp N x := ckL_ok (by show 2 + (1 - h.side) * 60 + chunks (allB rows) ≤ N; omega)
  refine g_seq ?_
  refine g_reg ?_
  refine g_l (l_box #[ptr bs 0] rfl rfl) rfl ?_
  rintro _ _ ⟨b1, rfl, rfl⟩
  refine g_l (l_alloc1 (.nilIface) Try.zeroValue33 rfl) rfl ?_
  rintro _ _ ⟨b2, rfl, rfl⟩
  refine g_nil ?_
  refine g_seq ?_
  refine g_reg ?_
  refine g_v (v_load (v := ptr bs 0) Try.isAgg70 rfl rfl) rfl ?_
  refine g_v (v_nilCheck rfl) rfl ?_
  refine g_v (v_fieldAddr 6 Try.underlying123 rfl rfl Try.sizeOf49 (by decide) rfl) rfl ?_
  refine g_v (v_load (v := sl s rows.length cap) Try.isAgg49 rfl rfl) rfl ?_
  refine g_l (l_call (Pre := [roL 3 s (chR rows)]) Try.call56 rfl (ct_store_all rows s cap (by omega) hrw)) rfl ?_
  rintro _ _ ⟨rfl, rfl⟩
  refine g_v (v_assign rfl) rfl ?_
  refine g_nil ?_
  refine g_seq ?_
  refine g_cut (fun _ : Nat => True) (fun b4 => U [(1, ptr b1 0), (2, ptr b2 0), (3, Str (allB rows)), (4, ptr b4 0)]) (fun b4 => pt b4 (.cells (encH (nxH h rows (N - 122))).toArray 120 (0, 0)) :: pt b2 (.cells #[.nilIface] 33 (0, 0)) :: pt b1 (.cells #[ptr bs 0] 70 (0, 0)) :: pt bs (.cells (stC bd h bl s (rows.length) cap) 123 (0, 0)) :: pt bl (.cells (lgC bd 122 (N - 122) h.first (used)) 154 (0, 0)) :: dsk 117 135 bd (D) :: roL 3 s (chR rows) :: F) ?_ ?_
  · skip
    refine g_drawT (Lf := [pt b1 (.cells #[ptr bs 0] 70 (0, 0)), pt bs (.cells (stC bd h bl s (rows.length) cap) 123 (0, 0))]) (.q 0 (.q 1 (.q 2 (.q 3 (.q 4 (.q 5 (.q 6 (.q 7 (.q 8 (.q 9 (.q 10 (.q 11 (.q 12 (.q 13 (.q 14 (.q 15 (.q 16 (.q 17 (.alt (.l 18 (.q 19 (.l 20 (.l 21 (.nil))))) (.l 20 (.l 18 (.q 19 (.l 21 (.nil)))))))))))))))))))))))) (by kernel_rfl) (by kernel_rfl) (by kernel_rfl) ?_
    refine t_v rfl (v_load (v := ptr bs 0) Try.isAgg70 rfl rfl) rfl ?_
    refine t_v rfl (v_nilCheck rfl) rfl ?_
    refine t_v rfl (v_fieldAddr 1 Try.underlying123 rfl rfl Try.sizeOf120 (by decide) rfl) rfl ?_
    refine t_v rfl (v_fieldAddr 0 Try.underlying120 rfl rfl Try.sizeOf3 (by decide) rfl) rfl ?_
    refine t_v rfl (v_load (v := I h.ep) Try.isAgg3 rfl rfl) rfl ?_
    refine t_v rfl (v_add (r := ((h.ep + 1 : Nat) : Int)) rfl rfl (by rw [show (h.ep : Int) + (1 : Int) = ((h.ep + 1 : Nat) : Int) by omega]; exact w64 (by omega))) rfl ?_
    refine t_v rfl (v_load (v := ptr bs 0) Try.isAgg70 rfl rfl) rfl ?_
    refine t_v rfl (v_nilCheck rfl) rfl ?_
    refine t_v rfl (v_fieldAddr 1 Try.underlying123 rfl rfl Try.sizeOf120 (by decide) rfl) rfl ?_
    refine t_v rfl (v_fieldAddr 1 Try.underlying120 rfl rfl Try.sizeOf3 (by decide) rfl) rfl ?_
    refine t_v rfl (v_load (v := I h.side) Try.isAgg3 rfl rfl) rfl ?_
    refine t_v rfl (v_sub (r := ((1 - h.side : Nat) : Int)) rfl rfl (by rw [show (1 : Int) - (h.side : Int) = ((1 - h.side : Nat) : Int) by omega]; exact w64 (by omega))) rfl ?_
    refine t_v rfl (v_move rfl) rfl ?_
    refine t_v rfl (v_slen Try.underlying9 rfl) rfl ?_
    refine t_v rfl (v_load (v := ptr bs 0) Try.isAgg70 rfl rfl) rfl ?_
    refine t_v rfl (v_nilCheck rfl) rfl ?_
    refine t_v rfl (v_fieldAddr 5 Try.underlying123 rfl rfl Try.sizeOf121 (by decide) rfl) rfl ?_
    refine t_v rfl (v_load (v := ptr bl 0) Try.isAgg121 rfl rfl) rfl ?_
    refine t_alt ?_ ?_
    · skip
      refine t_l rfl (l_call (Pre := [pt bl (.cells (lgC bd 122 (N - 122) h.first (used)) 154 (0, 0))]) Try.call57 rfl (ct_log_Next bl bd 122 (N - 122) h.first used ⟨by omega, by omega⟩)) rfl ?_
      rintro _ _ ⟨rfl, rfl⟩
      refine t_v rfl (v_build rfl (bld120_0_1_2_3 _ rfl _ rfl _ rfl _ rfl)) rfl ?_
      refine t_l rfl (l_alloc #[I 0, I 0, I 0, I 0] Try.zeroValue120) rfl ?_
      rintro _ _ ⟨b4, rfl, rfl⟩
      refine t_l0 rfl (l_storeA (cs := #[I 0, I 0, I 0, I 0]) (vs := encH (nxH h rows (N - 122))) (encH (nxH h rows (N - 122))).toArray Try.sizeOf120 rfl rfl rfl rfl (by decide) (splice_all (encH_len _))) ?_
      rintro _ _ rfl
      refine t_nil ?_
      exact g_here b4 trivial [1, 2, 3, 4] rfl rfl
    · skip
      refine t_l rfl (l_alloc #[I 0, I 0, I 0, I 0] Try.zeroValue120) rfl ?_
      rintro _ _ ⟨b4, rfl, rfl⟩
      refine t_l rfl (l_call (Pre := [pt bl (.cells (lgC bd 122 (N - 122) h.first (used)) 154 (0, 0))]) Try.call57 rfl (ct_log_Next bl bd 122 (N - 122) h.first used ⟨by omega, by omega⟩)) rfl ?_
      rintro _ _ ⟨rfl, rfl⟩
      refine t_v rfl (v_build rfl (bld120_0_1_2_3 _ rfl _ rfl _ rfl _ rfl)) rfl ?_
      refine t_l0 rfl (l_storeA (cs := #[I 0, I 0, I 0, I 0]) (vs := encH (nxH h rows (N - 122))) (encH (nxH h rows (N - 122))).toArray Try.sizeOf120 rfl rfl rfl rfl (by decide) (splice_all (encH_len _))) ?_
      rintro _ _ rfl
      refine t_nil ?_
      exact g_here b4 trivial [1, 2, 3, 4] rfl rfl
  intro b4 _
  refine g_seq ?_
  refine g_reg ?_
  refine g_l (l_alloc1 (I 0) Try.zeroValue3 rfl) rfl ?_
  rintro _ _ ⟨b5, rfl, rfl⟩
  refine g_l0 (l_store #[I ((0 : Nat) : Int)] Try.sizeOf3 rfl rfl rfl (by decide) rfl) ?_
  rintro _ _ rfl
  refine g_nil ?_
  refine g_seq ?_
  refine g_seq ?_
  refine g_reg ?_
  refine g_v (v_move rfl) rfl ?_
  refine g_l (l_strBytes Try.underlying9 Try.underlying128 Try.underlying5 rfl) rfl ?_
  rintro _ _ ⟨b37, c37, rfl, hc37, rfl⟩
  refine g_l (l_call (Pre := []) Try.call58 rfl (ct_Chunk (some ⟨b37, 0, none⟩) (allB rows).length c37)) rfl ?_
  rintro _ _ ⟨b38, d38, rfl, rfl⟩
  refine g_nil ?_
  refine g_block ?_
  obtain ⟨eN, DN, hN⟩ : ∃ e X, runS D (ckW (1 - h.side) (allB rows) 0 ((chunks (allB rows)))) = (e, X) := ⟨_, _, rfl⟩
  refine g_dskMk (T := 117) (TT := 135) (b := bd) (φ := fun X => runS D (ckW (1 - h.side) (allB rows) 0 (0)) = (0, X)) D rfl ?_
  refine g_sub (L2 := pt b38 (.cells #[sl (some ⟨b37, 0, none⟩) (allB rows).length c37] 128 (0, 0)) :: pt d38 (.cells #[I 80] 3 (0, 0)) :: roL 1 (some ⟨b37, 0, none⟩) (bytesR (allB rows)) :: dskR 117 135 bd (fun X => runS D (ckW (1 - h.side) (allB rows) 0 (0)) = (0, X)) :: pt b5 (.cells #[I ((0 : Nat) : Int)] 3 (0, 0)) :: pt b2 (.cells #[.nilIface] 33 (0, 0)) :: pt b1 (.cells #[ptr bs 0] 70 (0, 0)) :: pt b4 (.cells (encH (nxH h rows (N - 122))).toArray 120 (0, 0)) :: pt bs (.cells (stC bd h bl s (rows.length) cap) 123 (0, 0)) :: pt bl (.cells (lgC bd 122 (N - 122) h.first (used)) 154 (0, 0)) :: roL 3 s (chR rows) :: F) ?_
  refine g_rangeFunc (Pre := [pt b38 (.cells #[sl (some ⟨b37, 0, none⟩) (allB rows).length c37] 128 (0, 0)), pt d38 (.cells #[I 80] 3 (0, 0)), roL 1 (some ⟨b37, 0, none⟩) (bytesR (allB rows))]) (A := fun k => dskR 117 135 bd (fun X => runS D (ckW (1 - h.side) (allB rows) 0 (k)) = (0, X)) :: pt b5 (.cells #[I ((k : Nat) : Int)] 3 (0, 0)) :: pt b2 (.cells #[.nilIface] 33 (0, 0)) :: pt b1 (.cells #[ptr bs 0] 70 (0, 0)) :: pt b4 (.cells (encH (nxH h rows (N - 122))).toArray 120 (0, 0)) :: pt bs (.cells (stC bd h bl s (rows.length) cap) 123 (0, 0)) :: pt bl (.cells (lgC bd 122 (N - 122) h.first (used)) 154 (0, 0)) :: roL 3 s (chR rows) :: F) (B := hpure (eN ≠ 0) :: dsk 117 135 bd (DN) :: pt b2 (.cells #[errV eN] 33 (0, 0)) :: pt b1 (.cells #[ptr bs 0] 70 (0, 0)) :: pt b4 (.cells (encH (nxH h rows (N - 122))).toArray 120 (0, 0)) :: pt bs (.cells (stC bd h bl s (rows.length) cap) 123 (0, 0)) :: pt bl (.cells (lgC bd 122 (N - 122) h.first (used)) 154 (0, 0)) :: roL 3 s (chR rows) :: F) (N := (chunks (allB rows))) (v := ckV b37 (allB rows)) (cap := [ptr b38 0, ptr d38 0]) rfl rfl rfl Try.call87 (fun l A' B' hr w hw => ct_Chunk1 b38 d38 b37 c37 l (allB rows) _ A' B' hc37 (by omega) hr w hw) rfl (fun l k a w hE => has1 hE rfl) ?_ ?_ ?_
  · intro l D' O k hk
    show H _ _ (RPost _ (pt b38 (.cells #[sl (some ⟨b37, 0, none⟩) (allB rows).length c37] 128 (0, 0)) :: pt d38 (.cells #[I 80] 3 (0, 0)) :: roL 1 (some ⟨b37, 0, none⟩) (bytesR (allB rows)) :: pt l O :: pt D' dO :: dskR 117 135 bd (fun X => runS D (ckW (1 - h.side) (allB rows) 0 ((k + 1))) = (0, X)) :: pt b5 (.cells #[I (((k + 1) : Nat) : Int)] 3 (0, 0)) :: pt b2 (.cells #[.nilIface] 33 (0, 0)) :: pt b1 (.cells #[ptr bs 0] 70 (0, 0)) :: pt b4 (.cells (encH (nxH h rows (N - 122))).toArray 120 (0, 0)) :: pt bs (.cells (stC bd h bl s (rows.length) cap) 123 (0, 0)) :: pt bl (.cells (lgC bd 122 (N - 122) h.first (used)) 154 (0, 0)) :: roL 3 s (chR rows) :: F) (pt b38 (.cells #[sl (some ⟨b37, 0, none⟩) (allB rows).length c37] 128 (0, 0)) :: pt d38 (.cells #[I 80] 3 (0, 0)) :: roL 1 (some ⟨b37, 0, none⟩) (bytesR (allB rows)) :: pt l O :: pt D' dO :: hpure (eN ≠ 0) :: dsk 117 135 bd (DN) :: pt b2 (.cells #[errV eN] 33 (0, 0)) :: pt b1 (.cells #[ptr bs 0] 70 (0, 0)) :: pt b4 (.cells (encH (nxH h rows (N - 122))).toArray 120 (0, 0)) :: pt bs (.cells (stC bd h bl s (rows.length) cap) 123 (0, 0)) :: pt bl (.cells (lgC bd 122 (N - 122) h.first (used)) 154 (0, 0)) :: roL 3 s (chR rows) :: F)) _ _ (pt b38 (.cells #[sl (some ⟨b37, 0, none⟩) (allB rows).length c37] 128 (0, 0)) :: pt d38 (.cells #[I 80] 3 (0, 0)) :: roL 1 (some ⟨b37, 0, none⟩) (bytesR (allB rows)) :: pt l O :: pt D' dO :: dskR 117 135 bd (fun X => runS D (ckW (1 - h.side) (allB rows) 0 (k)) = (0, X)) :: pt b5 (.cells #[I ((k : Nat) : Int)] 3 (0, 0)) :: pt b2 (.cells #[.nilIface] 33 (0, 0)) :: pt b1 (.cells #[ptr bs 0] 70 (0, 0)) :: pt b4 (.cells (encH (nxH h rows (N - 122))).toArray 120 (0, 0)) :: pt bs (.cells (stC bd h bl s (rows.length) cap) 123 (0, 0)) :: pt bl (.cells (lgC bd 122 (N - 122) h.first (used)) 154 (0, 0)) :: roL 3 s (chR rows) :: F)
    refine h_dskR (T := 117) (TT := 135) (b := bd) (φ := fun X => runS D (ckW (1 - h.side) (allB rows) 0 (k)) = (0, X)) ?_
    intro Dk hDk
    have hokk := okW_run (ckW (1 - h.side) (allB rows) 0 (k)) i D hok
    rw [hDk, ckW_len] at hokk
    simp only at hokk
    have hckl1 := chunk_len (allB rows) k
    refine h_part (m := 80 * k) (n := 80) (t := (allB rows)) (b := b37) ?_
    rw [show (List.drop (80 * k) (allB rows)).take 80 = chunk (allB rows) k from rfl]
    refine h_block ?_
    refine h_seq ?_
    refine h_draw (Lf := [pt b1 (.cells #[ptr bs 0] 70 (0, 0)), pt b4 (.cells (encH (nxH h rows (N - 122))).toArray 120 (0, 0)), pt b5 (.cells #[I ((k : Nat) : Int)] 3 (0, 0)), pt bs (.cells (stC bd h bl s (rows.length) cap) 123 (0, 0)), roL 1 (some ⟨b37, 80 * k, none⟩) (bytesR (chunk (allB rows) k))]) [(0, false), (1, false), (2, false), (3, false), (4, false), (5, false), (6, false), (7, false), (8, false), (9, false), (10, false), (11, false), (12, true), (13, false)] (α := Unit) (fun _ => True) (fun _ => U [(2, ptr b2 0), (5, ptr b5 0), (7, errV (writeE Dk ((2 + (1 - h.side) * 60 + k : Nat) : Int) (chunk (allB rows) k)))]) (fun _ => pt b38 (.cells #[sl (some ⟨b37, 0, none⟩) (allB rows).length c37] 128 (0, 0)) :: pt d38 (.cells #[I 80] 3 (0, 0)) :: roL 1 (some ⟨b37, 0, none⟩) (bytesR (allB rows)) :: pt l O :: pt D' dO :: dsk 117 135 bd ((writeD Dk ((2 + (1 - h.side) * 60 + k : Nat) : Int) (chunk (allB rows) k))) :: pt b5 (.cells #[I ((k : Nat) : Int)] 3 (0, 0)) :: pt b2 (.cells #[.nilIface] 33 (0, 0)) :: pt b1 (.cells #[ptr bs 0] 70 (0, 0)) :: pt b4 (.cells (encH (nxH h rows (N - 122))).toArray 120 (0, 0)) :: pt bs (.cells (stC bd h bl s (rows.length) cap) 123 (0, 0)) :: pt bl (.cells (lgC bd 122 (N - 122) h.first (used)) 154 (0, 0)) :: roL 3 s (chR rows) :: F) (by kernel_rfl) (by kernel_rfl) rfl (by kernel_rfl) (by kernel_rfl) ?_ ?_
    · skip
      refine d_v rfl (v_load (v := ptr bs 0) Try.isAgg70 rfl rfl) rfl ?_
      refine d_v rfl (v_nilCheck rfl) rfl ?_
      refine d_v rfl (v_fieldAddr 0 Try.underlying123 rfl rfl Try.sizeOf69 (by decide) rfl) rfl ?_
      refine d_v rfl (v_load (v := ptr bd 0) Try.isAgg69 rfl rfl) rfl ?_
      refine d_v rfl (v_fieldAddr 1 Try.underlying120 rfl rfl Try.sizeOf3 (by decide) rfl) rfl ?_
      refine d_v rfl (v_load (v := I (((1 - h.side) : Nat) : Int)) Try.isAgg3 rfl rfl) rfl ?_
      refine d_v rfl (v_mul (r := (((1 - h.side) * 60 : Nat) : Int)) rfl rfl (by rw [show ((((1 - h.side) : Nat) : Int) : Int) * (60 : Int) = (((1 - h.side) * 60 : Nat) : Int) by omega]; exact w64 (by omega))) rfl ?_
      refine d_v rfl (v_add (r := ((2 + (1 - h.side) * 60 : Nat) : Int)) rfl rfl (by rw [show (2 : Int) + ((((1 - h.side) * 60 : Nat) : Int) : Int) = ((2 + (1 - h.side) * 60 : Nat) : Int) by omega]; exact w64 (by omega))) rfl ?_
      refine d_v rfl (v_load (v := I (k : Int)) Try.isAgg3 rfl rfl) rfl ?_
      refine d_v rfl (v_add (r := ((2 + (1 - h.side) * 60 + k : Nat) : Int)) rfl rfl (by rw [show (((2 + (1 - h.side) * 60 : Nat) : Int) : Int) + (k : Int) = ((2 + (1 - h.side) * 60 + k : Nat) : Int) by omega]; exact w64 (by omega))) rfl ?_
      refine d_v rfl (v_move rfl) rfl ?_
      refine d_v rfl (v_bytesStr (l := chunk (allB rows) k) Try.underlying128 Try.underlying5 Try.underlying9 rfl rfl rfl) rfl ?_
      refine d_l rfl (l_call (Pre := [dsk 117 135 bd (Dk)]) Try.call59 rfl (ct_disk_Write bd Dk ((2 + (1 - h.side) * 60 + k : Nat) : Int) (chunk (allB rows) k) hokk.2.2.1 (by have := hokk.2.2.2.2; omega))) rfl ?_
      rintro _ _ ⟨rfl, rfl⟩
      refine d_v rfl (v_assign rfl) rfl ?_
      refine d_nil ?_
      exact g_here () trivial [2, 5, 7] rfl rfl
    intro _ _
    obtain ⟨e1, he1⟩ : ∃ e, writeE Dk ((2 + (1 - h.side) * 60 + k : Nat) : Int) (chunk (allB rows) k) = e := ⟨_, rfl⟩
    obtain ⟨D1, hD1⟩ : ∃ X, writeD Dk ((2 + (1 - h.side) * 60 + k : Nat) : Int) (chunk (allB rows) k) = X := ⟨_, rfl⟩
    rw [he1, hD1]
    have hsn : runS D (ckW (1 - h.side) (allB rows) 0 (k + 1)) = (e1, D1) := by
      rw [ckW_snoc, Nat.zero_add, run_snoc hDk, ← he1, ← hD1]
      rfl
    refine h_seq ?_
    refine h_seq ?_
    refine h_reg (α := Unit) (fun _ => True) (fun _ => U [(2, ptr b2 0), (5, ptr b5 0), (7, errV e1), (54, Bo (!decide (e1 = 0)))]) (fun _ => pt b38 (.cells #[sl (some ⟨b37, 0, none⟩) (allB rows).length c37] 128 (0, 0)) :: pt d38 (.cells #[I 80] 3 (0, 0)) :: roL 1 (some ⟨b37, 0, none⟩) (bytesR (allB rows)) :: pt l O :: pt D' dO :: dsk 117 135 bd (D1) :: pt b5 (.cells #[I ((k : Nat) : Int)] 3 (0, 0)) :: pt b2 (.cells #[.nilIface] 33 (0, 0)) :: pt b1 (.cells #[ptr bs 0] 70 (0, 0)) :: pt b4 (.cells (encH (nxH h rows (N - 122))).toArray 120 (0, 0)) :: pt bs (.cells (stC bd h bl s (rows.length) cap) 123 (0, 0)) :: pt bl (.cells (lgC bd 122 (N - 122) h.first (used)) 154 (0, 0)) :: roL 3 s (chR rows) :: F) (by kernel_rfl) ?_ ?_
    · skip
      refine g_v (v_move rfl) rfl ?_
      refine g_v (v_ineq Try.underlying33 rfl) rfl ?_
      refine g_nil ?_
      exact g_here () trivial [2, 5, 7, 54] rfl rfl
    intro _ _
    refine h_cond rfl (fun h54 => ?_) (fun h54 => ?_)
    · have h54' : e1 ≠ 0 := by simpa using h54
      have hNe : runS D (ckW (1 - h.side) (allB rows) 0 ((chunks (allB rows)))) = (e1, D1) := by
        rw [show chunks (allB rows) = (k + 1) + (chunks (allB rows) - (k + 1)) by omega, ckW_app]
        exact run_stop hsn h54'
      rw [hN] at hNe
      injection hNe with hq1 hq2
      obtain rfl : eN = e1 := hq1
      obtain rfl : DN = D1 := hq2
      refine h_seq ?_
      refine h_reg (α := Unit) (fun _ => True) (fun _ => U []) (fun _ => pt b38 (.cells #[sl (some ⟨b37, 0, none⟩) (allB rows).length c37] 128 (0, 0)) :: pt d38 (.cells #[I 80] 3 (0, 0)) :: roL 1 (some ⟨b37, 0, none⟩) (bytesR (allB rows)) :: pt l O :: pt D' dO :: dsk 117 135 bd (DN) :: pt b5 (.cells #[I ((k : Nat) : Int)] 3 (0, 0)) :: pt b2 (.cells #[errV eN] 33 (0, 0)) :: pt b1 (.cells #[ptr bs 0] 70 (0, 0)) :: pt b4 (.cells (encH (nxH h rows (N - 122))).toArray 120 (0, 0)) :: pt bs (.cells (stC bd h bl s (rows.length) cap) 123 (0, 0)) :: pt bl (.cells (lgC bd 122 (N - 122) h.first (used)) 154 (0, 0)) :: roL 3 s (chR rows) :: F) (by kernel_rfl) ?_ ?_
      · skip
        refine g_v (v_move rfl) rfl ?_
        refine g_l0 (l_store #[errV eN] Try.sizeOf33 rfl rfl (one_err _) (by simp) rfl) ?_
        rintro _ _ rfl
        refine g_nil ?_
        exact g_here () trivial [] rfl rfl
      intro _ _
      refine h_pure_mk (φ := eN ≠ 0) h54' ?_
      exact h_ret
    · have h54' : e1 = 0 := by simpa using h54
      refine h_skip ?_
      refine h_reg (α := Unit) (fun _ => True) (fun _ => U []) (fun _ => pt b38 (.cells #[sl (some ⟨b37, 0, none⟩) (allB rows).length c37] 128 (0, 0)) :: pt d38 (.cells #[I 80] 3 (0, 0)) :: roL 1 (some ⟨b37, 0, none⟩) (bytesR (allB rows)) :: pt l O :: pt D' dO :: dsk 117 135 bd (D1) :: pt b5 (.cells #[I (((k + 1) : Nat) : Int)] 3 (0, 0)) :: pt b2 (.cells #[.nilIface] 33 (0, 0)) :: pt b1 (.cells #[ptr bs 0] 70 (0, 0)) :: pt b4 (.cells (encH (nxH h rows (N - 122))).toArray 120 (0, 0)) :: pt bs (.cells (stC bd h bl s (rows.length) cap) 123 (0, 0)) :: pt bl (.cells (lgC bd 122 (N - 122) h.first (used)) 154 (0, 0)) :: roL 3 s (chR rows) :: F) (by kernel_rfl) ?_ ?_
      · skip
        refine g_v (v_load (v := I (k : Int)) Try.isAgg3 rfl rfl) rfl ?_
        refine g_v (v_add (r := ((k + 1 : Nat) : Int)) rfl rfl (by rw [show (k : Int) + (1 : Int) = ((k + 1 : Nat) : Int) by omega]; exact w64 (by omega))) rfl ?_
        refine g_l0 (l_store #[I ((k + 1 : Nat) : Int)] Try.sizeOf3 rfl rfl rfl (by simp) rfl) ?_
        rintro _ _ rfl
        refine g_nil ?_
        exact g_here () trivial [] rfl rfl
      intro _ _
      refine h_blk ?_
      refine h_dskMk (T := 117) (TT := 135) (b := bd) (φ := fun X => runS D (ckW (1 - h.side) (allB rows) 0 ((k + 1))) = (0, X)) D1 (by rw [hsn, h54']) ?_
      exact h_end
  rotate_left
  · intro D'
    show G _ _ _ (pt D' dO :: pt b38 (.cells #[sl (some ⟨b37, 0, none⟩) (allB rows).length c37] 128 (0, 0)) :: pt d38 (.cells #[I 80] 3 (0, 0)) :: roL 1 (some ⟨b37, 0, none⟩) (bytesR (allB rows)) :: hpure (eN ≠ 0) :: dsk 117 135 bd (DN) :: pt b2 (.cells #[errV eN] 33 (0, 0)) :: pt b1 (.cells #[ptr bs 0] 70 (0, 0)) :: pt b4 (.cells (encH (nxH h rows (N - 122))).toArray 120 (0, 0)) :: pt bs (.cells (stC bd h bl s (rows.length) cap) 123 (0, 0)) :: pt bl (.cells (lgC bd 122 (N - 122) h.first (used)) 154 (0, 0)) :: roL 3 s (chR rows) :: F)
    refine g_pureR (φ := eN ≠ 0) ?_
    intro hne
    exact g_retM (b := b2) (o := 0) (v := errV eN) (Lf := pt bs (.cells (stC bd h bl s (rows.length) cap) 123 (0, 0)) :: pt bl (.cells (lgC bd 122 (N - 122) h.first (used)) 154 (0, 0)) :: dsk 117 135 bd (DN) :: roL 3 s (chR rows) :: F) rfl rfl rfl Try.isAgg33 rfl ⟨eN, DN, run_stop hN hne, .inl ⟨hne, rfl, rfl⟩⟩
  intro D'
  show G _ _ _ (pt D' dO :: pt b38 (.cells #[sl (some ⟨b37, 0, none⟩) (allB rows).length c37] 128 (0, 0)) :: pt d38 (.cells #[I 80] 3 (0, 0)) :: roL 1 (some ⟨b37, 0, none⟩) (bytesR (allB rows)) :: dskR 117 135 bd (fun X => runS D (ckW (1 - h.side) (allB rows) 0 ((chunks (allB rows)))) = (0, X)) :: pt b5 (.cells #[I (((chunks (allB rows)) : Nat) : Int)] 3 (0, 0)) :: pt b2 (.cells #[.nilIface] 33 (0, 0)) :: pt b1 (.cells #[ptr bs 0] 70 (0, 0)) :: pt b4 (.cells (encH (nxH h rows (N - 122))).toArray 120 (0, 0)) :: pt bs (.cells (stC bd h bl s (rows.length) cap) 123 (0, 0)) :: pt bl (.cells (lgC bd 122 (N - 122) h.first (used)) 154 (0, 0)) :: roL 3 s (chR rows) :: F)
  refine g_dskR (T := 117) (TT := 135) (b := bd) (φ := fun X => runS D (ckW (1 - h.side) (allB rows) 0 ((chunks (allB rows)))) = (0, X)) ?_
  intro D1 hD1
  rw [hN] at hD1
  injection hD1 with hq1 hq2
  subst hq1
  obtain rfl : DN = D1 := hq2
  have hokN := okW_run (ckW (1 - h.side) (allB rows) 0 ((chunks (allB rows)))) i D hok
  rw [hN, ckW_len] at hokN
  simp only at hokN
  refine g_blk ?_
  refine g_seq ?_
  refine g_reg ?_
  refine g_v (v_load (v := ptr bs 0) Try.isAgg70 rfl rfl) rfl ?_
  refine g_v (v_nilCheck rfl) rfl ?_
  refine g_v (v_fieldAddr 0 Try.underlying123 rfl rfl Try.sizeOf69 (by decide) rfl) rfl ?_
  refine g_v (v_load (v := ptr bd 0) Try.isAgg69 rfl rfl) rfl ?_
  refine g_l (l_call (Pre := [dsk 117 135 bd (DN)]) Try.call60 rfl (ct_disk_Flush bd DN hokN.2.2.1 (by rw [hokN.1, hokN.2.1]) (by rw [hokN.2.1]; omega))) rfl ?_
  rintro _ _ ⟨rfl, rfl⟩
  refine g_v (v_assign rfl) rfl ?_
  refine g_nil ?_
  refine g_seq ?_
  refine g_seq ?_
  refine g_reg ?_
  refine g_v (v_move rfl) rfl ?_
  refine g_v (v_ieql Try.underlying33 rfl) rfl ?_
  refine g_nil ?_
  refine g_cut (α := Int × DiskM) (fun z => runS DN [none, some ((h.ep + 1) % 2, headB (nxH h rows (N - 122)))] = z) (fun z => U [(1, ptr b1 0), (2, ptr b2 0), (4, ptr b4 0), (8, errV z.1)]) (fun z => pt D' dO :: dsk 117 135 bd (z.2) :: pt b2 (.cells #[.nilIface] 33 (0, 0)) :: pt b1 (.cells #[ptr bs 0] 70 (0, 0)) :: pt b4 (.cells (encH (nxH h rows (N - 122))).toArray 120 (0, 0)) :: pt bs (.cells (stC bd h bl s (rows.length) cap) 123 (0, 0)) :: pt bl (.cells (lgC bd 122 (N - 122) h.first (used)) 154 (0, 0)) :: roL 3 s (chR rows) :: F) ?_ ?_
  · skip
    refine g_cond rfl (fun h64 => ?_) (fun h64 => ?_)
    · have hs0 : stepE DN = 0 := by simpa using h64
      have hokF : okW N (i + chunks (allB rows) + 1) (flushD DN) := okW_flush hokN
      refine g_draw (Lf := [pt b1 (.cells #[ptr bs 0] 70 (0, 0)), pt b4 (.cells (encH (nxH h rows (N - 122))).toArray 120 (0, 0)), pt bs (.cells (stC bd h bl s (rows.length) cap) 123 (0, 0))]) [(0, false), (1, false), (2, false), (3, false), (4, false), (5, false), (6, false), (7, false), (8, true), (9, true), (10, false)] (by kernel_rfl) (by kernel_rfl) rfl (by kernel_rfl) ?_
      refine d_v rfl (v_load (v := ptr bs 0) Try.isAgg70 rfl rfl) rfl ?_
      refine d_v rfl (v_nilCheck rfl) rfl ?_
      refine d_v rfl (v_fieldAddr 0 Try.underlying123 rfl rfl Try.sizeOf69 (by decide) rfl) rfl ?_
      refine d_v rfl (v_load (v := ptr bd 0) Try.isAgg69 rfl rfl) rfl ?_
      refine d_v rfl (v_fieldAddr 0 Try.underlying120 rfl rfl Try.sizeOf3 (by decide) rfl) rfl ?_
      refine d_v rfl (v_load (v := I ((h.ep + 1 : Nat) : Int)) Try.isAgg3 rfl rfl) rfl ?_
      refine d_v rfl (v_rem (r := (((h.ep + 1) % 2 : Nat) : Int)) rfl rfl (by decide) rfl) rfl ?_
      refine d_v rfl (v_loadA (vs := encH (nxH h rows (N - 122))) Try.isAgg120 Try.sizeOf120 rfl rfl arr_ld) rfl ?_
      refine d_l rfl (l_call (Pre := []) Try.call61 rfl (ct_store_text (nxH h rows (N - 122)))) rfl ?_
      rintro _ _ ⟨rfl, rfl⟩
      refine d_l rfl (l_call (Pre := [dsk 117 135 bd (flushD DN)]) Try.call59 rfl (ct_disk_Write bd (flushD DN) (((h.ep + 1) % 2 : Nat) : Int) (headB (nxH h rows (N - 122))) hokF.2.2.1 (by have := hokF.2.2.2.2; omega))) rfl ?_
      rintro _ _ ⟨rfl, rfl⟩
      refine d_v rfl (v_assign rfl) rfl ?_
      refine d_nil ?_
      exact g_here (writeE (flushD DN) (((h.ep + 1) % 2 : Nat) : Int) (headB (nxH h rows (N - 122))), writeD (flushD DN) (((h.ep + 1) % 2 : Nat) : Int) (headB (nxH h rows (N - 122)))) (by rw [run_okF hs0]; exact run_snoc (l := []) rfl) [1, 2, 4, 8] rfl rfl
    · have hs0 : ¬ stepE DN = 0 := by simpa using h64
      refine g_skip ?_
      exact g_here (stepE DN, flushD DN) (run_badF hs0) [1, 2, 4, 8] rfl rfl
  rintro ⟨e2, D2⟩ h2
  simp only at h2 ⊢
  have hok2 := okW_run [none, some ((h.ep + 1) % 2, headB (nxH h rows (N - 122)))] _ DN hokN
  rw [h2] at hok2
  simp only [List.length_cons, List.length_nil] at hok2
  refine g_seq ?_
  refine g_seq ?_
  refine g_reg ?_
  refine g_v (v_move rfl) rfl ?_
  refine g_v (v_ieql Try.underlying33 rfl) rfl ?_
  refine g_nil ?_
  refine g_cut (α := Int × DiskM) (fun z => runS DN [none, some ((h.ep + 1) % 2, headB (nxH h rows (N - 122))), none] = z ∧ (z.1 = 0 → z.2.down = false)) (fun z => U [(1, ptr b1 0), (2, ptr b2 0), (4, ptr b4 0), (8, errV z.1)]) (fun z => pt D' dO :: dsk 117 135 bd (z.2) :: pt b2 (.cells #[.nilIface] 33 (0, 0)) :: pt b1 (.cells #[ptr bs 0] 70 (0, 0)) :: pt b4 (.cells (encH (nxH h rows (N - 122))).toArray 120 (0, 0)) :: pt bs (.cells (stC bd h bl s (rows.length) cap) 123 (0, 0)) :: pt bl (.cells (lgC bd 122 (N - 122) h.first (used)) 154 (0, 0)) :: roL 3 s (chR rows) :: F) ?_ ?_
  · skip
    refine g_cond rfl (fun h76 => ?_) (fun h76 => ?_)
    · have h76' : e2 = 0 := by simpa using h76
      refine g_reg ?_
      refine g_v (v_load (v := ptr bs 0) Try.isAgg70 rfl rfl) rfl ?_
      refine g_v (v_nilCheck rfl) rfl ?_
      refine g_v (v_fieldAddr 0 Try.underlying123 rfl rfl Try.sizeOf69 (by decide) rfl) rfl ?_
      refine g_v (v_load (v := ptr bd 0) Try.isAgg69 rfl rfl) rfl ?_
      refine g_l (l_call (Pre := [dsk 117 135 bd (D2)]) Try.call60 rfl (ct_disk_Flush bd D2 hok2.2.2.1 (by rw [hok2.1, hok2.2.1]) (by rw [hok2.2.1]; omega))) rfl ?_
      rintro _ _ ⟨rfl, rfl⟩
      refine g_v (v_assign rfl) rfl ?_
      refine g_nil ?_
      exact g_here (stepE D2, flushD D2) ⟨run_snoc (l := [none, some ((h.ep + 1) % 2, headB (nxH h rows (N - 122)))]) (x := none) (by rw [h2, h76']), fun h => (flush_calm h).1.2.2⟩ [1, 2, 4, 8] rfl rfl
    · have h76' : ¬ e2 = 0 := by simpa using h76
      refine g_skip ?_
      exact g_here (e2, D2) ⟨run_stop (l := [none, some ((h.ep + 1) % 2, headB (nxH h rows (N - 122)))]) (r := [none]) h2 h76', fun h => absurd h h76'⟩ [1, 2, 4, 8] rfl rfl
  rintro ⟨e3, D3⟩ ⟨h3, hdn3⟩
  simp only at h3 hdn3 ⊢
  have hall : runS D (ckL (nxH h rows (N - 122)) (allB rows)) = (e3, D3) := (run_on hN).trans h3
  have hok3 := okW_run (ckL (nxH h rows (N - 122)) (allB rows)) i D hok
  rw [hall] at hok3
  simp only at hok3
  have hS3 := S80_run (ckL (nxH h rows (N - 122)) (allB rows)) D hS hckl
  rw [hall] at hS3
  simp only at hS3
  refine g_seq ?_
  refine g_seq ?_
  refine g_reg ?_
  refine g_v (v_move rfl) rfl ?_
  refine g_v (v_ineq Try.underlying33 rfl) rfl ?_
  refine g_nil ?_
  refine g_cond rfl (fun h83 => ?_) (fun h83 => ?_)
  · have h83' : e3 ≠ 0 := by simpa using h83
    refine g_seq ?_
    refine g_reg ?_
    refine g_v (v_move rfl) rfl ?_
    refine g_l0 (l_store #[errV e3] Try.sizeOf33 rfl rfl (one_err _) (by decide) rfl) ?_
    rintro _ _ rfl
    refine g_nil ?_
    exact g_retM (b := b2) (o := 0) (v := errV e3) (Lf := pt bs (.cells (stC bd h bl s (rows.length) cap) 123 (0, 0)) :: pt bl (.cells (lgC bd 122 (N - 122) h.first (used)) 154 (0, 0)) :: dsk 117 135 bd (D3) :: roL 3 s (chR rows) :: F) rfl rfl rfl Try.isAgg33 rfl ⟨e3, D3, hall, .inl ⟨h83', rfl, rfl⟩⟩
  · have h83' : e3 = 0 := by simpa using h83
    subst h83'
    replace hdn3 := hdn3 rfl
    refine g_skip ?_
    refine g_seq ?_
    refine g_draw (Lf := [pt b1 (.cells #[ptr bs 0] 70 (0, 0)), pt b4 (.cells (encH (nxH h rows (N - 122))).toArray 120 (0, 0)), pt bs (.cells (stC bd h bl s (rows.length) cap) 123 (0, 0))]) [(0, false), (1, false), (2, false), (3, false), (4, false), (5, false), (6, false), (7, false), (10, false), (11, false), (8, true), (9, false), (12, true), (13, false), (14, false), (15, false), (16, false), (17, false), (18, false), (19, false)] (by kernel_rfl) (by kernel_rfl) rfl (by kernel_rfl) ?_
    refine d_v rfl (v_load (v := ptr bs 0) Try.isAgg70 rfl rfl) rfl ?_
    refine d_v rfl (v_nilCheck rfl) rfl ?_
    refine d_v rfl (v_fieldAddr 0 Try.underlying123 rfl rfl Try.sizeOf69 (by decide) rfl) rfl ?_
    refine d_v rfl (v_load (v := ptr bd 0) Try.isAgg69 rfl rfl) rfl ?_
    refine d_v rfl (v_load (v := ptr bs 0) Try.isAgg70 rfl rfl) rfl ?_
    refine d_v rfl (v_nilCheck rfl) rfl ?_
    refine d_v rfl (v_fieldAddr 0 Try.underlying123 rfl rfl Try.sizeOf69 (by decide) rfl) rfl ?_
    refine d_v rfl (v_load (v := ptr bd 0) Try.isAgg69 rfl rfl) rfl ?_
    refine d_v rfl (v_fieldAddr 3 Try.underlying120 rfl rfl Try.sizeOf3 (by decide) rfl) rfl ?_
    refine d_v rfl (v_load (v := I ((h.first + (N - 122) : Nat) : Int)) Try.isAgg3 rfl rfl) rfl ?_
    refine d_l rfl (l_call (Pre := [dsk 117 135 bd (D3)]) (R := fun F => R1 (I (D3.now.length : Int)) (dsk 117 135 bd (D3) :: F)) Try.call63 rfl (ct_disk_Sectors bd D3)) rfl ?_
    rintro _ _ ⟨rfl, rfl⟩
    refine d_v rfl (v_sub (r := ((N - 122 : Nat) : Int)) rfl rfl (by rw [hok3.2.1, show (N : Int) - 122 = ((N - 122 : Nat) : Int) by omega]; exact w64 (by omega))) rfl ?_
    refine d_l rfl (l_call (Pre := [dsk 117 135 bd (D3)]) Try.call62 rfl (ct_log_Open bd D3 122 ((N - 122 : Nat) : Int) ((h.first + (N - 122) : Nat) : Int) hS3.2.1 ⟨by rw [hok3.2.1]; omega, by omega⟩)) rfl ?_
    rintro _ _ (⟨hbad, _, _⟩ | ⟨_, hdn, _, _⟩ | ⟨_, _, bl', gl, so, co, used', rfl, hul, _, hsc, rfl⟩)
    · exfalso; unfold badO at hbad; rw [hok3.2.1] at hbad; omega
    · rw [hdn3] at hdn; cases hdn
    rw [show lgC bd ((122 : Int)).toNat ((N - 122 : Nat) : Int).toNat ((h.first + (N - 122) : Nat) : Int).toNat used' = lgC bd 122 (N - 122) (h.first + (N - 122)) used' from rfl]
    replace hul : used' ≤ N - 122 := hul
    replace hsc : scanF (h.first + (N - 122)) (secD D3 122) (N - 122) 0 [] [] 0 = (gl.map (·.1), used') := hsc
    refine d_v rfl (v_move rfl) rfl ?_
    refine d_v rfl (v_extract (v := ptr bl' 0) rfl rfl) rfl ?_
    refine d_v rfl (v_extract (v := sl so gl.length co) rfl rfl) rfl ?_
    refine d_v rfl (v_extract (v := errV 0) rfl rfl) rfl ?_
    refine d_v rfl (v_assign rfl) rfl ?_
    refine d_v rfl (v_assign rfl) rfl ?_
    refine d_v rfl (v_assign rfl) rfl ?_
    refine d_nil ?_
    refine g_seq ?_
    refine g_seq ?_
    refine g_reg ?_
    refine g_v (v_move rfl) rfl ?_
    refine g_v (v_ieql Try.underlying33 rfl) rfl ?_
    refine g_nil ?_
    refine g_true rfl ?_
    refine g_draw (Lf := [pt b1 (.cells #[ptr bs 0] 70 (0, 0)), pt b4 (.cells (encH (nxH h rows (N - 122))).toArray 120 (0, 0))]) [(0, false), (1, false), (2, false), (3, false), (4, false), (5, false), (6, true), (7, false), (8, false), (9, true)] (by kernel_rfl) (by kernel_rfl) rfl (by kernel_rfl) ?_
    refine d_v rfl (v_load (v := ptr bs 0) Try.isAgg70 rfl rfl) rfl ?_
    refine d_v rfl (v_load (v := ptr bs 0) Try.isAgg70 rfl rfl) rfl ?_
    refine d_v rfl (v_loadA (vs := encH (nxH h rows (N - 122))) Try.isAgg120 Try.sizeOf120 rfl rfl arr_ld) rfl ?_
    refine d_v rfl (v_move rfl) rfl ?_
    refine d_v rfl (v_nilCheck rfl) rfl ?_
    refine d_v rfl (v_fieldAddr 1 Try.underlying123 rfl rfl Try.sizeOf120 (by decide) rfl) rfl ?_
    refine d_l0 rfl (l_storeA (cs := stC bd h bl s rows.length cap) (vs := encH (nxH h rows (N - 122))) (stC bd (nxH h rows (N - 122)) bl s rows.length cap) Try.sizeOf120 rfl rfl rfl rfl (by simp) rfl) ?_
    rintro _ _ rfl
    refine d_v rfl (v_nilCheck rfl) rfl ?_
    refine d_v rfl (v_fieldAddr 5 Try.underlying123 rfl rfl Try.sizeOf121 (by decide) rfl) rfl ?_
    refine d_l0 rfl (l_store (stC bd (nxH h rows (N - 122)) bl' s rows.length cap) Try.sizeOf121 rfl rfl rfl (by simp) rfl) ?_
    rintro _ _ rfl
    refine d_nil ?_
    refine g_seq ?_
    refine g_reg ?_
    refine g_v (v_move rfl) rfl ?_
    refine g_l0 (l_store #[errV 0] Try.sizeOf33 rfl rfl rfl (by decide) rfl) ?_
    rintro _ _ rfl
    refine g_nil ?_
    exact g_retM (b := b2) (o := 0) (v := errV 0) (Lf := pt bs (.cells (stC bd (nxH h rows (N - 122)) bl' s (rows.length) cap) 123 (0, 0)) :: pt bl' (.cells (lgC bd 122 (N - 122) (h.first + (N - 122)) (used')) 154 (0, 0)) :: dsk 117 135 bd (D3) :: roL 3 s (chR rows) :: F) rfl rfl rfl Try.isAgg33 rfl ⟨0, D3, hall, .inr ⟨rfl, bl', gl.map (·.1), used', hul, hsc, rfl, rfl⟩⟩

end Go.Proofs.Ythdjckbjjfiopac
