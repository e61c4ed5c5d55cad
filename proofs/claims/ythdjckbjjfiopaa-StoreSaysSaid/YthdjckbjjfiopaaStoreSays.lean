/- The walk through the law StoreSays. No condition. -/
import Derived.Test.YthdjckbjjfiopaaStT
import Derived.Test.YthdjckbjjfiopaaLight2
import Derived.Test.YthdjckbjjfiopaaActs
import Derived.Test.YthdjckbjjfiopaaRowS
namespace Go.Proofs.Ythdjckbjjfiopaa
open Go Go.Sl Go.Proofs
set_option linter.unusedVariables false
set_option linter.unusedSimpArgs false
structure SSt where
  i : Nat
  D : DiskM
  h : HdM
  r0 : List ChangeM
  ds : Deeds
  used : Nat
  rows : List ChangeM
  bs : Nat
  bl : Nat
  ss : LocA
  sm : LocA
theorem cmV_nn (many : Nat) (rows c : List ChangeM) : 0 ≤ cmV many rows c := by
  unfold cmV
  split
  · decide
  · split
    · exact flt_nn c
    · split <;> decide
theorem open_new {p q : Prop} {v : Value} {L' L0 : List HProp} {N : Nat} {e : Nat} {X : Prop} (h : (p ∧ N < 196 ∧ v = .tuple #[.pointer none, errV 4] ∧ L' = L0) ∨ (p ∧ 196 ≤ N ∧ e = 0 ∧ v = .tuple #[.pointer none, errV 4] ∧ L' = L0) ∨ (p ∧ 196 ≤ N ∧ e ≠ 0 ∧ X)) (he : e = 0 := by exact new_ep (by omega)) : v = .tuple #[.pointer none, errV 4] ∧ L' = L0 := by
  rcases h with ⟨_, _, h1, h2⟩ | ⟨_, _, _, h1, h2⟩ | ⟨_, _, hne, _⟩
  · exact ⟨h1, h2⟩
  · exact ⟨h1, h2⟩
  · exact absurd he hne

theorem ct_L_StoreSays (sectors : Int) (l : List ActM) (f : Nat → ActZ) (s : Option Addr) (cap : Nat) (hsec : ok64 sectors) (hl : l.length ≤ 9223372036854775807) (hla : ∀ x ∈ l, x.puts.length ≤ 9223372036854775807 ∧ x.changes.length ≤ 9223372036854775807) (F : List HProp) : Ct Try.prog 10 [I sectors, sl s l.length cap] ([acts s l f] ++ F) (R1 (Bo true) (acts s l f :: F)) := by
  show Ct Try.prog 10 [I sectors, sl s l.length cap] (acts s l f :: F) _
  refine Ct.of Try.func10 rfl 147 Try.ntmps10 (by simp) fun w0 => ?_
  refine g_seq ?_
  refine g_reg ?_
  refine g_v (v_assign rfl) rfl ?_
  refine g_nil ?_
  refine g_seq ?_
  refine g_reg ?_
  refine g_l (l_call (Pre := []) Try.call101 rfl (ct_L_stores)) rfl ?_
  rintro _ _ ⟨rfl, rfl⟩
  refine g_v (v_assign rfl) rfl ?_
  refine g_nil ?_
  refine g_seq ?_
  refine g_seq ?_
  refine g_reg ?_
  refine g_v (v_move rfl) rfl ?_
  refine g_v (v_not rfl) rfl ?_
  refine g_v (v_move rfl) rfl ?_
  refine g_gv1 rfl rfl rfl (v_move rfl) rfl ?_
  refine g_gl rfl rfl rfl (l_call (Pre := [acts s l f]) (R := fun F => R1 (Bo (lightA l 30)) (acts s l f :: F)) Try.call28 rfl (ct_L_LightActs l f s cap 30 hl hla)) rfl ?_
  rintro _ _ ⟨rfl, rfl⟩
  refine g_gv1 rfl rfl rfl (v_not rfl) rfl ?_
  refine g_v (v_or rfl rfl) rfl ?_
  refine g_nil ?_
  refine g_cond rfl (fun h23 => ?_) (fun h23 => ?_)
  · skip
    refine g_seq ?_
    refine g_reg ?_
    refine g_v (v_move rfl) rfl ?_
    refine g_v (v_assign rfl) rfl ?_
    refine g_nil ?_
    refine g_ret1 rfl rfl ?_
    exact rfl
  · simp at h23
    have hll : l.length ≤ 30 := by unfold lightA at h23; simp at h23; omega
    refine g_skip ?_
    refine g_seq ?_
    refine g_reg ?_
    refine g_v (v_move rfl) rfl ?_
    refine g_l (l_call (Pre := []) Try.call29 rfl (ct_disk_New sectors)) rfl ?_
    rintro _ _ (⟨hno, rfl, rfl⟩ | ⟨hyes, b27, rfl, rfl⟩)
    · skip
      refine g_v (v_move rfl) rfl ?_
      refine g_v (v_extract (v := .pointer none) rfl rfl) rfl ?_
      refine g_v (v_extract (v := errV 1) rfl rfl) rfl ?_
      refine g_v (v_assign rfl) rfl ?_
      refine g_v (v_assign rfl) rfl ?_
      refine g_nil ?_
      refine g_seq ?_
      refine g_seq ?_
      refine g_reg ?_
      refine g_v (v_move rfl) rfl ?_
      refine g_v (v_lss rfl rfl) rfl ?_
      refine g_v (v_move rfl) rfl ?_
      refine g_gv rfl rfl (fun hg => v_move rfl) rfl rfl ?_
      refine g_gv rfl rfl (fun hg => v_gtr rfl rfl) rfl rfl ?_
      refine g_v (v_or rfl rfl) rfl ?_
      refine g_nil ?_
      refine g_cond rfl (fun h35 => ?_) (fun h35 => ?_)
      · skip
        refine g_seq ?_
        refine g_reg ?_
        refine g_v (v_move rfl) rfl ?_
        refine g_l (l_call (Pre := []) Try.call14 rfl (ct_L_same (1) (1) (by decide))) rfl ?_
        rintro _ _ ⟨rfl, rfl⟩
        rw [show decide ((1 : Int) = 1) = true from rfl]
        refine g_v (v_assign rfl) rfl ?_
        refine g_nil ?_
        refine g_ret1 rfl rfl ?_
        exact rfl
      · exfalso
        simp at h35
        omega
    · obtain ⟨N, rfl⟩ := Int.eq_ofNat_of_zero_le (show 0 ≤ sectors by omega)
      rw [show ((N : Nat) : Int).toNat = N from rfl]
      refine g_v (v_move rfl) rfl ?_
      refine g_v (v_extract (v := ptr b27 0) rfl rfl) rfl ?_
      refine g_v (v_extract (v := errV 0) rfl rfl) rfl ?_
      refine g_v (v_assign rfl) rfl ?_
      refine g_v (v_assign rfl) rfl ?_
      refine g_nil ?_
      refine g_seq ?_
      refine g_seq ?_
      refine g_reg ?_
      refine g_v (v_move rfl) rfl ?_
      refine g_v (v_lss rfl rfl) rfl ?_
      refine g_v (v_move rfl) rfl ?_
      refine g_gv rfl rfl (fun hg => v_move rfl) rfl rfl ?_
      refine g_gv rfl rfl (fun hg => v_gtr rfl rfl) rfl rfl ?_
      refine g_v (v_or rfl rfl) rfl ?_
      refine g_nil ?_
      refine g_cond rfl (fun h35 => ?_) (fun h35 => ?_)
      · exfalso
        simp at h35
        omega
      · skip
        refine g_skip ?_
        refine g_seq ?_
        refine g_seq ?_
        refine g_reg ?_
        refine g_v (v_move rfl) rfl ?_
        refine g_v (v_ineq Try.underlying26 rfl) rfl ?_
        refine g_v (v_move rfl) rfl ?_
        refine g_gv1 rfl rfl rfl (v_move rfl) rfl ?_
        refine g_gv1 rfl rfl rfl (v_pnil Try.underlying41 rfl) rfl ?_
        refine g_v (v_or rfl rfl) rfl ?_
        refine g_nil ?_
        refine g_cond rfl (fun h43 => ?_) (fun h43 => ?_)
        · simp at h43
        · skip
          refine g_skip ?_
          refine g_seq ?_
          refine g_reg ?_
          refine g_v (v_move rfl) rfl ?_
          refine g_l (l_call (Pre := [dsk 184 187 b27 (newD N)]) Try.call102 rfl (ct_store_Open b27 N (newD N) (new_len N) (by omega) (new_S80 N).2.1 HdM.no [] [] 0 (fun _ h1 h2 => absurd (new_ep (by omega)) h2))) rfl ?_
          rintro _ _ (⟨hdn, _, _⟩ | hr)
          · cases hdn
          obtain ⟨rfl, rfl⟩ : _ ∧ _ := by
            by_cases h196 : N < 196
            · rcases hr with ⟨_, _, q1, q2⟩ | ⟨_, q, _⟩ | ⟨_, q, _⟩
              · exact ⟨q1, q2⟩
              · omega
              · omega
            · exact open_new (p := _) (q := True) hr (new_ep (by omega))
          refine g_v (v_move rfl) rfl ?_
          refine g_v (v_extract (v := .pointer none) rfl rfl) rfl ?_
          refine g_v (v_extract (v := errV 4) rfl rfl) rfl ?_
          refine g_v (v_assign rfl) rfl ?_
          refine g_v (v_assign rfl) rfl ?_
          refine g_nil ?_
          refine g_seq ?_
          refine g_seq ?_
          refine g_reg ?_
          refine g_v (v_move rfl) rfl ?_
          refine g_l (l_call (Pre := []) Try.call14 rfl (ct_L_same (4) (4) (by decide))) rfl ?_
          rintro _ _ ⟨rfl, rfl⟩
          rw [show decide ((4 : Int) = 4) = true from rfl]
          refine g_v (v_not rfl) rfl ?_
          refine g_v (v_move rfl) rfl ?_
          refine g_gv1 rfl rfl rfl (v_move rfl) rfl ?_
          refine g_gv1 rfl rfl rfl (v_pnnil Try.underlying147 rfl) rfl ?_
          refine g_v (v_or rfl rfl) rfl ?_
          refine g_nil ?_
          refine g_cond rfl (fun h55 => ?_) (fun h55 => ?_)
          · simp at h55
          · skip
            refine g_skip ?_
            refine g_seq ?_
            refine g_reg ?_
            refine g_v (v_move rfl) rfl ?_
            refine g_l (l_call (Pre := [dsk 184 187 b27 (newD N)]) Try.call103 rfl (ct_store_Format b27 N 0 (newD N) (okW_new N) (by decide) (by omega))) rfl ?_
            rintro _ _ (⟨h1, rfl, rfl⟩ | ⟨h1, e, D1, hr, rfl, rfl⟩)
            · skip
              refine g_v (v_assign rfl) rfl ?_
              refine g_nil ?_
              refine g_seq ?_
              refine g_seq ?_
              refine g_reg ?_
              refine g_v (v_move rfl) rfl ?_
              refine g_v (v_lss rfl rfl) rfl ?_
              refine g_nil ?_
              refine g_cond rfl (fun h59 => ?_) (fun h59 => ?_)
              · skip
                refine g_seq ?_
                refine g_reg ?_
                refine g_v (v_move rfl) rfl ?_
                refine g_l (l_call (Pre := []) Try.call14 rfl (ct_L_same (8) (8) (by decide))) rfl ?_
                rintro _ _ ⟨rfl, rfl⟩
                rw [show decide ((8 : Int) = 8) = true from rfl]
                refine g_v (v_assign rfl) rfl ?_
                refine g_nil ?_
                refine g_ret1 rfl rfl ?_
                exact rfl
              · exfalso
                simp at h59
                omega
            · rw [fD_run h1] at hr
              injection hr with q1 q2
              subst q1 q2
              refine g_v (v_assign rfl) rfl ?_
              refine g_nil ?_
              refine g_seq ?_
              refine g_seq ?_
              refine g_reg ?_
              refine g_v (v_move rfl) rfl ?_
              refine g_v (v_lss rfl rfl) rfl ?_
              refine g_nil ?_
              refine g_cond rfl (fun h59 => ?_) (fun h59 => ?_)
              · exfalso
                simp at h59
                omega
              · have hN : 196 ≤ N ∧ N ≤ 260 := ⟨h1, by omega⟩
                have hul0 := fD_inv hN
                refine g_skip ?_
                refine g_seq ?_
                refine g_reg ?_
                refine g_v (v_move rfl) rfl ?_
                refine g_l (l_call (Pre := [dsk 184 187 b27 (fD N)]) Try.call102 rfl (ct_store_Open b27 N (fD N) (hul0.len) (by omega) ((fD_S80 hN.1).2.1) (hd1) ([]) ([]) (0) (fun _ _ _ => hul0.good))) rfl ?_
                rintro _ _ (⟨hdn, _, _⟩ | ⟨_, h196, _, _⟩ | ⟨_, _, he0, _, _⟩ | ⟨_, _, _, bs0, bl0, so0, co0, rfl, rfl⟩)
                · rw [(fD_up hN.1).1] at hdn; cases hdn
                · exact absurd h196 (by omega)
                · exact absurd he0 (inv_ep hul0)
                refine g_v (v_move rfl) rfl ?_
                refine g_v (v_extract (v := ptr bs0 0) rfl rfl) rfl ?_
                refine g_v (v_extract (v := errV 0) rfl rfl) rfl ?_
                refine g_v (v_assign rfl) rfl ?_
                refine g_v (v_assign rfl) rfl ?_
                refine g_nil ?_
                refine g_seq ?_
                refine g_seq ?_
                refine g_reg ?_
                refine g_v (v_move rfl) rfl ?_
                refine g_v (v_ineq Try.underlying26 rfl) rfl ?_
                refine g_v (v_move rfl) rfl ?_
                refine g_gv1 rfl rfl rfl (v_move rfl) rfl ?_
                refine g_gv1 rfl rfl rfl (v_ineq Try.underlying26 rfl) rfl ?_
                refine g_v (v_or rfl rfl) rfl ?_
                refine g_v (v_move rfl) rfl ?_
                refine g_gv1 rfl rfl rfl (v_move rfl) rfl ?_
                refine g_gv1 rfl rfl rfl (v_pnil Try.underlying147 rfl) rfl ?_
                refine g_v (v_or rfl rfl) rfl ?_
                refine g_nil ?_
                refine g_cond rfl (fun h76 => ?_) (fun h76 => ?_)
                · simp at h76
                · skip
                  refine g_skip ?_
                  refine g_seq ?_
                  refine g_reg ?_
                  refine g_v (v_move rfl) rfl ?_
                  refine g_v (v_sub (r := ((N - 122 : Nat) : Int)) rfl rfl (by rw [show (N : Int) - 122 = ((N - 122 : Nat) : Int) by omega]; exact w64 (by omega))) rfl ?_
                  refine g_v (v_build rfl (bld153_2 _ rfl)) rfl ?_
                  refine g_l (l_box #[sl none (cur [] []).length 0, I ((0 : Nat) : Int), I ((N - 122 : Nat) : Int)] rfl rfl) rfl ?_
                  rintro _ _ ⟨b80, rfl, rfl⟩
                  refine g_v (v_assign rfl) rfl ?_
                  refine g_nil ?_
                  refine g_seq ?_
                  refine g_seq ?_
                  have q1 : okW N (1000 + 300 * 0) (fD N) := okW_le (fD_ok hN) (by omega)
                  have q2 := fD_up hN.1
                  have q3 := fD_S80 hN.1
                  generalize fD N = D0 at q1 q2 q3 hul0 ⊢
                  refine g_nilro 3 (chR (cur [] [])) rfl ?_
                  refine g_reg ?_
                  refine g_v (v_assign rfl) rfl ?_
                  refine g_nil ?_
                  refine g_block ?_
                  refine g_loop (α := SSt) (fun z => z.i ≤ l.length ∧ okW N (1000 + 300 * z.i) z.D ∧ upW z.D ∧ S80 z.D ∧ z.h.ep ≤ 1 + z.i ∧ z.h.first ≤ 1 + 300 * z.i ∧ Inv N z.D z.h z.r0 z.ds z.used ∧ cur z.r0 z.ds = z.rows) (fun z => U [(1, sl s l.length cap), (6, ptr b27 0), (9, ptr z.bs 0), (11, ptr b80 0), (12, I (z.i : Int))]) (fun z => pt z.bs (.cells (stC b27 (z.h) z.bl z.ss.1 (z.rows.length) z.ss.2) 224 (0, 0)) :: pt z.bl (.cells (lgC b27 122 (N - 122) (z.h.first) (z.used)) 206 (0, 0)) :: dsk 184 187 b27 (z.D) :: roL 3 z.ss.1 (chR z.rows) :: pt b80 (.cells #[sl z.sm.1 (z.rows.length) z.sm.2, I ((z.used : Nat) : Int), I ((N - 122 : Nat) : Int)] 153 (0, 0)) :: roL 3 z.sm.1 (chR z.rows) :: acts s l f :: F) (fun z => l.length - z.i) (⟨0, D0, hd1, [], [], 0, cur [] [], bs0, bl0, (so0, co0), (none, 0)⟩ : SSt) ⟨Nat.zero_le _, q1, q2, q3, Nat.le_refl 1, Nat.le_refl 1, hul0, rfl⟩ [1, 6, 9, 11, 12] rfl rfl ?_
                  rintro ⟨i, D, h, r0, ds, used, rows, bs, bl, ⟨ss, cs⟩, ⟨sm, cm⟩⟩ ⟨hi, hok, hup, hS, hep, hfi, iv, hcur⟩
                  simp only [] at hi hok hup hS hep hfi iv hcur ⊢
                  subst hcur
                  have hlc := iv.good.lenC
                  refine g_seq ?_
                  refine g_seq ?_
                  refine g_reg ?_
                  refine g_v (v_move rfl) rfl ?_
                  refine g_v (v_move rfl) rfl ?_
                  refine g_v (v_len Try.underlying39 rfl) rfl ?_
                  refine g_v (v_lss rfl rfl) rfl ?_
                  refine g_nil ?_
                  refine g_cond rfl (fun h84 => ?_) (fun h84 => ?_)
                  · simp at h84
                    have hkn : i < l.length := by omega
                    obtain ⟨x, hx⟩ : ∃ x, l[i]? = some x := ⟨_, List.getElem?_eq_getElem hkn⟩
                    have hkr : i < (actR l f).length := by rw [actR_len]; exact hkn
                    refine g_skip ?_
                    refine g_seq ?_
                    refine g_block ?_
                    refine g_seq ?_
                    refine g_reg ?_
                    refine g_v (v_move rfl) rfl ?_
                    refine g_v (v_move rfl) rfl ?_
                    refine g_v (v_idxS i Try.underlying39 Try.sizeOf52 rfl rfl rfl hkn hkr) rfl ?_
                    refine g_v (v_loadAS (row := [Str x.kind, Str x.s, I x.a, I x.b, I x.c, I x.d, Uw x.k, sl (f i).1.1 x.puts.length (f i).1.2, sl (f i).2.1 x.changes.length (f i).2.2]) Try.isAgg52 Try.sizeOf52 rfl (actR_at hx) rfl) rfl ?_
                    refine g_l (l_alloc #[Str [], Str [], I 0, I 0, I 0, I 0, .int .u64 0, sl none 0 0, sl none 0 0] Try.zeroValue52) rfl ?_
                    rintro _ _ ⟨b13, rfl, rfl⟩
                    refine g_l0 (l_storeA (cs := #[Str [], Str [], I 0, I 0, I 0, I 0, .int .u64 0, sl none 0 0, sl none 0 0]) (vs := [Str x.kind, Str x.s, I x.a, I x.b, I x.c, I x.d, Uw x.k, sl (f i).1.1 x.puts.length (f i).1.2, sl (f i).2.1 x.changes.length (f i).2.2]) #[Str x.kind, Str x.s, I x.a, I x.b, I x.c, I x.d, Uw x.k, sl (f i).1.1 x.puts.length (f i).1.2, sl (f i).2.1 x.changes.length (f i).2.2] Try.sizeOf52 rfl rfl rfl rfl (by simp) (splice_all rfl)) ?_
                    rintro _ _ rfl
                    refine g_nil ?_
                    refine g_seq ?_
                    refine g_seq ?_
                    refine g_reg ?_
                    refine g_v (v_fieldAddr 0 Try.underlying52 rfl rfl Try.sizeOf9 (by decide) rfl) rfl ?_
                    refine g_v (v_load (v := Str x.kind) Try.isAgg9 rfl rfl) rfl ?_
                    refine g_nil ?_
                    refine g_block ?_
                    refine g_seq ?_
                    refine g_reg ?_
                    refine g_v (v_seql rfl rfl) rfl ?_
                    refine g_v (v_assign rfl) rfl ?_
                    refine g_nil ?_
                    refine g_cut (α := SSt) (fun z => z.i = i + 1 ∧ okW N (1000 + 300 * z.i) z.D ∧ upW z.D ∧ S80 z.D ∧ z.h.ep ≤ 1 + z.i ∧ z.h.first ≤ 1 + 300 * z.i ∧ Inv N z.D z.h z.r0 z.ds z.used ∧ cur z.r0 z.ds = z.rows) (fun z => U [(1, sl s l.length cap), (6, ptr b27 0), (9, ptr z.bs 0), (11, ptr b80 0), (12, I (i : Int))]) (fun z => pt z.bs (.cells (stC b27 (z.h) z.bl z.ss.1 (z.rows.length) z.ss.2) 224 (0, 0)) :: pt z.bl (.cells (lgC b27 122 (N - 122) (z.h.first) (z.used)) 206 (0, 0)) :: dsk 184 187 b27 (z.D) :: roL 3 z.ss.1 (chR z.rows) :: pt b80 (.cells #[sl z.sm.1 (z.rows.length) z.sm.2, I ((z.used : Nat) : Int), I ((N - 122 : Nat) : Int)] 153 (0, 0)) :: roL 3 z.sm.1 (chR z.rows) :: acts s l f :: F) ?_ ?_
                    · skip
                      refine g_cond rfl (fun h105 => ?_) (fun h105 => ?_)
                      · skip
                        refine g_seq ?_
                        refine g_actChanges s l f i hx ?_
                        refine g_draw (Lf := [pt b13 (.cells #[Str x.kind, Str x.s, I x.a, I x.b, I x.c, I x.d, Uw x.k, sl (f i).1.1 x.puts.length (f i).1.2, sl (f i).2.1 x.changes.length (f i).2.2] 52 (0, 0))]) [(0, false), (1, false), (2, false), (4, false), (5, false), (6, false), (3, true), (7, true), (8, true), (9, false)] (by kernel_rfl) (by kernel_rfl) rfl (by kernel_rfl) ?_
                        by_cases hcm : cmV (N - 122) (cur r0 ds) x.changes = 0
                        · skip
                          refine d_v rfl (v_move rfl) rfl ?_
                          refine d_v rfl (v_fieldAddr 8 Try.underlying52 rfl rfl Try.sizeOf50 (by decide) rfl) rfl ?_
                          refine d_v rfl (v_load (v := sl (f i).2.1 x.changes.length (f i).2.2) Try.isAgg50 rfl rfl) rfl ?_
                          refine d_v rfl (v_move rfl) rfl ?_
                          refine d_v rfl (v_fieldAddr 8 Try.underlying52 rfl rfl Try.sizeOf50 (by decide) rfl) rfl ?_
                          refine d_v rfl (v_load (v := sl (f i).2.1 x.changes.length (f i).2.2) Try.isAgg50 rfl rfl) rfl ?_
                          refine d_l rfl (l_call (Pre := [pt bs (.cells (stC b27 (h) bl ss ((cur r0 ds).length) cs) 224 (0, 0)), pt bl (.cells (lgC b27 122 (N - 122) (h.first) (used)) 206 (0, 0)), dsk 184 187 b27 (D), roL 3 ss (chR (cur r0 ds)), roL 3 (f i).2.1 (chR x.changes)]) Try.call104 rfl (ct_store_Commit bs b27 h bl ss cs (cur r0 ds) N (1000 + 300 * i) used D hok (by omega) hS hN ⟨by omega, iv.good.side, iv.good.first.1, by omega⟩ iv.good.lenC iv.good.okC iv.used_le iv.good.srtC x.changes (f i).2.1 (f i).2.2 (hla x (List.mem_of_getElem? hx)).2)) rfl ?_
                          rintro _ _ ⟨e, D2, h2, used2, rows2, bl2, s2, cap2, hcom, rfl, rfl⟩
                          obtain ⟨c1, c2, c3, c4, c5, c6, c7, r2, d2, I2, hcur2⟩ := com_up hup hS iv (by omega) (by omega) hcom
                          have hok2 := com_ok hok hS iv hcom
                          rw [if_pos hcm] at c6 c7
                          rw [hcm] at c1
                          subst c1 c6 c7
                          refine d_l rfl (l_call (Pre := [pt b80 (.cells #[sl sm ((cur r0 ds).length) cm, I ((used : Nat) : Int), I ((N - 122 : Nat) : Int)] 153 (0, 0)), roL 3 sm (chR (cur r0 ds)), roL 3 (f i).2.1 (chR x.changes)]) Try.call105 rfl (ct_R_Store_Commit b80 (cur r0 ds) x.changes sm (f i).2.1 cm (f i).2.2 used (N - 122) iv.good.lenC iv.good.srtC (hla x (List.mem_of_getElem? hx)).2 ⟨iv.used_le, by omega⟩)) rfl ?_
                          rintro _ _ (⟨hne, _, _⟩ | ⟨_, sr, cr, rfl, rfl⟩)
                          · exact absurd hcm hne
                          refine d_l rfl (l_call (Pre := []) Try.call14 rfl (ct_L_same (0) (0) (by decide))) rfl ?_
                          rintro _ _ ⟨rfl, rfl⟩
                          rw [decide_eq_true rfl]
                          refine d_v rfl (v_not rfl) rfl ?_
                          refine d_nil ?_
                          refine g_cond rfl (fun h116 => ?_) (fun h116 => ?_)
                          · simp at h116
                          · skip
                            refine g_skip ?_
                            exact g_here (⟨i + 1, D2, h2, r2, d2, (if N - 122 - used < x.changes.length + 1 then 0 else used) + x.changes.length + 1, apsS (cur r0 ds) x.changes, bs, bl2, (s2, cap2), (sr, cr)⟩ : SSt) ⟨rfl, okW_le hok2 (by simp only []; omega), c2, c3, by simp only []; omega, by simp only []; omega, I2, hcur2⟩ [1, 6, 9, 11, 12] rfl rfl
                        · skip
                          refine d_v rfl (v_move rfl) rfl ?_
                          refine d_v rfl (v_fieldAddr 8 Try.underlying52 rfl rfl Try.sizeOf50 (by decide) rfl) rfl ?_
                          refine d_v rfl (v_load (v := sl (f i).2.1 x.changes.length (f i).2.2) Try.isAgg50 rfl rfl) rfl ?_
                          refine d_v rfl (v_move rfl) rfl ?_
                          refine d_v rfl (v_fieldAddr 8 Try.underlying52 rfl rfl Try.sizeOf50 (by decide) rfl) rfl ?_
                          refine d_v rfl (v_load (v := sl (f i).2.1 x.changes.length (f i).2.2) Try.isAgg50 rfl rfl) rfl ?_
                          refine d_l rfl (l_call (Pre := [pt bs (.cells (stC b27 (h) bl ss ((cur r0 ds).length) cs) 224 (0, 0)), pt bl (.cells (lgC b27 122 (N - 122) (h.first) (used)) 206 (0, 0)), dsk 184 187 b27 (D), roL 3 ss (chR (cur r0 ds)), roL 3 (f i).2.1 (chR x.changes)]) Try.call104 rfl (ct_store_Commit bs b27 h bl ss cs (cur r0 ds) N (1000 + 300 * i) used D hok (by omega) hS hN ⟨by omega, iv.good.side, iv.good.first.1, by omega⟩ iv.good.lenC iv.good.okC iv.used_le iv.good.srtC x.changes (f i).2.1 (f i).2.2 (hla x (List.mem_of_getElem? hx)).2)) rfl ?_
                          rintro _ _ ⟨e, D2, h2, used2, rows2, bl2, s2, cap2, hcom, rfl, rfl⟩
                          obtain ⟨c1, c2, c3, c4, c5, c6, c7, r2, d2, I2, hcur2⟩ := com_up hup hS iv (by omega) (by omega) hcom
                          have hok2 := com_ok hok hS iv hcom
                          rw [if_neg hcm] at c6 c7
                          subst c1 c6
                          obtain rfl : used = used2 := c7.symm
                          refine d_l rfl (l_call (Pre := [pt b80 (.cells #[sl sm ((cur r0 ds).length) cm, I ((used : Nat) : Int), I ((N - 122 : Nat) : Int)] 153 (0, 0)), roL 3 sm (chR (cur r0 ds)), roL 3 (f i).2.1 (chR x.changes)]) Try.call105 rfl (ct_R_Store_Commit b80 (cur r0 ds) x.changes sm (f i).2.1 cm (f i).2.2 used (N - 122) iv.good.lenC iv.good.srtC (hla x (List.mem_of_getElem? hx)).2 ⟨iv.used_le, by omega⟩)) rfl ?_
                          rintro _ _ (⟨_, rfl, rfl⟩ | ⟨h0, _⟩)
                          rotate_left
                          · exact absurd h0 hcm
                          refine d_l rfl (l_call (Pre := []) Try.call14 rfl (ct_L_same (cmV (N - 122) (cur r0 ds) x.changes) (cmV (N - 122) (cur r0 ds) x.changes) (cmV_nn _ _ _))) rfl ?_
                          rintro _ _ ⟨rfl, rfl⟩
                          rw [decide_eq_true rfl]
                          refine d_v rfl (v_not rfl) rfl ?_
                          refine d_nil ?_
                          refine g_cond rfl (fun h116 => ?_) (fun h116 => ?_)
                          · simp at h116
                          · skip
                            refine g_skip ?_
                            exact g_here (⟨i + 1, D2, h2, r2, d2, used, (cur r0 ds), bs, bl2, (s2, cap2), (sm, cm)⟩ : SSt) ⟨rfl, okW_le hok2 (by simp only []; omega), c2, c3, by simp only []; omega, by simp only []; omega, I2, hcur2⟩ [1, 6, 9, 11, 12] rfl rfl
                      · skip
                        refine g_seq ?_
                        refine g_reg ?_
                        refine g_v (v_seql rfl rfl) rfl ?_
                        refine g_v (v_assign rfl) rfl ?_
                        refine g_nil ?_
                        refine g_cond rfl (fun h117 => ?_) (fun h117 => ?_)
                        · obtain ⟨D1', hr1, hu1, I1⟩ := up_ck hup iv (by omega) (by omega)
                          refine g_seq ?_
                          refine g_seq ?_
                          refine g_reg ?_
                          refine g_v (v_move rfl) rfl ?_
                          refine g_l (l_call (Pre := [pt bs (.cells (stC b27 (h) bl ss ((cur r0 ds).length) cs) 224 (0, 0)), pt bl (.cells (lgC b27 122 (N - 122) (h.first) (used)) 206 (0, 0)), dsk 184 187 b27 (D), roL 3 ss (chR (cur r0 ds))]) Try.call106 rfl (ct_store_Checkpoint bs b27 h bl ss cs (cur r0 ds) N (1000 + 300 * i) used D hok (by omega) hS hN ⟨by omega, iv.good.side, iv.good.first.1, by omega⟩ iv.good.lenC iv.good.okC)) rfl ?_
                          rintro _ _ ⟨e, D1, hck, ⟨hne, _, _⟩ | ⟨h0, blc, dsc, usedc, hulc, hscc, rfl, rfl⟩⟩
                          · rw [hr1] at hck
                            injection hck with q1 q2
                            exact absurd q1.symm hne
                          subst h0
                          rw [hr1] at hck
                          injection hck with _ q2
                          subst q2
                          have hlg := I1.good.log
                          rw [I1.len] at hlg
                          obtain ⟨_, hu0⟩ := scan_pair hscc hlg
                          obtain rfl : 0 = usedc := hu0.symm
                          have hokc := okW_run (ckL (nxH h (cur r0 ds) (N - 122)) (allB (cur r0 ds))) _ D hok
                          rw [hr1, ckL_len] at hokc
                          have hSc := S80_run _ D hS (nx_ok (h := h) iv.good.lenC iv.good.okC hN.1)
                          rw [hr1] at hSc
                          have hc60 := chunks_le iv.good.lenC iv.good.okC
                          rw [show h.first + (N - 122) = (nxH h (cur r0 ds) (N - 122)).first from rfl]
                          refine g_v (v_ineq Try.underlying26 rfl) rfl ?_
                          refine g_nil ?_
                          refine g_cond rfl (fun h121 => ?_) (fun h121 => ?_)
                          · simp at h121
                          · skip
                            refine g_skip ?_
                            refine g_reg ?_
                            refine g_v (v_move rfl) rfl ?_
                            refine g_v (v_nilCheck rfl) rfl ?_
                            refine g_v (v_fieldAddr 1 Try.underlying153 rfl rfl Try.sizeOf3 (by decide) rfl) rfl ?_
                            refine g_l0 (l_store #[sl sm (cur r0 ds).length cm, I ((0 : Nat) : Int), I ((N - 122 : Nat) : Int)] Try.sizeOf3 rfl rfl rfl (by simp) rfl) ?_
                            rintro _ _ rfl
                            refine g_nil ?_
                            exact g_here (⟨i + 1, D1', nxH h (cur r0 ds) (N - 122), (cur r0 ds), [], 0, (cur r0 ds), bs, blc, (ss, cs), (sm, cm)⟩ : SSt) ⟨rfl, okW_le hokc (by simp only []; omega), hu1, hSc, by simp only [nxH]; omega, by simp only [nxH]; omega, I1, rfl⟩ [1, 6, 9, 11, 12] rfl rfl
                        · skip
                          refine g_seq ?_
                          refine g_reg ?_
                          refine g_v (v_move rfl) rfl ?_
                          refine g_l (l_call (Pre := [dsk 184 187 b27 (D)]) Try.call102 rfl (ct_store_Open b27 N (D) (iv.len) (by omega) (hS.2.1) (h) (r0) (ds) (used) (fun _ _ _ => iv.good))) rfl ?_
                          rintro _ _ (⟨hdn, _, _⟩ | ⟨_, h196, _, _⟩ | ⟨_, _, he0, _, _⟩ | ⟨_, _, _, bsn, bln, son, con, rfl, rfl⟩)
                          · rw [(hup).1] at hdn; cases hdn
                          · exact absurd h196 (by omega)
                          · exact absurd he0 (inv_ep iv)
                          refine g_v (v_move rfl) rfl ?_
                          refine g_v (v_extract (v := ptr bsn 0) rfl rfl) rfl ?_
                          refine g_v (v_extract (v := errV 0) rfl rfl) rfl ?_
                          refine g_v (v_assign rfl) rfl ?_
                          refine g_v (v_assign rfl) rfl ?_
                          refine g_nil ?_
                          refine g_seq ?_
                          refine g_seq ?_
                          refine g_reg ?_
                          refine g_v (v_move rfl) rfl ?_
                          refine g_v (v_ineq Try.underlying26 rfl) rfl ?_
                          refine g_v (v_move rfl) rfl ?_
                          refine g_gv1 rfl rfl rfl (v_move rfl) rfl ?_
                          refine g_gv1 rfl rfl rfl (v_pnil Try.underlying147 rfl) rfl ?_
                          refine g_v (v_or rfl rfl) rfl ?_
                          refine g_nil ?_
                          refine g_cond rfl (fun h103 => ?_) (fun h103 => ?_)
                          · simp at h103
                          · skip
                            refine g_skip ?_
                            refine g_reg ?_
                            refine g_v (v_move rfl) rfl ?_
                            refine g_v (v_assign rfl) rfl ?_
                            refine g_nil ?_
                            exact g_here (⟨i + 1, D, h, r0, ds, used, (cur r0 ds), bsn, bln, (son, con), (sm, cm)⟩ : SSt) ⟨rfl, okW_le hok (by simp only []; omega), hup, hS, by simp only []; omega, by simp only []; omega, iv, rfl⟩ [1, 6, 9, 11, 12] rfl rfl
                    clear iv hok hup hS hep hfi hlc
                    rintro ⟨i1, D, h, r0, ds, used, rows, bs, bl, ⟨ss, cs⟩, ⟨sm, cm⟩⟩ ⟨hi1, hok, hup, hS, hep, hfi, iv, hcur⟩
                    simp only [] at hi1 hok hup hS hep hfi iv hcur ⊢
                    subst hi1
                    have hlc : rows.length ≤ 80 := by rw [← hcur]; exact iv.good.lenC
                    have hule := iv.used_le
                    refine g_blk ?_
                    refine g_seq ?_
                    refine g_draw (Lf := [pt bs (.cells (stC b27 (h) bl ss (rows.length) cs) 224 (0, 0)), pt b80 (.cells #[sl sm (rows.length) cm, I ((used : Nat) : Int), I ((N - 122 : Nat) : Int)] 153 (0, 0))]) [(0, false), (2, false), (3, false), (4, false), (5, false), (6, false), (7, false), (8, false), (9, false), (10, false), (1, true), (11, false), (12, false), (13, false), (15, false), (16, false), (17, false), (18, false), (14, true), (19, true), (20, false), (21, false)] (by kernel_rfl) (by kernel_rfl) rfl (by kernel_rfl) ?_
                    refine d_v rfl (v_move rfl) rfl ?_
                    refine d_v rfl (v_move rfl) rfl ?_
                    refine d_v rfl (v_nilCheck rfl) rfl ?_
                    refine d_v rfl (v_fieldAddr 2 Try.underlying153 rfl rfl Try.sizeOf3 (by decide) rfl) rfl ?_
                    refine d_v rfl (v_load (v := I ((N - 122 : Nat) : Int)) Try.isAgg3 rfl rfl) rfl ?_
                    refine d_v rfl (v_move rfl) rfl ?_
                    refine d_v rfl (v_nilCheck rfl) rfl ?_
                    refine d_v rfl (v_fieldAddr 1 Try.underlying153 rfl rfl Try.sizeOf3 (by decide) rfl) rfl ?_
                    refine d_v rfl (v_load (v := I ((used : Nat) : Int)) Try.isAgg3 rfl rfl) rfl ?_
                    refine d_v rfl (v_sub (r := ((N - 122 - used : Nat) : Int)) rfl rfl (by rw [show ((N - 122 : Nat) : Int) - (used : Int) = ((N - 122 - used : Nat) : Int) by omega]; exact w64 (by omega))) rfl ?_
                    refine d_l rfl (l_call (Pre := [pt bs (.cells (stC b27 (h) bl ss (rows.length) cs) 224 (0, 0)), pt bl (.cells (lgC b27 122 (N - 122) (h.first) (used)) 206 (0, 0))]) Try.call107 rfl (ct_store_Room bs b27 h bl ss rows.length cs 122 (N - 122) h.first used ⟨iv.used_le, by omega⟩)) rfl ?_
                    rintro _ _ ⟨rfl, rfl⟩
                    refine d_v rfl (v_neqS rfl rfl) rfl ?_
                    refine d_v rfl (v_move rfl) rfl ?_
                    refine d_gv1 rfl rfl rfl rfl (v_move rfl) rfl ?_
                    refine d_gv1 rfl rfl rfl rfl (v_move rfl) rfl ?_
                    refine d_gv1 rfl rfl rfl rfl (v_nilCheck rfl) rfl ?_
                    refine d_gv1 rfl rfl rfl rfl (v_fieldAddr 0 Try.underlying153 rfl rfl Try.sizeOf50 (by decide) rfl) rfl ?_
                    refine d_gv1 rfl rfl rfl rfl (v_load (v := sl sm rows.length cm) Try.isAgg50 rfl rfl) rfl ?_
                    refine d_gl rfl rfl rfl rfl (l_call (Pre := [pt bs (.cells (stC b27 (h) bl ss (rows.length) cs) 224 (0, 0)), roL 3 ss (chR rows)]) Try.call108 rfl (ct_store_Rows bs b27 h bl ss cs rows (by omega))) rfl ?_
                    rintro _ _ ⟨s139, c139, rfl, rfl⟩
                    refine g_freeze (T := 95) (cap := c139) s139 ?_
                    refine d_gl rfl rfl rfl rfl (l_call (Pre := [roL 3 s139 (chR rows), roL 3 sm (chR rows)]) Try.call64 rfl (ct_R_SameChanges rows rows s139 sm c139 cm (by omega) (by omega))) rfl ?_
                    rintro _ _ ⟨rfl, rfl⟩
                    rw [decide_eq_true rfl]
                    refine d_gv1 rfl rfl rfl rfl (v_not rfl) rfl ?_
                    refine d_v rfl (v_or rfl rfl) rfl ?_
                    refine d_nil ?_
                    refine g_cond rfl (fun h146 => ?_) (fun h146 => ?_)
                    · simp at h146
                    · skip
                      refine g_skip ?_
                      refine g_blk ?_
                      refine g_reg ?_
                      refine g_v (v_move rfl) rfl ?_
                      refine g_v (v_add (r := ((i + 1 : Nat) : Int)) rfl rfl (by rw [show ((i : Nat) : Int) + 1 = ((i + 1 : Nat) : Int) by omega]; exact w64 (by omega))) rfl ?_
                      refine g_v (v_assign rfl) rfl ?_
                      refine g_nil ?_
                      exact g_again (⟨i + 1, D, h, r0, ds, used, rows, bs, bl, (ss, cs), (sm, cm)⟩ : SSt) ⟨by simp only []; omega, hok, hup, hS, hep, hfi, iv, hcur⟩ (by simp only []; omega) [1, 6, 9, 11, 12] rfl rfl
                  · skip
                    refine g_exit rfl ?_
                    refine g_seq ?_
                    refine g_reg ?_
                    refine g_v (v_assign rfl) rfl ?_
                    refine g_nil ?_
                    refine g_ret1 rfl rfl ?_
                    exact rfl

end Go.Proofs.Ythdjckbjjfiopaa
