/- The walk through the law TopAgain. No condition but the library's tables. -/
import Derived.Test.YthdjckbjjfiopacGreatDoorTopGn
import Derived.Test.YthdjckbjjfiopacGreatDoorSlH
namespace Go.Proofs.YthdjckbjjfiopacGreatDoor
open Go.Sl Go.Proofs
set_option linter.unusedVariables false
set_option linter.unusedSimpArgs false
def vK (p : Nat) (S0 : SI) (P0 : List Pt) (n0 : Int) (F : List HProp) (R : VR) : Value → List HProp → Prop := fun v L' => match R with
  | .error e => v = .tuple #[I 0, errT 89 e] ∧ L' = vlt p S0 P0 n0 :: F
  | .ok (S, P, n, r) => v = .tuple #[I r, errT 89 0] ∧ L' = vlt p S P n :: F
section
variable {c : Cx} {E : Env} {L : List HProp} {K : List KI}
theorem g_nonesK {F : List HProp} {R : VR} {vs : List Value} {p : Nat} {S0 : SI} {P0 : List Pt} {n0 : Int} {e : Int} (hR : c.R = vK p S0 P0 n0 F R) (he : R = .error e) (hr : resOf E c.fn.results.toList = some vs) (hv : tup vs = .tuple #[I 0, errT 89 e]) [Su : Sub L (vlt p S0 P0 n0 :: F)] (hds : c.n.ds = [] := by rfl) : G c (.code .ret :: K) E L :=
  fun a w hE hS => wp_ret (kq_ret (res_fpost (hds := hds) hr hE (Su.sat hS) (by rw [hR, he]; exact ⟨hv, rfl⟩)))
theorem g_somesK {F : List HProp} {R : VR} {vs : List Value} {p : Nat} {S0 : SI} {P0 : List Pt} {n0 : Int} {S : SI} {P : List Pt} {n r : Int} (hR : c.R = vK p S0 P0 n0 F R) (he : R = .ok (S, P, n, r)) (hr : resOf E c.fn.results.toList = some vs) (hv : tup vs = .tuple #[I r, errT 89 0]) [Su : Sub L (vlt p S P n :: F)] (hds : c.n.ds = [] := by rfl) : G c (.code .ret :: K) E L :=
  fun a w hE hS => wp_ret (kq_ret (res_fpost (hds := hds) hr hE (Su.sat hS) (by rw [hR, he]; exact ⟨hv, rfl⟩)))
end

theorem ct_vault_Vault_AgainK (b : Nat) (S : SI) (L : List Pt) (n : Int) (id : Int) (G0 : Gh) (hV : Vok S L n G0) (F : List HProp) : Ct Tryz.prog 13 [ptr b 0, I id] ([vlt b S L n] ++ F) (vK b S L n F (agnF S L n id)) := by
  show Ct Tryz.prog 13 [ptr b 0, I id] (vlt b S L n :: F) _
  have hok := Vok_ok hV
  have hll := hV.len
  have hn1 := hV.n1
  refine Ct.of Tryz.func13 rfl 41 Tryz.ntmps13 (by simp) fun w0 => ?_
  refine g_seq ?_
  refine g_reg ?_
  refine g_v (v_assign rfl) rfl ?_
  refine g_v (v_assign rfl) rfl ?_
  refine g_nil ?_
  refine g_seq ?_
  refine g_reg ?_
  refine g_v (v_move rfl) rfl ?_
  refine g_v (v_move rfl) rfl ?_
  refine g_l (l_call (Pre := [vlt b S L n]) Tryz.call33 rfl (ct_vault_Vault_Find b S L n id (by omega))) rfl ?_
  rintro _ _ ⟨rfl, rfl⟩
  refine g_v (v_move rfl) rfl ?_
  refine g_v (v_extract (v := .agg (encPt ((findP L id).getD pt0)).toArray) rfl rfl) rfl ?_
  refine g_v (v_extract (v := Bo (findP L id).isSome) rfl rfl) rfl ?_
  refine g_l (l_alloc #[I 0, I 0, I 0, I 0] Tryz.zeroValue55) rfl ?_
  rintro _ _ ⟨b6, rfl, rfl⟩
  refine g_l0 (l_storeA (cs := #[I 0, I 0, I 0, I 0]) (vs := encPt (((findP L id).getD pt0))) (encPt (((findP L id).getD pt0))).toArray Tryz.sizeOf55 rfl rfl rfl rfl (by simp) (splice_whole rfl)) ?_
  rintro _ _ rfl
  refine g_v (v_assign rfl) rfl ?_
  refine g_nil ?_
  refine g_seq ?_
  refine g_seq ?_
  refine g_reg ?_
  refine g_v (v_move rfl) rfl ?_
  refine g_v (v_not rfl) rfl ?_
  refine g_nil ?_
  refine g_cond rfl (fun h17 => ?_) (fun h17 => ?_)
  · simp at h17
    refine g_seq ?_
    refine g_reg ?_
    refine g_v (v_iface Tryz.underlying89 rfl rfl) rfl ?_
    refine g_v (v_assign rfl) rfl ?_
    refine g_v (v_assign rfl) rfl ?_
    refine g_nil ?_
    exact g_nonesK rfl (by unfold agnF; rw [h17]) rfl rfl
  · simp at h17
    obtain ⟨p, hf⟩ := Option.isSome_iff_exists.1 h17
    have hpm := findP_some hf
    have hps := hV.pts p hpm.1
    rw [show (findP L id).getD pt0 = p by rw [hf]; rfl]
    refine g_skip ?_
    refine g_seq ?_
    refine g_reg ?_
    refine g_v (v_move rfl) rfl ?_
    refine g_v (v_fieldAddr 1 Tryz.underlying55 rfl rfl Tryz.sizeOf3 (by decide) rfl) rfl ?_
    refine g_v (v_load (v := I p.disk) Tryz.isAgg3 rfl rfl) rfl ?_
    refine g_v (v_fieldAddr 2 Tryz.underlying55 rfl rfl Tryz.sizeOf3 (by decide) rfl) rfl ?_
    refine g_v (v_load (v := I p.size) Tryz.isAgg3 rfl rfl) rfl ?_
    refine g_v (v_fieldAddr 3 Tryz.underlying55 rfl rfl Tryz.sizeOf3 (by decide) rfl) rfl ?_
    refine g_v (v_load (v := I p.root) Tryz.isAgg3 rfl rfl) rfl ?_
    refine g_l (l_call (Pre := [vlt b S L n]) Tryz.call46 rfl (ct_vault_Vault_add b S L n p.disk p.size p.root (by omega) (by omega))) rfl ?_
    rintro _ _ ⟨rfl, rfl⟩
    refine g_v (v_move rfl) rfl ?_
    refine g_v (v_extract (v := I (addI L n)) rfl rfl) rfl ?_
    refine g_v (v_extract (v := errT 89 (addE L n)) rfl rfl) rfl ?_
    refine g_v (v_assign rfl) rfl ?_
    refine g_v (v_assign rfl) rfl ?_
    refine g_nil ?_
    refine g_seq ?_
    refine g_seq ?_
    refine g_reg ?_
    refine g_v (v_move rfl) rfl ?_
    refine g_v (v_ieql Tryz.underlying29 rfl) rfl ?_
    refine g_nil ?_
    refine g_cond rfl (fun h31 => ?_) (fun h31 => ?_)
    · simp at h31
      rw [show addI L n = n by unfold addI; rw [if_pos h31], show addL L n p.disk p.size p.root = L ++ [(⟨n, p.disk, p.size, p.root⟩ : Pt)] by unfold addL; rw [if_pos h31], show addN L n = n + 1 by unfold addN; rw [if_pos h31], h31]
      refine g_openV b S (L ++ [(⟨n, p.disk, p.size, p.root⟩ : Pt)]) (n + 1) ?_
      intro x s c
      refine g_draw (Lf := [pt b (.cells #[ptr x 0, sl s (L ++ [(⟨n, p.disk, p.size, p.root⟩ : Pt)]).length c, I (n + 1)] 47 (0, 0)), pt b6 (.cells (encPt (p)).toArray 55 (0, 0))]) [(0, false), (1, false), (2, false), (3, false), (4, false), (5, false), (6, true)] (by kernel_rfl) (by kernel_rfl) rfl (by kernel_rfl) ?_
      refine d_v rfl (v_move rfl) rfl ?_
      refine d_v rfl (v_nilCheck rfl) rfl ?_
      refine d_v rfl (v_fieldAddr 0 Tryz.underlying47 rfl rfl Tryz.sizeOf44 (by decide) rfl) rfl ?_
      refine d_v rfl (v_load (v := ptr x 0) Tryz.isAgg44 rfl rfl) rfl ?_
      refine d_v rfl (v_fieldAddr 3 Tryz.underlying55 rfl rfl Tryz.sizeOf3 (by decide) rfl) rfl ?_
      refine d_v rfl (v_load (v := I p.root) Tryz.isAgg3 rfl rfl) rfl ?_
      refine d_l rfl (l_call (Pre := [ixl x S]) Tryz.call47 rfl (ct_index_Index_Share x S p.root 200 hok (by decide) (rt_rng hV.rt.V (RtRt hV.rt (findP_mem hf))).2)) rfl ?_
      rintro _ _ ⟨rfl, rfl⟩
      refine d_nil ?_
      refine g_seq ?_
      refine g_reg ?_
      refine g_v (v_move rfl) rfl ?_
      refine g_v (v_move rfl) rfl ?_
      refine g_v (v_assign rfl) rfl ?_
      refine g_v (v_assign rfl) rfl ?_
      refine g_nil ?_
      refine g_shutV b x s c (shareS S p.root) (L ++ [(⟨n, p.disk, p.size, p.root⟩ : Pt)]) (n + 1) ?_
      exact g_somesK (S := shareS S p.root) (P := L ++ [(⟨n, p.disk, p.size, p.root⟩ : Pt)]) (n := n + 1) rfl (by unfold agnF; rw [hf]; simp only; rw [if_neg (by omega)]) rfl rfl
    · simp at h31
      rw [show addI L n = 0 by unfold addI; rw [if_neg h31]]
      rw [show addL L n p.disk p.size p.root = L by unfold addL; rw [if_neg h31], show addN L n = n by unfold addN; rw [if_neg h31]]
      refine g_skip ?_
      refine g_seq ?_
      refine g_reg ?_
      refine g_v (v_move rfl) rfl ?_
      refine g_v (v_move rfl) rfl ?_
      refine g_v (v_assign rfl) rfl ?_
      refine g_v (v_assign rfl) rfl ?_
      refine g_nil ?_
      exact g_nonesK rfl (by unfold agnF; rw [hf]; simp only; rw [if_pos h31]) rfl rfl

theorem ct_T_TopAgain (l : List ActM) (f : Nat → ActZ) (s : Option Addr) (cap : Nat) (id : Int) (hl : l.length ≤ 9223372036854775807) (hla : ∀ x ∈ l, x.puts.length ≤ 9223372036854775807 ∧ x.changes.length ≤ 9223372036854775807) (F : List HProp) : Ct Tryz.prog 3 [sl s l.length cap, I id] ([tabsP false, acts s l f] ++ F) (R1 (Bo true) (tabsP false :: acts s l f :: F)) := by
  show Ct Tryz.prog 3 [sl s l.length cap, I id] (tabsP false :: acts s l f :: F) _
  refine Ct.of Tryz.func3 rfl 116 Tryz.ntmps3 (by simp) fun w0 => ?_
  refine g_seq ?_
  refine g_reg ?_
  refine g_v (v_assign rfl) rfl ?_
  refine g_nil ?_
  refine g_seq ?_
  refine g_reg ?_
  refine g_l (l_call (Pre := []) Tryz.call10 rfl (ct_T_vaulted)) rfl ?_
  rintro _ _ ⟨rfl, rfl⟩
  refine g_v (v_assign rfl) rfl ?_
  refine g_nil ?_
  refine g_seq ?_
  refine g_seq ?_
  refine g_reg ?_
  refine g_v (v_move rfl) rfl ?_
  refine g_v (v_not rfl) rfl ?_
  refine g_nil ?_
  refine g_false rfl ?_
  refine g_skip ?_
  refine g_seq ?_
  refine g_reg ?_
  refine g_v (v_move rfl) rfl ?_
  refine g_l (l_call (Pre := [acts s l f]) Tryz.call11 rfl (ct_T_filledC l f s cap hl hla)) rfl ?_
  rintro _ _ (⟨rfl, rfl⟩ | ⟨q, S, L, n, G, rfl, rfl, hC, hlight⟩)
  · skip
    refine g_v (v_move rfl) rfl ?_
    refine g_v (v_extract (v := .pointer none) rfl rfl) rfl ?_
    refine g_v (v_extract (v := Bo false) rfl rfl) rfl ?_
    refine g_v (v_assign rfl) rfl ?_
    refine g_v (v_assign rfl) rfl ?_
    refine g_nil ?_
    refine g_seq ?_
    refine g_seq ?_
    refine g_reg ?_
    refine g_v (v_move rfl) rfl ?_
    refine g_v (v_not rfl) rfl ?_
    refine g_nil ?_
    refine g_true rfl ?_
    refine g_seq ?_
    refine g_reg ?_
    refine g_v (v_assign rfl) rfl ?_
    refine g_nil ?_
    exact g_ret1 rfl rfl (by show Bo _ = Bo true; first | (rw [rows_next ⟨by have := hC.v.n1; omega, hn9⟩]; rfl) | simp)
  · have hlen := hC.v.len
    have hrow := rowsF_le (S := S) (n := n) hlen
    have hrow1 := rowsF_le (S := S) (n := n + 1) hlen
    refine g_v (v_move rfl) rfl ?_
    refine g_v (v_extract (v := ptr q 0) rfl rfl) rfl ?_
    refine g_v (v_extract (v := Bo true) rfl rfl) rfl ?_
    refine g_v (v_assign rfl) rfl ?_
    refine g_v (v_assign rfl) rfl ?_
    refine g_nil ?_
    refine g_seq ?_
    refine g_seq ?_
    refine g_reg ?_
    refine g_v (v_move rfl) rfl ?_
    refine g_v (v_not rfl) rfl ?_
    refine g_nil ?_
    refine g_false rfl ?_
    refine g_skip ?_
    refine g_seq ?_
    refine g_reg ?_
    refine g_v (v_move rfl) rfl ?_
    refine g_l (l_call (Pre := [vlt q S L n]) Tryz.call12 rfl (ct_vault_Vault_Copy q S L n (by omega))) rfl ?_
    rintro _ _ ⟨q1, rfl, rfl⟩
    refine g_v (v_assign rfl) rfl ?_
    refine g_nil ?_
    refine g_seq ?_
    refine g_reg ?_
    refine g_v (v_move rfl) rfl ?_
    refine g_v (v_move rfl) rfl ?_
    refine g_l (l_call (Pre := [vlt q1 S L n]) Tryz.call13 rfl (ct_vault_Vault_AgainK q1 S L n id G hC.v)) rfl ?_
    rintro v L' hv
    unfold vK at hv
    rcases hr : agnF S L n id with e0 | ⟨S1, L1, n1, r1⟩ <;> rw [hr] at hv <;> obtain ⟨rfl, rfl⟩ := hv
    · have he0 := agnF_err hr
      refine g_v (v_move rfl) rfl ?_
      refine g_v (v_extract (v := I 0) rfl rfl) rfl ?_
      refine g_v (v_extract (v := errT 89 e0) rfl rfl) rfl ?_
      refine g_v (v_assign rfl) rfl ?_
      refine g_v (v_assign rfl) rfl ?_
      refine g_nil ?_
      refine g_seq ?_
      refine g_seq ?_
      refine g_reg ?_
      refine g_v (v_move rfl) rfl ?_
      refine g_v (v_ineq (T := 89) (f := e0) Tryz.underlying29 rfl) rfl ?_
      refine g_nil ?_
      refine g_cond rfl (fun h33 => ?_) (fun h33 => ?_)
      · skip
        refine g_seq ?_
        refine g_reg ?_
        refine g_v (v_move rfl) rfl ?_
        refine g_v (v_eql rfl rfl) rfl ?_
        refine g_v (v_move rfl) rfl ?_
        refine g_gv1 rfl rfl rfl (v_move rfl) rfl ?_
        refine g_gl rfl rfl rfl (l_call (Pre := [tabsP false, vlt q S L n]) Tryz.call15 rfl (ct_image_Rows q S L n hC.sm)) rfl ?_
        rintro _ _ ⟨s38, c38, rfl, rfl⟩
        refine g_freeze s38 ?_
        refine g_gv1 rfl rfl rfl (v_move rfl) rfl ?_
        refine g_gl rfl rfl rfl (l_call (Pre := [tabsP false, vlt q1 S L n]) Tryz.call15 rfl (ct_image_Rows q1 S L n hC.sm)) rfl ?_
        rintro _ _ ⟨s40, c40, rfl, rfl⟩
        refine g_freeze s40 ?_
        refine g_gl rfl rfl rfl (l_call (Pre := [roL 3 s38 (chR (rowsF S L n)), roL 3 s40 (chR (rowsF S L n))]) Tryz.call14 rfl (ct_R_SameChanges (rowsF S L n) (rowsF S L n) s38 s40 c38 c40 (by omega) (by omega))) rfl ?_
        rintro _ _ ⟨rfl, rfl⟩
        refine g_v (v_pk1 rfl rfl rfl) rfl ?_
        refine g_v (v_assign rfl) rfl ?_
        refine g_nil ?_
        exact g_ret1 rfl rfl (by show Bo _ = Bo true; simp)
      · simp at h33
        omega
    · obtain ⟨p, hfp, e1, e2, e3, e4, hn9, eN, eB, hf1, hf2, hdr⟩ := agn_drp hC.v hr
      obtain ⟨G1, hC1⟩ := agnF_con hC hr
      subst e1 e2 e3
      have e4 := e4.symm
      subst e4
      have hps := hC.v.pts p (findP_some hfp).1
      obtain ⟨G2, hC2⟩ := drpF_con hC1 hdr
      refine g_v (v_move rfl) rfl ?_
      refine g_v (v_extract (v := I n) rfl rfl) rfl ?_
      refine g_v (v_extract (v := errT 89 0) rfl rfl) rfl ?_
      refine g_v (v_assign rfl) rfl ?_
      refine g_v (v_assign rfl) rfl ?_
      refine g_nil ?_
      refine g_seq ?_
      refine g_seq ?_
      refine g_reg ?_
      refine g_v (v_move rfl) rfl ?_
      refine g_v (v_ineq (T := 89) (f := 0) Tryz.underlying29 rfl) rfl ?_
      refine g_nil ?_
      refine g_cond rfl (fun h33 => ?_) (fun h33 => ?_)
      · simp at h33
      · skip
        refine g_skip ?_
        refine g_seq ?_
        refine g_reg ?_
        refine g_v (v_move rfl) rfl ?_
        refine g_v (v_move rfl) rfl ?_
        refine g_l (l_call (Pre := [vlt q1 (shareS S p.root) (L ++ [(⟨n, p.disk, p.size, p.root⟩ : Pt)]) (n + 1)]) Tryz.call16 rfl (ct_T_blocks q1 (shareS S p.root) (L ++ [(⟨n, p.disk, p.size, p.root⟩ : Pt)]) (n + 1) id G1 hC1.v)) rfl ?_
        rintro v L' hv
        unfold RBlk at hv
        rw [hf1] at hv
        obtain ⟨s47, c47, rfl, rfl⟩ := hv
        refine g_freeze s47 ?_
        refine g_v (v_move rfl) rfl ?_
        refine g_v (v_extract (v := sl s47 (blk (shareS S p.root) p).length c47) rfl rfl) rfl ?_
        refine g_v (v_extract (v := Bo true) rfl rfl) rfl ?_
        refine g_v (v_assign rfl) rfl ?_
        refine g_v (v_assign rfl) rfl ?_
        refine g_nil ?_
        refine g_seq ?_
        refine g_reg ?_
        refine g_v (v_move rfl) rfl ?_
        refine g_v (v_move rfl) rfl ?_
        refine g_l (l_call (Pre := [vlt q1 (shareS S p.root) (L ++ [(⟨n, p.disk, p.size, p.root⟩ : Pt)]) (n + 1)]) Tryz.call16 rfl (ct_T_blocks q1 (shareS S p.root) (L ++ [(⟨n, p.disk, p.size, p.root⟩ : Pt)]) (n + 1) n G1 hC1.v)) rfl ?_
        rintro v L' hv
        unfold RBlk at hv
        rw [hf2] at hv
        obtain ⟨s53, c53, rfl, rfl⟩ := hv
        refine g_freeze s53 ?_
        refine g_v (v_move rfl) rfl ?_
        refine g_v (v_extract (v := sl s53 (blk (shareS S p.root) (⟨n, p.disk, p.size, p.root⟩ : Pt)).length c53) rfl rfl) rfl ?_
        refine g_v (v_extract (v := Bo true) rfl rfl) rfl ?_
        refine g_v (v_assign rfl) rfl ?_
        refine g_v (v_assign rfl) rfl ?_
        refine g_nil ?_
        refine g_seq ?_
        refine g_seq ?_
        refine g_cut (α := Unit) (fun _ => True) (fun _ => U [(6, ptr q 0), (7, ptr q1 0), (108, Bo false)]) (fun _ => vlt q1 S L (n + 1) :: vlt q S L n :: tabsP false :: acts s l f :: F) ?_ ?_
        · skip
          refine g_openV q1 (shareS S p.root) (L ++ [(⟨n, p.disk, p.size, p.root⟩ : Pt)]) (n + 1) ?_
          intro x1 y1 z1
          refine g_openX x1 (shareS S p.root) ?_
          intro p1 r1
          refine g_openV q S L n ?_
          intro x0 y0 z0
          refine g_openX x0 S ?_
          intro p0 r0
          refine g_drawT (Lf := [pt q (.cells #[ptr x0 0, sl y0 L.length z0, I n] 47 (0, 0))]) (.q 0 (.q 1 (.q 2 (.q 3 (.q 4 (.q 5 (.q 6 (.q 7 (.q 8 (.l 9 (.q 10 (.q 11 (.q 12 (.q 13 (.q 14 (.q 15 (.q 22 (.q 23 (.q 24 (.q 25 (.q 26 (.q 27 (.alt (.l 16 (.q 17 (.q 18 (.alt (.l 19 (.alt (.l 20 (.q 21 (.l 28 (.l 29 (.q 30 (.q 31 (.q 32 (.q 33 (.q 34 (.q 35 (.q 36 (.q 40 (.q 41 (.q 42 (.q 43 (.l 37 (.l 38 (.q 39 (.l 44 (.q 45 (.q 46 (.q 47 (.q 48 (.q 49 (.q 50 (.l 51 (.q 52 (.q 53 (.nil))))))))))))))))))))))))))))) (.l 28 (.l 20 (.q 21 (.l 29 (.q 30 (.q 31 (.q 32 (.q 33 (.q 34 (.q 35 (.q 36 (.q 40 (.q 41 (.q 42 (.q 43 (.l 37 (.l 38 (.q 39 (.l 44 (.q 45 (.q 46 (.q 47 (.q 48 (.q 49 (.q 50 (.l 51 (.q 52 (.q 53 (.nil))))))))))))))))))))))))))))))) (.l 28 (.l 19 (.l 20 (.q 21 (.l 29 (.q 30 (.q 31 (.q 32 (.q 33 (.q 34 (.q 35 (.q 36 (.q 40 (.q 41 (.q 42 (.q 43 (.l 37 (.l 38 (.q 39 (.l 44 (.q 45 (.q 46 (.q 47 (.q 48 (.q 49 (.q 50 (.l 51 (.q 52 (.q 53 (.nil)))))))))))))))))))))))))))))))))) (.l 28 (.l 16 (.q 17 (.q 18 (.l 19 (.l 20 (.q 21 (.l 29 (.q 30 (.q 31 (.q 32 (.q 33 (.q 34 (.q 35 (.q 36 (.q 40 (.q 41 (.q 42 (.q 43 (.l 37 (.l 38 (.q 39 (.l 44 (.q 45 (.q 46 (.q 47 (.q 48 (.q 49 (.q 50 (.l 51 (.q 52 (.q 53 (.nil)))))))))))))))))))))))))))))))))))))))))))))))))))))))) (by kernel_rfl) (by kernel_rfl) (by kernel_rfl) ?_
          refine t_v rfl (v_move rfl) rfl ?_
          refine t_v rfl (v_not rfl) rfl ?_
          refine t_v rfl (v_move rfl) rfl ?_
          refine t_gv1 rfl rfl rfl rfl (v_move rfl) rfl ?_
          refine t_gv1 rfl rfl rfl rfl (v_not rfl) rfl ?_
          refine t_v rfl (v_pk2 rfl rfl rfl) rfl ?_
          refine t_v rfl (v_move rfl) rfl ?_
          refine t_gv1 rfl rfl rfl rfl (v_move rfl) rfl ?_
          refine t_gv1 rfl rfl rfl rfl (v_move rfl) rfl ?_
          refine t_gl rfl rfl rfl rfl (l_call (Pre := [roL 1 s47 (strR (blk (shareS S p.root) p)), roL 1 s53 (strR (blk (shareS S p.root) (⟨n, p.disk, p.size, p.root⟩ : Pt)))]) Tryz.call17 rfl (ct_R_SameTexts (blk (shareS S p.root) p) (blk (shareS S p.root) (⟨n, p.disk, p.size, p.root⟩ : Pt)) s47 s53 c47 c53 (by simp [blk]; omega))) rfl ?_
          rintro _ _ ⟨rfl, rfl⟩
          rw [decide_eq_true (show blk (shareS S p.root) p = blk (shareS S p.root) (⟨n, p.disk, p.size, p.root⟩ : Pt) from rfl)]
          refine t_gv1 rfl rfl rfl rfl (v_not rfl) rfl ?_
          refine t_v rfl (v_pk2 rfl rfl rfl) rfl ?_
          refine t_v rfl (v_move rfl) rfl ?_
          refine t_gv1 rfl rfl rfl rfl (v_move rfl) rfl ?_
          refine t_gv1 rfl rfl rfl rfl (v_nilCheck rfl) rfl ?_
          refine t_gv1 rfl rfl rfl rfl (v_fieldAddr 0 Tryz.underlying47 rfl rfl Tryz.sizeOf44 (by decide) rfl) rfl ?_
          refine t_gv1 rfl rfl rfl rfl (v_move rfl) rfl ?_
          refine t_gv1 rfl rfl rfl rfl (v_nilCheck rfl) rfl ?_
          refine t_gv1 rfl rfl rfl rfl (v_fieldAddr 0 Tryz.underlying47 rfl rfl Tryz.sizeOf44 (by decide) rfl) rfl ?_
          refine t_gv1 rfl rfl rfl rfl (v_load (v := ptr x0 0) Tryz.isAgg44 rfl rfl) rfl ?_
          refine t_gv1 rfl rfl rfl rfl (v_nilCheck rfl) rfl ?_
          refine t_gv1 rfl rfl rfl rfl (v_fieldAddr 0 Tryz.underlying43 rfl rfl Tryz.sizeOf40 (by decide) rfl) rfl ?_
          refine t_alt ?_ ?_
          · skip
            refine t_gl rfl rfl rfl rfl (OpL.ofVl (v_load (v := ptr x1 0) Tryz.isAgg44 rfl rfl)) rfl ?_
            rintro _ _ ⟨rfl, rfl⟩
            refine t_gv1 rfl rfl rfl rfl (v_nilCheck rfl) rfl ?_
            refine t_gv1 rfl rfl rfl rfl (v_fieldAddr 0 Tryz.underlying43 rfl rfl Tryz.sizeOf40 (by decide) rfl) rfl ?_
            refine t_alt ?_ ?_
            · skip
              refine t_gl rfl rfl rfl rfl (OpL.ofVl (v_load (v := ptr p1 0) Tryz.isAgg40 rfl rfl)) rfl ?_
              rintro _ _ ⟨rfl, rfl⟩
              refine t_alt ?_ ?_
              · skip
                refine t_gl rfl rfl rfl rfl (l_call (Pre := [plb p1 (shareS S p.root).B]) Tryz.call18 rfl (ct_pool_Numbers p1 (shareS S p.root).B)) rfl ?_
                rintro _ _ ⟨s75, c75, rfl, rfl⟩
                rw [eB]
                refine t_gv1 rfl rfl rfl rfl (v_len Tryz.underlying39 rfl) rfl ?_
                refine t_gl rfl rfl rfl rfl (OpL.ofVl (v_load (v := ptr p0 0) Tryz.isAgg40 rfl rfl)) rfl ?_
                rintro _ _ ⟨rfl, rfl⟩
                refine t_gl rfl rfl rfl rfl (l_call (Pre := [plb p0 S.B]) Tryz.call18 rfl (ct_pool_Numbers p0 S.B)) rfl ?_
                rintro _ _ ⟨s84, c84, rfl, rfl⟩
                refine g_shutX p1 r1 x1 (shareS S p.root) (.refl _) ?_
                refine g_shutX p0 r0 x0 S (.refl _) ?_
                refine t_gv1 rfl rfl rfl rfl (v_len Tryz.underlying39 rfl) rfl ?_
                refine t_gv1 rfl rfl rfl rfl (v_neq rfl rfl) rfl ?_
                refine t_v rfl (v_pk2 rfl rfl rfl) rfl ?_
                refine t_v rfl (v_move rfl) rfl ?_
                refine t_gv1 rfl rfl rfl (by simp) (v_move rfl) rfl ?_
                refine t_gv1 rfl rfl rfl (by simp) (v_nilCheck rfl) rfl ?_
                refine t_gv1 rfl rfl rfl (by simp) (v_fieldAddr 0 Tryz.underlying47 rfl rfl Tryz.sizeOf44 (by decide) rfl) rfl ?_
                refine t_gv1 rfl rfl rfl (by simp) (v_move rfl) rfl ?_
                refine t_gv1 rfl rfl rfl (by simp) (v_nilCheck rfl) rfl ?_
                refine t_gv1 rfl rfl rfl (by simp) (v_fieldAddr 0 Tryz.underlying47 rfl rfl Tryz.sizeOf44 (by decide) rfl) rfl ?_
                refine t_gv1 rfl rfl rfl (by simp) (v_load (v := ptr x0 0) Tryz.isAgg44 rfl rfl) rfl ?_
                refine t_gl rfl rfl rfl (by simp) (OpL.ofVl (v_load (v := ptr x1 0) Tryz.isAgg44 rfl rfl)) rfl ?_
                rintro _ _ ⟨rfl, rfl⟩
                refine t_gl rfl rfl rfl (by simp) (l_call (Pre := [ixl x1 (shareS S p.root)]) Tryz.call19 rfl (ct_index_Numbers x1 (shareS S p.root))) rfl ?_
                rintro _ _ ⟨s93, c93, rfl, rfl⟩
                rw [eN]
                refine t_gv1 rfl rfl rfl (by simp) (v_len Tryz.underlying39 rfl) rfl ?_
                refine t_gl rfl rfl rfl (by simp) (l_call (Pre := [ixl x0 S]) Tryz.call19 rfl (ct_index_Numbers x0 S)) rfl ?_
                rintro _ _ ⟨s99, c99, rfl, rfl⟩
                refine g_shutV q1 x1 y1 z1 (shareS S p.root) (L ++ [(⟨n, p.disk, p.size, p.root⟩ : Pt)]) (n + 1) ?_
                refine t_gv1 rfl rfl rfl (by simp) (v_len Tryz.underlying39 rfl) rfl ?_
                refine t_gv1 rfl rfl rfl (by simp) (v_neq rfl rfl) rfl ?_
                refine t_v rfl (v_pk2 rfl (by simp) rfl) rfl ?_
                refine t_v rfl (v_move rfl) rfl ?_
                refine t_gv1 rfl rfl rfl (by simp) (v_move rfl) rfl ?_
                refine t_gv1 rfl rfl rfl (by simp) (v_move rfl) rfl ?_
                refine t_gl rfl rfl rfl (by simp) (l_call (Pre := [vlt q1 (shareS S p.root) (L ++ [(⟨n, p.disk, p.size, p.root⟩ : Pt)]) (n + 1)]) Tryz.call20 rfl (ct_vault_Vault_Drop q1 (shareS S p.root) (L ++ [(⟨n, p.disk, p.size, p.root⟩ : Pt)]) (n + 1) n G1 hC1.v)) rfl ?_
                rintro v L' hv
                unfold vR1 at hv
                rw [hdr] at hv
                obtain ⟨rfl, rfl⟩ := hv
                refine t_gv1 rfl rfl rfl (by simp) (v_ineq (T := 89) (f := 0) Tryz.underlying29 rfl) rfl ?_
                refine t_v rfl (v_pk2 rfl (by simp) rfl) rfl ?_
                refine t_nil ?_
                refine g_shutV q x0 y0 z0 S L n ?_
                exact g_here () trivial [6, 7, 108] rfl (by simp [U])
              · skip
                refine t_gl rfl rfl rfl rfl (OpL.ofVl (v_load (v := ptr p0 0) Tryz.isAgg40 rfl rfl)) rfl ?_
                rintro _ _ ⟨rfl, rfl⟩
                refine t_gl rfl rfl rfl rfl (l_call (Pre := [plb p1 (shareS S p.root).B]) Tryz.call18 rfl (ct_pool_Numbers p1 (shareS S p.root).B)) rfl ?_
                rintro _ _ ⟨s75, c75, rfl, rfl⟩
                rw [eB]
                refine t_gv1 rfl rfl rfl rfl (v_len Tryz.underlying39 rfl) rfl ?_
                refine t_gl rfl rfl rfl rfl (l_call (Pre := [plb p0 S.B]) Tryz.call18 rfl (ct_pool_Numbers p0 S.B)) rfl ?_
                rintro _ _ ⟨s84, c84, rfl, rfl⟩
                refine g_shutX p1 r1 x1 (shareS S p.root) (.refl _) ?_
                refine g_shutX p0 r0 x0 S (.refl _) ?_
                refine t_gv1 rfl rfl rfl rfl (v_len Tryz.underlying39 rfl) rfl ?_
                refine t_gv1 rfl rfl rfl rfl (v_neq rfl rfl) rfl ?_
                refine t_v rfl (v_pk2 rfl rfl rfl) rfl ?_
                refine t_v rfl (v_move rfl) rfl ?_
                refine t_gv1 rfl rfl rfl (by simp) (v_move rfl) rfl ?_
                refine t_gv1 rfl rfl rfl (by simp) (v_nilCheck rfl) rfl ?_
                refine t_gv1 rfl rfl rfl (by simp) (v_fieldAddr 0 Tryz.underlying47 rfl rfl Tryz.sizeOf44 (by decide) rfl) rfl ?_
                refine t_gv1 rfl rfl rfl (by simp) (v_move rfl) rfl ?_
                refine t_gv1 rfl rfl rfl (by simp) (v_nilCheck rfl) rfl ?_
                refine t_gv1 rfl rfl rfl (by simp) (v_fieldAddr 0 Tryz.underlying47 rfl rfl Tryz.sizeOf44 (by decide) rfl) rfl ?_
                refine t_gv1 rfl rfl rfl (by simp) (v_load (v := ptr x0 0) Tryz.isAgg44 rfl rfl) rfl ?_
                refine t_gl rfl rfl rfl (by simp) (OpL.ofVl (v_load (v := ptr x1 0) Tryz.isAgg44 rfl rfl)) rfl ?_
                rintro _ _ ⟨rfl, rfl⟩
                refine t_gl rfl rfl rfl (by simp) (l_call (Pre := [ixl x1 (shareS S p.root)]) Tryz.call19 rfl (ct_index_Numbers x1 (shareS S p.root))) rfl ?_
                rintro _ _ ⟨s93, c93, rfl, rfl⟩
                rw [eN]
                refine t_gv1 rfl rfl rfl (by simp) (v_len Tryz.underlying39 rfl) rfl ?_
                refine t_gl rfl rfl rfl (by simp) (l_call (Pre := [ixl x0 S]) Tryz.call19 rfl (ct_index_Numbers x0 S)) rfl ?_
                rintro _ _ ⟨s99, c99, rfl, rfl⟩
                refine g_shutV q1 x1 y1 z1 (shareS S p.root) (L ++ [(⟨n, p.disk, p.size, p.root⟩ : Pt)]) (n + 1) ?_
                refine t_gv1 rfl rfl rfl (by simp) (v_len Tryz.underlying39 rfl) rfl ?_
                refine t_gv1 rfl rfl rfl (by simp) (v_neq rfl rfl) rfl ?_
                refine t_v rfl (v_pk2 rfl (by simp) rfl) rfl ?_
                refine t_v rfl (v_move rfl) rfl ?_
                refine t_gv1 rfl rfl rfl (by simp) (v_move rfl) rfl ?_
                refine t_gv1 rfl rfl rfl (by simp) (v_move rfl) rfl ?_
                refine t_gl rfl rfl rfl (by simp) (l_call (Pre := [vlt q1 (shareS S p.root) (L ++ [(⟨n, p.disk, p.size, p.root⟩ : Pt)]) (n + 1)]) Tryz.call20 rfl (ct_vault_Vault_Drop q1 (shareS S p.root) (L ++ [(⟨n, p.disk, p.size, p.root⟩ : Pt)]) (n + 1) n G1 hC1.v)) rfl ?_
                rintro v L' hv
                unfold vR1 at hv
                rw [hdr] at hv
                obtain ⟨rfl, rfl⟩ := hv
                refine t_gv1 rfl rfl rfl (by simp) (v_ineq (T := 89) (f := 0) Tryz.underlying29 rfl) rfl ?_
                refine t_v rfl (v_pk2 rfl (by simp) rfl) rfl ?_
                refine t_nil ?_
                refine g_shutV q x0 y0 z0 S L n ?_
                exact g_here () trivial [6, 7, 108] rfl (by simp [U])
            · skip
              refine t_gl rfl rfl rfl rfl (OpL.ofVl (v_load (v := ptr p0 0) Tryz.isAgg40 rfl rfl)) rfl ?_
              rintro _ _ ⟨rfl, rfl⟩
              refine t_gl rfl rfl rfl rfl (OpL.ofVl (v_load (v := ptr p1 0) Tryz.isAgg40 rfl rfl)) rfl ?_
              rintro _ _ ⟨rfl, rfl⟩
              refine t_gl rfl rfl rfl rfl (l_call (Pre := [plb p1 (shareS S p.root).B]) Tryz.call18 rfl (ct_pool_Numbers p1 (shareS S p.root).B)) rfl ?_
              rintro _ _ ⟨s75, c75, rfl, rfl⟩
              rw [eB]
              refine t_gv1 rfl rfl rfl rfl (v_len Tryz.underlying39 rfl) rfl ?_
              refine t_gl rfl rfl rfl rfl (l_call (Pre := [plb p0 S.B]) Tryz.call18 rfl (ct_pool_Numbers p0 S.B)) rfl ?_
              rintro _ _ ⟨s84, c84, rfl, rfl⟩
              refine g_shutX p1 r1 x1 (shareS S p.root) (.refl _) ?_
              refine g_shutX p0 r0 x0 S (.refl _) ?_
              refine t_gv1 rfl rfl rfl rfl (v_len Tryz.underlying39 rfl) rfl ?_
              refine t_gv1 rfl rfl rfl rfl (v_neq rfl rfl) rfl ?_
              refine t_v rfl (v_pk2 rfl rfl rfl) rfl ?_
              refine t_v rfl (v_move rfl) rfl ?_
              refine t_gv1 rfl rfl rfl (by simp) (v_move rfl) rfl ?_
              refine t_gv1 rfl rfl rfl (by simp) (v_nilCheck rfl) rfl ?_
              refine t_gv1 rfl rfl rfl (by simp) (v_fieldAddr 0 Tryz.underlying47 rfl rfl Tryz.sizeOf44 (by decide) rfl) rfl ?_
              refine t_gv1 rfl rfl rfl (by simp) (v_move rfl) rfl ?_
              refine t_gv1 rfl rfl rfl (by simp) (v_nilCheck rfl) rfl ?_
              refine t_gv1 rfl rfl rfl (by simp) (v_fieldAddr 0 Tryz.underlying47 rfl rfl Tryz.sizeOf44 (by decide) rfl) rfl ?_
              refine t_gv1 rfl rfl rfl (by simp) (v_load (v := ptr x0 0) Tryz.isAgg44 rfl rfl) rfl ?_
              refine t_gl rfl rfl rfl (by simp) (OpL.ofVl (v_load (v := ptr x1 0) Tryz.isAgg44 rfl rfl)) rfl ?_
              rintro _ _ ⟨rfl, rfl⟩
              refine t_gl rfl rfl rfl (by simp) (l_call (Pre := [ixl x1 (shareS S p.root)]) Tryz.call19 rfl (ct_index_Numbers x1 (shareS S p.root))) rfl ?_
              rintro _ _ ⟨s93, c93, rfl, rfl⟩
              rw [eN]
              refine t_gv1 rfl rfl rfl (by simp) (v_len Tryz.underlying39 rfl) rfl ?_
              refine t_gl rfl rfl rfl (by simp) (l_call (Pre := [ixl x0 S]) Tryz.call19 rfl (ct_index_Numbers x0 S)) rfl ?_
              rintro _ _ ⟨s99, c99, rfl, rfl⟩
              refine g_shutV q1 x1 y1 z1 (shareS S p.root) (L ++ [(⟨n, p.disk, p.size, p.root⟩ : Pt)]) (n + 1) ?_
              refine t_gv1 rfl rfl rfl (by simp) (v_len Tryz.underlying39 rfl) rfl ?_
              refine t_gv1 rfl rfl rfl (by simp) (v_neq rfl rfl) rfl ?_
              refine t_v rfl (v_pk2 rfl (by simp) rfl) rfl ?_
              refine t_v rfl (v_move rfl) rfl ?_
              refine t_gv1 rfl rfl rfl (by simp) (v_move rfl) rfl ?_
              refine t_gv1 rfl rfl rfl (by simp) (v_move rfl) rfl ?_
              refine t_gl rfl rfl rfl (by simp) (l_call (Pre := [vlt q1 (shareS S p.root) (L ++ [(⟨n, p.disk, p.size, p.root⟩ : Pt)]) (n + 1)]) Tryz.call20 rfl (ct_vault_Vault_Drop q1 (shareS S p.root) (L ++ [(⟨n, p.disk, p.size, p.root⟩ : Pt)]) (n + 1) n G1 hC1.v)) rfl ?_
              rintro v L' hv
              unfold vR1 at hv
              rw [hdr] at hv
              obtain ⟨rfl, rfl⟩ := hv
              refine t_gv1 rfl rfl rfl (by simp) (v_ineq (T := 89) (f := 0) Tryz.underlying29 rfl) rfl ?_
              refine t_v rfl (v_pk2 rfl (by simp) rfl) rfl ?_
              refine t_nil ?_
              refine g_shutV q x0 y0 z0 S L n ?_
              exact g_here () trivial [6, 7, 108] rfl (by simp [U])
          · skip
            refine t_gl rfl rfl rfl rfl (OpL.ofVl (v_load (v := ptr p0 0) Tryz.isAgg40 rfl rfl)) rfl ?_
            rintro _ _ ⟨rfl, rfl⟩
            refine t_gl rfl rfl rfl rfl (OpL.ofVl (v_load (v := ptr x1 0) Tryz.isAgg44 rfl rfl)) rfl ?_
            rintro _ _ ⟨rfl, rfl⟩
            refine t_gv1 rfl rfl rfl rfl (v_nilCheck rfl) rfl ?_
            refine t_gv1 rfl rfl rfl rfl (v_fieldAddr 0 Tryz.underlying43 rfl rfl Tryz.sizeOf40 (by decide) rfl) rfl ?_
            refine t_gl rfl rfl rfl rfl (OpL.ofVl (v_load (v := ptr p1 0) Tryz.isAgg40 rfl rfl)) rfl ?_
            rintro _ _ ⟨rfl, rfl⟩
            refine t_gl rfl rfl rfl rfl (l_call (Pre := [plb p1 (shareS S p.root).B]) Tryz.call18 rfl (ct_pool_Numbers p1 (shareS S p.root).B)) rfl ?_
            rintro _ _ ⟨s75, c75, rfl, rfl⟩
            rw [eB]
            refine t_gv1 rfl rfl rfl rfl (v_len Tryz.underlying39 rfl) rfl ?_
            refine t_gl rfl rfl rfl rfl (l_call (Pre := [plb p0 S.B]) Tryz.call18 rfl (ct_pool_Numbers p0 S.B)) rfl ?_
            rintro _ _ ⟨s84, c84, rfl, rfl⟩
            refine g_shutX p1 r1 x1 (shareS S p.root) (.refl _) ?_
            refine g_shutX p0 r0 x0 S (.refl _) ?_
            refine t_gv1 rfl rfl rfl rfl (v_len Tryz.underlying39 rfl) rfl ?_
            refine t_gv1 rfl rfl rfl rfl (v_neq rfl rfl) rfl ?_
            refine t_v rfl (v_pk2 rfl rfl rfl) rfl ?_
            refine t_v rfl (v_move rfl) rfl ?_
            refine t_gv1 rfl rfl rfl (by simp) (v_move rfl) rfl ?_
            refine t_gv1 rfl rfl rfl (by simp) (v_nilCheck rfl) rfl ?_
            refine t_gv1 rfl rfl rfl (by simp) (v_fieldAddr 0 Tryz.underlying47 rfl rfl Tryz.sizeOf44 (by decide) rfl) rfl ?_
            refine t_gv1 rfl rfl rfl (by simp) (v_move rfl) rfl ?_
            refine t_gv1 rfl rfl rfl (by simp) (v_nilCheck rfl) rfl ?_
            refine t_gv1 rfl rfl rfl (by simp) (v_fieldAddr 0 Tryz.underlying47 rfl rfl Tryz.sizeOf44 (by decide) rfl) rfl ?_
            refine t_gv1 rfl rfl rfl (by simp) (v_load (v := ptr x0 0) Tryz.isAgg44 rfl rfl) rfl ?_
            refine t_gl rfl rfl rfl (by simp) (OpL.ofVl (v_load (v := ptr x1 0) Tryz.isAgg44 rfl rfl)) rfl ?_
            rintro _ _ ⟨rfl, rfl⟩
            refine t_gl rfl rfl rfl (by simp) (l_call (Pre := [ixl x1 (shareS S p.root)]) Tryz.call19 rfl (ct_index_Numbers x1 (shareS S p.root))) rfl ?_
            rintro _ _ ⟨s93, c93, rfl, rfl⟩
            rw [eN]
            refine t_gv1 rfl rfl rfl (by simp) (v_len Tryz.underlying39 rfl) rfl ?_
            refine t_gl rfl rfl rfl (by simp) (l_call (Pre := [ixl x0 S]) Tryz.call19 rfl (ct_index_Numbers x0 S)) rfl ?_
            rintro _ _ ⟨s99, c99, rfl, rfl⟩
            refine g_shutV q1 x1 y1 z1 (shareS S p.root) (L ++ [(⟨n, p.disk, p.size, p.root⟩ : Pt)]) (n + 1) ?_
            refine t_gv1 rfl rfl rfl (by simp) (v_len Tryz.underlying39 rfl) rfl ?_
            refine t_gv1 rfl rfl rfl (by simp) (v_neq rfl rfl) rfl ?_
            refine t_v rfl (v_pk2 rfl (by simp) rfl) rfl ?_
            refine t_v rfl (v_move rfl) rfl ?_
            refine t_gv1 rfl rfl rfl (by simp) (v_move rfl) rfl ?_
            refine t_gv1 rfl rfl rfl (by simp) (v_move rfl) rfl ?_
            refine t_gl rfl rfl rfl (by simp) (l_call (Pre := [vlt q1 (shareS S p.root) (L ++ [(⟨n, p.disk, p.size, p.root⟩ : Pt)]) (n + 1)]) Tryz.call20 rfl (ct_vault_Vault_Drop q1 (shareS S p.root) (L ++ [(⟨n, p.disk, p.size, p.root⟩ : Pt)]) (n + 1) n G1 hC1.v)) rfl ?_
            rintro v L' hv
            unfold vR1 at hv
            rw [hdr] at hv
            obtain ⟨rfl, rfl⟩ := hv
            refine t_gv1 rfl rfl rfl (by simp) (v_ineq (T := 89) (f := 0) Tryz.underlying29 rfl) rfl ?_
            refine t_v rfl (v_pk2 rfl (by simp) rfl) rfl ?_
            refine t_nil ?_
            refine g_shutV q x0 y0 z0 S L n ?_
            exact g_here () trivial [6, 7, 108] rfl (by simp [U])
        rintro _ _
        refine g_cond rfl (fun h108 => ?_) (fun h108 => ?_)
        · cases h108
        · skip
          refine g_skip ?_
          refine g_seq ?_
          refine g_reg ?_
          refine g_v (v_move rfl) rfl ?_
          refine g_l (l_call (Pre := [tabsP false, vlt q S L n]) Tryz.call15 rfl (ct_image_Rows q S L n hC.sm)) rfl ?_
          rintro _ _ ⟨s110, c110, rfl, rfl⟩
          refine g_freeze s110 ?_
          refine g_v (v_move rfl) rfl ?_
          refine g_l (l_call (Pre := [tabsP false, vlt q1 S L (n + 1)]) Tryz.call15 rfl (ct_image_Rows q1 S L (n + 1) hC2.sm)) rfl ?_
          rintro _ _ ⟨s112, c112, rfl, rfl⟩
          refine g_freeze s112 ?_
          refine g_l (l_call (Pre := [roL 3 s110 (chR (rowsF S L n)), roL 3 s112 (chR (rowsF S L (n + 1)))]) Tryz.call21 rfl (ct_image_Changes (rowsF S L n) (rowsF S L (n + 1)) s110 s112 c110 c112 (by omega) (by omega) (srt_rows hC.wr) (srt_rows hC2.wr))) rfl ?_
          rintro _ _ ⟨s113, c113, rfl, rfl⟩
          refine g_v (v_len Tryz.underlying33 rfl) rfl ?_
          refine g_v (v_eql rfl rfl) rfl ?_
          refine g_v (v_assign rfl) rfl ?_
          refine g_nil ?_
          exact g_ret1 rfl rfl (by show Bo _ = Bo true; first | (rw [rows_next ⟨by have := hC.v.n1; omega, hn9⟩]; rfl) | simp)

end Go.Proofs.YthdjckbjjfiopacGreatDoor
