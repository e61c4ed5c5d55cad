/- Walks: a vault filled by actions. No condition. -/
import Derived.Test.YthdjckbjjfiopacGreatDoorVa2
import Derived.Test.YthdjckbjjfiopacGreatDoorLight2
import Derived.Test.YthdjckbjjfiopacGreatDoorNums
namespace Go.Proofs.YthdjckbjjfiopacGreatDoor
open Go.Sl Go.Proofs
set_option linter.unusedVariables false
set_option linter.unusedSimpArgs false
def kIng : Bytes := [105, 110, 103, 101, 115, 116]
def kAgn : Bytes := [97, 103, 97, 105, 110]
def kDrp : Bytes := [100, 114, 111, 112]
def fillF (S : SI) (L : List Pt) (n : Int) (x : ActM) : VR := if x.kind = kIng then ingF S L n x.a x.b x.c x.puts else if x.kind = kAgn then agnF S L n x.a else if x.kind = kDrp then drpF S L n x.a else .ok (S, L, n, 0)
def fillR (S : SI) (L : List Pt) (n : Int) (x : ActM) : SI × List Pt × Int := match fillF S L n x with
  | .ok (S', L', n', _) => (S', L', n')
  | .error _ => (S, L, n)
theorem agnF_err {S : SI} {L : List Pt} {n id e : Int} (h : agnF S L n id = .error e) : 0 < e := by
  unfold agnF at h
  split at h
  · injection h with h; omega
  · split at h
    · injection h with h; have := addE_nn L n; omega
    · cases h
theorem drpF_err {S : SI} {L : List Pt} {n id e : Int} (h : drpF S L n id = .error e) : 0 < e := by
  unfold drpF at h
  split at h
  · injection h with h; omega
  · cases h
theorem fillR_err {S : SI} {L : List Pt} {n : Int} {x : ActM} {e : Int} (h : fillF S L n x = .error e) : fillR S L n x = (S, L, n) := by unfold fillR; rw [h]
theorem fillR_ok {S : SI} {L : List Pt} {n : Int} {x : ActM} {S' : SI} {L' : List Pt} {n' r : Int} (h : fillF S L n x = .ok (S', L', n', r)) : fillR S L n x = (S', L', n') := by unfold fillR; rw [h]
/-- the blocks of a point -/
def blk (S : SI) (p : Pt) : List Bytes := (List.range p.size.toNat).map (getS S p.root)
theorem lightPu {l : List ActM} {m : Int} {x : ActM} (h : lightA l m = true) (hx : x ∈ l) : x.puts.length ≤ 24 ∧ ∀ p ∈ x.puts, p.data.length ≤ 20 := by
  unfold lightA at h
  simp only [Bool.and_eq_true, List.all_eq_true] at h
  have := h.2 x hx
  unfold lightA1 at this
  simp only [Bool.and_eq_true, decide_eq_true_eq, List.all_eq_true] at this
  refine ⟨by have := this.1.1.2; omega, fun p hp => ?_⟩
  have h2 := this.2 p hp
  unfold lightP at h2
  simpa using h2
def RFill (S : SI) (L : List Pt) (n : Int) (x : ActM) (F : List HProp) : Value → List HProp → Prop := fun v L' => ∃ q, v = ptr q 0 ∧ L' = vlt q (fillR S L n x).1 (fillR S L n x).2.1 (fillR S L n x).2.2 :: F
def RBlk (b : Nat) (S : SI) (L : List Pt) (n id : Int) (F : List HProp) : Value → List HProp → Prop := fun v L' => match findP L id with
  | none => v = .tuple #[sl none 0 0, Bo false] ∧ L' = vlt b S L n :: F
  | some p => ∃ s c, v = .tuple #[sl s (blk S p).length c, Bo true] ∧ L' = owL 9 1 s c (strR (blk S p)) :: vlt b S L n :: F
section
variable {c : Cx} {E : Env} {L : List HProp} {K : List KI}
theorem g_retFill {S : SI} {P : List Pt} {n : Int} {x : ActM} {F : List HProp} {vs : List Value} {q : Nat} {S1 : SI} {P1 : List Pt} {n1 : Int} (hR : c.R = RFill S P n x F) (hf : fillR S P n x = (S1, P1, n1)) (hr : resOf E c.fn.results.toList = some vs) (hv : tup vs = ptr q 0) [Su : Sub L (vlt q S1 P1 n1 :: F)] (hds : c.n.ds = [] := by rfl) : G c (.code .ret :: K) E L :=
  fun a w hE hS => wp_ret (kq_ret (res_fpost (hds := hds) hr hE (Su.sat hS) (by rw [hR]; exact ⟨q, hv, by rw [hf]⟩)))
end
theorem vzF : (match ingF (mkG gZ) [] 1 0 1 4 [⟨2, [120]⟩] with | .ok z => decide (z.2.2.2 = 1) | .error _ => false) = true := by decide +kernel
theorem vz : ∃ S L n G root, ingF (mkG gZ) [] 1 0 1 4 [⟨2, [120]⟩] = .ok (S, L, n, 1) ∧ Vok S L n G ∧ L = [⟨1, 1, 4, root⟩] ∧ getS S root 2 = [120] := by
  have h := vzF
  cases hr : ingF (mkG gZ) [] 1 0 1 4 [⟨2, [120]⟩] with
  | error e => rw [hr] at h; cases h
  | ok z =>
    obtain ⟨S, L, n, r⟩ := z
    obtain ⟨G, root, hV, _, e1, e2, e3, _, _, _, g⟩ := ingF_ok Vok_z hr
    subst e3
    refine ⟨S, L, n, G, root, rfl, hV, e1, ?_⟩
    rw [g 2 (by decide)]
    rfl
theorem bldPut (n : Int) (s : Bytes) (w : World) : (Instr.build 81 #[(0, I n), (1, Str s)]).run Tryz.prog w = .ok (.agg (encP ⟨n, s⟩).toArray) w := by
  simp [Instr.build, Tryz.zeroValue81, Tryz.runUnderlying81, Tryz.sizeOf3, Tryz.sizeOf9, Instr.fill, cells_agg, encP, show ∀ k : Int, (I k).cells = #[I k] from fun _ => rfl, show (Str s).cells = #[Str s] from rfl]

theorem ct_T_fill (b : Nat) (S : SI) (L : List Pt) (n : Int) (x : ActM) (z : ActZ) (G0 : Gh) (hV : Vok S L n G0) (hpl : x.puts.length ≤ 1000000) (hpd : ∀ p ∈ x.puts, p.data.length ≤ 9223372036854775807) (F : List HProp) : Ct Tryz.prog 43 [ptr b 0, .agg (encAct x z).toArray] ([vlt b S L n, roL 2 z.1.1 (putR x.puts)] ++ F) (RFill S L n x (roL 2 z.1.1 (putR x.puts) :: F)) := by
  show Ct Tryz.prog 43 [ptr b 0, .agg (encAct x z).toArray] (vlt b S L n :: roL 2 z.1.1 (putR x.puts) :: F) _
  have hll := hV.len
  refine Ct.of Tryz.func43 rfl 45 Tryz.ntmps43 (by simp) fun w0 => ?_
  refine g_seq ?_
  refine g_reg ?_
  refine g_l (l_box (encAct x z).toArray rfl rfl) rfl ?_
  rintro _ _ ⟨b3, rfl, rfl⟩
  refine g_v (v_assign rfl) rfl ?_
  refine g_nil ?_
  refine g_seq ?_
  refine g_reg ?_
  refine g_v (v_move rfl) rfl ?_
  refine g_l (l_call (Pre := [vlt b S L n]) Tryz.call12 rfl (ct_vault_Vault_Copy b S L n (by omega))) rfl ?_
  rintro _ _ ⟨q, rfl, rfl⟩
  refine g_v (v_assign rfl) rfl ?_
  refine g_nil ?_
  refine g_seq ?_
  refine g_reg ?_
  refine g_v (v_assign rfl) rfl ?_
  refine g_nil ?_
  refine g_seq ?_
  refine g_seq ?_
  refine g_reg ?_
  refine g_v (v_fieldAddr 0 Tryz.underlying86 rfl rfl Tryz.sizeOf9 (by decide) rfl) rfl ?_
  refine g_v (v_load (v := Str x.kind) Tryz.isAgg9 rfl rfl) rfl ?_
  refine g_nil ?_
  refine g_block ?_
  refine g_seq ?_
  refine g_reg ?_
  refine g_v (v_seql rfl rfl) rfl ?_
  refine g_v (v_assign rfl) rfl ?_
  refine g_nil ?_
  refine g_cond rfl (fun h11 => ?_) (fun h11 => ?_)
  · have hk1 : x.kind = kIng := by simpa [kIng] using h11
    refine g_reg ?_
    refine g_v (v_move rfl) rfl ?_
    refine g_v (v_fieldAddr 2 Tryz.underlying86 rfl rfl Tryz.sizeOf3 (by decide) rfl) rfl ?_
    refine g_v (v_load (v := I x.a) Tryz.isAgg3 rfl rfl) rfl ?_
    refine g_v (v_fieldAddr 3 Tryz.underlying86 rfl rfl Tryz.sizeOf3 (by decide) rfl) rfl ?_
    refine g_v (v_load (v := I x.b) Tryz.isAgg3 rfl rfl) rfl ?_
    refine g_v (v_fieldAddr 4 Tryz.underlying86 rfl rfl Tryz.sizeOf3 (by decide) rfl) rfl ?_
    refine g_v (v_load (v := I x.c) Tryz.isAgg3 rfl rfl) rfl ?_
    refine g_v (v_fieldAddr 7 Tryz.underlying86 rfl rfl Tryz.sizeOf82 (by decide) rfl) rfl ?_
    refine g_v (v_load (v := sl z.1.1 x.puts.length z.1.2) Tryz.isAgg82 rfl rfl) rfl ?_
    refine g_l (l_call (Pre := [vlt q S L n, roL 2 z.1.1 (putR x.puts)]) Tryz.call42 rfl (ct_vault_Vault_Ingest q S L n x.a x.b x.c x.puts z.1.1 z.1.2 G0 hV hpl hpd)) rfl ?_
    rintro v L' hv
    unfold vR at hv
    rcases hr : ingF S L n x.a x.b x.c x.puts with e0 | ⟨S1, L1, n1, r1⟩ <;> rw [hr] at hv <;> obtain ⟨rfl, rfl⟩ := hv
    · have he0 := ingF_err hr
      refine g_v (v_move rfl) rfl ?_
      refine g_v (v_extract (v := I 0) rfl rfl) rfl ?_
      refine g_v (v_extract (v := errT 89 e0) rfl rfl) rfl ?_
      refine g_v (v_assign rfl) rfl ?_
      refine g_nil ?_
      refine g_blk ?_
      refine g_seq ?_
      refine g_seq ?_
      refine g_reg ?_
      refine g_v (v_move rfl) rfl ?_
      refine g_v (v_ineq Tryz.underlying29 rfl) rfl ?_
      refine g_nil ?_
      refine g_cond rfl (fun h42 => ?_) (fun h42 => ?_)
      · skip
        refine g_seq ?_
        refine g_reg ?_
        refine g_v (v_move rfl) rfl ?_
        refine g_v (v_assign rfl) rfl ?_
        refine g_nil ?_
        exact g_retFill rfl (fillR_err (show fillF S L n x = .error e0 by unfold fillF; rw [if_pos hk1]; exact hr)) rfl rfl
      · simp at h42
        omega
    · skip
      refine g_v (v_move rfl) rfl ?_
      refine g_v (v_extract (v := I r1) rfl rfl) rfl ?_
      refine g_v (v_extract (v := errT 89 0) rfl rfl) rfl ?_
      refine g_v (v_assign rfl) rfl ?_
      refine g_nil ?_
      refine g_blk ?_
      refine g_seq ?_
      refine g_seq ?_
      refine g_reg ?_
      refine g_v (v_move rfl) rfl ?_
      refine g_v (v_ineq Tryz.underlying29 rfl) rfl ?_
      refine g_nil ?_
      refine g_cond rfl (fun h42 => ?_) (fun h42 => ?_)
      · simp at h42
      · skip
        refine g_skip ?_
        refine g_seq ?_
        refine g_reg ?_
        refine g_v (v_move rfl) rfl ?_
        refine g_v (v_assign rfl) rfl ?_
        refine g_nil ?_
        exact g_retFill rfl (fillR_ok (show fillF S L n x = .ok (S1, L1, n1, r1) by unfold fillF; rw [if_pos hk1]; exact hr)) rfl rfl
  · have hk1 : ¬ x.kind = kIng := by simpa [kIng] using h11
    refine g_seq ?_
    refine g_reg ?_
    refine g_v (v_seql rfl rfl) rfl ?_
    refine g_v (v_assign rfl) rfl ?_
    refine g_nil ?_
    refine g_cond rfl (fun h26 => ?_) (fun h26 => ?_)
    · have hk2 : x.kind = kAgn := by simpa [kAgn] using h26
      refine g_reg ?_
      refine g_v (v_move rfl) rfl ?_
      refine g_v (v_fieldAddr 2 Tryz.underlying86 rfl rfl Tryz.sizeOf3 (by decide) rfl) rfl ?_
      refine g_v (v_load (v := I x.a) Tryz.isAgg3 rfl rfl) rfl ?_
      refine g_l (l_call (Pre := [vlt q S L n]) Tryz.call13 rfl (ct_vault_Vault_Again q S L n x.a G0 hV)) rfl ?_
      rintro v L' hv
      unfold vR at hv
      rcases hr : agnF S L n x.a with e0 | ⟨S1, L1, n1, r1⟩ <;> rw [hr] at hv <;> obtain ⟨rfl, rfl⟩ := hv
      · have he0 := agnF_err hr
        refine g_v (v_move rfl) rfl ?_
        refine g_v (v_extract (v := I 0) rfl rfl) rfl ?_
        refine g_v (v_extract (v := errT 89 e0) rfl rfl) rfl ?_
        refine g_v (v_assign rfl) rfl ?_
        refine g_nil ?_
        refine g_blk ?_
        refine g_seq ?_
        refine g_seq ?_
        refine g_reg ?_
        refine g_v (v_move rfl) rfl ?_
        refine g_v (v_ineq Tryz.underlying29 rfl) rfl ?_
        refine g_nil ?_
        refine g_cond rfl (fun h42 => ?_) (fun h42 => ?_)
        · skip
          refine g_seq ?_
          refine g_reg ?_
          refine g_v (v_move rfl) rfl ?_
          refine g_v (v_assign rfl) rfl ?_
          refine g_nil ?_
          exact g_retFill rfl (fillR_err (show fillF S L n x = .error e0 by unfold fillF; rw [if_neg hk1, if_pos hk2]; exact hr)) rfl rfl
        · simp at h42
          omega
      · skip
        refine g_v (v_move rfl) rfl ?_
        refine g_v (v_extract (v := I r1) rfl rfl) rfl ?_
        refine g_v (v_extract (v := errT 89 0) rfl rfl) rfl ?_
        refine g_v (v_assign rfl) rfl ?_
        refine g_nil ?_
        refine g_blk ?_
        refine g_seq ?_
        refine g_seq ?_
        refine g_reg ?_
        refine g_v (v_move rfl) rfl ?_
        refine g_v (v_ineq Tryz.underlying29 rfl) rfl ?_
        refine g_nil ?_
        refine g_cond rfl (fun h42 => ?_) (fun h42 => ?_)
        · simp at h42
        · skip
          refine g_skip ?_
          refine g_seq ?_
          refine g_reg ?_
          refine g_v (v_move rfl) rfl ?_
          refine g_v (v_assign rfl) rfl ?_
          refine g_nil ?_
          exact g_retFill rfl (fillR_ok (show fillF S L n x = .ok (S1, L1, n1, r1) by unfold fillF; rw [if_neg hk1, if_pos hk2]; exact hr)) rfl rfl
    · have hk2 : ¬ x.kind = kAgn := by simpa [kAgn] using h26
      refine g_seq ?_
      refine g_reg ?_
      refine g_v (v_seql rfl rfl) rfl ?_
      refine g_v (v_assign rfl) rfl ?_
      refine g_nil ?_
      refine g_cond rfl (fun h35 => ?_) (fun h35 => ?_)
      · have hk3 : x.kind = kDrp := by simpa [kDrp] using h35
        refine g_reg ?_
        refine g_v (v_move rfl) rfl ?_
        refine g_v (v_fieldAddr 2 Tryz.underlying86 rfl rfl Tryz.sizeOf3 (by decide) rfl) rfl ?_
        refine g_v (v_load (v := I x.a) Tryz.isAgg3 rfl rfl) rfl ?_
        refine g_l (l_call (Pre := [vlt q S L n]) Tryz.call20 rfl (ct_vault_Vault_Drop q S L n x.a G0 hV)) rfl ?_
        rintro v L' hv
        unfold vR1 at hv
        rcases hr : drpF S L n x.a with e0 | ⟨S1, L1, n1, r1⟩ <;> rw [hr] at hv <;> obtain ⟨rfl, rfl⟩ := hv
        · have he0 := drpF_err hr
          refine g_v (v_assign rfl) rfl ?_
          refine g_nil ?_
          refine g_blk ?_
          refine g_seq ?_
          refine g_seq ?_
          refine g_reg ?_
          refine g_v (v_move rfl) rfl ?_
          refine g_v (v_ineq Tryz.underlying29 rfl) rfl ?_
          refine g_nil ?_
          refine g_cond rfl (fun h42 => ?_) (fun h42 => ?_)
          · skip
            refine g_seq ?_
            refine g_reg ?_
            refine g_v (v_move rfl) rfl ?_
            refine g_v (v_assign rfl) rfl ?_
            refine g_nil ?_
            exact g_retFill rfl (fillR_err (show fillF S L n x = .error e0 by unfold fillF; rw [if_neg hk1, if_neg hk2, if_pos hk3]; exact hr)) rfl rfl
          · simp at h42
            omega
        · skip
          refine g_v (v_assign rfl) rfl ?_
          refine g_nil ?_
          refine g_blk ?_
          refine g_seq ?_
          refine g_seq ?_
          refine g_reg ?_
          refine g_v (v_move rfl) rfl ?_
          refine g_v (v_ineq Tryz.underlying29 rfl) rfl ?_
          refine g_nil ?_
          refine g_cond rfl (fun h42 => ?_) (fun h42 => ?_)
          · simp at h42
          · skip
            refine g_skip ?_
            refine g_seq ?_
            refine g_reg ?_
            refine g_v (v_move rfl) rfl ?_
            refine g_v (v_assign rfl) rfl ?_
            refine g_nil ?_
            exact g_retFill rfl (fillR_ok (show fillF S L n x = .ok (S1, L1, n1, r1) by unfold fillF; rw [if_neg hk1, if_neg hk2, if_pos hk3]; exact hr)) rfl rfl
      · have hk3 : ¬ x.kind = kDrp := by simpa [kDrp] using h35
        refine g_skip ?_
        refine g_blk ?_
        refine g_seq ?_
        refine g_seq ?_
        refine g_reg ?_
        refine g_v (v_move rfl) rfl ?_
        refine g_v (v_ineq (f := 0) (T := 89) Tryz.underlying29 rfl) rfl ?_
        refine g_nil ?_
        refine g_cond rfl (fun h42 => ?_) (fun h42 => ?_)
        · simp at h42
        · skip
          refine g_skip ?_
          refine g_seq ?_
          refine g_reg ?_
          refine g_v (v_move rfl) rfl ?_
          refine g_v (v_assign rfl) rfl ?_
          refine g_nil ?_
          exact g_retFill rfl (fillR_ok (r := 0) (by unfold fillF; rw [if_neg hk1, if_neg hk2, if_neg hk3])) rfl rfl

theorem ct_T_blocks (b : Nat) (S : SI) (L : List Pt) (n id : Int) (G0 : Gh) (hV : Vok S L n G0) (F : List HProp) : Ct Tryz.prog 16 [ptr b 0, I id] ([vlt b S L n] ++ F) (RBlk b S L n id F) := by
  show Ct Tryz.prog 16 [ptr b 0, I id] (vlt b S L n :: F) _
  have hll := hV.len
  refine Ct.of Tryz.func16 rfl 40 Tryz.ntmps16 (by simp) fun w0 => ?_
  refine g_seq ?_
  refine g_reg ?_
  refine g_v (v_assign rfl) rfl ?_
  refine g_v (v_assign rfl) rfl ?_
  refine g_nil ?_
  refine g_seq ?_
  refine g_reg ?_
  refine g_v (v_move rfl) rfl ?_
  refine g_v (v_move rfl) rfl ?_
  refine g_l (l_call (Pre := [vlt b S L n]) Tryz.call33 rfl (ct_vault_Vault_Find b S L n id (by omega))) rfl ?_
  rintro _ _ ⟨rfl, rfl⟩
  refine g_v (v_move rfl) rfl ?_
  refine g_v (v_extract (v := .agg (encPt ((findP L id).getD pt0)).toArray) rfl rfl) rfl ?_
  refine g_v (v_extract (v := Bo (findP L id).isSome) rfl rfl) rfl ?_
  refine g_l (l_alloc #[I 0, I 0, I 0, I 0] Tryz.zeroValue55) rfl ?_
  rintro _ _ ⟨b6, rfl, rfl⟩
  refine g_l0 (l_storeA (cs := #[I 0, I 0, I 0, I 0]) (vs := encPt (((findP L id).getD pt0))) (encPt (((findP L id).getD pt0))).toArray Tryz.sizeOf55 rfl rfl rfl rfl (by simp) (splice_whole rfl)) ?_
  rintro _ _ rfl
  refine g_v (v_assign rfl) rfl ?_
  refine g_nil ?_
  refine g_seq ?_
  refine g_seq ?_
  refine g_reg ?_
  refine g_v (v_move rfl) rfl ?_
  refine g_v (v_not rfl) rfl ?_
  refine g_nil ?_
  refine g_cond rfl (fun h19 => ?_) (fun h19 => ?_)
  · simp at h19
    refine g_seq ?_
    refine g_reg ?_
    refine g_v (v_assign rfl) rfl ?_
    refine g_v (v_assign rfl) rfl ?_
    refine g_nil ?_
    refine g_sub (L2 := vlt b S L n :: F) ?_
    exact fun a w hE hS => wp_ret (kq_ret (res_fpost (vs := [sl none 0 0, Bo false]) rfl hE hS (by show RBlk _ _ _ _ _ _ _ _; unfold RBlk; rw [h19]; exact ⟨rfl, rfl⟩)))
  · simp at h19
    obtain ⟨p, hf⟩ := Option.isSome_iff_exists.1 h19
    have hpm := findP_some hf
    have hps := hV.pts p hpm.1
    rw [show (findP L id).getD pt0 = p by rw [hf]; rfl]
    refine g_skip ?_
    refine g_seq ?_
    refine g_nilown 9 1 (strR ((List.range 0).map (getS S p.root))) rfl ?_
    refine g_reg ?_
    refine g_v (v_assign rfl) rfl ?_
    refine g_nil ?_
    refine g_seq ?_
    refine g_seq ?_
    refine g_reg ?_
    refine g_v (v_assign rfl) rfl ?_
    refine g_nil ?_
    refine g_block ?_
    refine g_loop (α := Nat × Option Addr × Nat) (fun z => (z.1 : Int) ≤ p.size) (fun z => U [(0, ptr b 0), (1, I id), (6, ptr b6 0), (8, sl z.2.1 ((List.range z.1).map (getS S p.root)).length z.2.2), (9, I z.1)]) (fun z => owL 9 1 z.2.1 z.2.2 (strR ((List.range z.1).map (getS S p.root))) :: pt b6 (.cells (encPt (p)).toArray 55 (0, 0)) :: vlt b S L n :: F) (fun z => p.size.toNat - z.1) (0, none, 0) (by simp; omega) [0, 1, 6, 8, 9] rfl rfl ?_
    rintro ⟨a, s8, c8⟩ ha
    simp only [] at ha ⊢
    refine g_seq ?_
    refine g_seq ?_
    refine g_reg ?_
    refine g_v (v_move rfl) rfl ?_
    refine g_v (v_fieldAddr 2 Tryz.underlying55 rfl rfl Tryz.sizeOf3 (by decide) rfl) rfl ?_
    refine g_v (v_load (v := I p.size) Tryz.isAgg3 rfl rfl) rfl ?_
    refine g_v (v_lss rfl rfl) rfl ?_
    refine g_nil ?_
    refine g_cond rfl (fun h23 => ?_) (fun h23 => ?_)
    · simp at h23
      refine g_skip ?_
      refine g_seq ?_
      refine g_block ?_
      refine g_seq ?_
      refine g_reg ?_
      refine g_v (v_move rfl) rfl ?_
      refine g_v (v_move rfl) rfl ?_
      refine g_v (v_move rfl) rfl ?_
      refine g_l (l_call (Pre := [vlt b S L n]) Tryz.call32 rfl (ct_vault_Vault_Read b S L n id a G0 hV)) rfl ?_
      rintro _ _ ⟨rfl, rfl⟩
      rw [show rdE S L id a = (getS S p.root a, 0) by unfold rdE; rw [hf]; simp only; rw [if_neg (by omega)]; rfl]
      refine g_v (v_move rfl) rfl ?_
      refine g_v (v_extract (v := Str (getS S p.root a)) rfl rfl) rfl ?_
      refine g_v (v_extract (v := errT 89 0) rfl rfl) rfl ?_
      refine g_v (v_assign rfl) rfl ?_
      refine g_v (v_assign rfl) rfl ?_
      refine g_nil ?_
      refine g_seq ?_
      refine g_seq ?_
      refine g_reg ?_
      refine g_v (v_move rfl) rfl ?_
      refine g_v (v_ineq Tryz.underlying29 rfl) rfl ?_
      refine g_nil ?_
      refine g_cond rfl (fun h34 => ?_) (fun h34 => ?_)
      · simp at h34
      · skip
        refine g_skip ?_
        refine g_reg ?_
        refine g_v (v_move rfl) rfl ?_
        refine g_v (v_move rfl) rfl ?_
        refine g_l (l_buildSlice [[Str (getS S p.root a)]] Tryz.underlying35 Tryz.sizeOf9 Tryz.zeroValue9 rfl rfl rfl (by simp) (by decide) (by decide)) rfl ?_
        rintro _ _ ⟨b37, rfl, rfl⟩
        refine g_l (l_append Tryz.underlying35 Tryz.sizeOf9 Tryz.zeroValue9 rfl Tryz.typeInfo9 (by decide) rfl rfl (strR_len _) rfl (by simp) (by intro r hr; simp at hr; subst hr; rfl) ⟨by simp; omega, by decide, by decide⟩) rfl ?_
        rintro _ _ ⟨s38, c38, rfl, rfl⟩
        refine g_v (v_assign rfl) rfl ?_
        refine g_nil ?_
        refine g_blk ?_
        refine g_reg ?_
        refine g_v (v_move rfl) rfl ?_
        refine g_v (v_add rfl rfl (w64 (by omega))) rfl ?_
        refine g_v (v_assign rfl) rfl ?_
        refine g_nil ?_
        rw [show strR ((List.range a).map (getS S p.root)) ++ [[Str (getS S p.root a)]] = strR ((List.range (a + 1)).map (getS S p.root)) by rw [List.range_succ]; simp [strR], show ((List.range a).map (getS S p.root)).length + 1 = ((List.range (a + 1)).map (getS S p.root)).length by simp]
        exact g_again (a + 1, s38, c38) (by simp only []; omega) (by simp only []; omega) [0, 1, 6, 8, 9] rfl rfl
    · simp at h23
      obtain rfl : a = p.size.toNat := by omega
      refine g_exit rfl ?_
      refine g_seq ?_
      refine g_reg ?_
      refine g_v (v_move rfl) rfl ?_
      refine g_v (v_assign rfl) rfl ?_
      refine g_v (v_assign rfl) rfl ?_
      refine g_nil ?_
      rw [show (List.range p.size.toNat).map (getS S p.root) = blk S p from rfl]
      refine g_sub (L2 := owL 9 1 s8 c8 (strR (blk S p)) :: vlt b S L n :: F) ?_
      exact fun a w hE hS => wp_ret (kq_ret (res_fpost (vs := [sl s8 (blk S p).length c8, Bo true]) rfl hE hS (by show RBlk _ _ _ _ _ _ _ _; unfold RBlk; rw [hf]; exact ⟨s8, c8, rfl, rfl⟩)))

theorem ct_T_vaulted  (F : List HProp) : Ct Tryz.prog 10 [] ([] ++ F) (R1 (Bo true) F) := by
  show Ct Tryz.prog 10 [] (F) _
  obtain ⟨S, L, n, G, root, hr, hV, hL, hg⟩ := vz
  have hfP : findP L 1 = some ⟨1, 1, 4, root⟩ := by rw [hL]; rfl
  have hrd : rdE S L 1 2 = ([120], 0) := by
    unfold rdE
    rw [hfP]
    simp only
    rw [if_neg (by decide)]
    exact congrArg (fun x => (x, (0 : Int))) hg
  refine Ct.of Tryz.func10 rfl 34 Tryz.ntmps10 (by simp) fun w0 => ?_
  refine g_seq ?_
  refine g_reg ?_
  refine g_v (v_assign rfl) rfl ?_
  refine g_nil ?_
  refine g_seq ?_
  refine g_reg ?_
  refine g_l (l_call (Pre := []) Tryz.call41 rfl (ct_vault_New)) rfl ?_
  rintro _ _ ⟨q, rfl, rfl⟩
  refine g_v (v_assign rfl) rfl ?_
  refine g_nil ?_
  refine g_seq ?_
  refine g_reg ?_
  refine g_v (v_move rfl) rfl ?_
  refine g_v (v_build rfl (bldPut 2 [120])) rfl ?_
  refine g_l (l_buildSlice (putR [⟨2, [120]⟩]) Tryz.underlying82 Tryz.sizeOf81 Tryz.zeroValue81 rfl rfl rfl (by intro r hr; simp [putR] at hr; subst hr; rfl) (by decide) (by decide)) rfl ?_
  rintro _ _ ⟨b10, rfl, rfl⟩
  refine g_freeze (some ⟨b10, 0, none⟩) ?_
  refine g_l (l_call (Pre := [vlt q (mkG gZ) [] 1, roL 2 (some ⟨b10, 0, none⟩) (putR [⟨2, [120]⟩])]) Tryz.call42 rfl (ct_vault_Vault_Ingest q (mkG gZ) [] 1 0 1 4 [⟨2, [120]⟩] (some ⟨b10, 0, none⟩) 1 gZ Vok_z (by decide) (by intro p hp; simp at hp; subst hp; decide))) rfl ?_
  rintro v L' hv
  unfold vR at hv
  rw [hr] at hv
  obtain ⟨rfl, rfl⟩ := hv
  refine g_v (v_move rfl) rfl ?_
  refine g_v (v_extract (v := I 1) rfl rfl) rfl ?_
  refine g_v (v_extract (v := errT 89 0) rfl rfl) rfl ?_
  refine g_v (v_assign rfl) rfl ?_
  refine g_v (v_assign rfl) rfl ?_
  refine g_nil ?_
  refine g_seq ?_
  refine g_reg ?_
  refine g_v (v_move rfl) rfl ?_
  refine g_v (v_move rfl) rfl ?_
  refine g_l (l_call (Pre := [vlt q S L n]) Tryz.call32 rfl (ct_vault_Vault_Read q S L n 1 2 G hV)) rfl ?_
  rintro _ _ ⟨rfl, rfl⟩
  rw [hrd]
  refine g_v (v_move rfl) rfl ?_
  refine g_v (v_extract (v := Str [120]) rfl rfl) rfl ?_
  refine g_v (v_extract (v := errT 89 0) rfl rfl) rfl ?_
  refine g_v (v_assign rfl) rfl ?_
  refine g_v (v_assign rfl) rfl ?_
  refine g_nil ?_
  refine g_seq ?_
  refine g_reg ?_
  refine g_v (v_move rfl) rfl ?_
  refine g_v (v_ieql Tryz.underlying29 rfl) rfl ?_
  refine g_v (v_move rfl) rfl ?_
  refine g_gv1 rfl rfl (by simp) (v_move rfl) rfl ?_
  refine g_gv1 rfl rfl (by simp) (v_ieql Tryz.underlying29 rfl) rfl ?_
  refine g_v (v_and rfl rfl) rfl ?_
  refine g_v (v_move rfl) rfl ?_
  refine g_gv1 rfl rfl (by simp) (v_move rfl) rfl ?_
  refine g_gv1 rfl rfl (by simp) (v_eql rfl rfl) rfl ?_
  refine g_v (v_and rfl rfl) rfl ?_
  refine g_v (v_move rfl) rfl ?_
  refine g_gv1 rfl rfl (by simp) (v_move rfl) rfl ?_
  refine g_gv1 rfl rfl (by simp) (v_seql rfl rfl) rfl ?_
  refine g_v (v_and rfl rfl) rfl ?_
  refine g_v (v_assign rfl) rfl ?_
  refine g_nil ?_
  refine g_ret1 rfl rfl ?_
  show Bo _ = Bo true
  simp

end Go.Proofs.YthdjckbjjfiopacGreatDoor
