/- The walk through the law ImageSays. No condition but the library's tables. -/
import Derived.Test.YthdjckbjjfiopaaGreatDoorVaSays
import Derived.Test.YthdjckbjjfiopaaGreatDoorImG
import Derived.Test.YthdjckbjjfiopaaGreatDoorIm5
import Derived.Test.YthdjckbjjfiopaaGreatDoorIm6
import Derived.Test.YthdjckbjjfiopaaGreatDoorRIm2
namespace Go.Proofs.YthdjckbjjfiopaaGreatDoor
open Go.Sl Go.Proofs
set_option linter.unusedVariables false
set_option linter.unusedSimpArgs false
theorem rows0 : rowsF (mkG gZ) [] 1 = [⟨[120], [48, 48, 49], false⟩] := by
  have h1 : ids 40 (mkG gZ).B = [] := no_of fun q hq => by have := (mem_ids.1 hq).2; cases this
  have h2 : ids 24 (mkG gZ).N = [] := no_of fun q hq => by have := (mem_ids.1 hq).2; cases this
  have h3 : thr 1 = [48, 48, 49] := thr_eq (u := 1) (by decide)
  unfold rowsF bRows nRows xRow
  rw [h1, h2, h3]
  rfl
theorem srt_step {l : List ChangeM} {i : Nat} (h : srt (l.take i)) (h1 : 1 ≤ i) (hk : ∀ p c, l[i - 1]? = some p → l[i]? = some c → kl p.key c.key = true) : srt (l.take (i + 1)) := by
  rcases Nat.lt_or_ge i l.length with hi | hi
  · have hc : l[i]? = some l[i] := List.getElem?_eq_getElem hi
    have hp : l[i - 1]? = some l[i - 1] := List.getElem?_eq_getElem (by omega)
    rw [← tk_snoc hc]
    refine List.pairwise_append.2 ⟨h, List.pairwise_singleton _ _, fun a ha b hb => ?_⟩
    rw [List.mem_singleton] at hb
    subst hb
    have hlast := hk _ _ hp hc
    obtain ⟨j, hj, rfl⟩ := List.mem_iff_getElem.1 ha
    have hj' : j < i := by simp at hj; omega
    by_cases e : j = i - 1
    · subst e; simpa using hlast
    · have h9 := (List.pairwise_iff_getElem.1 h) j (i - 1) hj (by simp; omega) (by omega)
      simp only [List.getElem_take] at h9 ⊢
      exact kl_trans h9 hlast
  · rw [List.take_of_length_le (by omega)] at h ⊢
    exact h
theorem srt_1 (l : List ChangeM) : srt (l.take 1) := by
  unfold srt
  cases l with
  | nil => simp
  | cons a l => simp
theorem kl_of {x p : ChangeM} (h : (Op.bytesLess x.key p.key || decide (x.key = p.key)) = false) : kl p.key x.key = true := by
  rw [Bool.or_eq_false_iff, decide_eq_false_iff_not] at h
  rcases kl_tri p.key x.key with h1 | h1 | h1
  · exact h1
  · exact absurd h1.symm h.2
  · exact absurd h1 (by show ¬ Op.bytesLess x.key p.key = true; rw [h.1]; simp)
theorem lightK {l : List ChangeM} {m : Int} (h : lightC l m = true) : (l.length : Int) ≤ m ∧ ∀ c ∈ l, c.key.length ≤ 20 ∧ c.val.length ≤ 60 := by
  unfold lightC at h
  simp only [Bool.and_eq_true, decide_eq_true_eq, List.all_eq_true] at h
  exact ⟨h.1, fun c hc => by have := h.2 c hc; unfold lightC1 at this; simpa using this⟩
theorem keyle {S : SI} {L : List Pt} {n : Int} {G : Gh} (h : Con S L n G) : ∀ c ∈ rowsF S L n, c.key.length ≤ 9223372036854775807 ∧ c.val.length ≤ 9223372036854775807 := fun c hc => by
  have w := h.wr
  unfold rowsF at hc
  rcases List.mem_append.1 hc with hc | hc
  · rcases List.mem_append.1 hc with hc | hc
    · rcases List.mem_append.1 hc with hc | hc
      · unfold bRows at hc
        obtain ⟨q, hq, rfl⟩ := List.mem_map.1 hc
        obtain ⟨hq1, hq2⟩ := mem_ids.1 hq
        obtain ⟨x, hx⟩ := Option.isSome_iff_exists.1 hq2
        have hb := w.b q x hx
        have h1 := thr_len (n := q) (by omega)
        have h2 := thr_len (n := x.2) (by omega)
        rw [show gB S.B q = x by unfold gB; rw [hx]; rfl]
        simp only [bRow, List.length_cons, List.length_append]
        omega
      · unfold nRows at hc
        obtain ⟨q, hq, rfl⟩ := List.mem_map.1 hc
        obtain ⟨hq1, hq2⟩ := mem_ids.1 hq
        have hb := gN_sm h.sm q
        have h1 := thr_len (n := q) (by omega)
        have h2 := nPre_len (n := gN S.N q) (by omega) (fun k hk => by have := hb.2 k hk; omega) 4 (by omega)
        rw [nPre_4] at h2
        simp only [nRow, List.length_cons]
        omega
    · obtain ⟨p, hp, rfl⟩ := List.mem_map.1 hc
      have hb := w.p p hp
      have h1 := thr_len (n := p.id) (by omega)
      have h2 := thr_len (n := p.disk) (by omega)
      have h3 := thr_len (n := p.size) (by omega)
      have h4 := thr_len (n := p.root) (by omega)
      simp only [pRow, List.length_cons, List.length_append]
      omega
  · rw [List.mem_singleton] at hc
    subst hc
    have h1 := thr_len_le (n := n) (by have := w.n1; omega)
    simp only [xRow, List.length_cons, List.length_nil]
    omega
theorem mg_len : ∀ (a b : List ChangeM), (mg a b).length ≤ a.length + b.length
  | [], b => by rw [mg_nil]; simp
  | x :: a, [] => by rw [mg_nilr]; simp
  | x :: a, y :: b => by
    by_cases h1 : kl x.key y.key = true
    · rw [mg_lt h1]; have := mg_len a (y :: b); simp only [List.length_cons] at this ⊢; omega
    · by_cases h2 : kl y.key x.key = true
      · rw [mg_gt h1 h2]; have := mg_len (x :: a) b; simp only [List.length_cons] at this ⊢; omega
      · rw [mg_eq h1 h2]
        have := mg_len a b
        split <;> simp only [List.nil_append, List.cons_append, List.length_cons] <;> omega
termination_by a b => a.length + b.length

theorem ct_L_images  (F : List HProp) : Ct Tryz.prog 4 [] ([tabs] ++ F) (R1 (Bo true) (tabs :: F)) := by
  show Ct Tryz.prog 4 [] (tabs :: F) _
  refine Ct.of Tryz.func4 rfl 23 Tryz.ntmps4 (by simp) fun w0 => ?_
  refine g_seq ?_
  refine g_reg ?_
  refine g_v (v_assign rfl) rfl ?_
  refine g_nil ?_
  refine g_seq ?_
  refine g_reg ?_
  refine g_l (l_call (Pre := []) Tryz.call7 rfl (ct_vault_New)) rfl ?_
  rintro _ _ ⟨p0, rfl, rfl⟩
  refine g_l (l_call (Pre := [tabs, vlt p0 (mkG gZ) [] 1]) Tryz.call15 rfl (ct_image_Rows p0 (mkG gZ) [] 1 Con_z.sm)) rfl ?_
  rintro _ _ ⟨s5, c5, rfl, rfl⟩
  refine g_freeze s5 ?_
  refine g_v (v_assign rfl) rfl ?_
  refine g_nil ?_
  refine g_seq ?_
  refine g_reg ?_
  refine g_v (v_move rfl) rfl ?_
  refine g_l (l_call (Pre := [tabs, roL 3 s5 (chR (rowsF (mkG gZ) [] 1))]) Tryz.call17 rfl (ct_image_Parse (rowsF (mkG gZ) [] 1) s5 c5 (by rw [rows0]; decide) (keyle Con_z))) rfl ?_
  rintro _ _ (⟨st, q3, hps, hw, rfl, rfl⟩ | ⟨hno, rfl, rfl⟩)
  rotate_left
  · exact absurd (con_pars Con_z).2 (hno _ (con_pars Con_z).1)
  rw [(con_pars Con_z).1] at hps
  injection hps with hps
  subst hps
  refine g_v (v_move rfl) rfl ?_
  refine g_v (v_extract (v := ptr q3 0) rfl rfl) rfl ?_
  refine g_v (v_extract (v := errV 0) rfl rfl) rfl ?_
  refine g_v (v_assign rfl) rfl ?_
  refine g_v (v_assign rfl) rfl ?_
  refine g_nil ?_
  refine g_seq ?_
  refine g_reg ?_
  refine g_v (v_move rfl) rfl ?_
  refine g_l (l_call (Pre := []) Tryz.call13 rfl (ct_L_same (0) (0) (by decide))) rfl ?_
  rintro _ _ ⟨rfl, rfl⟩
  refine g_v (v_move rfl) rfl ?_
  refine g_gv1 rfl rfl (by simp) (v_move rfl) rfl ?_
  refine g_gv1 rfl rfl (by simp) (v_pnnil Tryz.underlying27 rfl) rfl ?_
  refine g_v (v_and rfl rfl) rfl ?_
  refine g_v (v_move rfl) rfl ?_
  refine g_gv1 rfl rfl (by simp) (v_move rfl) rfl ?_
  refine g_gv1 rfl rfl (by simp) (v_build rfl (bld49_0_1 _ rfl _ rfl)) rfl ?_
  refine g_gl rfl rfl (by simp) (l_buildSlice (chR [⟨[120], [48, 48, 49], false⟩]) Tryz.underlying23 Tryz.sizeOf49 Tryz.zeroValue49 rfl rfl rfl (chR_three _) (by decide) (by decide)) rfl ?_
  rintro _ _ ⟨b20, rfl, rfl⟩
  refine g_freeze (some ⟨b20, 0, none⟩) ?_
  refine g_gl rfl rfl (by simp) (l_call (Pre := [roL 3 s5 (chR (rowsF (mkG gZ) [] 1)), roL 3 (some ⟨b20, 0, none⟩) (chR ([⟨[120], [48, 48, 49], false⟩]))]) Tryz.call14 rfl (ct_R_SameChanges (rowsF (mkG gZ) [] 1) ([⟨[120], [48, 48, 49], false⟩]) s5 (some ⟨b20, 0, none⟩) c5 1 (by rw [rows0]; decide) (by decide))) rfl ?_
  rintro _ _ ⟨rfl, rfl⟩
  refine g_v (v_and rfl rfl) rfl ?_
  refine g_v (v_assign rfl) rfl ?_
  refine g_nil ?_
  exact g_ret1 rfl rfl (by show Bo _ = Bo true; rw [rows0]; simp)

theorem ct_L_ImageSays (l : List ActM) (f : Nat → ActZ) (s : Option Addr) (cap : Nat) (rs : List ChangeM) (s1 : Option Addr) (cap1 : Nat) (os : List ChangeM) (s2 : Option Addr) (cap2 : Nat) (hl : l.length ≤ 9223372036854775807) (hla : ∀ x ∈ l, x.puts.length ≤ 9223372036854775807 ∧ x.changes.length ≤ 9223372036854775807) (hlr : rs.length ≤ 9223372036854775807) (hlo : os.length ≤ 9223372036854775807) (F : List HProp) : Ct Tryz.prog 3 [sl s l.length cap, sl s1 rs.length cap1, sl s2 os.length cap2] ([tabs, acts s l f, roL 3 s1 (chR rs), roL 3 s2 (chR os)] ++ F) (R1 (Bo true) (tabs :: acts s l f :: roL 3 s1 (chR rs) :: roL 3 s2 (chR os) :: F)) := by
  show Ct Tryz.prog 3 [sl s l.length cap, sl s1 rs.length cap1, sl s2 os.length cap2] (tabs :: acts s l f :: roL 3 s1 (chR rs) :: roL 3 s2 (chR os) :: F) _
  refine Ct.of Tryz.func3 rfl 190 Tryz.ntmps3 (by simp) fun w0 => ?_
  refine g_seq ?_
  refine g_reg ?_
  refine g_v (v_assign rfl) rfl ?_
  refine g_nil ?_
  refine g_seq ?_
  refine g_reg ?_
  refine g_l (l_call (Pre := [tabs]) Tryz.call4 rfl (ct_L_images)) rfl ?_
  rintro _ _ ⟨rfl, rfl⟩
  refine g_v (v_assign rfl) rfl ?_
  refine g_nil ?_
  refine g_seq ?_
  refine g_seq ?_
  refine g_reg ?_
  refine g_v (v_move rfl) rfl ?_
  refine g_v (v_not rfl) rfl ?_
  refine g_v (v_move rfl) rfl ?_
  refine g_gv1 rfl rfl rfl (v_move rfl) rfl ?_
  refine g_gl rfl rfl rfl (l_call (Pre := [acts s l f]) Tryz.call5 rfl (ct_L_LightActs l f s cap 30 hl hla)) rfl ?_
  rintro _ _ ⟨rfl, rfl⟩
  refine g_gv1 rfl rfl rfl (v_not rfl) rfl ?_
  refine g_v (v_or rfl rfl) rfl ?_
  refine g_v (v_move rfl) rfl ?_
  by_cases hL0 : lightA l 30 = true
  · have g0 : (!true || !lightA l 30) = false := by rw [hL0]; rfl
    refine g_gv1 rfl rfl g0 (v_move rfl) rfl ?_
    refine g_gl rfl rfl g0 (l_call (Pre := [roL 3 s1 (chR rs)]) (R := fun F => R1 (Bo (lightC rs 90)) (roL 3 s1 (chR rs) :: F)) Tryz.call6 rfl (ct_L_LightChanges rs s1 cap1 90 hlr)) rfl ?_
    rintro _ _ ⟨rfl, rfl⟩
    refine g_gv1 rfl rfl g0 (v_not rfl) rfl ?_
    refine g_v (v_or rfl rfl) rfl ?_
    refine g_v (v_move rfl) rfl ?_
    by_cases hL1 : lightC rs 90 = true
    · have g1 : ((!true || !lightA l 30) || !lightC rs 90) = false := by rw [hL0, hL1]; rfl
      refine g_gv1 rfl rfl g1 (v_move rfl) rfl ?_
      refine g_gl rfl rfl g1 (l_call (Pre := [roL 3 s2 (chR os)]) (R := fun F => R1 (Bo (lightC os 90)) (roL 3 s2 (chR os) :: F)) Tryz.call6 rfl (ct_L_LightChanges os s2 cap2 90 hlo)) rfl ?_
      rintro _ _ ⟨rfl, rfl⟩
      refine g_gv1 rfl rfl g1 (v_not rfl) rfl ?_
      refine g_v (v_or rfl rfl) rfl ?_
      refine g_nil ?_
      refine g_cond rfl (fun h38 => ?_) (fun h38 => ?_)
      · skip
        refine g_seq ?_
        refine g_reg ?_
        refine g_v (v_move rfl) rfl ?_
        refine g_v (v_assign rfl) rfl ?_
        refine g_nil ?_
        first | exact g_ret1 rfl rfl rfl | exact g_ret1 rfl rfl (by show Bo _ = Bo true; simp)
      · simp at h38
        have hll := lightL hL0
        have hrk := lightK hL1
        have hok := lightK (l := os) (m := 90) (by simpa [hL0, hL1] using h38)
        refine g_skip ?_
        refine g_seq ?_
        refine g_reg ?_
        refine g_l (l_call (Pre := []) Tryz.call7 rfl (ct_vault_New)) rfl ?_
        rintro _ _ ⟨p0, rfl, rfl⟩
        refine g_v (v_assign rfl) rfl ?_
        refine g_nil ?_
        refine g_seq ?_
        refine g_reg ?_
        refine g_l (l_call (Pre := []) Tryz.call8 rfl (ct_R_NewVault)) rfl ?_
        rintro _ _ ⟨q0, rfl, rfl⟩
        refine g_v (v_assign rfl) rfl ?_
        refine g_nil ?_
        refine g_seq ?_
        refine g_seq ?_
        refine g_reg ?_
        refine g_v (v_assign rfl) rfl ?_
        refine g_nil ?_
        refine g_block ?_
        refine g_loop (α := Nat × Nat × Nat × SI × List Pt × Int) (fun z => z.1 ≤ l.length ∧ ∃ G, Con z.2.2.2.1 z.2.2.2.2.1 z.2.2.2.2.2 G) (fun z => U [(0, sl s l.length cap), (1, sl s1 rs.length cap1), (2, sl s2 os.length cap2), (8, ptr z.2.1 0), (9, ptr z.2.2.1 0), (10, I z.1)]) (fun z => vlt z.2.1 z.2.2.2.1 z.2.2.2.2.1 z.2.2.2.2.2 :: rvl z.2.2.1 z.2.2.2.1 z.2.2.2.2.1 z.2.2.2.2.2 :: tabs :: acts s l f :: roL 3 s1 (chR rs) :: roL 3 s2 (chR os) :: F) (fun z => l.length - z.1) (0, p0, q0, mkG gZ, [], 1) ⟨by simp, gZ, Con_z⟩ [0, 1, 2, 8, 9, 10] rfl rfl ?_
        rintro ⟨i, p, q, S, L, n⟩ ⟨hi, G0, hC⟩
        simp only [] at hi hC ⊢
        have hlen := hC.v.len
        have hrow := rowsF_le (S := S) (n := n) hlen
        refine g_seq ?_
        refine g_seq ?_
        refine g_reg ?_
        refine g_v (v_move rfl) rfl ?_
        refine g_v (v_move rfl) rfl ?_
        refine g_v (v_len Tryz.underlying22 rfl) rfl ?_
        refine g_v (v_lss rfl rfl) rfl ?_
        refine g_nil ?_
        refine g_cond rfl (fun h45 => ?_) (fun h45 => ?_)
        · simp at h45
          have hkn : i < l.length := by omega
          obtain ⟨x, hx⟩ : ∃ x, l[i]? = some x := ⟨_, List.getElem?_eq_getElem hkn⟩
          have hkr : i < (actR l f).length := by rw [actR_len]; exact hkn
          have hxp := lightPu hL0 (List.mem_of_getElem? hx)
          refine g_skip ?_
          refine g_seq ?_
          refine g_block ?_
          refine g_seq ?_
          refine g_reg ?_
          refine g_v (v_move rfl) rfl ?_
          refine g_l (l_call (Pre := [vlt p S L n]) Tryz.call9 rfl (ct_vault_Vault_Copy p S L n (by omega))) rfl ?_
          rintro _ _ ⟨p2, rfl, rfl⟩
          refine g_v (v_assign rfl) rfl ?_
          refine g_nil ?_
          refine g_seq ?_
          refine g_reg ?_
          refine g_v (v_move rfl) rfl ?_
          refine g_l (l_call (Pre := [rvl q S L n]) Tryz.call10 rfl (ct_RV_Copy q S L n (by omega))) rfl ?_
          rintro _ _ ⟨q2, rfl, rfl⟩
          refine g_v (v_assign rfl) rfl ?_
          refine g_nil ?_
          refine g_seq ?_
          refine g_actPuts s l f i hx ?_
          refine g_reg ?_
          refine g_v (v_move rfl) rfl ?_
          refine g_v (v_move rfl) rfl ?_
          refine g_v (v_move rfl) rfl ?_
          refine g_v (v_idxS i Tryz.underlying22 Tryz.sizeOf38 rfl rfl rfl hkn hkr) rfl ?_
          refine g_v (v_loadAS (row := encAct x (f i)) Tryz.isAgg38 Tryz.sizeOf38 rfl (actR_at hx) rfl) rfl ?_
          refine g_l (l_call (Pre := [vlt p2 S L n, roL 2 (f i).1.1 (putR x.puts)]) Tryz.call11 rfl (ct_L_kept p2 S L n x (f i) G0 hC.v (by omega) (fun p hp => Nat.le_trans (hxp.2 p hp) (by decide)))) rfl ?_
          rintro v L' hv
          unfold vR at hv
          rcases hr : fillF S L n x with e0 | ⟨S1, L1, n1, r1⟩ <;> rw [hr] at hv <;> obtain ⟨rfl, rfl⟩ := hv
          · have he0 := fillF_err hr
            refine g_v (v_move rfl) rfl ?_
            refine g_v (v_extract (v := I 0) rfl rfl) rfl ?_
            refine g_v (v_extract (v := errV e0) rfl rfl) rfl ?_
            refine g_v (v_assign rfl) rfl ?_
            refine g_v (v_assign rfl) rfl ?_
            refine g_nil ?_
            refine g_seq ?_
            refine g_reg ?_
            refine g_v (v_move rfl) rfl ?_
            refine g_v (v_move rfl) rfl ?_
            refine g_v (v_move rfl) rfl ?_
            refine g_v (v_idxS i Tryz.underlying22 Tryz.sizeOf38 rfl rfl rfl hkn hkr) rfl ?_
            refine g_v (v_loadAS (row := encAct x (f i)) Tryz.isAgg38 Tryz.sizeOf38 rfl (actR_at hx) rfl) rfl ?_
            refine g_l (l_call (Pre := [rvl q2 S L n, roL 2 (f i).1.1 (putR x.puts)]) Tryz.call12 rfl (ct_L_keptRef q2 S L n x (f i) G0 hC.v (by omega) (fun p hp => Nat.le_trans (hxp.2 p hp) (by decide)))) rfl ?_
            rintro v L' hv
            unfold vR at hv
            rw [hr] at hv
            obtain ⟨rfl, rfl⟩ := hv
            refine g_v (v_move rfl) rfl ?_
            refine g_v (v_extract (v := I 0) rfl rfl) rfl ?_
            refine g_v (v_extract (v := I e0) rfl rfl) rfl ?_
            refine g_v (v_assign rfl) rfl ?_
            refine g_v (v_assign rfl) rfl ?_
            refine g_nil ?_
            refine g_seq ?_
            refine g_seq ?_
            refine g_reg ?_
            refine g_v (v_move rfl) rfl ?_
            refine g_v (v_move rfl) rfl ?_
            refine g_l (l_call (Pre := []) Tryz.call13 rfl (ct_L_same (e0) (e0) (by omega))) rfl ?_
            rintro _ _ ⟨rfl, rfl⟩
            refine g_v (v_not rfl) rfl ?_
            refine g_nil ?_
            refine g_cond rfl (fun h73 => ?_) (fun h73 => ?_)
            · simp at h73
            · skip
              refine g_skip ?_
              refine g_seq ?_
              refine g_reg ?_
              refine g_v (v_move rfl) rfl ?_
              refine g_v (v_eql rfl rfl) rfl ?_
              refine g_nil ?_
              refine g_cond rfl (fun h75 => ?_) (fun h75 => ?_)
              · simp at h75
                omega
              · skip
                refine g_skip ?_
                refine g_blk ?_
                refine g_reg ?_
                refine g_v (v_move rfl) rfl ?_
                refine g_v (v_add rfl rfl (w64 (by omega))) rfl ?_
                refine g_v (v_assign rfl) rfl ?_
                refine g_nil ?_
                exact g_again (i + 1, p, q, S, L, n) ⟨by simp only []; omega, G0, hC⟩ (by simp only []; omega) [0, 1, 2, 8, 9, 10] rfl rfl
          · obtain ⟨G1, hC1⟩ := fillF_con hC hr
            refine g_v (v_move rfl) rfl ?_
            refine g_v (v_extract (v := I r1) rfl rfl) rfl ?_
            refine g_v (v_extract (v := errV 0) rfl rfl) rfl ?_
            refine g_v (v_assign rfl) rfl ?_
            refine g_v (v_assign rfl) rfl ?_
            refine g_nil ?_
            refine g_seq ?_
            refine g_reg ?_
            refine g_v (v_move rfl) rfl ?_
            refine g_v (v_move rfl) rfl ?_
            refine g_v (v_move rfl) rfl ?_
            refine g_v (v_idxS i Tryz.underlying22 Tryz.sizeOf38 rfl rfl rfl hkn hkr) rfl ?_
            refine g_v (v_loadAS (row := encAct x (f i)) Tryz.isAgg38 Tryz.sizeOf38 rfl (actR_at hx) rfl) rfl ?_
            refine g_l (l_call (Pre := [rvl q2 S L n, roL 2 (f i).1.1 (putR x.puts)]) Tryz.call12 rfl (ct_L_keptRef q2 S L n x (f i) G0 hC.v (by omega) (fun p hp => Nat.le_trans (hxp.2 p hp) (by decide)))) rfl ?_
            rintro v L' hv
            unfold vR at hv
            rw [hr] at hv
            obtain ⟨rfl, rfl⟩ := hv
            refine g_v (v_move rfl) rfl ?_
            refine g_v (v_extract (v := I r1) rfl rfl) rfl ?_
            refine g_v (v_extract (v := I 0) rfl rfl) rfl ?_
            refine g_v (v_assign rfl) rfl ?_
            refine g_v (v_assign rfl) rfl ?_
            refine g_nil ?_
            refine g_seq ?_
            refine g_seq ?_
            refine g_reg ?_
            refine g_v (v_move rfl) rfl ?_
            refine g_v (v_move rfl) rfl ?_
            refine g_l (l_call (Pre := []) Tryz.call13 rfl (ct_L_same (0) (0) (by decide))) rfl ?_
            rintro _ _ ⟨rfl, rfl⟩
            refine g_v (v_not rfl) rfl ?_
            refine g_nil ?_
            refine g_cond rfl (fun h73 => ?_) (fun h73 => ?_)
            · simp at h73
            · skip
              refine g_skip ?_
              refine g_seq ?_
              refine g_reg ?_
              refine g_v (v_move rfl) rfl ?_
              refine g_v (v_eql rfl rfl) rfl ?_
              refine g_nil ?_
              refine g_cond rfl (fun h75 => ?_) (fun h75 => ?_)
              · skip
                refine g_seq ?_
                refine g_reg ?_
                refine g_v (v_move rfl) rfl ?_
                refine g_v (v_assign rfl) rfl ?_
                refine g_nil ?_
                refine g_reg ?_
                refine g_v (v_move rfl) rfl ?_
                refine g_v (v_assign rfl) rfl ?_
                refine g_nil ?_
                refine g_blk ?_
                refine g_reg ?_
                refine g_v (v_move rfl) rfl ?_
                refine g_v (v_add rfl rfl (w64 (by omega))) rfl ?_
                refine g_v (v_assign rfl) rfl ?_
                refine g_nil ?_
                exact g_again (i + 1, p2, q2, S1, L1, n1) ⟨by simp only []; omega, G1, hC1⟩ (by simp only []; omega) [0, 1, 2, 8, 9, 10] rfl rfl
              · simp at h75
        · skip
          refine g_exit rfl ?_
          refine g_seq ?_
          refine g_seq ?_
          refine g_reg ?_
          refine g_v (v_move rfl) rfl ?_
          refine g_l (l_call (Pre := [tabs, vlt p S L n]) Tryz.call15 rfl (ct_image_Rows p S L n hC.sm)) rfl ?_
          rintro _ _ ⟨s79, c79, rfl, rfl⟩
          refine g_freeze s79 ?_
          refine g_v (v_move rfl) rfl ?_
          refine g_l (l_call (Pre := [rvl q S L n]) Tryz.call16 rfl (ct_R_Rows q S L n hC.sm)) rfl ?_
          rintro _ _ ⟨s81, c81, rfl, rfl⟩
          refine g_freeze s81 ?_
          refine g_l (l_call (Pre := [roL 3 s79 (chR (rowsF S L n)), roL 3 s81 (chR (rowsF S L n))]) Tryz.call14 rfl (ct_R_SameChanges (rowsF S L n) (rowsF S L n) s79 s81 c79 c81 (by omega) (by omega))) rfl ?_
          rintro _ _ ⟨rfl, rfl⟩
          refine g_v (v_not rfl) rfl ?_
          refine g_nil ?_
          refine g_cond rfl (fun h83 => ?_) (fun h83 => ?_)
          · simp at h83
          · skip
            refine g_skip ?_
            refine g_seq ?_
            refine g_reg ?_
            refine g_v (v_move rfl) rfl ?_
            refine g_l (l_call (Pre := [rvl q S L n]) Tryz.call16 rfl (ct_R_Rows q S L n hC.sm)) rfl ?_
            rintro _ _ ⟨s86, c86, rfl, rfl⟩
            refine g_freeze s86 ?_
            refine g_l (l_call (Pre := [tabs, roL 3 s86 (chR (rowsF S L n))]) Tryz.call17 rfl (ct_image_Parse (rowsF S L n) s86 c86 (by omega) (keyle hC))) rfl ?_
            rintro _ _ (⟨st, q3, hps, hw, rfl, rfl⟩ | ⟨hno, rfl, rfl⟩)
            rotate_left
            · exact absurd (con_pars hC).2 (hno _ (con_pars hC).1)
            rw [(con_pars hC).1] at hps
            injection hps with hps
            subst hps
            change G _ _ _ (vlt q3 S L n :: _)
            refine g_v (v_move rfl) rfl ?_
            refine g_v (v_extract (v := ptr q3 0) rfl rfl) rfl ?_
            refine g_v (v_extract (v := errV 0) rfl rfl) rfl ?_
            refine g_v (v_assign rfl) rfl ?_
            refine g_v (v_assign rfl) rfl ?_
            refine g_nil ?_
            refine g_seq ?_
            refine g_seq ?_
            refine g_reg ?_
            refine g_v (v_move rfl) rfl ?_
            refine g_v (v_ineq (T := 80) (f := 0) Tryz.underlying32 rfl) rfl ?_
            refine g_v (v_move rfl) rfl ?_
            refine g_gv1 rfl rfl (by simp) (v_move rfl) rfl ?_
            refine g_gv1 rfl rfl (by simp) (v_pnil Tryz.underlying27 rfl) rfl ?_
            refine g_v (v_or rfl rfl) rfl ?_
            refine g_v (v_move rfl) rfl ?_
            refine g_gv1 rfl rfl (by simp) (v_move rfl) rfl ?_
            refine g_gv1 rfl rfl (by simp) (v_move rfl) rfl ?_
            refine g_gl rfl rfl (by simp) (l_call (Pre := [vlt q3 S L n, rvl q S L n]) Tryz.call18 rfl (ct_L_asVault q3 q S L n G0 hC.v)) rfl ?_
            rintro _ _ ⟨rfl, rfl⟩
            refine g_gv1 rfl rfl (by simp) (v_not rfl) rfl ?_
            refine g_v (v_or rfl rfl) rfl ?_
            refine g_nil ?_
            refine g_cond rfl (fun h101 => ?_) (fun h101 => ?_)
            · simp at h101
            · skip
              refine g_skip ?_
              refine g_seq ?_
              refine g_reg ?_
              refine g_v (v_move rfl) rfl ?_
              refine g_l (l_call (Pre := [tabs, roL 3 s1 (chR (rs))]) Tryz.call17 rfl (ct_image_Parse (rs) s1 cap1 (by omega) (fun c hc => by have := hrk.2 c hc; omega))) rfl ?_
              rintro _ _ (⟨st4, q4, hps4, hw4, rfl, rfl⟩ | ⟨hno4, rfl, rfl⟩)
              · obtain ⟨G4, hC4, hre4⟩ := pars_con hps4 hw4
                refine g_v (v_move rfl) rfl ?_
                refine g_v (v_extract (v := ptr q4 0) rfl rfl) rfl ?_
                refine g_v (v_extract (v := errV 0) rfl rfl) rfl ?_
                refine g_v (v_assign rfl) rfl ?_
                refine g_v (v_assign rfl) rfl ?_
                refine g_nil ?_
                refine g_seq ?_
                refine g_seq ?_
                refine g_reg ?_
                refine g_v (v_move rfl) rfl ?_
                refine g_v (v_ineq (T := 80) (f := 0) Tryz.underlying32 rfl) rfl ?_
                refine g_v (v_move rfl) rfl ?_
                refine g_no rfl rfl rfl rfl ?_
                refine g_no rfl rfl rfl rfl ?_
                refine g_no rfl rfl rfl rfl ?_
                refine g_no rfl rfl rfl rfl ?_
                refine g_no rfl rfl rfl rfl ?_
                refine g_no rfl rfl rfl rfl ?_
                refine g_no rfl rfl rfl rfl ?_
                refine g_v (v_pk2 rfl rfl rfl) rfl ?_
                refine g_v (v_move rfl) rfl ?_
                refine g_gv1 rfl rfl rfl (v_move rfl) rfl ?_
                refine g_gv1 rfl rfl rfl (v_ieql (T := 80) (f := 0) Tryz.underlying32 rfl) rfl ?_
                refine g_gv1 rfl rfl rfl (v_move rfl) rfl ?_
                refine g_gv1 rfl rfl rfl (v_move rfl) rfl ?_
                refine g_gv1 rfl rfl rfl (v_pnil Tryz.underlying27 rfl) rfl ?_
                refine g_gv1 rfl rfl rfl (v_move rfl) rfl ?_
                refine g_gv1 rfl rfl rfl (v_move rfl) rfl ?_
                refine g_gl rfl rfl rfl (l_call (Pre := [tabs, vlt q4 ⟨st4.B, st4.N⟩ st4.L st4.n]) Tryz.call15 rfl (ct_image_Rows q4 ⟨st4.B, st4.N⟩ st4.L st4.n hC4.sm)) rfl ?_
                rintro _ _ ⟨s126, c126, rfl, rfl⟩
                refine g_freeze s126 ?_
                refine g_gv1 rfl rfl rfl (v_move rfl) rfl ?_
                refine g_gl rfl rfl rfl (l_call (Pre := [roL 3 s126 (chR (rowsF ⟨st4.B, st4.N⟩ st4.L st4.n)), roL 3 s1 (chR (rs))]) Tryz.call14 rfl (ct_R_SameChanges (rowsF ⟨st4.B, st4.N⟩ st4.L st4.n) (rs) s126 s1 c126 cap1 (by have := rowsF_le (S := ⟨st4.B, st4.N⟩) (n := st4.n) hC4.v.len; omega) (by omega))) rfl ?_
                rintro _ _ ⟨rfl, rfl⟩
                refine g_gv1 rfl rfl rfl (v_not rfl) rfl ?_
                refine g_gv1 rfl rfl rfl (v_pk2 rfl rfl rfl) rfl ?_
                refine g_gv1 rfl rfl rfl (v_pk1 rfl rfl rfl) rfl ?_
                refine g_v (v_pk2 rfl rfl rfl) rfl ?_
                refine g_nil ?_
                refine g_cond rfl (fun h132 => ?_) (fun h132 => ?_)
                · rw [hre4] at h132
                  simp at h132
                · skip
                  refine g_skip ?_
                  refine g_seq ?_
                  refine g_seq ?_
                  refine g_reg ?_
                  refine g_v (v_assign rfl) rfl ?_
                  refine g_nil ?_
                  refine g_block ?_
                  refine g_loop (α := Nat) (fun i => 1 ≤ i ∧ srt (rs.take i) ∧ srt (os.take i)) (fun i => U [(0, sl s l.length cap), (1, sl s1 rs.length cap1), (2, sl s2 os.length cap2), (20, I i)]) (fun i => tabs :: acts s l f :: roL 3 s1 (chR rs) :: roL 3 s2 (chR os) :: F) (fun i => rs.length + os.length - i) 1 ⟨by omega, srt_1 rs, srt_1 os⟩ [0, 1, 2, 20] rfl rfl ?_
                  rintro i ⟨hi1, hsr, hso⟩
                  refine g_seq ?_
                  refine g_seq ?_
                  refine g_reg ?_
                  refine g_v (v_move rfl) rfl ?_
                  refine g_v (v_move rfl) rfl ?_
                  refine g_v (v_len Tryz.underlying23 rfl) rfl ?_
                  refine g_v (v_lss rfl rfl) rfl ?_
                  refine g_v (v_move rfl) rfl ?_
                  refine g_gv rfl rfl (fun hg => v_move rfl) rfl rfl ?_
                  refine g_gv rfl rfl (fun hg => v_move rfl) rfl rfl ?_
                  refine g_gv rfl rfl (fun hg => v_len Tryz.underlying23 rfl) rfl rfl ?_
                  refine g_gv rfl rfl (fun hg => v_lss rfl rfl) rfl rfl ?_
                  refine g_v (v_or rfl rfl) rfl ?_
                  refine g_nil ?_
                  refine g_cond rfl (fun h142 => ?_) (fun h142 => ?_)
                  · have h142' : i < rs.length ∨ i < os.length := by simp at h142; omega
                    refine g_skip ?_
                    refine g_seq ?_
                    refine g_block ?_
                    refine g_seq ?_
                    refine g_draw (Lf := [roL 3 s1 (chR rs), roL 3 s2 (chR os)]) [(0, false), (1, false), (2, false), (3, false), (4, false), (5, false), (6, false), (7, false), (8, false), (9, false), (10, false), (11, false), (12, false), (13, false), (14, false), (15, false), (16, false), (17, false), (18, false), (19, false), (20, false), (21, false), (22, false), (23, false), (24, false), (25, false), (26, false), (27, false), (28, false), (29, false), (30, false), (31, false), (32, false), (33, false), (34, false), (35, false), (36, false), (37, false)] (by kernel_rfl) (by kernel_rfl) rfl (by kernel_rfl) ?_
                    refine d_v rfl (v_move rfl) rfl ?_
                    refine d_v rfl (v_move rfl) rfl ?_
                    refine d_v rfl (v_len Tryz.underlying23 rfl) rfl ?_
                    refine d_v rfl (v_lss rfl rfl) rfl ?_
                    refine d_v rfl (v_move rfl) rfl ?_
                    by_cases h1 : (i : Int) < (rs.length : Int)
                    · obtain ⟨x, hx⟩ : ∃ x, rs[i]? = some x := ⟨_, List.getElem?_eq_getElem (by omega)⟩
                      obtain ⟨px, hpx⟩ : ∃ px, rs[i - 1]? = some px := ⟨_, List.getElem?_eq_getElem (by omega)⟩
                      refine d_gv1 rfl rfl rfl (decide_eq_true h1) (v_move rfl) rfl ?_
                      refine d_gv1 rfl rfl rfl (decide_eq_true h1) (v_move rfl) rfl ?_
                      refine d_gv1 rfl rfl rfl (decide_eq_true h1) (v_idxS (i) Tryz.underlying23 Tryz.sizeOf49 rfl rfl (by omega) (by omega) (by rw [chR_len]; omega)) rfl ?_
                      refine d_gv1 rfl rfl rfl (decide_eq_true h1) (v_fieldAdrS (j := i) 0 Tryz.underlying49 rfl rfl Tryz.sizeOf9 (by decide) rfl (by rw [chR_len]; omega)) rfl ?_
                      refine d_gv1 rfl rfl rfl (decide_eq_true h1) (v_loadS (v := Str x.key) Tryz.isAgg9 rfl (chR_at hx) rfl) rfl ?_
                      refine d_gv1 rfl rfl rfl (decide_eq_true h1) (v_move rfl) rfl ?_
                      refine d_gv1 rfl rfl rfl (decide_eq_true h1) (v_move rfl) rfl ?_
                      refine d_gv1 rfl rfl rfl (decide_eq_true h1) (v_sub rfl rfl (w64 (by omega))) rfl ?_
                      refine d_gv1 rfl rfl rfl (decide_eq_true h1) (v_idxS (i - 1) Tryz.underlying23 Tryz.sizeOf49 rfl rfl (by omega) (by omega) (by rw [chR_len]; omega)) rfl ?_
                      refine d_gv1 rfl rfl rfl (decide_eq_true h1) (v_fieldAdrS (j := (i - 1)) 0 Tryz.underlying49 rfl rfl Tryz.sizeOf9 (by decide) rfl (by rw [chR_len]; omega)) rfl ?_
                      refine d_gv1 rfl rfl rfl (decide_eq_true h1) (v_loadS (v := Str px.key) Tryz.isAgg9 rfl (chR_at hpx) rfl) rfl ?_
                      refine d_gv1 rfl rfl rfl (decide_eq_true h1) (v_sleq rfl rfl) rfl ?_
                      refine d_v rfl (v_pk1 rfl (decide_eq_true h1) rfl) rfl ?_
                      refine d_v rfl (v_move rfl) rfl ?_
                      rcases hb1 : (Op.bytesLess x.key px.key || decide (x.key = px.key)) with _ | _
                      · have hrs2 : ∀ p c, rs[i - 1]? = some p → rs[i]? = some c → kl p.key c.key = true := fun p c e1 e2 => by
                          rw [hpx] at e1; rw [hx] at e2; injection e1 with e1; injection e2 with e2; subst e1 e2; exact kl_of hb1
                        refine d_gv1 rfl rfl rfl rfl (v_move rfl) rfl ?_
                        refine d_gv1 rfl rfl rfl rfl (v_move rfl) rfl ?_
                        refine d_gv1 rfl rfl rfl rfl (v_len Tryz.underlying23 rfl) rfl ?_
                        refine d_gv1 rfl rfl rfl rfl (v_lss rfl rfl) rfl ?_
                        refine d_gv1 rfl rfl rfl rfl (v_move rfl) rfl ?_
                        by_cases h2 : (i : Int) < (os.length : Int)
                        · obtain ⟨y, hy⟩ : ∃ y, os[i]? = some y := ⟨_, List.getElem?_eq_getElem (by omega)⟩
                          obtain ⟨py, hpy⟩ : ∃ py, os[i - 1]? = some py := ⟨_, List.getElem?_eq_getElem (by omega)⟩
                          refine d_gv1 rfl rfl rfl (decide_eq_true h2) (v_move rfl) rfl ?_
                          refine d_gv1 rfl rfl rfl (decide_eq_true h2) (v_move rfl) rfl ?_
                          refine d_gv1 rfl rfl rfl (decide_eq_true h2) (v_idxS (i) Tryz.underlying23 Tryz.sizeOf49 rfl rfl (by omega) (by omega) (by rw [chR_len]; omega)) rfl ?_
                          refine d_gv1 rfl rfl rfl (decide_eq_true h2) (v_fieldAdrS (j := i) 0 Tryz.underlying49 rfl rfl Tryz.sizeOf9 (by decide) rfl (by rw [chR_len]; omega)) rfl ?_
                          refine d_gv1 rfl rfl rfl (decide_eq_true h2) (v_loadS (v := Str y.key) Tryz.isAgg9 rfl (chR_at hy) rfl) rfl ?_
                          refine d_gv1 rfl rfl rfl (decide_eq_true h2) (v_move rfl) rfl ?_
                          refine d_gv1 rfl rfl rfl (decide_eq_true h2) (v_move rfl) rfl ?_
                          refine d_gv1 rfl rfl rfl (decide_eq_true h2) (v_sub rfl rfl (w64 (by omega))) rfl ?_
                          refine d_gv1 rfl rfl rfl (decide_eq_true h2) (v_idxS (i - 1) Tryz.underlying23 Tryz.sizeOf49 rfl rfl (by omega) (by omega) (by rw [chR_len]; omega)) rfl ?_
                          refine d_gv1 rfl rfl rfl (decide_eq_true h2) (v_fieldAdrS (j := (i - 1)) 0 Tryz.underlying49 rfl rfl Tryz.sizeOf9 (by decide) rfl (by rw [chR_len]; omega)) rfl ?_
                          refine d_gv1 rfl rfl rfl (decide_eq_true h2) (v_loadS (v := Str py.key) Tryz.isAgg9 rfl (chR_at hpy) rfl) rfl ?_
                          refine d_gv1 rfl rfl rfl (decide_eq_true h2) (v_sleq rfl rfl) rfl ?_
                          refine d_gv1 rfl rfl rfl rfl (v_pk1 rfl (decide_eq_true h2) rfl) rfl ?_
                          refine d_v rfl (v_pk2 rfl rfl rfl) rfl ?_
                          refine d_nil ?_
                          refine g_cond rfl (fun h182 => ?_) (fun h182 => ?_)
                          · skip
                            refine g_seq ?_
                            refine g_reg ?_
                            refine g_v (v_assign rfl) rfl ?_
                            refine g_nil ?_
                            first | exact g_ret1 rfl rfl rfl | exact g_ret1 rfl rfl (by show Bo _ = Bo true; simp)
                          · have hos2 : ∀ p c, os[i - 1]? = some p → os[i]? = some c → kl p.key c.key = true := fun p c e1 e2 => by rw [hpy] at e1; rw [hy] at e2; injection e1 with e1; injection e2 with e2; subst e1 e2; exact kl_of h182
                            refine g_skip ?_
                            refine g_blk ?_
                            refine g_reg ?_
                            refine g_v (v_move rfl) rfl ?_
                            refine g_v (v_add rfl rfl (w64 (by omega))) rfl ?_
                            refine g_v (v_assign rfl) rfl ?_
                            refine g_nil ?_
                            exact g_again (i + 1) ⟨by omega, srt_step hsr hi1 hrs2, srt_step hso hi1 hos2⟩ (by omega) [0, 1, 2, 20] rfl rfl
                        · skip
                          refine d_no rfl rfl rfl (by rw [decide_eq_false h2]; rfl) rfl ?_
                          refine d_no rfl rfl rfl (by rw [decide_eq_false h2]; rfl) rfl ?_
                          refine d_no rfl rfl rfl (by rw [decide_eq_false h2]; rfl) rfl ?_
                          refine d_no rfl rfl rfl (by rw [decide_eq_false h2]; rfl) rfl ?_
                          refine d_no rfl rfl rfl (by rw [decide_eq_false h2]; rfl) rfl ?_
                          refine d_no rfl rfl rfl (by rw [decide_eq_false h2]; rfl) rfl ?_
                          refine d_no rfl rfl rfl (by rw [decide_eq_false h2]; rfl) rfl ?_
                          refine d_no rfl rfl rfl (by rw [decide_eq_false h2]; rfl) rfl ?_
                          refine d_no rfl rfl rfl (by rw [decide_eq_false h2]; rfl) rfl ?_
                          refine d_no rfl rfl rfl (by rw [decide_eq_false h2]; rfl) rfl ?_
                          refine d_no rfl rfl rfl (by rw [decide_eq_false h2]; rfl) rfl ?_
                          refine d_no rfl rfl rfl (by rw [decide_eq_false h2]; rfl) rfl ?_
                          refine d_gv1 rfl rfl rfl rfl (v_pk2 rfl (decide_eq_false h2) rfl) rfl ?_
                          refine d_v rfl (v_pk2 rfl rfl rfl) rfl ?_
                          refine d_nil ?_
                          refine g_cond rfl (fun h182 => ?_) (fun h182 => ?_)
                          · cases h182
                          · have hos2 : ∀ p c, os[i - 1]? = some p → os[i]? = some c → kl p.key c.key = true := fun p c e1 e2 => by have := (List.getElem?_eq_some_iff.1 e2).1; omega
                            refine g_skip ?_
                            refine g_blk ?_
                            refine g_reg ?_
                            refine g_v (v_move rfl) rfl ?_
                            refine g_v (v_add rfl rfl (w64 (by omega))) rfl ?_
                            refine g_v (v_assign rfl) rfl ?_
                            refine g_nil ?_
                            exact g_again (i + 1) ⟨by omega, srt_step hsr hi1 hrs2, srt_step hso hi1 hos2⟩ (by omega) [0, 1, 2, 20] rfl rfl
                      · skip
                        refine d_no rfl rfl rfl rfl rfl ?_
                        refine d_no rfl rfl rfl rfl rfl ?_
                        refine d_no rfl rfl rfl rfl rfl ?_
                        refine d_no rfl rfl rfl rfl rfl ?_
                        refine d_no rfl rfl rfl rfl rfl ?_
                        refine d_no rfl rfl rfl rfl rfl ?_
                        refine d_no rfl rfl rfl rfl rfl ?_
                        refine d_no rfl rfl rfl rfl rfl ?_
                        refine d_no rfl rfl rfl rfl rfl ?_
                        refine d_no rfl rfl rfl rfl rfl ?_
                        refine d_no rfl rfl rfl rfl rfl ?_
                        refine d_no rfl rfl rfl rfl rfl ?_
                        refine d_no rfl rfl rfl rfl rfl ?_
                        refine d_no rfl rfl rfl rfl rfl ?_
                        refine d_no rfl rfl rfl rfl rfl ?_
                        refine d_no rfl rfl rfl rfl rfl ?_
                        refine d_no rfl rfl rfl rfl rfl ?_
                        refine d_no rfl rfl rfl rfl rfl ?_
                        refine d_v rfl (v_pk1 rfl rfl rfl) rfl ?_
                        refine d_nil ?_
                        refine g_cond rfl (fun h182 => ?_) (fun h182 => ?_)
                        · skip
                          refine g_seq ?_
                          refine g_reg ?_
                          refine g_v (v_assign rfl) rfl ?_
                          refine g_nil ?_
                          first | exact g_ret1 rfl rfl rfl | exact g_ret1 rfl rfl (by show Bo _ = Bo true; simp)
                        · cases h182
                    · have hrs2 : ∀ p c, rs[i - 1]? = some p → rs[i]? = some c → kl p.key c.key = true := fun p c e1 e2 => by have := (List.getElem?_eq_some_iff.1 e2).1; omega
                      refine d_no rfl rfl rfl (by rw [decide_eq_false h1]; rfl) rfl ?_
                      refine d_no rfl rfl rfl (by rw [decide_eq_false h1]; rfl) rfl ?_
                      refine d_no rfl rfl rfl (by rw [decide_eq_false h1]; rfl) rfl ?_
                      refine d_no rfl rfl rfl (by rw [decide_eq_false h1]; rfl) rfl ?_
                      refine d_no rfl rfl rfl (by rw [decide_eq_false h1]; rfl) rfl ?_
                      refine d_no rfl rfl rfl (by rw [decide_eq_false h1]; rfl) rfl ?_
                      refine d_no rfl rfl rfl (by rw [decide_eq_false h1]; rfl) rfl ?_
                      refine d_no rfl rfl rfl (by rw [decide_eq_false h1]; rfl) rfl ?_
                      refine d_no rfl rfl rfl (by rw [decide_eq_false h1]; rfl) rfl ?_
                      refine d_no rfl rfl rfl (by rw [decide_eq_false h1]; rfl) rfl ?_
                      refine d_no rfl rfl rfl (by rw [decide_eq_false h1]; rfl) rfl ?_
                      refine d_no rfl rfl rfl (by rw [decide_eq_false h1]; rfl) rfl ?_
                      refine d_v rfl (v_pk2 rfl (decide_eq_false h1) rfl) rfl ?_
                      refine d_v rfl (v_move rfl) rfl ?_
                      refine d_gv1 rfl rfl rfl rfl (v_move rfl) rfl ?_
                      refine d_gv1 rfl rfl rfl rfl (v_move rfl) rfl ?_
                      refine d_gv1 rfl rfl rfl rfl (v_len Tryz.underlying23 rfl) rfl ?_
                      refine d_gv1 rfl rfl rfl rfl (v_lss rfl rfl) rfl ?_
                      refine d_gv1 rfl rfl rfl rfl (v_move rfl) rfl ?_
                      by_cases h2 : (i : Int) < (os.length : Int)
                      · obtain ⟨y, hy⟩ : ∃ y, os[i]? = some y := ⟨_, List.getElem?_eq_getElem (by omega)⟩
                        obtain ⟨py, hpy⟩ : ∃ py, os[i - 1]? = some py := ⟨_, List.getElem?_eq_getElem (by omega)⟩
                        refine d_gv1 rfl rfl rfl (decide_eq_true h2) (v_move rfl) rfl ?_
                        refine d_gv1 rfl rfl rfl (decide_eq_true h2) (v_move rfl) rfl ?_
                        refine d_gv1 rfl rfl rfl (decide_eq_true h2) (v_idxS (i) Tryz.underlying23 Tryz.sizeOf49 rfl rfl (by omega) (by omega) (by rw [chR_len]; omega)) rfl ?_
                        refine d_gv1 rfl rfl rfl (decide_eq_true h2) (v_fieldAdrS (j := i) 0 Tryz.underlying49 rfl rfl Tryz.sizeOf9 (by decide) rfl (by rw [chR_len]; omega)) rfl ?_
                        refine d_gv1 rfl rfl rfl (decide_eq_true h2) (v_loadS (v := Str y.key) Tryz.isAgg9 rfl (chR_at hy) rfl) rfl ?_
                        refine d_gv1 rfl rfl rfl (decide_eq_true h2) (v_move rfl) rfl ?_
                        refine d_gv1 rfl rfl rfl (decide_eq_true h2) (v_move rfl) rfl ?_
                        refine d_gv1 rfl rfl rfl (decide_eq_true h2) (v_sub rfl rfl (w64 (by omega))) rfl ?_
                        refine d_gv1 rfl rfl rfl (decide_eq_true h2) (v_idxS (i - 1) Tryz.underlying23 Tryz.sizeOf49 rfl rfl (by omega) (by omega) (by rw [chR_len]; omega)) rfl ?_
                        refine d_gv1 rfl rfl rfl (decide_eq_true h2) (v_fieldAdrS (j := (i - 1)) 0 Tryz.underlying49 rfl rfl Tryz.sizeOf9 (by decide) rfl (by rw [chR_len]; omega)) rfl ?_
                        refine d_gv1 rfl rfl rfl (decide_eq_true h2) (v_loadS (v := Str py.key) Tryz.isAgg9 rfl (chR_at hpy) rfl) rfl ?_
                        refine d_gv1 rfl rfl rfl (decide_eq_true h2) (v_sleq rfl rfl) rfl ?_
                        refine d_gv1 rfl rfl rfl rfl (v_pk1 rfl (decide_eq_true h2) rfl) rfl ?_
                        refine d_v rfl (v_pk2 rfl rfl rfl) rfl ?_
                        refine d_nil ?_
                        refine g_cond rfl (fun h182 => ?_) (fun h182 => ?_)
                        · skip
                          refine g_seq ?_
                          refine g_reg ?_
                          refine g_v (v_assign rfl) rfl ?_
                          refine g_nil ?_
                          first | exact g_ret1 rfl rfl rfl | exact g_ret1 rfl rfl (by show Bo _ = Bo true; simp)
                        · have hos2 : ∀ p c, os[i - 1]? = some p → os[i]? = some c → kl p.key c.key = true := fun p c e1 e2 => by rw [hpy] at e1; rw [hy] at e2; injection e1 with e1; injection e2 with e2; subst e1 e2; exact kl_of h182
                          refine g_skip ?_
                          refine g_blk ?_
                          refine g_reg ?_
                          refine g_v (v_move rfl) rfl ?_
                          refine g_v (v_add rfl rfl (w64 (by omega))) rfl ?_
                          refine g_v (v_assign rfl) rfl ?_
                          refine g_nil ?_
                          exact g_again (i + 1) ⟨by omega, srt_step hsr hi1 hrs2, srt_step hso hi1 hos2⟩ (by omega) [0, 1, 2, 20] rfl rfl
                      · skip
                        refine d_no rfl rfl rfl (by rw [decide_eq_false h2]; rfl) rfl ?_
                        refine d_no rfl rfl rfl (by rw [decide_eq_false h2]; rfl) rfl ?_
                        refine d_no rfl rfl rfl (by rw [decide_eq_false h2]; rfl) rfl ?_
                        refine d_no rfl rfl rfl (by rw [decide_eq_false h2]; rfl) rfl ?_
                        refine d_no rfl rfl rfl (by rw [decide_eq_false h2]; rfl) rfl ?_
                        refine d_no rfl rfl rfl (by rw [decide_eq_false h2]; rfl) rfl ?_
                        refine d_no rfl rfl rfl (by rw [decide_eq_false h2]; rfl) rfl ?_
                        refine d_no rfl rfl rfl (by rw [decide_eq_false h2]; rfl) rfl ?_
                        refine d_no rfl rfl rfl (by rw [decide_eq_false h2]; rfl) rfl ?_
                        refine d_no rfl rfl rfl (by rw [decide_eq_false h2]; rfl) rfl ?_
                        refine d_no rfl rfl rfl (by rw [decide_eq_false h2]; rfl) rfl ?_
                        refine d_no rfl rfl rfl (by rw [decide_eq_false h2]; rfl) rfl ?_
                        refine d_gv1 rfl rfl rfl rfl (v_pk2 rfl (decide_eq_false h2) rfl) rfl ?_
                        refine d_v rfl (v_pk2 rfl rfl rfl) rfl ?_
                        refine d_nil ?_
                        refine g_cond rfl (fun h182 => ?_) (fun h182 => ?_)
                        · cases h182
                        · have hos2 : ∀ p c, os[i - 1]? = some p → os[i]? = some c → kl p.key c.key = true := fun p c e1 e2 => by have := (List.getElem?_eq_some_iff.1 e2).1; omega
                          refine g_skip ?_
                          refine g_blk ?_
                          refine g_reg ?_
                          refine g_v (v_move rfl) rfl ?_
                          refine g_v (v_add rfl rfl (w64 (by omega))) rfl ?_
                          refine g_v (v_assign rfl) rfl ?_
                          refine g_nil ?_
                          exact g_again (i + 1) ⟨by omega, srt_step hsr hi1 hrs2, srt_step hso hi1 hos2⟩ (by omega) [0, 1, 2, 20] rfl rfl
                  · have h142' : ¬ (i < rs.length ∨ i < os.length) := by simp at h142; omega
                    rw [List.take_of_length_le (by omega)] at hsr hso
                    have hml : (mg rs os).length ≤ 1000000 := by have := mg_len rs os; omega
                    refine g_exit rfl ?_
                    refine g_seq ?_
                    refine g_reg ?_
                    refine g_v (v_move rfl) rfl ?_
                    refine g_v (v_move rfl) rfl ?_
                    refine g_l (l_call (Pre := [roL 3 s1 (chR rs), roL 3 s2 (chR os)]) Tryz.call19 rfl (ct_image_Changes rs os s1 s2 cap1 cap2 (by omega) (by omega) hsr hso)) rfl ?_
                    rintro _ _ ⟨s185, c185, rfl, rfl⟩
                    refine g_freeze s185 ?_
                    refine g_v (v_move rfl) rfl ?_
                    refine g_v (v_move rfl) rfl ?_
                    refine g_l (l_call (Pre := [roL 3 s1 (chR rs), roL 3 s2 (chR os)]) Tryz.call20 rfl (ct_R_ChangesOf rs os s1 s2 cap1 cap2 (by omega) (by omega))) rfl ?_
                    rintro _ _ ⟨s188, c188, rfl, rfl⟩
                    refine g_freeze s188 ?_
                    refine g_l (l_call (Pre := [roL 3 s185 (chR (mg rs os)), roL 3 s188 (chR (mg rs os))]) Tryz.call14 rfl (ct_R_SameChanges (mg rs os) (mg rs os) s185 s188 c185 c188 hml hml)) rfl ?_
                    rintro _ _ ⟨rfl, rfl⟩
                    refine g_v (v_assign rfl) rfl ?_
                    refine g_nil ?_
                    first | exact g_ret1 rfl rfl rfl | exact g_ret1 rfl rfl (by show Bo _ = Bo true; simp)
              · skip
                refine g_v (v_move rfl) rfl ?_
                refine g_v (v_extract (v := .pointer none) rfl rfl) rfl ?_
                refine g_v (v_extract (v := errV 4) rfl rfl) rfl ?_
                refine g_v (v_assign rfl) rfl ?_
                refine g_v (v_assign rfl) rfl ?_
                refine g_nil ?_
                refine g_seq ?_
                refine g_seq ?_
                refine g_reg ?_
                refine g_v (v_move rfl) rfl ?_
                refine g_v (v_ineq (T := 80) (f := 4) Tryz.underlying32 rfl) rfl ?_
                refine g_v (v_move rfl) rfl ?_
                refine g_gv1 rfl rfl rfl (v_move rfl) rfl ?_
                refine g_gv1 rfl rfl rfl (v_pnnil Tryz.underlying27 rfl) rfl ?_
                refine g_gv1 rfl rfl rfl (v_move rfl) rfl ?_
                refine g_gv1 rfl rfl rfl (v_move rfl) rfl ?_
                refine g_gl rfl rfl rfl (l_call (Pre := []) Tryz.call13 rfl (ct_L_same (4) (4) (by decide))) rfl ?_
                rintro _ _ ⟨rfl, rfl⟩
                refine g_gv1 rfl rfl rfl (v_not rfl) rfl ?_
                refine g_gv1 rfl rfl rfl (v_pk2 rfl rfl rfl) rfl ?_
                refine g_v (v_pk1 rfl rfl rfl) rfl ?_
                refine g_v (v_move rfl) rfl ?_
                refine g_gv1 rfl rfl rfl (v_move rfl) rfl ?_
                refine g_gv1 rfl rfl rfl (v_ieql (T := 80) (f := 4) Tryz.underlying32 rfl) rfl ?_
                refine g_gv1 rfl rfl rfl (v_move rfl) rfl ?_
                refine g_no rfl rfl rfl rfl ?_
                refine g_no rfl rfl rfl rfl ?_
                refine g_no rfl rfl rfl rfl ?_
                refine g_no rfl rfl rfl rfl ?_
                refine g_no rfl rfl rfl rfl ?_
                refine g_no rfl rfl rfl rfl ?_
                refine g_no rfl rfl rfl rfl ?_
                refine g_no rfl rfl rfl rfl ?_
                refine g_no rfl rfl rfl rfl ?_
                refine g_gv1 rfl rfl rfl (v_pk2 rfl rfl rfl) rfl ?_
                refine g_v (v_pk2 rfl rfl rfl) rfl ?_
                refine g_nil ?_
                refine g_cond rfl (fun h132 => ?_) (fun h132 => ?_)
                · cases h132
                · skip
                  refine g_skip ?_
                  refine g_seq ?_
                  refine g_seq ?_
                  refine g_reg ?_
                  refine g_v (v_assign rfl) rfl ?_
                  refine g_nil ?_
                  refine g_block ?_
                  refine g_loop (α := Nat) (fun i => 1 ≤ i ∧ srt (rs.take i) ∧ srt (os.take i)) (fun i => U [(0, sl s l.length cap), (1, sl s1 rs.length cap1), (2, sl s2 os.length cap2), (20, I i)]) (fun i => tabs :: acts s l f :: roL 3 s1 (chR rs) :: roL 3 s2 (chR os) :: F) (fun i => rs.length + os.length - i) 1 ⟨by omega, srt_1 rs, srt_1 os⟩ [0, 1, 2, 20] rfl rfl ?_
                  rintro i ⟨hi1, hsr, hso⟩
                  refine g_seq ?_
                  refine g_seq ?_
                  refine g_reg ?_
                  refine g_v (v_move rfl) rfl ?_
                  refine g_v (v_move rfl) rfl ?_
                  refine g_v (v_len Tryz.underlying23 rfl) rfl ?_
                  refine g_v (v_lss rfl rfl) rfl ?_
                  refine g_v (v_move rfl) rfl ?_
                  refine g_gv rfl rfl (fun hg => v_move rfl) rfl rfl ?_
                  refine g_gv rfl rfl (fun hg => v_move rfl) rfl rfl ?_
                  refine g_gv rfl rfl (fun hg => v_len Tryz.underlying23 rfl) rfl rfl ?_
                  refine g_gv rfl rfl (fun hg => v_lss rfl rfl) rfl rfl ?_
                  refine g_v (v_or rfl rfl) rfl ?_
                  refine g_nil ?_
                  refine g_cond rfl (fun h142 => ?_) (fun h142 => ?_)
                  · have h142' : i < rs.length ∨ i < os.length := by simp at h142; omega
                    refine g_skip ?_
                    refine g_seq ?_
                    refine g_block ?_
                    refine g_seq ?_
                    refine g_draw (Lf := [roL 3 s1 (chR rs), roL 3 s2 (chR os)]) [(0, false), (1, false), (2, false), (3, false), (4, false), (5, false), (6, false), (7, false), (8, false), (9, false), (10, false), (11, false), (12, false), (13, false), (14, false), (15, false), (16, false), (17, false), (18, false), (19, false), (20, false), (21, false), (22, false), (23, false), (24, false), (25, false), (26, false), (27, false), (28, false), (29, false), (30, false), (31, false), (32, false), (33, false), (34, false), (35, false), (36, false), (37, false)] (by kernel_rfl) (by kernel_rfl) rfl (by kernel_rfl) ?_
                    refine d_v rfl (v_move rfl) rfl ?_
                    refine d_v rfl (v_move rfl) rfl ?_
                    refine d_v rfl (v_len Tryz.underlying23 rfl) rfl ?_
                    refine d_v rfl (v_lss rfl rfl) rfl ?_
                    refine d_v rfl (v_move rfl) rfl ?_
                    by_cases h1 : (i : Int) < (rs.length : Int)
                    · obtain ⟨x, hx⟩ : ∃ x, rs[i]? = some x := ⟨_, List.getElem?_eq_getElem (by omega)⟩
                      obtain ⟨px, hpx⟩ : ∃ px, rs[i - 1]? = some px := ⟨_, List.getElem?_eq_getElem (by omega)⟩
                      refine d_gv1 rfl rfl rfl (decide_eq_true h1) (v_move rfl) rfl ?_
                      refine d_gv1 rfl rfl rfl (decide_eq_true h1) (v_move rfl) rfl ?_
                      refine d_gv1 rfl rfl rfl (decide_eq_true h1) (v_idxS (i) Tryz.underlying23 Tryz.sizeOf49 rfl rfl (by omega) (by omega) (by rw [chR_len]; omega)) rfl ?_
                      refine d_gv1 rfl rfl rfl (decide_eq_true h1) (v_fieldAdrS (j := i) 0 Tryz.underlying49 rfl rfl Tryz.sizeOf9 (by decide) rfl (by rw [chR_len]; omega)) rfl ?_
                      refine d_gv1 rfl rfl rfl (decide_eq_true h1) (v_loadS (v := Str x.key) Tryz.isAgg9 rfl (chR_at hx) rfl) rfl ?_
                      refine d_gv1 rfl rfl rfl (decide_eq_true h1) (v_move rfl) rfl ?_
                      refine d_gv1 rfl rfl rfl (decide_eq_true h1) (v_move rfl) rfl ?_
                      refine d_gv1 rfl rfl rfl (decide_eq_true h1) (v_sub rfl rfl (w64 (by omega))) rfl ?_
                      refine d_gv1 rfl rfl rfl (decide_eq_true h1) (v_idxS (i - 1) Tryz.underlying23 Tryz.sizeOf49 rfl rfl (by omega) (by omega) (by rw [chR_len]; omega)) rfl ?_
                      refine d_gv1 rfl rfl rfl (decide_eq_true h1) (v_fieldAdrS (j := (i - 1)) 0 Tryz.underlying49 rfl rfl Tryz.sizeOf9 (by decide) rfl (by rw [chR_len]; omega)) rfl ?_
                      refine d_gv1 rfl rfl rfl (decide_eq_true h1) (v_loadS (v := Str px.key) Tryz.isAgg9 rfl (chR_at hpx) rfl) rfl ?_
                      refine d_gv1 rfl rfl rfl (decide_eq_true h1) (v_sleq rfl rfl) rfl ?_
                      refine d_v rfl (v_pk1 rfl (decide_eq_true h1) rfl) rfl ?_
                      refine d_v rfl (v_move rfl) rfl ?_
                      rcases hb1 : (Op.bytesLess x.key px.key || decide (x.key = px.key)) with _ | _
                      · have hrs2 : ∀ p c, rs[i - 1]? = some p → rs[i]? = some c → kl p.key c.key = true := fun p c e1 e2 => by
                          rw [hpx] at e1; rw [hx] at e2; injection e1 with e1; injection e2 with e2; subst e1 e2; exact kl_of hb1
                        refine d_gv1 rfl rfl rfl rfl (v_move rfl) rfl ?_
                        refine d_gv1 rfl rfl rfl rfl (v_move rfl) rfl ?_
                        refine d_gv1 rfl rfl rfl rfl (v_len Tryz.underlying23 rfl) rfl ?_
                        refine d_gv1 rfl rfl rfl rfl (v_lss rfl rfl) rfl ?_
                        refine d_gv1 rfl rfl rfl rfl (v_move rfl) rfl ?_
                        by_cases h2 : (i : Int) < (os.length : Int)
                        · obtain ⟨y, hy⟩ : ∃ y, os[i]? = some y := ⟨_, List.getElem?_eq_getElem (by omega)⟩
                          obtain ⟨py, hpy⟩ : ∃ py, os[i - 1]? = some py := ⟨_, List.getElem?_eq_getElem (by omega)⟩
                          refine d_gv1 rfl rfl rfl (decide_eq_true h2) (v_move rfl) rfl ?_
                          refine d_gv1 rfl rfl rfl (decide_eq_true h2) (v_move rfl) rfl ?_
                          refine d_gv1 rfl rfl rfl (decide_eq_true h2) (v_idxS (i) Tryz.underlying23 Tryz.sizeOf49 rfl rfl (by omega) (by omega) (by rw [chR_len]; omega)) rfl ?_
                          refine d_gv1 rfl rfl rfl (decide_eq_true h2) (v_fieldAdrS (j := i) 0 Tryz.underlying49 rfl rfl Tryz.sizeOf9 (by decide) rfl (by rw [chR_len]; omega)) rfl ?_
                          refine d_gv1 rfl rfl rfl (decide_eq_true h2) (v_loadS (v := Str y.key) Tryz.isAgg9 rfl (chR_at hy) rfl) rfl ?_
                          refine d_gv1 rfl rfl rfl (decide_eq_true h2) (v_move rfl) rfl ?_
                          refine d_gv1 rfl rfl rfl (decide_eq_true h2) (v_move rfl) rfl ?_
                          refine d_gv1 rfl rfl rfl (decide_eq_true h2) (v_sub rfl rfl (w64 (by omega))) rfl ?_
                          refine d_gv1 rfl rfl rfl (decide_eq_true h2) (v_idxS (i - 1) Tryz.underlying23 Tryz.sizeOf49 rfl rfl (by omega) (by omega) (by rw [chR_len]; omega)) rfl ?_
                          refine d_gv1 rfl rfl rfl (decide_eq_true h2) (v_fieldAdrS (j := (i - 1)) 0 Tryz.underlying49 rfl rfl Tryz.sizeOf9 (by decide) rfl (by rw [chR_len]; omega)) rfl ?_
                          refine d_gv1 rfl rfl rfl (decide_eq_true h2) (v_loadS (v := Str py.key) Tryz.isAgg9 rfl (chR_at hpy) rfl) rfl ?_
                          refine d_gv1 rfl rfl rfl (decide_eq_true h2) (v_sleq rfl rfl) rfl ?_
                          refine d_gv1 rfl rfl rfl rfl (v_pk1 rfl (decide_eq_true h2) rfl) rfl ?_
                          refine d_v rfl (v_pk2 rfl rfl rfl) rfl ?_
                          refine d_nil ?_
                          refine g_cond rfl (fun h182 => ?_) (fun h182 => ?_)
                          · skip
                            refine g_seq ?_
                            refine g_reg ?_
                            refine g_v (v_assign rfl) rfl ?_
                            refine g_nil ?_
                            first | exact g_ret1 rfl rfl rfl | exact g_ret1 rfl rfl (by show Bo _ = Bo true; simp)
                          · have hos2 : ∀ p c, os[i - 1]? = some p → os[i]? = some c → kl p.key c.key = true := fun p c e1 e2 => by rw [hpy] at e1; rw [hy] at e2; injection e1 with e1; injection e2 with e2; subst e1 e2; exact kl_of h182
                            refine g_skip ?_
                            refine g_blk ?_
                            refine g_reg ?_
                            refine g_v (v_move rfl) rfl ?_
                            refine g_v (v_add rfl rfl (w64 (by omega))) rfl ?_
                            refine g_v (v_assign rfl) rfl ?_
                            refine g_nil ?_
                            exact g_again (i + 1) ⟨by omega, srt_step hsr hi1 hrs2, srt_step hso hi1 hos2⟩ (by omega) [0, 1, 2, 20] rfl rfl
                        · skip
                          refine d_no rfl rfl rfl (by rw [decide_eq_false h2]; rfl) rfl ?_
                          refine d_no rfl rfl rfl (by rw [decide_eq_false h2]; rfl) rfl ?_
                          refine d_no rfl rfl rfl (by rw [decide_eq_false h2]; rfl) rfl ?_
                          refine d_no rfl rfl rfl (by rw [decide_eq_false h2]; rfl) rfl ?_
                          refine d_no rfl rfl rfl (by rw [decide_eq_false h2]; rfl) rfl ?_
                          refine d_no rfl rfl rfl (by rw [decide_eq_false h2]; rfl) rfl ?_
                          refine d_no rfl rfl rfl (by rw [decide_eq_false h2]; rfl) rfl ?_
                          refine d_no rfl rfl rfl (by rw [decide_eq_false h2]; rfl) rfl ?_
                          refine d_no rfl rfl rfl (by rw [decide_eq_false h2]; rfl) rfl ?_
                          refine d_no rfl rfl rfl (by rw [decide_eq_false h2]; rfl) rfl ?_
                          refine d_no rfl rfl rfl (by rw [decide_eq_false h2]; rfl) rfl ?_
                          refine d_no rfl rfl rfl (by rw [decide_eq_false h2]; rfl) rfl ?_
                          refine d_gv1 rfl rfl rfl rfl (v_pk2 rfl (decide_eq_false h2) rfl) rfl ?_
                          refine d_v rfl (v_pk2 rfl rfl rfl) rfl ?_
                          refine d_nil ?_
                          refine g_cond rfl (fun h182 => ?_) (fun h182 => ?_)
                          · cases h182
                          · have hos2 : ∀ p c, os[i - 1]? = some p → os[i]? = some c → kl p.key c.key = true := fun p c e1 e2 => by have := (List.getElem?_eq_some_iff.1 e2).1; omega
                            refine g_skip ?_
                            refine g_blk ?_
                            refine g_reg ?_
                            refine g_v (v_move rfl) rfl ?_
                            refine g_v (v_add rfl rfl (w64 (by omega))) rfl ?_
                            refine g_v (v_assign rfl) rfl ?_
                            refine g_nil ?_
                            exact g_again (i + 1) ⟨by omega, srt_step hsr hi1 hrs2, srt_step hso hi1 hos2⟩ (by omega) [0, 1, 2, 20] rfl rfl
                      · skip
                        refine d_no rfl rfl rfl rfl rfl ?_
                        refine d_no rfl rfl rfl rfl rfl ?_
                        refine d_no rfl rfl rfl rfl rfl ?_
                        refine d_no rfl rfl rfl rfl rfl ?_
                        refine d_no rfl rfl rfl rfl rfl ?_
                        refine d_no rfl rfl rfl rfl rfl ?_
                        refine d_no rfl rfl rfl rfl rfl ?_
                        refine d_no rfl rfl rfl rfl rfl ?_
                        refine d_no rfl rfl rfl rfl rfl ?_
                        refine d_no rfl rfl rfl rfl rfl ?_
                        refine d_no rfl rfl rfl rfl rfl ?_
                        refine d_no rfl rfl rfl rfl rfl ?_
                        refine d_no rfl rfl rfl rfl rfl ?_
                        refine d_no rfl rfl rfl rfl rfl ?_
                        refine d_no rfl rfl rfl rfl rfl ?_
                        refine d_no rfl rfl rfl rfl rfl ?_
                        refine d_no rfl rfl rfl rfl rfl ?_
                        refine d_no rfl rfl rfl rfl rfl ?_
                        refine d_v rfl (v_pk1 rfl rfl rfl) rfl ?_
                        refine d_nil ?_
                        refine g_cond rfl (fun h182 => ?_) (fun h182 => ?_)
                        · skip
                          refine g_seq ?_
                          refine g_reg ?_
                          refine g_v (v_assign rfl) rfl ?_
                          refine g_nil ?_
                          first | exact g_ret1 rfl rfl rfl | exact g_ret1 rfl rfl (by show Bo _ = Bo true; simp)
                        · cases h182
                    · have hrs2 : ∀ p c, rs[i - 1]? = some p → rs[i]? = some c → kl p.key c.key = true := fun p c e1 e2 => by have := (List.getElem?_eq_some_iff.1 e2).1; omega
                      refine d_no rfl rfl rfl (by rw [decide_eq_false h1]; rfl) rfl ?_
                      refine d_no rfl rfl rfl (by rw [decide_eq_false h1]; rfl) rfl ?_
                      refine d_no rfl rfl rfl (by rw [decide_eq_false h1]; rfl) rfl ?_
                      refine d_no rfl rfl rfl (by rw [decide_eq_false h1]; rfl) rfl ?_
                      refine d_no rfl rfl rfl (by rw [decide_eq_false h1]; rfl) rfl ?_
                      refine d_no rfl rfl rfl (by rw [decide_eq_false h1]; rfl) rfl ?_
                      refine d_no rfl rfl rfl (by rw [decide_eq_false h1]; rfl) rfl ?_
                      refine d_no rfl rfl rfl (by rw [decide_eq_false h1]; rfl) rfl ?_
                      refine d_no rfl rfl rfl (by rw [decide_eq_false h1]; rfl) rfl ?_
                      refine d_no rfl rfl rfl (by rw [decide_eq_false h1]; rfl) rfl ?_
                      refine d_no rfl rfl rfl (by rw [decide_eq_false h1]; rfl) rfl ?_
                      refine d_no rfl rfl rfl (by rw [decide_eq_false h1]; rfl) rfl ?_
                      refine d_v rfl (v_pk2 rfl (decide_eq_false h1) rfl) rfl ?_
                      refine d_v rfl (v_move rfl) rfl ?_
                      refine d_gv1 rfl rfl rfl rfl (v_move rfl) rfl ?_
                      refine d_gv1 rfl rfl rfl rfl (v_move rfl) rfl ?_
                      refine d_gv1 rfl rfl rfl rfl (v_len Tryz.underlying23 rfl) rfl ?_
                      refine d_gv1 rfl rfl rfl rfl (v_lss rfl rfl) rfl ?_
                      refine d_gv1 rfl rfl rfl rfl (v_move rfl) rfl ?_
                      by_cases h2 : (i : Int) < (os.length : Int)
                      · obtain ⟨y, hy⟩ : ∃ y, os[i]? = some y := ⟨_, List.getElem?_eq_getElem (by omega)⟩
                        obtain ⟨py, hpy⟩ : ∃ py, os[i - 1]? = some py := ⟨_, List.getElem?_eq_getElem (by omega)⟩
                        refine d_gv1 rfl rfl rfl (decide_eq_true h2) (v_move rfl) rfl ?_
                        refine d_gv1 rfl rfl rfl (decide_eq_true h2) (v_move rfl) rfl ?_
                        refine d_gv1 rfl rfl rfl (decide_eq_true h2) (v_idxS (i) Tryz.underlying23 Tryz.sizeOf49 rfl rfl (by omega) (by omega) (by rw [chR_len]; omega)) rfl ?_
                        refine d_gv1 rfl rfl rfl (decide_eq_true h2) (v_fieldAdrS (j := i) 0 Tryz.underlying49 rfl rfl Tryz.sizeOf9 (by decide) rfl (by rw [chR_len]; omega)) rfl ?_
                        refine d_gv1 rfl rfl rfl (decide_eq_true h2) (v_loadS (v := Str y.key) Tryz.isAgg9 rfl (chR_at hy) rfl) rfl ?_
                        refine d_gv1 rfl rfl rfl (decide_eq_true h2) (v_move rfl) rfl ?_
                        refine d_gv1 rfl rfl rfl (decide_eq_true h2) (v_move rfl) rfl ?_
                        refine d_gv1 rfl rfl rfl (decide_eq_true h2) (v_sub rfl rfl (w64 (by omega))) rfl ?_
                        refine d_gv1 rfl rfl rfl (decide_eq_true h2) (v_idxS (i - 1) Tryz.underlying23 Tryz.sizeOf49 rfl rfl (by omega) (by omega) (by rw [chR_len]; omega)) rfl ?_
                        refine d_gv1 rfl rfl rfl (decide_eq_true h2) (v_fieldAdrS (j := (i - 1)) 0 Tryz.underlying49 rfl rfl Tryz.sizeOf9 (by decide) rfl (by rw [chR_len]; omega)) rfl ?_
                        refine d_gv1 rfl rfl rfl (decide_eq_true h2) (v_loadS (v := Str py.key) Tryz.isAgg9 rfl (chR_at hpy) rfl) rfl ?_
                        refine d_gv1 rfl rfl rfl (decide_eq_true h2) (v_sleq rfl rfl) rfl ?_
                        refine d_gv1 rfl rfl rfl rfl (v_pk1 rfl (decide_eq_true h2) rfl) rfl ?_
                        refine d_v rfl (v_pk2 rfl rfl rfl) rfl ?_
                        refine d_nil ?_
                        refine g_cond rfl (fun h182 => ?_) (fun h182 => ?_)
                        · skip
                          refine g_seq ?_
                          refine g_reg ?_
                          refine g_v (v_assign rfl) rfl ?_
                          refine g_nil ?_
                          first | exact g_ret1 rfl rfl rfl | exact g_ret1 rfl rfl (by show Bo _ = Bo true; simp)
                        · have hos2 : ∀ p c, os[i - 1]? = some p → os[i]? = some c → kl p.key c.key = true := fun p c e1 e2 => by rw [hpy] at e1; rw [hy] at e2; injection e1 with e1; injection e2 with e2; subst e1 e2; exact kl_of h182
                          refine g_skip ?_
                          refine g_blk ?_
                          refine g_reg ?_
                          refine g_v (v_move rfl) rfl ?_
                          refine g_v (v_add rfl rfl (w64 (by omega))) rfl ?_
                          refine g_v (v_assign rfl) rfl ?_
                          refine g_nil ?_
                          exact g_again (i + 1) ⟨by omega, srt_step hsr hi1 hrs2, srt_step hso hi1 hos2⟩ (by omega) [0, 1, 2, 20] rfl rfl
                      · skip
                        refine d_no rfl rfl rfl (by rw [decide_eq_false h2]; rfl) rfl ?_
                        refine d_no rfl rfl rfl (by rw [decide_eq_false h2]; rfl) rfl ?_
                        refine d_no rfl rfl rfl (by rw [decide_eq_false h2]; rfl) rfl ?_
                        refine d_no rfl rfl rfl (by rw [decide_eq_false h2]; rfl) rfl ?_
                        refine d_no rfl rfl rfl (by rw [decide_eq_false h2]; rfl) rfl ?_
                        refine d_no rfl rfl rfl (by rw [decide_eq_false h2]; rfl) rfl ?_
                        refine d_no rfl rfl rfl (by rw [decide_eq_false h2]; rfl) rfl ?_
                        refine d_no rfl rfl rfl (by rw [decide_eq_false h2]; rfl) rfl ?_
                        refine d_no rfl rfl rfl (by rw [decide_eq_false h2]; rfl) rfl ?_
                        refine d_no rfl rfl rfl (by rw [decide_eq_false h2]; rfl) rfl ?_
                        refine d_no rfl rfl rfl (by rw [decide_eq_false h2]; rfl) rfl ?_
                        refine d_no rfl rfl rfl (by rw [decide_eq_false h2]; rfl) rfl ?_
                        refine d_gv1 rfl rfl rfl rfl (v_pk2 rfl (decide_eq_false h2) rfl) rfl ?_
                        refine d_v rfl (v_pk2 rfl rfl rfl) rfl ?_
                        refine d_nil ?_
                        refine g_cond rfl (fun h182 => ?_) (fun h182 => ?_)
                        · cases h182
                        · have hos2 : ∀ p c, os[i - 1]? = some p → os[i]? = some c → kl p.key c.key = true := fun p c e1 e2 => by have := (List.getElem?_eq_some_iff.1 e2).1; omega
                          refine g_skip ?_
                          refine g_blk ?_
                          refine g_reg ?_
                          refine g_v (v_move rfl) rfl ?_
                          refine g_v (v_add rfl rfl (w64 (by omega))) rfl ?_
                          refine g_v (v_assign rfl) rfl ?_
                          refine g_nil ?_
                          exact g_again (i + 1) ⟨by omega, srt_step hsr hi1 hrs2, srt_step hso hi1 hos2⟩ (by omega) [0, 1, 2, 20] rfl rfl
                  · have h142' : ¬ (i < rs.length ∨ i < os.length) := by simp at h142; omega
                    rw [List.take_of_length_le (by omega)] at hsr hso
                    have hml : (mg rs os).length ≤ 1000000 := by have := mg_len rs os; omega
                    refine g_exit rfl ?_
                    refine g_seq ?_
                    refine g_reg ?_
                    refine g_v (v_move rfl) rfl ?_
                    refine g_v (v_move rfl) rfl ?_
                    refine g_l (l_call (Pre := [roL 3 s1 (chR rs), roL 3 s2 (chR os)]) Tryz.call19 rfl (ct_image_Changes rs os s1 s2 cap1 cap2 (by omega) (by omega) hsr hso)) rfl ?_
                    rintro _ _ ⟨s185, c185, rfl, rfl⟩
                    refine g_freeze s185 ?_
                    refine g_v (v_move rfl) rfl ?_
                    refine g_v (v_move rfl) rfl ?_
                    refine g_l (l_call (Pre := [roL 3 s1 (chR rs), roL 3 s2 (chR os)]) Tryz.call20 rfl (ct_R_ChangesOf rs os s1 s2 cap1 cap2 (by omega) (by omega))) rfl ?_
                    rintro _ _ ⟨s188, c188, rfl, rfl⟩
                    refine g_freeze s188 ?_
                    refine g_l (l_call (Pre := [roL 3 s185 (chR (mg rs os)), roL 3 s188 (chR (mg rs os))]) Tryz.call14 rfl (ct_R_SameChanges (mg rs os) (mg rs os) s185 s188 c185 c188 hml hml)) rfl ?_
                    rintro _ _ ⟨rfl, rfl⟩
                    refine g_v (v_assign rfl) rfl ?_
                    refine g_nil ?_
                    first | exact g_ret1 rfl rfl rfl | exact g_ret1 rfl rfl (by show Bo _ = Bo true; simp)
    · have g1 : ((!true || !lightA l 30) || !lightC rs 90) = true := by simp [hL1]
      refine g_no rfl rfl (by rw [g1]; rfl) rfl ?_
      refine g_no rfl rfl (by rw [g1]; rfl) rfl ?_
      refine g_no rfl rfl (by rw [g1]; rfl) rfl ?_
      refine g_v (v_pk1 rfl g1 rfl) rfl ?_
      refine g_nil ?_
      refine g_cond rfl (fun h38 => ?_) (fun h38 => ?_)
      · skip
        refine g_seq ?_
        refine g_reg ?_
        refine g_v (v_move rfl) rfl ?_
        refine g_v (v_assign rfl) rfl ?_
        refine g_nil ?_
        first | exact g_ret1 rfl rfl rfl | exact g_ret1 rfl rfl (by show Bo _ = Bo true; simp)
      · cases h38
  · have g0 : (!true || !lightA l 30) = true := by simp [hL0]
    refine g_no rfl rfl (by rw [g0]; rfl) rfl ?_
    refine g_no rfl rfl (by rw [g0]; rfl) rfl ?_
    refine g_no rfl rfl (by rw [g0]; rfl) rfl ?_
    refine g_v (v_pk1 rfl g0 rfl) rfl ?_
    refine g_v (v_move rfl) rfl ?_
    refine g_no rfl rfl rfl rfl ?_
    refine g_no rfl rfl rfl rfl ?_
    refine g_no rfl rfl rfl rfl ?_
    refine g_v (v_pk1 rfl rfl rfl) rfl ?_
    refine g_nil ?_
    refine g_cond rfl (fun h38 => ?_) (fun h38 => ?_)
    · skip
      refine g_seq ?_
      refine g_reg ?_
      refine g_v (v_move rfl) rfl ?_
      refine g_v (v_assign rfl) rfl ?_
      refine g_nil ?_
      first | exact g_ret1 rfl rfl rfl | exact g_ret1 rfl rfl (by show Bo _ = Bo true; simp)
    · cases h38

end Go.Proofs.YthdjckbjjfiopaaGreatDoor
