/- The walk through the law TopSpoilt. No condition but the library's tables. -/
import Derived.Test.YthdjckbjjfiopacGreatDoorTopGn
import Derived.Test.YthdjckbjjfiopacGreatDoorRow3
import Derived.Test.YthdjckbjjfiopacGreatDoorTopIx
namespace Go.Proofs.YthdjckbjjfiopacGreatDoor
open Go.Sl Go.Proofs
set_option linter.unusedVariables false
set_option linter.unusedSimpArgs false
theorem drop_get {α : Type} {l : List α} {i : Nat} {x : α} (h : l[i]? = some x) : l.drop i = x :: l.drop (i + 1) := by
  obtain ⟨hi, e⟩ := List.getElem?_eq_some_iff.1 h
  rw [← e]
  exact List.drop_eq_getElem_cons hi
def z1024 (a : Int) : Int := IntKind.i64.wrap ((BitVec.ofInt 64 a &&& BitVec.ofInt 64 1024).toNat : Int)
theorem findP_at : ∀ {L : List Pt} {p : Pt}, L.Pairwise (fun a b => a.id < b.id) → p ∈ L → findP L p.id = some p
  | a :: L, p, hs, hp => by
    rw [List.pairwise_cons] at hs
    unfold findP
    rcases List.mem_cons.1 hp with rfl | hp
    · rw [List.find?_cons_of_pos (by simp)]
    · have := hs.1 p hp
      rw [List.find?_cons_of_neg (by simp; omega)]
      exact findP_at hs.2 hp
theorem mem_ap {l : List ChangeM} {c x : ChangeM} (h : x ∈ apS l c) : x ∈ l ∨ x = c := by
  unfold apS at h
  rcases List.mem_append.1 h with h | h
  · rcases List.mem_append.1 h with h | h
    · exact .inl (List.mem_filter.1 h).1
    · split at h
      · cases h
      · exact .inr (List.mem_singleton.1 h)
  · exact .inl (List.mem_filter.1 h).1
theorem bldC2s (k : Bytes) (w : World) : (Instr.build 58 #[(0, Str k), (2, Bo true)]).run Tryz.prog w = .ok (.agg (encC ⟨k, [], true⟩).toArray) w := by
  simp [Instr.build, Tryz.zeroValue58, Tryz.runUnderlying58, Tryz.sizeOf9, Tryz.sizeOf4, Instr.fill, cells_agg, encC, show (Str k).cells = #[Str k] from rfl, show (Bo true).cells = #[Bo true] from rfl]
def okC (c : ChangeM) : Prop := c.key.length ≤ 9223372036854775807 ∧ c.val.length ≤ 9223372036854775807
theorem pt_own {l : List Pt} : ∀ r ∈ ptR l, r.length = 4 ∧ ones r = true := fun r hr => by
  simp only [ptR, List.mem_map] at hr
  obtain ⟨p, _, rfl⟩ := hr
  exact ⟨rfl, rfl⟩

theorem ct_T_TopSpoilt (l : List ActM) (f : Nat → ActZ) (s : Option Addr) (cap : Nat) (c : ChangeM) (at_ : Int) (gone : Bool) (hl : l.length ≤ 9223372036854775807) (hla : ∀ x ∈ l, x.puts.length ≤ 9223372036854775807 ∧ x.changes.length ≤ 9223372036854775807) (hcl : okC c) (F : List HProp) : Ct Tryz.prog 5 [sl s l.length cap, .agg (encC c).toArray, I at_, Bo gone] ([tabs, acts s l f] ++ F) (R1 (Bo true) (tabs :: acts s l f :: F)) := by
  show Ct Tryz.prog 5 [sl s l.length cap, .agg (encC c).toArray, I at_, Bo gone] (tabs :: acts s l f :: F) _
  refine Ct.of Tryz.func5 rfl 135 Tryz.ntmps5 (by simp) fun w0 => ?_
  refine g_seq ?_
  refine g_reg ?_
  refine g_l (l_box (encC c).toArray rfl rfl) rfl ?_
  rintro _ _ ⟨b5, rfl, rfl⟩
  refine g_v (v_assign rfl) rfl ?_
  refine g_nil ?_
  refine g_seq ?_
  refine g_reg ?_
  refine g_l (l_call (Pre := []) Tryz.call10 rfl (ct_T_vaulted)) rfl ?_
  rintro _ _ ⟨rfl, rfl⟩
  refine g_v (v_assign rfl) rfl ?_
  refine g_nil ?_
  refine g_seq ?_
  refine g_seq ?_
  refine g_reg ?_
  refine g_v (v_move rfl) rfl ?_
  refine g_v (v_not rfl) rfl ?_
  refine g_nil ?_
  refine g_false rfl ?_
  refine g_skip ?_
  refine g_seq ?_
  refine g_reg ?_
  refine g_v (v_move rfl) rfl ?_
  refine g_l (l_call (Pre := [acts s l f]) Tryz.call11 rfl (ct_T_filledC l f s cap hl hla)) rfl ?_
  rintro _ _ (⟨rfl, rfl⟩ | ⟨q, S, L, n, G, rfl, rfl, hC, hlight⟩)
  · skip
    refine g_v (v_move rfl) rfl ?_
    refine g_v (v_extract (v := .pointer none) rfl rfl) rfl ?_
    refine g_v (v_extract (v := Bo false) rfl rfl) rfl ?_
    refine g_v (v_assign rfl) rfl ?_
    refine g_v (v_assign rfl) rfl ?_
    refine g_nil ?_
    refine g_seq ?_
    refine g_seq ?_
    refine g_reg ?_
    refine g_v (v_move rfl) rfl ?_
    refine g_v (v_not rfl) rfl ?_
    refine g_v (v_move rfl) rfl ?_
    refine g_no rfl rfl rfl rfl ?_
    refine g_no rfl rfl rfl rfl ?_
    refine g_no rfl rfl rfl rfl ?_
    refine g_no rfl rfl rfl rfl ?_
    refine g_v (v_pk1 rfl rfl rfl) rfl ?_
    refine g_nil ?_
    refine g_true rfl ?_
    refine g_seq ?_
    refine g_reg ?_
    refine g_v (v_assign rfl) rfl ?_
    refine g_nil ?_
    exact g_ret1 rfl rfl (by show Bo _ = Bo true; first | rfl | simp)
  · have hlen := hC.v.len
    have hrow := rowsF_le (S := S) (n := n) hlen
    have hxpos : 0 < (rowsF S L n).length := by unfold rowsF; simp; omega
    have hkl := pk_lt at_ hxpos
    obtain ⟨x, hx⟩ : ∃ x, (rowsF S L n)[(pk at_ (rowsF S L n).length)]? = some x := ⟨_, List.getElem?_eq_getElem hkl⟩
    have hxk := keyle hC x (List.mem_of_getElem? hx)
    refine g_v (v_move rfl) rfl ?_
    refine g_v (v_extract (v := ptr q 0) rfl rfl) rfl ?_
    refine g_v (v_extract (v := Bo true) rfl rfl) rfl ?_
    refine g_v (v_assign rfl) rfl ?_
    refine g_v (v_assign rfl) rfl ?_
    refine g_nil ?_
    refine g_seq ?_
    refine g_seq ?_
    refine g_reg ?_
    refine g_v (v_move rfl) rfl ?_
    refine g_v (v_not rfl) rfl ?_
    refine g_v (v_move rfl) rfl ?_
    refine g_gv1 rfl rfl rfl (v_loadA (vs := encC c) Tryz.isAgg58 Tryz.sizeOf58 rfl rfl arr_ld) rfl ?_
    refine g_gl rfl rfl rfl (l_buildSlice (chR [c]) Tryz.underlying33 Tryz.sizeOf58 Tryz.zeroValue58 rfl rfl rfl (chR_three _) (by decide) (by decide)) rfl ?_
    rintro _ _ ⟨b33, rfl, rfl⟩
    refine g_freeze (some ⟨b33, 0, none⟩) ?_
    refine g_gl rfl rfl rfl (l_call (Pre := [roL 3 (some ⟨b33, 0, none⟩) (chR [c])]) (R := fun F => R1 (Bo (lightC [c] 1)) (roL 3 (some ⟨b33, 0, none⟩) (chR [c]) :: F)) Tryz.call23 rfl (ct_L_LightChanges [c] (some ⟨b33, 0, none⟩) 1 1 (by simp))) rfl ?_
    rintro _ _ ⟨rfl, rfl⟩
    refine g_gv1 rfl rfl rfl (v_not rfl) rfl ?_
    refine g_v (v_pk2 rfl rfl rfl) rfl ?_
    refine g_nil ?_
    refine g_cond rfl (fun h36 => ?_) (fun h36 => ?_)
    · skip
      refine g_seq ?_
      refine g_reg ?_
      refine g_v (v_assign rfl) rfl ?_
      refine g_nil ?_
      exact g_ret1 rfl rfl (by show Bo _ = Bo true; first | rfl | simp)
    · skip
      refine g_skip ?_
      refine g_seq ?_
      refine g_reg ?_
      refine g_v (v_move rfl) rfl ?_
      refine g_l (l_call (Pre := [tabs, vlt q S L n]) Tryz.call15 rfl (ct_image_Rows q S L n hC.sm)) rfl ?_
      rintro _ _ ⟨s38, c38, rfl, rfl⟩
      refine g_freeze s38 ?_
      refine g_v (v_assign rfl) rfl ?_
      refine g_nil ?_
      refine g_seq ?_
      refine g_reg ?_
      refine g_v (v_move rfl) rfl ?_
      refine g_v (v_mask 10 rfl (by decide) (by decide)) rfl ?_
      refine g_v (v_move rfl) rfl ?_
      refine g_v (v_len Tryz.underlying33 rfl) rfl ?_
      refine g_v (v_rem (r := (((pk at_ (rowsF S L n).length) : Nat) : Int)) rfl rfl (by omega) (pk_rem _)) rfl ?_
      refine g_v (v_assign rfl) rfl ?_
      refine g_nil ?_
      refine g_seq ?_
      refine g_reg ?_
      refine g_v (v_fieldAddr 2 Tryz.underlying58 rfl rfl Tryz.sizeOf4 (by decide) rfl) rfl ?_
      refine g_l0 (l_store ((encC ⟨c.key, c.val, false⟩).toArray) Tryz.sizeOf4 rfl rfl rfl (by simp [encC]) rfl) ?_
      rintro _ _ rfl
      refine g_nil ?_
      refine g_seq ?_
      refine g_seq ?_
      refine g_reg ?_
      refine g_v (v_move rfl) rfl ?_
      refine g_v (v_bits (v := I (z1024 at_)) (.inl rfl) rfl rfl (fun P w => rfl)) rfl ?_
      refine g_v (v_neq rfl rfl) rfl ?_
      refine g_nil ?_
      refine g_cut (α := ChangeM) (fun c => okC c) (fun c => U [(2, I at_), (3, Bo gone), (5, ptr b5 0), (11, sl s38 (rowsF S L n).length c38), (12, I (pk at_ (rowsF S L n).length))]) (fun c => pt b5 (.cells (encC c).toArray 58 (0, 0)) :: roL 3 s38 (chR (rowsF S L n)) :: vlt q S L n :: tabs :: acts s l f :: F)  ?_ ?_
      · skip
        refine g_cond rfl (fun h47 => ?_) (fun h47 => ?_)
        · try simp at h47
          refine g_reg ?_
          refine g_v (v_move rfl) rfl ?_
          refine g_v (v_move rfl) rfl ?_
          refine g_v (v_idxS (pk at_ (rowsF S L n).length) Tryz.underlying33 Tryz.sizeOf58 rfl rfl rfl hkl (by rw [chR_len]; exact hkl)) rfl ?_
          refine g_v (v_fieldAdrS (j := (pk at_ (rowsF S L n).length)) 0 Tryz.underlying58 rfl rfl Tryz.sizeOf9 (by decide) rfl (by rw [chR_len]; exact hkl)) rfl ?_
          refine g_v (v_loadS (v := Str x.key) Tryz.isAgg9 rfl (chR_at hx) rfl) rfl ?_
          refine g_v (v_fieldAddr 0 Tryz.underlying58 rfl rfl Tryz.sizeOf9 (by decide) rfl) rfl ?_
          refine g_l0 (l_store ((encC ⟨x.key, c.val, false⟩).toArray) Tryz.sizeOf9 rfl rfl rfl (by simp [encC]) rfl) ?_
          rintro _ _ rfl
          refine g_nil ?_
          exact g_here ⟨x.key, c.val, false⟩ ⟨hxk.1, hcl.2⟩ [2, 3, 5, 11, 12] rfl rfl
        · try simp at h47
          refine g_skip ?_
          exact g_here ⟨c.key, c.val, false⟩ ⟨hcl.1, hcl.2⟩ [2, 3, 5, 11, 12] rfl rfl
      rintro c1 hc1
      refine g_seq ?_
      refine g_seq ?_
      refine g_reg ?_
      refine g_v (v_move rfl) rfl ?_
      refine g_nil ?_
      refine g_cut (α := ChangeM) (fun c => okC c) (fun c => U [(2, I at_), (3, Bo gone), (5, ptr b5 0), (11, sl s38 (rowsF S L n).length c38), (12, I (pk at_ (rowsF S L n).length))]) (fun c => pt b5 (.cells (encC c).toArray 58 (0, 0)) :: roL 3 s38 (chR (rowsF S L n)) :: vlt q S L n :: tabs :: acts s l f :: F)  ?_ ?_
      · skip
        refine g_cond rfl (fun h54 => ?_) (fun h54 => ?_)
        · try simp at h54
          refine g_reg ?_
          refine g_v (v_move rfl) rfl ?_
          refine g_v (v_move rfl) rfl ?_
          refine g_v (v_idxS (pk at_ (rowsF S L n).length) Tryz.underlying33 Tryz.sizeOf58 rfl rfl rfl hkl (by rw [chR_len]; exact hkl)) rfl ?_
          refine g_v (v_fieldAdrS (j := (pk at_ (rowsF S L n).length)) 0 Tryz.underlying58 rfl rfl Tryz.sizeOf9 (by decide) rfl (by rw [chR_len]; exact hkl)) rfl ?_
          refine g_v (v_loadS (v := Str x.key) Tryz.isAgg9 rfl (chR_at hx) rfl) rfl ?_
          refine g_v (v_build rfl (bldC2s x.key)) rfl ?_
          refine g_l0 (l_storeA (vs := encC ⟨x.key, [], true⟩) ((encC ⟨x.key, [], true⟩).toArray) Tryz.sizeOf58 rfl rfl rfl rfl (by simp [encC]) rfl) ?_
          rintro _ _ rfl
          refine g_nil ?_
          exact g_here ⟨x.key, [], true⟩ ⟨hxk.1, by simp⟩ [2, 3, 5, 11, 12] rfl rfl
        · try simp at h54
          refine g_skip ?_
          exact g_here c1 hc1 [2, 3, 5, 11, 12] rfl rfl
      rintro c2 hc2
      have hal : (apsS (rowsF S L n) [c2]).length ≤ (rowsF S L n).length + 1 := (srt_aps (srt_rows hC.wr) [c2]).2
      have hyl : ∀ y ∈ apsS (rowsF S L n) [c2], y.key.length ≤ 9223372036854775807 ∧ y.val.length ≤ 9223372036854775807 := fun y hy => by
        rcases mem_ap (show y ∈ apS (rowsF S L n) c2 from hy) with h | rfl
        · exact keyle hC y h
        · exact hc2
      refine g_seq ?_
      refine g_reg ?_
      refine g_v (v_move rfl) rfl ?_
      refine g_v (v_loadA (vs := encC c2) Tryz.isAgg58 Tryz.sizeOf58 rfl rfl arr_ld) rfl ?_
      refine g_l (l_buildSlice (chR [c2]) Tryz.underlying33 Tryz.sizeOf58 Tryz.zeroValue58 rfl rfl rfl (chR_three _) (by decide) (by decide)) rfl ?_
      rintro _ _ ⟨b63, rfl, rfl⟩
      refine g_freeze (some ⟨b63, 0, none⟩) ?_
      refine g_l (l_call (Pre := [roL 3 s38 (chR (rowsF S L n)), roL 3 (some ⟨b63, 0, none⟩) (chR [c2])]) Tryz.call24 rfl (ct_R_Applied (rowsF S L n) [c2] s38 (some ⟨b63, 0, none⟩) c38 1 (srt_rows hC.wr) (by omega) (by simp))) rfl ?_
      rintro _ _ ⟨s64, c64, rfl, rfl⟩
      refine g_freeze s64 ?_
      refine g_v (v_assign rfl) rfl ?_
      refine g_nil ?_
      refine g_seq ?_
      refine g_reg ?_
      refine g_v (v_move rfl) rfl ?_
      refine g_l (l_call (Pre := [tabs, roL 3 s64 (chR (apsS (rowsF S L n) [c2]))]) Tryz.call22 rfl (ct_image_Parse (apsS (rowsF S L n) [c2]) s64 c64 (by omega) hyl)) rfl ?_
      rintro _ _ (⟨st, q3, hps, hw, rfl, rfl⟩ | ⟨hno, rfl, rfl⟩)
      · obtain ⟨G3, hC3, hre⟩ := pars_con hps hw
        have hlen3 := hC3.v.len
        have hrow3 := rowsF_le (S := ⟨st.B, st.N⟩) (n := st.n) hlen3
        refine g_v (v_move rfl) rfl ?_
        refine g_v (v_extract (v := ptr q3 0) rfl rfl) rfl ?_
        refine g_v (v_extract (v := errT 89 0) rfl rfl) rfl ?_
        refine g_v (v_assign rfl) rfl ?_
        refine g_v (v_assign rfl) rfl ?_
        refine g_nil ?_
        refine g_seq ?_
        refine g_seq ?_
        refine g_reg ?_
        refine g_v (v_move rfl) rfl ?_
        refine g_v (v_ineq (T := 89) (f := 0) Tryz.underlying29 rfl) rfl ?_
        refine g_nil ?_
        refine g_cond rfl (fun h71 => ?_) (fun h71 => ?_)
        · simp at h71
        · skip
          refine g_skip ?_
          refine g_seq ?_
          refine g_seq ?_
          refine g_reg ?_
          refine g_v (v_move rfl) rfl ?_
          refine g_l (l_call (Pre := [tabs, vlt q3 ⟨st.B, st.N⟩ st.L st.n]) Tryz.call15 rfl (ct_image_Rows q3 ⟨st.B, st.N⟩ st.L st.n hC3.sm)) rfl ?_
          rintro _ _ ⟨s75, c75, rfl, rfl⟩
          refine g_freeze s75 ?_
          refine g_v (v_move rfl) rfl ?_
          refine g_l (l_call (Pre := [roL 3 s75 (chR (rowsF ⟨st.B, st.N⟩ st.L st.n)), roL 3 s64 (chR (apsS (rowsF S L n) [c2]))]) Tryz.call14 rfl (ct_R_SameChanges (rowsF ⟨st.B, st.N⟩ st.L st.n) (apsS (rowsF S L n) [c2]) s75 s64 c75 c64 (by omega) (by omega))) rfl ?_
          rintro _ _ ⟨rfl, rfl⟩
          refine g_v (v_not rfl) rfl ?_
          refine g_nil ?_
          refine g_cond rfl (fun h78 => ?_) (fun h78 => ?_)
          · rw [hre] at h78
            simp at h78
          · skip
            refine g_skip ?_
            refine g_seq ?_
            refine g_openV q3 ⟨st.B, st.N⟩ st.L st.n ?_
            intro x0 y0 z0
            refine g_nilown 55 4 [] rfl ?_
            refine g_reg ?_
            refine g_v (v_move rfl) rfl ?_
            refine g_v (v_nilCheck rfl) rfl ?_
            refine g_v (v_fieldAddr 1 Tryz.underlying47 rfl rfl Tryz.sizeOf45 (by decide) rfl) rfl ?_
            refine g_v (v_load (v := sl y0 st.L.length z0) Tryz.isAgg45 rfl rfl) rfl ?_
            refine g_l (l_append Tryz.underlying45 Tryz.sizeOf55 Tryz.zeroValue55 rfl Tryz.typeInfo55 (by decide) rfl rfl rfl (ptR_len _) (fun r hr => (pt_own r hr).1) (fun r hr => (pt_own r hr).2) ⟨by omega, by decide, by decide⟩) rfl ?_
            rintro _ _ ⟨s83, c83, rfl, rfl⟩
            refine g_freeze s83 ?_
            rw [List.nil_append, Nat.zero_add]
            refine g_shutV q3 x0 y0 z0 ⟨st.B, st.N⟩ st.L st.n ?_
            refine g_v (v_assign rfl) rfl ?_
            refine g_nil ?_
            refine g_seq ?_
            refine g_seq ?_
            refine g_reg ?_
            refine g_v (v_assign rfl) rfl ?_
            refine g_nil ?_
            refine g_block ?_
            refine g_loop (α := Nat) (fun i => i ≤ st.L.length) (fun i => U [(14, ptr q3 0), (16, sl s83 st.L.length c83), (17, I i)]) (fun _ => vlt q3 ⟨st.B, st.N⟩ st.L st.n :: roL 4 s83 (ptR st.L) :: tabs :: acts s l f :: F) (fun i => st.L.length - i) 0 (by simp) [14, 16, 17] rfl rfl ?_
            rintro i hi
            refine g_seq ?_
            refine g_seq ?_
            refine g_reg ?_
            refine g_v (v_move rfl) rfl ?_
            refine g_v (v_move rfl) rfl ?_
            refine g_v (v_len Tryz.underlying45 rfl) rfl ?_
            refine g_v (v_lss rfl rfl) rfl ?_
            refine g_nil ?_
            refine g_cond rfl (fun h87 => ?_) (fun h87 => ?_)
            · simp at h87
              have hin : i < st.L.length := by omega
              obtain ⟨p, hp⟩ : ∃ p, st.L[i]? = some p := ⟨_, List.getElem?_eq_getElem hin⟩
              refine g_skip ?_
              refine g_seq ?_
              refine g_block ?_
              refine g_seq ?_
              refine g_reg ?_
              refine g_v (v_move rfl) rfl ?_
              refine g_v (v_move rfl) rfl ?_
              refine g_v (v_move rfl) rfl ?_
              refine g_v (v_idxS i Tryz.underlying45 Tryz.sizeOf55 rfl rfl rfl hin (by rw [ptR_len]; exact hin)) rfl ?_
              refine g_v (v_fieldAdrS (j := i) 0 Tryz.underlying55 rfl rfl Tryz.sizeOf3 (by decide) rfl (by rw [ptR_len]; exact hin)) rfl ?_
              refine g_v (v_loadS (v := I p.id) Tryz.isAgg3 rfl (ptR_at hp) rfl) rfl ?_
              refine g_l (l_call (Pre := [vlt q3 ⟨st.B, st.N⟩ st.L st.n]) Tryz.call16 rfl (ct_T_blocks q3 ⟨st.B, st.N⟩ st.L st.n p.id G3 hC3.v)) rfl ?_
              rintro v L' hv
              unfold RBlk at hv
              rw [findP_at hC3.v.srt (List.mem_of_getElem? hp)] at hv
              obtain ⟨s97, c97, rfl, rfl⟩ := hv
              refine g_v (v_move rfl) rfl ?_
              refine g_v (v_extract (v := sl s97 (blk ⟨st.B, st.N⟩ p).length c97) rfl rfl) rfl ?_
              refine g_v (v_extract (v := Bo true) rfl rfl) rfl ?_
              refine g_v (v_assign rfl) rfl ?_
              refine g_v (v_assign rfl) rfl ?_
              refine g_nil ?_
              refine g_seq ?_
              refine g_reg ?_
              refine g_v (v_move rfl) rfl ?_
              refine g_v (v_not rfl) rfl ?_
              refine g_nil ?_
              refine g_false rfl ?_
              refine g_skip ?_
              refine g_blk ?_
              refine g_reg ?_
              refine g_v (v_move rfl) rfl ?_
              refine g_v (v_add rfl rfl (w64 (by omega))) rfl ?_
              refine g_v (v_assign rfl) rfl ?_
              refine g_nil ?_
              exact g_again (i + 1) (by omega) (by omega) [14, 16, 17] rfl rfl
            · skip
              refine g_exit rfl ?_
              refine g_seq ?_
              refine g_seq ?_
              refine g_reg ?_
              refine g_v (v_assign rfl) rfl ?_
              refine g_nil ?_
              refine g_block ?_
              refine g_loop (α := Nat × SI × List Pt × Gh) (fun z => z.1 ≤ st.L.length ∧ z.2.2.1 = st.L.drop z.1 ∧ Con z.2.1 z.2.2.1 st.n z.2.2.2) (fun z => U [(14, ptr q3 0), (16, sl s83 st.L.length c83), (20, I z.1)]) (fun z => vlt q3 z.2.1 z.2.2.1 st.n :: roL 4 s83 (ptR st.L) :: tabs :: acts s l f :: F) (fun z => st.L.length - z.1) (0, ⟨st.B, st.N⟩, st.L, G3) ⟨by simp, rfl, hC3⟩ [14, 16, 20] rfl rfl ?_
              rintro ⟨i, T, R, G1⟩ ⟨hi, hR, hC1⟩
              simp only [] at hi hR hC1 ⊢
              refine g_seq ?_
              refine g_seq ?_
              refine g_reg ?_
              refine g_v (v_move rfl) rfl ?_
              refine g_v (v_move rfl) rfl ?_
              refine g_v (v_len Tryz.underlying45 rfl) rfl ?_
              refine g_v (v_lss rfl rfl) rfl ?_
              refine g_nil ?_
              refine g_cond rfl (fun h105 => ?_) (fun h105 => ?_)
              · simp at h105
                have hin : i < st.L.length := by omega
                obtain ⟨p, hp⟩ : ∃ p, st.L[i]? = some p := ⟨_, List.getElem?_eq_getElem hin⟩
                obtain ⟨G2, T1, hd, hC2⟩ := drp_ids hC1 (hR.trans (drop_get hp))
                refine g_skip ?_
                refine g_seq ?_
                refine g_block ?_
                refine g_seq ?_
                refine g_reg ?_
                refine g_v (v_move rfl) rfl ?_
                refine g_v (v_move rfl) rfl ?_
                refine g_v (v_move rfl) rfl ?_
                refine g_v (v_idxS i Tryz.underlying45 Tryz.sizeOf55 rfl rfl rfl hin (by rw [ptR_len]; exact hin)) rfl ?_
                refine g_v (v_fieldAdrS (j := i) 0 Tryz.underlying55 rfl rfl Tryz.sizeOf3 (by decide) rfl (by rw [ptR_len]; exact hin)) rfl ?_
                refine g_v (v_loadS (v := I p.id) Tryz.isAgg3 rfl (ptR_at hp) rfl) rfl ?_
                refine g_l (l_call (Pre := [vlt q3 T R st.n]) Tryz.call20 rfl (ct_vault_Vault_Drop q3 T R st.n p.id G1 hC1.v)) rfl ?_
                rintro v L' hv
                unfold vR1 at hv
                rw [hd] at hv
                obtain ⟨rfl, rfl⟩ := hv
                refine g_v (v_ineq (T := 89) (f := 0) Tryz.underlying29 rfl) rfl ?_
                refine g_nil ?_
                refine g_cond rfl (fun h115 => ?_) (fun h115 => ?_)
                · simp at h115
                · skip
                  refine g_skip ?_
                  refine g_blk ?_
                  refine g_reg ?_
                  refine g_v (v_move rfl) rfl ?_
                  refine g_v (v_add rfl rfl (w64 (by omega))) rfl ?_
                  refine g_v (v_assign rfl) rfl ?_
                  refine g_nil ?_
                  exact g_again (i + 1, T1, st.L.drop (i + 1), G2) ⟨by simp only []; omega, rfl, hC2⟩ (by simp only []; omega) [14, 16, 20] rfl rfl
              · simp at h105
                have hnil : R = [] := hR.trans (List.drop_eq_nil_of_le (by omega))
                subst hnil
                obtain ⟨hN0, hB0⟩ := con_none hC1
                refine g_exit rfl ?_
                refine g_seq ?_
                refine g_openV q3 T [] st.n ?_
                intro x1 y1 z1
                refine g_reg ?_
                refine g_v (v_move rfl) rfl ?_
                refine g_v (v_nilCheck rfl) rfl ?_
                refine g_v (v_fieldAddr 0 Tryz.underlying47 rfl rfl Tryz.sizeOf44 (by decide) rfl) rfl ?_
                refine g_v (v_load (v := ptr x1 0) Tryz.isAgg44 rfl rfl) rfl ?_
                refine g_l (l_call (Pre := [ixl x1 T]) Tryz.call19 rfl (ct_index_Numbers x1 T)) rfl ?_
                rintro _ _ ⟨s120, c120, rfl, rfl⟩
                rw [hN0]
                refine g_openX x1 T ?_
                intro p1 r1
                refine g_v (v_len Tryz.underlying39 rfl) rfl ?_
                refine g_v (v_eql rfl rfl) rfl ?_
                refine g_v (v_move rfl) rfl ?_
                refine g_gv1 rfl rfl rfl (v_move rfl) rfl ?_
                refine g_gv1 rfl rfl rfl (v_nilCheck rfl) rfl ?_
                refine g_gv1 rfl rfl rfl (v_fieldAddr 0 Tryz.underlying47 rfl rfl Tryz.sizeOf44 (by decide) rfl) rfl ?_
                refine g_gv1 rfl rfl rfl (v_load (v := ptr x1 0) Tryz.isAgg44 rfl rfl) rfl ?_
                refine g_gv1 rfl rfl rfl (v_nilCheck rfl) rfl ?_
                refine g_gv1 rfl rfl rfl (v_fieldAddr 0 Tryz.underlying43 rfl rfl Tryz.sizeOf40 (by decide) rfl) rfl ?_
                refine g_gv1 rfl rfl rfl (v_load (v := ptr p1 0) Tryz.isAgg40 rfl rfl) rfl ?_
                refine g_gl rfl rfl rfl (l_call (Pre := [plb p1 T.B]) Tryz.call18 rfl (ct_pool_Numbers p1 T.B)) rfl ?_
                rintro _ _ ⟨s131, c131, rfl, rfl⟩
                rw [hB0]
                refine g_gv1 rfl rfl rfl (v_len Tryz.underlying39 rfl) rfl ?_
                refine g_gv1 rfl rfl rfl (v_eql rfl rfl) rfl ?_
                refine g_v (v_pk1 rfl rfl rfl) rfl ?_
                refine g_v (v_assign rfl) rfl ?_
                refine g_nil ?_
                exact g_ret1 rfl rfl (by show Bo _ = Bo true; first | rfl | simp)
      · skip
        refine g_v (v_move rfl) rfl ?_
        refine g_v (v_extract (v := .pointer none) rfl rfl) rfl ?_
        refine g_v (v_extract (v := errT 89 4) rfl rfl) rfl ?_
        refine g_v (v_assign rfl) rfl ?_
        refine g_v (v_assign rfl) rfl ?_
        refine g_nil ?_
        refine g_seq ?_
        refine g_seq ?_
        refine g_reg ?_
        refine g_v (v_move rfl) rfl ?_
        refine g_v (v_ineq (T := 89) (f := 4) Tryz.underlying29 rfl) rfl ?_
        refine g_nil ?_
        refine g_cond rfl (fun h71 => ?_) (fun h71 => ?_)
        · skip
          refine g_seq ?_
          refine g_reg ?_
          refine g_v (v_move rfl) rfl ?_
          refine g_v (v_pnil Tryz.underlying24 rfl) rfl ?_
          refine g_v (v_assign rfl) rfl ?_
          refine g_nil ?_
          exact g_ret1 rfl rfl (by show Bo _ = Bo true; first | rfl | simp)
        · simp at h71

end Go.Proofs.YthdjckbjjfiopacGreatDoor
