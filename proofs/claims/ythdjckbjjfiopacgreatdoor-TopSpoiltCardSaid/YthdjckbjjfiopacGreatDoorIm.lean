/- Walks through package image: three, numbers, Rows. No condition but the library's tables. -/
import Derived.Test.YthdjckbjjfiopacGreatDoorImM
import Derived.Test.YthdjckbjjfiopacGreatDoorVa2
import Derived.Test.YthdjckbjjfiopacGreatDoorRowS
namespace Go.Proofs.YthdjckbjjfiopacGreatDoor
open Go.Sl Go.Proofs
set_option linter.unusedVariables false
set_option linter.unusedSimpArgs false
section
variable {c : Cx} {g : Option (Nat × Bool)} {E : Env} {L L' : List HProp} {d : Option Tmp} {ty : TypeId} {pos : String} {af : Array Edge} {gu : Option (Nat × Bool)} {K : List KI}
variable {x y : Operand}
theorem v_maxR {k : IntKind} {p q r : Int} {ats : Array TypeId} (hx : ev g E x = some (.int k p)) (hy : ev g E y = some (.int k q)) (hr : (if p < q then q else p) = r) : OpV c g E L ⟨d, .call { callee := .builtin .max, args := #[x, y], argTypes := ats }, ty, pos, af, gu⟩ (.int k r) := hr ▸ v_max hx hy
end
def numsR (k : Nat) (s : Bytes) (F : List HProp) : Value → List HProp → Prop := fun v L' => match numsG k s with
  | none => v = .tuple #[sl none 0 0, Bo false] ∧ L' = F
  | some l => ∃ s' c', v = .tuple #[sl s' k c', Bo true] ∧ L' = owL 3 1 s' c' (intR l) :: F
section
variable {c : Cx} {E : Env} {L : List HProp} {K : List KI}
theorem g_numsNo {F : List HProp} {k : Nat} {s : Bytes} {vs : List Value} (hR : c.R = numsR k s F) (he : numsG k s = none) (hr : resOf E c.fn.results.toList = some vs) (hv : tup vs = .tuple #[sl none 0 0, Bo false]) [S : Sub L F] (hds : c.n.ds = [] := by rfl) : G c (.code .ret :: K) E L :=
  fun a w hE hS => wp_ret (kq_ret (res_fpost (hds := hds) hr hE (S.sat hS) (by rw [hR]; unfold numsR; rw [he]; exact ⟨hv, rfl⟩)))
theorem g_numsYes {F : List HProp} {k cc : Nat} {s : Bytes} {l : List Int} {sa : Option Addr} {vs : List Value} (hR : c.R = numsR k s F) (he : numsG k s = some l) (hr : resOf E c.fn.results.toList = some vs) (hv : tup vs = .tuple #[sl sa k cc, Bo true]) [S : Sub L (owL 3 1 sa cc (intR l) :: F)] (hds : c.n.ds = [] := by rfl) : G c (.code .ret :: K) E L :=
  fun a w hE hS => wp_ret (kq_ret (res_fpost (hds := hds) hr hE (S.sat hS) (by rw [hR]; unfold numsR; rw [he]; exact ⟨sa, cc, hv, rfl⟩)))
end
theorem bRows_len (m : Nat) (B : BkT) : (bRows m B).length = (ids m B).length := by simp [bRows]
theorem nRows_len (m : Nat) (N : NdT) : (nRows m N).length = (ids m N).length := by simp [nRows]
theorem bRows_at {m k : Nat} {B : BkT} {q : Int} (h : (ids m B)[k]? = some q) : (bRows m B)[k]? = some (bRow q (gB B q)) := by simp [bRows, h]
theorem nRows_at {m k : Nat} {N : NdT} {q : Int} (h : (ids m N)[k]? = some q) : (nRows m N)[k]? = some (nRow q (gN N q)) := by simp [nRows, h]
theorem chR_snoc (l : List ChangeM) (c : ChangeM) : chR l ++ [encC c] = chR (l ++ [c]) := by simp [chR]
theorem tk_snoc {α : Type} {l : List α} {k : Nat} {x : α} (h : l[k]? = some x) : l.take k ++ [x] = l.take (k + 1) := by
  rw [List.take_add_one, h]; rfl
theorem lkBv {B : BkT} (h : sup 40 B) (q : Int) : (lk (tb encB 40 B) q).getD (.agg #[Str [], I 0]) = encB (gB B q) := by
  rw [lkB h]; unfold gB; cases B q <;> rfl
def nPre (n : Nd) (i : Nat) : Bytes := thr n.refs ++ ((kd n).take i).flatMap thr
theorem nPre_s (n : Nd) : ∀ i, i < 4 → nPre n i ++ thr (kat n i) = nPre n (i + 1)
  | 0, _ => by simp [nPre, kd, kat]
  | 1, _ => by simp [nPre, kd, kat]
  | 2, _ => by simp [nPre, kd, kat]
  | 3, _ => by simp [nPre, kd, kat]
  | i + 4, h => absurd h (by omega)
theorem nPre_4 (n : Nd) : nPre n 4 = nVal n := by simp [nPre, nVal, kd]
theorem nPre_0 (n : Nd) : nPre n 0 = thr n.refs := by simp [nPre]
theorem nPre_len {n : Nd} (h : -999 ≤ n.refs ∧ n.refs ≤ 1000) (hk : ∀ k ∈ kd n, -999 ≤ k ∧ k ≤ 1000) : ∀ i, i ≤ 4 → (nPre n i).length ≤ 4 + 4 * i
  | 0, _ => by rw [nPre_0]; exact thr_len_le h
  | i + 1, hi => by
    rw [← nPre_s n i (by omega), List.length_append]
    have h1 := nPre_len h hk i (by omega)
    have h2 := thr_len_le (hk _ (kd_kat (n := n) (i := i) (by omega)))
    omega
theorem gB_sm {S : SI} {L : List Pt} {n : Int} (h : Sm S L n) (q : Int) : (0 ≤ (gB S.B q).2 ∧ (gB S.B q).2 ≤ 999) ∧ (gB S.B q).1.length ≤ 6 := by
  unfold gB
  cases e : S.B q with
  | none => simp
  | some x => have h1 := h.ok.2.1 q x e; have h2 := h.dat q x e; simp only [Option.getD_some]; omega
theorem gN_sm {S : SI} {L : List Pt} {n : Int} (h : Sm S L n) (q : Int) : (0 ≤ (gN S.N q).refs ∧ (gN S.N q).refs ≤ 999) ∧ ∀ k ∈ kd (gN S.N q), 0 ≤ k ∧ k ≤ 999 := by
  unfold gN
  cases e : S.N q with
  | none => simp [nd0, kd]
  | some x => have h1 := h.ok.2.2.2 q x e; have h2 := h.kid q x e; simp only [Option.getD_some]; exact ⟨by omega, h2⟩
theorem ct_image_three {ee : Bool} (n : Int) (hn : -999 ≤ n ∧ n ≤ 1000) (F : List HProp) : Ct Tryz.prog 48 [I n] ([tabsP ee] ++ F) (R1 (Str (thr n)) (tabsP ee :: F)) := by
  show Ct Tryz.prog 48 [I n] (tabsP ee :: F) _
  have h4 := thr_len4 hn
  refine Ct.of Tryz.func48 rfl 13 Tryz.ntmps48 (by simp) fun w0 => ?_
  refine g_seq ?_
  refine g_reg ?_
  refine g_v (v_assign rfl) rfl ?_
  refine g_nil ?_
  refine g_seq ?_
  refine g_reg ?_
  refine g_v (v_move rfl) rfl ?_
  refine g_l (l_call (Pre := [tabsP ee]) Tryz.call80 rfl (ct_Itoa n (by omega) (by omega))) rfl ?_
  rintro _ _ ⟨rfl, rfl⟩
  refine g_v (v_assign rfl) rfl ?_
  refine g_nil ?_
  refine g_seq ?_
  refine g_reg ?_
  refine g_v (v_move rfl) rfl ?_
  refine g_v (v_slen Tryz.underlying9 rfl) rfl ?_
  refine g_v (v_sub rfl rfl (w64 (by omega))) rfl ?_
  refine g_v (v_maxR (r := ((3 - (Lib.itoa n).length : Nat) : Int)) rfl rfl (by split <;> omega)) rfl ?_
  refine g_l (l_call (Pre := []) Tryz.call81 rfl (ct_Repeat (3 - (Lib.itoa n).length) (by omega))) rfl ?_
  rintro _ _ ⟨rfl, rfl⟩
  refine g_v (v_move rfl) rfl ?_
  refine g_v (v_cat rfl rfl (by rw [Lib.repeatL_length]; simp; omega)) rfl ?_
  refine g_v (v_assign rfl) rfl ?_
  refine g_nil ?_
  refine g_ret1 rfl rfl ?_
  exact rfl

theorem ct_image_numbers (s : Bytes) (k : Nat) (hk : k ≤ 5) (hs : s.length ≤ 9223372036854775807) (F : List HProp) : Ct Tryz.prog 88 [Str s, I k] ([tabs] ++ F) (numsR k s (tabs :: F)) := by
  show Ct Tryz.prog 88 [Str s, I k] (tabs :: F) _
  refine Ct.of Tryz.func88 rfl 50 Tryz.ntmps88 (by simp) fun w0 => ?_
  refine g_seq ?_
  refine g_reg ?_
  refine g_v (v_assign rfl) rfl ?_
  refine g_v (v_assign rfl) rfl ?_
  refine g_nil ?_
  refine g_seq ?_
  refine g_seq ?_
  refine g_reg ?_
  refine g_v (v_move rfl) rfl ?_
  refine g_v (v_slen Tryz.underlying9 rfl) rfl ?_
  refine g_v (v_move rfl) rfl ?_
  refine g_v (v_mul rfl rfl (w64 (by omega))) rfl ?_
  refine g_v (v_lss rfl rfl) rfl ?_
  refine g_nil ?_
  refine g_cond rfl (fun h14 => ?_) (fun h14 => ?_)
  · simp at h14
    refine g_seq ?_
    refine g_reg ?_
    refine g_v (v_assign rfl) rfl ?_
    refine g_v (v_assign rfl) rfl ?_
    refine g_nil ?_
    exact g_numsNo rfl (by unfold numsG; rw [if_pos (by omega)]) rfl rfl
  · simp at h14
    refine g_skip ?_
    refine g_seq ?_
    refine g_reg ?_
    refine g_v (v_assign rfl) rfl ?_
    refine g_nil ?_
    refine g_seq ?_
    refine g_seq ?_
    refine g_nilown 3 1 (intR []) rfl ?_
    refine g_reg ?_
    refine g_v (v_move rfl) rfl ?_
    refine g_v (v_move rfl) rfl ?_
    refine g_nil ?_
    refine g_block ?_
    refine g_loop (α := Nat × List Int × Option Addr × Nat) (fun z => z.1 ≤ k ∧ numsF z.1 s = some z.2.1) (fun z => U [(0, Str s), (6, sl z.2.2.1 z.1 z.2.2.2), (15, I k), (16, I z.1)]) (fun z => owL 3 1 z.2.2.1 z.2.2.2 (intR z.2.1) :: tabs :: F) (fun z => k - z.1) (0, [], none, 0) ⟨by simp, rfl⟩ [0, 6, 15, 16] rfl rfl ?_
    rintro ⟨i, l, s6, c6⟩ ⟨hi, hl⟩
    simp only [] at hi hl ⊢
    have hll := numsF_len hl
    refine g_seq ?_
    refine g_reg ?_
    refine g_v (v_lss rfl rfl) rfl ?_
    refine g_nil ?_
    refine g_seq ?_
    refine g_cond rfl (fun h17 => ?_) (fun h17 => ?_)
    · simp at h17
      have hik : i < k := by omega
      refine g_skip ?_
      refine g_seq ?_
      refine g_block ?_
      refine g_seq ?_
      refine g_reg ?_
      refine g_v (v_move rfl) rfl ?_
      refine g_v (v_assign rfl) rfl ?_
      refine g_nil ?_
      refine g_seq ?_
      have hq3l : ((s.take (3 * i + 3)).drop (3 * i)).length = 3 := by simp; omega
      have hq3 : ((s.take (3 * i + 3)).drop (3 * i)) = (s.drop (3 * i)).take 3 := by rw [List.drop_take]; congr 1; omega
      refine g_reg ?_
      refine g_v (v_move rfl) rfl ?_
      refine g_v (v_move rfl) rfl ?_
      refine g_v (v_mul rfl rfl (w64 (by omega))) rfl ?_
      refine g_v (v_move rfl) rfl ?_
      refine g_v (v_mul rfl rfl (w64 (by omega))) rfl ?_
      refine g_v (v_add rfl rfl (w64 (by omega))) rfl ?_
      refine g_v (v_strBoth (l := 3 * i) (h := 3 * i + 3) Tryz.underlying9 rfl rfl (by omega) rfl (by omega) (by omega) (by omega)) rfl ?_
      refine g_l (l_call (Pre := [tabs]) Tryz.call138 rfl (ct_Atoi ((s.take (3 * i + 3)).drop (3 * i)) hq3l)) rfl ?_
      rintro _ _ ⟨rfl, ⟨v, hv, rfl⟩ | ⟨hv, t0, p0, rfl⟩⟩
      · have hvr := ato_rng hq3l hv
        refine g_v (v_move rfl) rfl ?_
        refine g_v (v_extract (v := I v) rfl rfl) rfl ?_
        refine g_v (v_extract (v := errT 0 0) rfl rfl) rfl ?_
        refine g_v (v_assign rfl) rfl ?_
        refine g_v (v_assign rfl) rfl ?_
        refine g_nil ?_
        refine g_seq ?_
        refine g_seq ?_
        refine g_drawL [(0, false), (1, false), (2, false), (3, false), (5, false), (6, false), (7, false), (8, false), (9, false), (10, false), (11, false), (4, true), (12, false), (13, false)] (by kernel_rfl) (by kernel_rfl) rfl (by kernel_rfl) ?_
        refine d_v rfl (v_move rfl) rfl ?_
        refine d_v rfl (v_ineq (T := 0) (f := 0) Tryz.underlying29 rfl) rfl ?_
        refine d_v rfl (v_move rfl) rfl ?_
        refine d_gv1 rfl rfl rfl rfl (v_move rfl) rfl ?_
        refine d_gv1 rfl rfl rfl rfl (v_move rfl) rfl ?_
        refine d_gv1 rfl rfl rfl rfl (v_move rfl) rfl ?_
        refine d_gv1 rfl rfl rfl rfl (v_mul rfl rfl (w64 (by omega))) rfl ?_
        refine d_gv1 rfl rfl rfl rfl (v_move rfl) rfl ?_
        refine d_gv1 rfl rfl rfl rfl (v_mul rfl rfl (w64 (by omega))) rfl ?_
        refine d_gv1 rfl rfl rfl rfl (v_add rfl rfl (w64 (by omega))) rfl ?_
        refine d_gv1 rfl rfl rfl rfl (v_strBoth (l := 3 * i) (h := 3 * i + 3) Tryz.underlying9 rfl rfl (by omega) rfl (by omega) (by omega) (by omega)) rfl ?_
        refine d_gl rfl rfl rfl rfl (l_call (Pre := [tabs]) Tryz.call48 rfl (ct_image_three (v) (by omega))) rfl ?_
        rintro _ _ ⟨rfl, rfl⟩
        refine d_gv1 rfl rfl rfl rfl (v_sneq rfl rfl) rfl ?_
        refine d_v rfl (v_or rfl rfl) rfl ?_
        refine d_nil ?_
        refine g_cond rfl (fun h43 => ?_) (fun h43 => ?_)
        · have hv3 : ¬ thr v = ((s.take (3 * i + 3)).drop (3 * i)) := by simpa using h43
          refine g_seq ?_
          refine g_reg ?_
          refine g_v (v_assign rfl) rfl ?_
          refine g_v (v_assign rfl) rfl ?_
          refine g_nil ?_
          exact g_numsNo rfl (by
            unfold numsG
            rw [if_neg (by omega)]
            have hn1 : numsF (i + 1) s = none := by rw [numsF_snoc hl, ← hq3]; unfold num3; rw [hv]; simp only; rw [if_neg hv3]; rfl
            have := numsF_none (k := k - (i + 1)) hn1
            rwa [show i + 1 + (k - (i + 1)) = k by omega] at this) rfl rfl
        · have hv3 : thr v = ((s.take (3 * i + 3)).drop (3 * i)) := by simpa using h43
          refine g_skip ?_
          refine g_reg ?_
          refine g_v (v_move rfl) rfl ?_
          refine g_v (v_move rfl) rfl ?_
          refine g_l (l_buildSlice [[I v]] Tryz.underlying39 Tryz.sizeOf3 Tryz.zeroValue3 rfl rfl rfl (by simp) (by decide) (by decide)) rfl ?_
          rintro _ _ ⟨b46, rfl, rfl⟩
          refine g_l (l_append Tryz.underlying39 Tryz.sizeOf3 Tryz.zeroValue3 rfl Tryz.typeInfo3 (by decide) rfl rfl (by rw [intR_len]; exact numsF_len hl) rfl (by simp) (by intro r hr; simp at hr; subst hr; rfl) ⟨by omega, by decide, by decide⟩) rfl ?_
          rintro _ _ ⟨s47, c47, rfl, rfl⟩
          rw [show intR l ++ [[I v]] = intR (l ++ [v]) by simp [intR]]
          refine g_v (v_assign rfl) rfl ?_
          refine g_nil ?_
          refine g_blk ?_
          refine g_reg ?_
          refine g_v (v_add rfl rfl (w64 (by omega))) rfl ?_
          refine g_v (v_move rfl) rfl ?_
          refine g_nil ?_
          exact g_again (i + 1, l ++ [v], s47, c47) ⟨by simp only []; omega, by simp only []; rw [numsF_snoc hl, ← hq3]; unfold num3; rw [hv]; simp only; rw [if_pos hv3]; rfl⟩ (by simp only []; omega) [0, 6, 15, 16] rfl rfl
      · skip
        refine g_v (v_move rfl) rfl ?_
        refine g_v (v_extract (v := I 0) rfl rfl) rfl ?_
        refine g_v (v_extract (v := .iface t0 (ptr p0 0)) rfl rfl) rfl ?_
        refine g_v (v_assign rfl) rfl ?_
        refine g_v (v_assign rfl) rfl ?_
        refine g_nil ?_
        refine g_seq ?_
        refine g_seq ?_
        refine g_drawL [(0, false), (1, false), (2, false), (3, false), (4, false), (5, false), (6, false), (7, false), (8, false), (9, false), (10, false), (11, false), (12, false), (13, false)] (by kernel_rfl) (by kernel_rfl) rfl (by kernel_rfl) ?_
        refine d_v rfl (v_move rfl) rfl ?_
        refine d_v rfl (v_iNe Tryz.underlying29 rfl) rfl ?_
        refine d_v rfl (v_move rfl) rfl ?_
        refine d_no rfl rfl rfl rfl rfl ?_
        refine d_no rfl rfl rfl rfl rfl ?_
        refine d_no rfl rfl rfl rfl rfl ?_
        refine d_no rfl rfl rfl rfl rfl ?_
        refine d_no rfl rfl rfl rfl rfl ?_
        refine d_no rfl rfl rfl rfl rfl ?_
        refine d_no rfl rfl rfl rfl rfl ?_
        refine d_no rfl rfl rfl rfl rfl ?_
        refine d_no rfl rfl rfl rfl rfl ?_
        refine d_no rfl rfl rfl rfl rfl ?_
        refine d_v rfl (v_pk1 rfl rfl rfl) rfl ?_
        refine d_nil ?_
        refine g_cond rfl (fun h43 => ?_) (fun h43 => ?_)
        · skip
          refine g_seq ?_
          refine g_reg ?_
          refine g_v (v_assign rfl) rfl ?_
          refine g_v (v_assign rfl) rfl ?_
          refine g_nil ?_
          exact g_numsNo rfl (by
            unfold numsG
            rw [if_neg (by omega)]
            have hn1 : numsF (i + 1) s = none := by rw [numsF_snoc hl, ← hq3]; unfold num3; rw [hv]; rfl
            have := numsF_none (k := k - (i + 1)) hn1
            rwa [show i + 1 + (k - (i + 1)) = k by omega] at this) rfl rfl
        · cases h43
    · simp at h17
      obtain rfl : i = k := by omega
      refine g_exit rfl ?_
      refine g_seq ?_
      refine g_reg ?_
      refine g_v (v_move rfl) rfl ?_
      refine g_v (v_assign rfl) rfl ?_
      refine g_v (v_assign rfl) rfl ?_
      refine g_nil ?_
      exact g_numsYes rfl (by unfold numsG; rw [if_neg (by omega)]; exact hl) rfl rfl

theorem ct_image_Rows {ee : Bool} (b : Nat) (S : SI) (L : List Pt) (n : Int) (h : Sm S L n) (F : List HProp) : Ct Tryz.prog 15 [ptr b 0] ([tabsP ee, vlt b S L n] ++ F) (RSl 58 3 (rowsF S L n).length (chR (rowsF S L n)) (tabsP ee :: vlt b S L n :: F)) := by
  show Ct Tryz.prog 15 [ptr b 0] (tabsP ee :: vlt b S L n :: F) _
  have hok := h.ok
  have hll := h.len
  have hib := ids_len_le 40 S.B
  have hin := ids_len_le 24 S.N
  refine Ct.of Tryz.func15 rfl 133 Tryz.ntmps15 (by simp) fun w0 => ?_
  refine g_openV b S L n ?_
  intro x s c
  refine g_openX x S ?_
  intro p r
  refine g_nilown 58 3 (chR ((bRows 40 S.B).take 0)) rfl ?_
  refine g_seq ?_
  refine g_reg ?_
  refine g_v (v_assign rfl) rfl ?_
  refine g_nil ?_
  refine g_seq ?_
  refine g_reg ?_
  refine g_v (v_assign rfl) rfl ?_
  refine g_nil ?_
  refine g_seq ?_
  refine g_seq ?_
  refine g_reg ?_
  refine g_v (v_move rfl) rfl ?_
  refine g_v (v_nilCheck rfl) rfl ?_
  refine g_v (v_fieldAddr 0 Tryz.underlying47 rfl rfl Tryz.sizeOf44 (by decide) rfl) rfl ?_
  refine g_v (v_load (v := ptr x 0) Tryz.isAgg44 rfl rfl) rfl ?_
  refine g_v (v_nilCheck rfl) rfl ?_
  refine g_v (v_fieldAddr 0 Tryz.underlying43 rfl rfl Tryz.sizeOf40 (by decide) rfl) rfl ?_
  refine g_v (v_load (v := ptr p 0) Tryz.isAgg40 rfl rfl) rfl ?_
  refine g_l (l_call (Pre := [plb p S.B]) Tryz.call18 rfl (ct_pool_Numbers p S.B)) rfl ?_
  rintro _ _ ⟨s22, c22, rfl, rfl⟩
  refine g_freeze s22 ?_
  refine g_openP p S.B ?_
  intro r2
  refine g_v (v_len Tryz.underlying39 rfl) rfl ?_
  refine g_v (v_move rfl) rfl ?_
  refine g_nil ?_
  refine g_block ?_
  refine g_loop (α := Nat × Option Addr × Nat) (fun z => z.1 ≤ (ids 40 S.B).length) (fun z => U [(0, ptr b 0), (3, sl z.2.1 z.1 z.2.2), (22, sl s22 (ids 40 S.B).length c22), (23, I (ids 40 S.B).length), (24, I z.1)]) (fun z => owL 58 3 z.2.1 z.2.2 (chR ((bRows 40 S.B).take z.1)) :: roL 1 s22 (intR (ids 40 S.B)) :: tabsP ee :: pt b (.cells #[ptr x 0, sl s (L).length c, I (n)] 47 (0, 0)) :: pt x (.cells #[ptr p 0, .map (some r)] 43 (0, 0)) :: pt p (.cells #[.map (some r2)] 95 (0, 0)) :: mp r2 (tb encB 40 S.B) :: mp r (tb encN 24 S.N) :: owL 55 4 s c (ptR (L)) :: F) (fun z => (ids 40 S.B).length - z.1) (0, none, 0) (by simp) [0, 3, 22, 23, 24] rfl rfl ?_
  rintro ⟨k, s3, c3⟩ hk
  simp only [] at hk ⊢
  refine g_seq ?_
  refine g_reg ?_
  refine g_v (v_lss rfl rfl) rfl ?_
  refine g_nil ?_
  refine g_seq ?_
  refine g_cond rfl (fun h25 => ?_) (fun h25 => ?_)
  · simp at h25
    have hki : k < (ids 40 S.B).length := by omega
    obtain ⟨q, hq⟩ : ∃ q, (ids 40 S.B)[k]? = some q := ⟨_, List.getElem?_eq_getElem hki⟩
    obtain ⟨hqr, hqs⟩ := mem_ids.1 (List.mem_of_getElem? hq)
    have hgb := gB_sm h q
    refine g_skip ?_
    refine g_seq ?_
    refine g_block ?_
    refine g_seq ?_
    refine g_reg ?_
    refine g_v (v_idxS k Tryz.underlying39 Tryz.sizeOf3 rfl rfl rfl hki (by rw [intR_len]; exact hki)) rfl ?_
    refine g_v (v_loadS0 (v := I q) Tryz.isAgg3 rfl (intR_at hq) rfl) rfl ?_
    refine g_v (v_assign rfl) rfl ?_
    refine g_nil ?_
    refine g_seq ?_
    refine g_reg ?_
    refine g_v (v_move rfl) rfl ?_
    refine g_v (v_nilCheck rfl) rfl ?_
    refine g_v (v_fieldAddr 0 Tryz.underlying47 rfl rfl Tryz.sizeOf44 (by decide) rfl) rfl ?_
    refine g_v (v_load (v := ptr x 0) Tryz.isAgg44 rfl rfl) rfl ?_
    refine g_v (v_nilCheck rfl) rfl ?_
    refine g_v (v_fieldAddr 0 Tryz.underlying43 rfl rfl Tryz.sizeOf40 (by decide) rfl) rfl ?_
    refine g_v (v_load (v := ptr p 0) Tryz.isAgg40 rfl rfl) rfl ?_
    refine g_v (v_nilCheck rfl) rfl ?_
    refine g_v (v_fieldAddr 0 Tryz.underlying95 rfl rfl Tryz.sizeOf93 (by decide) rfl) rfl ?_
    refine g_v (v_load (v := .map (some r2)) Tryz.isAgg93 rfl rfl) rfl ?_
    refine g_v (v_move rfl) rfl ?_
    refine g_v (v_lookup (v := encB (gB S.B q)) Tryz.underlying93 Tryz.underlying3 Tryz.zeroValue92 rfl rfl (lkBv hok.1 q)) rfl ?_
    refine g_l (l_alloc #[Str [], I 0] Tryz.zeroValue92) rfl ?_
    rintro _ _ ⟨b6, rfl, rfl⟩
    refine g_l0 (l_storeA (cs := #[Str [], I 0]) (vs := [Str (gB S.B q).1, I (gB S.B q).2]) #[Str (gB S.B q).1, I (gB S.B q).2] Tryz.sizeOf92 rfl rfl rfl rfl (by simp) (splice_whole rfl)) ?_
    rintro _ _ rfl
    refine g_nil ?_
    refine g_draw (Lf := [pt b6 (.cells #[Str (gB S.B q).1, I (gB S.B q).2] 92 (0, 0))]) [(0, false), (1, false), (4, false), (5, false), (7, false), (8, false), (2, true), (3, false), (6, true), (9, false), (10, false), (11, true), (12, true), (13, false)] (by kernel_rfl) (by kernel_rfl) rfl (by kernel_rfl) ?_
    refine d_v rfl (v_move rfl) rfl ?_
    refine d_v rfl (v_move rfl) rfl ?_
    refine d_v rfl (v_fieldAddr 1 Tryz.underlying92 rfl rfl Tryz.sizeOf3 (by decide) rfl) rfl ?_
    refine d_v rfl (v_load (v := I (gB S.B q).2) Tryz.isAgg3 rfl rfl) rfl ?_
    refine d_v rfl (v_fieldAddr 0 Tryz.underlying92 rfl rfl Tryz.sizeOf9 (by decide) rfl) rfl ?_
    refine d_v rfl (v_load (v := Str (gB S.B q).1) Tryz.isAgg9 rfl rfl) rfl ?_
    refine d_l rfl (l_call (Pre := [tabsP ee]) Tryz.call48 rfl (ct_image_three (q) (by omega))) rfl ?_
    rintro _ _ ⟨rfl, rfl⟩
    refine d_v rfl (v_cat rfl rfl (by have := thr_len_le (n := q) (by omega); simp; omega)) rfl ?_
    refine d_l rfl (l_call (Pre := [tabsP ee]) Tryz.call48 rfl (ct_image_three ((gB S.B q).2) (by omega))) rfl ?_
    rintro _ _ ⟨rfl, rfl⟩
    refine d_v rfl (v_cat rfl rfl (by have := thr_len_le (n := (gB S.B q).2) (by omega); omega)) rfl ?_
    refine d_v rfl (v_build rfl (bld58_0_1 _ rfl _ rfl)) rfl ?_
    refine d_l rfl (l_buildSlice [encC (bRow q (gB S.B q))] Tryz.underlying33 Tryz.sizeOf58 Tryz.zeroValue58 rfl rfl rfl (by intro r hr; simp at hr; subst hr; rfl) (by decide) (by decide)) rfl ?_
    rintro _ _ ⟨b51, rfl, rfl⟩
    refine d_l rfl (l_append Tryz.underlying33 Tryz.sizeOf58 Tryz.zeroValue58 rfl Tryz.typeInfo58 (by decide) rfl rfl (by rw [chR_len]; simp [bRows, nRows]; omega) rfl (by intro r hr; simp at hr; subst hr; rfl) (by intro r hr; simp at hr; subst hr; rfl) ⟨by omega, by decide, by decide⟩) rfl ?_
    rintro _ _ ⟨s52, c52, rfl, rfl⟩
    rw [chR_snoc, tk_snoc (bRows_at hq)]
    refine d_v rfl (v_assign rfl) rfl ?_
    refine d_nil ?_
    refine g_blk ?_
    refine g_reg ?_
    refine g_v (v_add rfl rfl (w64 (by omega))) rfl ?_
    refine g_v (v_move rfl) rfl ?_
    refine g_nil ?_
    exact g_again (k + 1, s52, c52) (by simp only []; omega) (by simp only []; omega) [0, 3, 22, 23, 24] rfl rfl
  · simp at h25
    obtain rfl : k = (ids 40 S.B).length := by omega
    rw [List.take_of_length_le (by rw [bRows_len]; omega)]
    refine g_exit rfl ?_
    refine g_seq ?_
    refine g_seq ?_
    refine g_shutP r2 p S.B (.refl _) ?_
    refine g_shutX p r x S (.refl _) ?_
    refine g_reg ?_
    refine g_v (v_move rfl) rfl ?_
    refine g_v (v_nilCheck rfl) rfl ?_
    refine g_v (v_fieldAddr 0 Tryz.underlying47 rfl rfl Tryz.sizeOf44 (by decide) rfl) rfl ?_
    refine g_v (v_load (v := ptr x 0) Tryz.isAgg44 rfl rfl) rfl ?_
    refine g_l (l_call (Pre := [ixl x S]) Tryz.call19 rfl (ct_index_Numbers x S)) rfl ?_
    rintro _ _ ⟨s58, c58, rfl, rfl⟩
    refine g_freeze s58 ?_
    refine g_openX x S ?_
    intro p r
    refine g_v (v_len Tryz.underlying39 rfl) rfl ?_
    refine g_v (v_move rfl) rfl ?_
    refine g_nil ?_
    refine g_owEq s3 (chR (bRows 40 S.B ++ (nRows 24 S.N).take 0)) (by simp) ?_
    refine g_block ?_
    refine g_loop (α := Nat × Option Addr × Nat) (fun z => z.1 ≤ (ids 24 S.N).length) (fun z => U [(0, ptr b 0), (3, sl z.2.1 ((ids 40 S.B).length + z.1) z.2.2), (58, sl s58 (ids 24 S.N).length c58), (59, I (ids 24 S.N).length), (60, I z.1)]) (fun z => owL 58 3 z.2.1 z.2.2 (chR (bRows 40 S.B ++ (nRows 24 S.N).take z.1)) :: roL 1 s58 (intR (ids 24 S.N)) :: tabsP ee :: pt b (.cells #[ptr x 0, sl s (L).length c, I (n)] 47 (0, 0)) :: pt x (.cells #[ptr p 0, .map (some r)] 43 (0, 0)) :: plb p S.B :: mp r (tb encN 24 S.N) :: owL 55 4 s c (ptR (L)) :: F) (fun z => (ids 24 S.N).length - z.1) (0, s3, c3) (by simp) [0, 3, 58, 59, 60] rfl rfl ?_
    rintro ⟨k, s3, c3⟩ hk
    simp only [] at hk ⊢
    refine g_seq ?_
    refine g_reg ?_
    refine g_v (v_lss rfl rfl) rfl ?_
    refine g_nil ?_
    refine g_seq ?_
    refine g_cond rfl (fun h61 => ?_) (fun h61 => ?_)
    · simp at h61
      have hki : k < (ids 24 S.N).length := by omega
      obtain ⟨q, hq⟩ : ∃ q, (ids 24 S.N)[k]? = some q := ⟨_, List.getElem?_eq_getElem hki⟩
      obtain ⟨hqr, hqs⟩ := mem_ids.1 (List.mem_of_getElem? hq)
      have hgn := gN_sm h q
      refine g_skip ?_
      refine g_seq ?_
      refine g_block ?_
      refine g_seq ?_
      refine g_reg ?_
      refine g_v (v_idxS k Tryz.underlying39 Tryz.sizeOf3 rfl rfl rfl hki (by rw [intR_len]; exact hki)) rfl ?_
      refine g_v (v_loadS0 (v := I q) Tryz.isAgg3 rfl (intR_at hq) rfl) rfl ?_
      refine g_v (v_assign rfl) rfl ?_
      refine g_nil ?_
      refine g_seq ?_
      refine g_reg ?_
      refine g_v (v_move rfl) rfl ?_
      refine g_v (v_nilCheck rfl) rfl ?_
      refine g_v (v_fieldAddr 0 Tryz.underlying47 rfl rfl Tryz.sizeOf44 (by decide) rfl) rfl ?_
      refine g_v (v_load (v := ptr x 0) Tryz.isAgg44 rfl rfl) rfl ?_
      refine g_v (v_nilCheck rfl) rfl ?_
      refine g_v (v_fieldAddr 1 Tryz.underlying43 rfl rfl Tryz.sizeOf41 (by decide) rfl) rfl ?_
      refine g_v (v_load (v := .map (some r)) Tryz.isAgg41 rfl rfl) rfl ?_
      refine g_v (v_move rfl) rfl ?_
      refine g_v (v_lookup (v := encN (gN S.N q)) Tryz.underlying41 Tryz.underlying3 Tryz.zeroValue99 rfl rfl (lkN hok.2.2.1 _)) rfl ?_
      refine g_l (l_alloc #[I 0, I 0, I 0, I 0, I 0] Tryz.zeroValue99) rfl ?_
      rintro _ _ ⟨b9, rfl, rfl⟩
      refine g_l0 (l_storeA (cs := #[I 0, I 0, I 0, I 0, I 0]) (vs := ndC (gN S.N q)) (ndC (gN S.N q)).toArray Tryz.sizeOf99 rfl rfl rfl rfl (by simp) (splice_whole rfl)) ?_
      rintro _ _ rfl
      refine g_nil ?_
      refine g_seq ?_
      refine g_reg ?_
      refine g_v (v_fieldAddr 4 Tryz.underlying99 rfl rfl Tryz.sizeOf3 (by decide) rfl) rfl ?_
      refine g_v (v_load (v := I (gN S.N q).refs) Tryz.isAgg3 rfl rfl) rfl ?_
      refine g_l (l_call (Pre := [tabsP ee]) Tryz.call48 rfl (ct_image_three ((gN S.N q).refs) (by omega))) rfl ?_
      rintro _ _ ⟨rfl, rfl⟩
      refine g_v (v_assign rfl) rfl ?_
      refine g_nil ?_
      refine g_seq ?_
      refine g_seq ?_
      refine g_reg ?_
      refine g_v (v_fieldAddr 0 Tryz.underlying99 rfl rfl Tryz.sizeOf97 (by decide) rfl) rfl ?_
      refine g_v (v_loadA (vs := kdC (gN S.N q)) Tryz.isAgg97 Tryz.sizeOf97 rfl rfl ndC_ld) rfl ?_
      refine g_v (v_move rfl) rfl ?_
      refine g_nil ?_
      refine g_block ?_
      refine g_loop (α := Nat) (fun i => i ≤ 4) (fun i => U [(0, ptr b 0), (3, sl s3 ((ids 40 S.B).length + k) c3), (58, sl s58 (ids 24 S.N).length c58), (59, I (ids 24 S.N).length), (60, I k), (8, I q), (10, Str (nPre (gN S.N q) i)), (77, .agg (kdC (gN S.N q)).toArray), (78, I i)]) (fun i => owL 58 3 s3 c3 (chR (bRows 40 S.B ++ (nRows 24 S.N).take k)) :: roL 1 s58 (intR (ids 24 S.N)) :: tabsP ee :: pt b (.cells #[ptr x 0, sl s (L).length c, I (n)] 47 (0, 0)) :: pt x (.cells #[ptr p 0, .map (some r)] 43 (0, 0)) :: plb p S.B :: mp r (tb encN 24 S.N) :: owL 55 4 s c (ptR (L)) :: F) (fun i => 4 - i) 0 (by omega) [0, 3, 58, 59, 60, 8, 10, 77, 78] rfl (by rw [nPre_0]; rfl) ?_
      intro i hi
      refine g_seq ?_
      refine g_reg ?_
      refine g_v (v_lss rfl rfl) rfl ?_
      refine g_nil ?_
      refine g_seq ?_
      refine g_cond rfl (fun h79 => ?_) (fun h79 => ?_)
      · simp at h79
        have hi4 : i < 4 := by omega
        refine g_skip ?_
        refine g_seq ?_
        refine g_block ?_
        refine g_seq ?_
        refine g_reg ?_
        refine g_v (v_index (v := I (kat (gN S.N q) i)) i Tryz.underlying97 Tryz.sizeOf3 Tryz.isAgg3 rfl rfl rfl hi4 (by simpa using kdC_at (gN S.N q) i hi4)) rfl ?_
        refine g_v (v_assign rfl) rfl ?_
        refine g_nil ?_
        refine g_reg ?_
        refine g_v (v_move rfl) rfl ?_
        refine g_v (v_move rfl) rfl ?_
        refine g_l (l_call (Pre := [tabsP ee]) Tryz.call48 rfl (ct_image_three (kat (gN S.N q) i) (by have := hgn.2 _ (kd_kat (n := gN S.N q) hi4); omega))) rfl ?_
        rintro _ _ ⟨rfl, rfl⟩
        refine g_v (v_cat rfl rfl (by have h1 := nPre_len (n := gN S.N q) (by omega) (fun k hk => by have := hgn.2 k hk; omega) i hi; have := thr_len_le (n := kat (gN S.N q) i) (by have := hgn.2 _ (kd_kat (n := gN S.N q) hi4); omega); omega)) rfl ?_
        refine g_v (v_assign rfl) rfl ?_
        refine g_nil ?_
        refine g_blk ?_
        refine g_reg ?_
        refine g_v (v_add rfl rfl (w64 (by omega))) rfl ?_
        refine g_v (v_move rfl) rfl ?_
        refine g_nil ?_
        refine g_again (i + 1) (by omega) (by omega) [0, 3, 58, 59, 60, 8, 10, 77, 78] rfl ?_
        rw [← nPre_s _ i hi4]
        rfl
      · simp at h79
        obtain rfl : i = 4 := by omega
        rw [nPre_4]
        refine g_exit rfl ?_
        refine g_reg ?_
        refine g_v (v_move rfl) rfl ?_
        refine g_v (v_move rfl) rfl ?_
        refine g_l (l_call (Pre := [tabsP ee]) Tryz.call48 rfl (ct_image_three (q) (by omega))) rfl ?_
        rintro _ _ ⟨rfl, rfl⟩
        refine g_v (v_cat rfl rfl (by have := thr_len_le (n := q) (by omega); simp; omega)) rfl ?_
        refine g_v (v_move rfl) rfl ?_
        refine g_v (v_build rfl (bld58_0_1 _ rfl _ rfl)) rfl ?_
        refine g_l (l_buildSlice [encC (nRow q (gN S.N q))] Tryz.underlying33 Tryz.sizeOf58 Tryz.zeroValue58 rfl rfl rfl (by intro r hr; simp at hr; subst hr; rfl) (by decide) (by decide)) rfl ?_
        rintro _ _ ⟨b92, rfl, rfl⟩
        refine g_l (l_append Tryz.underlying33 Tryz.sizeOf58 Tryz.zeroValue58 rfl Tryz.typeInfo58 (by decide) rfl rfl (by rw [chR_len]; simp [bRows, nRows]; omega) rfl (by intro r hr; simp at hr; subst hr; rfl) (by intro r hr; simp at hr; subst hr; rfl) ⟨by omega, by decide, by decide⟩) rfl ?_
        rintro _ _ ⟨s93, c93, rfl, rfl⟩
        rw [chR_snoc, List.append_assoc, tk_snoc (nRows_at hq)]
        refine g_v (v_assign rfl) rfl ?_
        refine g_nil ?_
        refine g_blk ?_
        refine g_reg ?_
        refine g_v (v_add rfl rfl (w64 (by omega))) rfl ?_
        refine g_v (v_move rfl) rfl ?_
        refine g_nil ?_
        exact g_again (k + 1, s93, c93) (by simp only []; omega) (by simp only []; omega) [0, 3, 58, 59, 60] rfl rfl
    · simp at h61
      obtain rfl : k = (ids 24 S.N).length := by omega
      rw [List.take_of_length_le (l := nRows 24 S.N) (by rw [nRows_len]; omega)]
      refine g_exit rfl ?_
      refine g_seq ?_
      refine g_seq ?_
      refine g_reg ?_
      refine g_v (v_move rfl) rfl ?_
      refine g_v (v_nilCheck rfl) rfl ?_
      refine g_v (v_fieldAddr 1 Tryz.underlying47 rfl rfl Tryz.sizeOf45 (by decide) rfl) rfl ?_
      refine g_v (v_load (v := sl s (L).length c) Tryz.isAgg45 rfl rfl) rfl ?_
      refine g_v (v_len Tryz.underlying45 rfl) rfl ?_
      refine g_v (v_move rfl) rfl ?_
      refine g_nil ?_
      refine g_owEq s3 (chR (bRows 40 S.B ++ nRows 24 S.N ++ (L.map pRow).take 0)) (by simp) ?_
      refine g_block ?_
      refine g_loop (α := Nat × Option Addr × Nat) (fun z => z.1 ≤ L.length) (fun z => U [(0, ptr b 0), (3, sl z.2.1 ((ids 40 S.B).length + (ids 24 S.N).length + z.1) z.2.2), (98, sl s L.length c), (99, I L.length), (100, I z.1)]) (fun z => owL 58 3 z.2.1 z.2.2 (chR (bRows 40 S.B ++ nRows 24 S.N ++ (L.map pRow).take z.1)) :: tabsP ee :: pt b (.cells #[ptr x 0, sl s (L).length c, I (n)] 47 (0, 0)) :: pt x (.cells #[ptr p 0, .map (some r)] 43 (0, 0)) :: plb p S.B :: mp r (tb encN 24 S.N) :: owL 55 4 s c (ptR (L)) :: F) (fun z => L.length - z.1) (0, s3, c3) (by simp) [0, 3, 98, 99, 100] rfl rfl ?_
      rintro ⟨k, s3, c3⟩ hk
      simp only [] at hk ⊢
      refine g_seq ?_
      refine g_reg ?_
      refine g_v (v_lss rfl rfl) rfl ?_
      refine g_nil ?_
      refine g_seq ?_
      refine g_cond rfl (fun h101 => ?_) (fun h101 => ?_)
      · simp at h101
        have hkn : k < L.length := by omega
        obtain ⟨p0, hp⟩ : ∃ p0, L[k]? = some p0 := ⟨_, List.getElem?_eq_getElem hkn⟩
        have hps := h.pts p0 (List.mem_of_getElem? hp)
        refine g_skip ?_
        refine g_seq ?_
        refine g_block ?_
        refine g_seq ?_
        refine g_reg ?_
        refine g_v (v_idxS (k) Tryz.underlying45 Tryz.sizeOf55 rfl rfl rfl hkn (by rw [ptR_len]; exact hkn)) rfl ?_
        refine g_v (v_loadAS (row := encPt p0) Tryz.isAgg55 Tryz.sizeOf55 rfl (ptR_at hp) rfl) rfl ?_
        refine g_l (l_alloc #[I 0, I 0, I 0, I 0] Tryz.zeroValue55) rfl ?_
        rintro _ _ ⟨b14, rfl, rfl⟩
        refine g_l0 (l_storeA (cs := #[I 0, I 0, I 0, I 0]) (vs := encPt (p0)) (encPt (p0)).toArray Tryz.sizeOf55 rfl rfl rfl rfl (by simp) (splice_whole rfl)) ?_
        rintro _ _ rfl
        refine g_nil ?_
        refine g_draw (Lf := [pt b14 (.cells (encPt p0).toArray 55 (0, 0))]) [(0, false), (1, false), (2, false), (5, false), (6, false), (8, false), (9, false), (12, false), (13, false), (3, true), (4, false), (7, true), (10, true), (11, false), (14, true), (15, false), (16, false), (17, true), (18, true), (19, false)] (by kernel_rfl) (by kernel_rfl) rfl (by kernel_rfl) ?_
        refine d_v rfl (v_move rfl) rfl ?_
        refine d_v rfl (v_fieldAddr 0 Tryz.underlying55 rfl rfl Tryz.sizeOf3 (by decide) rfl) rfl ?_
        refine d_v rfl (v_load (v := I p0.id) Tryz.isAgg3 rfl rfl) rfl ?_
        refine d_v rfl (v_fieldAddr 1 Tryz.underlying55 rfl rfl Tryz.sizeOf3 (by decide) rfl) rfl ?_
        refine d_v rfl (v_load (v := I p0.disk) Tryz.isAgg3 rfl rfl) rfl ?_
        refine d_v rfl (v_fieldAddr 2 Tryz.underlying55 rfl rfl Tryz.sizeOf3 (by decide) rfl) rfl ?_
        refine d_v rfl (v_load (v := I p0.size) Tryz.isAgg3 rfl rfl) rfl ?_
        refine d_v rfl (v_fieldAddr 3 Tryz.underlying55 rfl rfl Tryz.sizeOf3 (by decide) rfl) rfl ?_
        refine d_v rfl (v_load (v := I p0.root) Tryz.isAgg3 rfl rfl) rfl ?_
        refine d_l rfl (l_call (Pre := [tabsP ee]) Tryz.call48 rfl (ct_image_three (p0.id) (by omega))) rfl ?_
        rintro _ _ ⟨rfl, rfl⟩
        refine d_v rfl (v_cat rfl rfl (by have := thr_len_le (n := p0.id) (by omega); simp; omega)) rfl ?_
        refine d_l rfl (l_call (Pre := [tabsP ee]) Tryz.call48 rfl (ct_image_three (p0.disk) (by omega))) rfl ?_
        rintro _ _ ⟨rfl, rfl⟩
        refine d_l rfl (l_call (Pre := [tabsP ee]) Tryz.call48 rfl (ct_image_three (p0.size) (by omega))) rfl ?_
        rintro _ _ ⟨rfl, rfl⟩
        refine d_v rfl (v_cat rfl rfl (by have := thr_len_le (n := p0.disk) (by omega); have := thr_len_le (n := p0.size) (by omega); omega)) rfl ?_
        refine d_l rfl (l_call (Pre := [tabsP ee]) Tryz.call48 rfl (ct_image_three (p0.root) (by omega))) rfl ?_
        rintro _ _ ⟨rfl, rfl⟩
        refine d_v rfl (v_cat rfl rfl (by have := thr_len_le (n := p0.disk) (by omega); have := thr_len_le (n := p0.size) (by omega); have := thr_len_le (n := p0.root) (by omega); simp; omega)) rfl ?_
        refine d_v rfl (v_build rfl (bld58_0_1 _ rfl _ rfl)) rfl ?_
        refine d_l rfl (l_buildSlice [encC (pRow p0)] Tryz.underlying33 Tryz.sizeOf58 Tryz.zeroValue58 rfl rfl rfl (by intro r hr; simp at hr; subst hr; rfl) (by decide) (by decide)) rfl ?_
        rintro _ _ ⟨b121, rfl, rfl⟩
        refine d_l rfl (l_append Tryz.underlying33 Tryz.sizeOf58 Tryz.zeroValue58 rfl Tryz.typeInfo58 (by decide) rfl rfl (by rw [chR_len]; simp [bRows, nRows]; omega) rfl (by intro r hr; simp at hr; subst hr; rfl) (by intro r hr; simp at hr; subst hr; rfl) ⟨by omega, by decide, by decide⟩) rfl ?_
        rintro _ _ ⟨s122, c122, rfl, rfl⟩
        rw [chR_snoc, List.append_assoc (bRows 40 S.B ++ nRows 24 S.N), tk_snoc (show (L.map pRow)[k]? = some (pRow p0) by simp [hp])]
        refine d_v rfl (v_assign rfl) rfl ?_
        refine d_nil ?_
        refine g_blk ?_
        refine g_reg ?_
        refine g_v (v_add rfl rfl (w64 (by omega))) rfl ?_
        refine g_v (v_move rfl) rfl ?_
        refine g_nil ?_
        exact g_again (k + 1, s122, c122) (by simp only []; omega) (by simp only []; omega) [0, 3, 98, 99, 100] rfl rfl
      · simp at h101
        obtain rfl : k = L.length := by omega
        rw [List.take_of_length_le (l := L.map pRow) (by simp)]
        refine g_exit rfl ?_
        refine g_seq ?_
        refine g_reg ?_
        refine g_v (v_move rfl) rfl ?_
        refine g_v (v_move rfl) rfl ?_
        refine g_v (v_nilCheck rfl) rfl ?_
        refine g_v (v_fieldAddr 2 Tryz.underlying47 rfl rfl Tryz.sizeOf3 (by decide) rfl) rfl ?_
        refine g_v (v_load (v := I n) Tryz.isAgg3 rfl rfl) rfl ?_
        refine g_l (l_call (Pre := [tabsP ee]) Tryz.call48 rfl (ct_image_three (n) (by have := h.n1; omega))) rfl ?_
        rintro _ _ ⟨rfl, rfl⟩
        refine g_v (v_build rfl (bld58_0_1 _ rfl _ rfl)) rfl ?_
        refine g_l (l_buildSlice [encC (xRow n)] Tryz.underlying33 Tryz.sizeOf58 Tryz.zeroValue58 rfl rfl rfl (by intro r hr; simp at hr; subst hr; rfl) (by decide) (by decide)) rfl ?_
        rintro _ _ ⟨b131, rfl, rfl⟩
        refine g_l (l_append Tryz.underlying33 Tryz.sizeOf58 Tryz.zeroValue58 rfl Tryz.typeInfo58 (by decide) rfl rfl (by rw [chR_len]; simp [bRows, nRows]; omega) rfl (by intro r hr; simp at hr; subst hr; rfl) (by intro r hr; simp at hr; subst hr; rfl) ⟨by omega, by decide, by decide⟩) rfl ?_
        rintro _ _ ⟨s132, c132, rfl, rfl⟩
        rw [chR_snoc, show bRows 40 S.B ++ nRows 24 S.N ++ L.map pRow ++ [xRow n] = rowsF S L n from rfl]
        refine g_v (v_assign rfl) rfl ?_
        refine g_nil ?_
        refine g_shutX p r x S (.refl _) ?_
        refine g_shutV b x s c (S) (L) (n) ?_
        exact g_retSl rfl rfl rfl (by rw [rowsF_len])

end Go.Proofs.YthdjckbjjfiopacGreatDoor
