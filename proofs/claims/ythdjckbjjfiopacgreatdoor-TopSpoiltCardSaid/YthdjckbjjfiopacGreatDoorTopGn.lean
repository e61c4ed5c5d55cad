/- A filled vault, its rows, and what dropping leaves. No condition. -/
import Derived.Test.YthdjckbjjfiopacGreatDoorTopVa
import Derived.Test.YthdjckbjjfiopacGreatDoorImG
import Derived.Test.YthdjckbjjfiopacGreatDoorIm5
import Derived.Test.YthdjckbjjfiopacGreatDoorIm6
import Derived.Test.YthdjckbjjfiopacGreatDoorRowS
namespace Go.Proofs.YthdjckbjjfiopacGreatDoor
open Go.Sl Go.Proofs
set_option linter.unusedVariables false
set_option linter.unusedSimpArgs false
theorem keyle {S : SI} {L : List Pt} {n : Int} {G : Gh} (h : Con S L n G) : ∀ c ∈ rowsF S L n, c.key.length ≤ 9223372036854775807 ∧ c.val.length ≤ 9223372036854775807 := fun c hc => by
  have w := h.wr
  unfold rowsF at hc
  rcases List.mem_append.1 hc with hc | hc
  · rcases List.mem_append.1 hc with hc | hc
    · rcases List.mem_append.1 hc with hc | hc
      · unfold bRows at hc
        obtain ⟨q, hq, rfl⟩ := List.mem_map.1 hc
        obtain ⟨hq1, hq2⟩ := mem_ids.1 hq
        obtain ⟨x, hx⟩ := Option.isSome_iff_exists.1 hq2
        have hb := w.b q x hx
        have h1 := thr_len (n := q) (by omega)
        have h2 := thr_len (n := x.2) (by omega)
        rw [show gB S.B q = x by unfold gB; rw [hx]; rfl]
        simp only [bRow, List.length_cons, List.length_append]
        omega
      · unfold nRows at hc
        obtain ⟨q, hq, rfl⟩ := List.mem_map.1 hc
        obtain ⟨hq1, hq2⟩ := mem_ids.1 hq
        have hb := gN_sm h.sm q
        have h1 := thr_len (n := q) (by omega)
        have h2 := nPre_len (n := gN S.N q) (by omega) (fun k hk => by have := hb.2 k hk; omega) 4 (by omega)
        rw [nPre_4] at h2
        simp only [nRow, List.length_cons]
        omega
    · obtain ⟨p, hp, rfl⟩ := List.mem_map.1 hc
      have hb := w.p p hp
      have h1 := thr_len (n := p.id) (by omega)
      have h2 := thr_len (n := p.disk) (by omega)
      have h3 := thr_len (n := p.size) (by omega)
      have h4 := thr_len (n := p.root) (by omega)
      simp only [pRow, List.length_cons, List.length_append]
      omega
  · rw [List.mem_singleton] at hc
    subst hc
    have h1 := thr_len_le (n := n) (by have := w.n1; omega)
    simp only [xRow, List.length_cons, List.length_nil]
    omega
theorem Rt_none {G : Gh} (h : Rt G []) : ids 24 (mkG G).N = [] ∧ ids 40 (mkG G).B = [] := by
  have hR : ∀ q, G.R q = none := fun q => by
    by_cases h0 : q = 0
    · rw [h0]; exact sup0 h.V.sR
    · cases e : G.R q with
      | none => rfl
      | some n =>
        have := (h.V.pR q h0).1 (by rw [e]; rfl)
        rw [h.eR] at this
        simp [cnt] at this
  have tR : ∀ q, tot G.R q = 0 := fun q => sumL_zero fun k _ => by rw [hR]; rfl
  have hL : ∀ q, G.L q = none := fun q => by
    by_cases h0 : q = 0
    · rw [h0]; exact sup0 h.V.sL
    · cases e : G.L q with
      | none => rfl
      | some n =>
        have := (h.V.pL q h0).1 (by rw [e]; rfl)
        rw [h.eL, tR] at this
        omega
  have tL : ∀ q, tot G.L q = 0 := fun q => sumL_zero fun k _ => by rw [hL]; rfl
  have hD : ∀ q, G.D q = none := fun q => by
    by_cases h0 : q = 0
    · rw [h0]; exact sup0 h.V.sD
    · cases e : G.D q with
      | none => rfl
      | some n =>
        have := (h.V.pD q h0).1 (by rw [e]; rfl)
        rw [h.eB, tL] at this
        omega
  have e1 : ids 24 (mkG G).N = ids 24 (fun _ => (none : Option Nd)) := ids_eq fun q => by rw [mkN_isSome, hR, hL]; rfl
  have e2 : ids 40 (mkG G).B = ids 40 (fun _ => (none : Option Bk)) := ids_eq fun q => by rw [mkB_isSome, hD]; rfl
  rw [e1, e2]
  exact ⟨by simp [ids], by simp [ids]⟩
/-- points dropped one after the other -/
theorem drp_ids {S : SI} {L : List Pt} {n : Int} {G : Gh} {p : Pt} {T : List Pt} (h : Con S L n G) (e : L = p :: T) : ∃ G' S', drpF S L n p.id = .ok (S', T, n, 0) ∧ Con S' T n G' := by
  have hs := h.v.srt
  subst e
  rw [List.pairwise_cons] at hs
  have hf : findP (p :: T) p.id = some p := by unfold findP; rw [List.find?_cons_of_pos (by simp)]
  have hd : drpF S (p :: T) n p.id = .ok (unR S p.root, T, n, 0) := by
    unfold drpF
    rw [hf]
    simp only
    have : (p :: T).filter (fun x => !decide (x.id = p.id)) = T := by
      rw [List.filter_cons_of_neg (by simp)]
      exact List.filter_eq_self.2 fun x hx => by have := hs.1 x hx; simp; omega
    rw [this]
  obtain ⟨G', h'⟩ := drpF_con h hd
  exact ⟨G', _, hd, h'⟩
theorem con_none {S : SI} {n : Int} {G : Gh} (h : Con S [] n G) : ids 24 S.N = [] ∧ ids 40 S.B = [] := by
  rw [h.v.e]
  exact Rt_none (by have := h.v.rt; simpa using this)
def RFldC (l : List ActM) (A : HProp) (F : List HProp) : Value → List HProp → Prop := fun v L' => (v = .tuple #[.pointer none, Bo false] ∧ L' = A :: F) ∨ ∃ q S L n G, v = .tuple #[ptr q 0, Bo true] ∧ L' = vlt q S L n :: A :: F ∧ Con S L n G ∧ lightA l 40 = true
theorem fillR_con {S : SI} {L : List Pt} {n : Int} {G : Gh} {x : ActM} (h : Con S L n G) : ∃ G', Con (fillR S L n x).1 (fillR S L n x).2.1 (fillR S L n x).2.2 G' := by
  cases hr : fillF S L n x with
  | error e => rw [fillR_err hr]; exact ⟨G, h⟩
  | ok z =>
    obtain ⟨S', L', n', r⟩ := z
    rw [fillR_ok hr]
    exact fillF_con h hr

theorem ct_T_filledC (l : List ActM) (f : Nat → ActZ) (s : Option Addr) (cap : Nat) (hl : l.length ≤ 9223372036854775807) (hla : ∀ x ∈ l, x.puts.length ≤ 9223372036854775807 ∧ x.changes.length ≤ 9223372036854775807) (F : List HProp) : Ct Tryz.prog 11 [sl s l.length cap] ([acts s l f] ++ F) (RFldC l (acts s l f) F) := by
  show Ct Tryz.prog 11 [sl s l.length cap] (acts s l f :: F) _
  refine Ct.of Tryz.func11 rfl 23 Tryz.ntmps11 (by simp) fun w0 => ?_
  refine g_seq ?_
  refine g_reg ?_
  refine g_v (v_assign rfl) rfl ?_
  refine g_v (v_assign rfl) rfl ?_
  refine g_nil ?_
  refine g_seq ?_
  refine g_seq ?_
  refine g_reg ?_
  refine g_v (v_move rfl) rfl ?_
  refine g_l (l_call (Pre := [acts s l f]) Tryz.call39 rfl (ct_L_LightActs l f s cap 40 hl hla)) rfl ?_
  rintro _ _ ⟨rfl, rfl⟩
  refine g_v (v_not rfl) rfl ?_
  refine g_nil ?_
  refine g_cond rfl (fun h8 => ?_) (fun h8 => ?_)
  · skip
    refine g_seq ?_
    refine g_reg ?_
    refine g_v (v_assign rfl) rfl ?_
    refine g_v (v_assign rfl) rfl ?_
    refine g_nil ?_
    exact fun a w hE hS => wp_ret (kq_ret (res_fpost (vs := [.pointer none, Bo false]) rfl hE hS (.inl ⟨rfl, rfl⟩)))
  · have h8' : lightA l 40 = true := by simpa using h8
    have hll := lightL h8'
    refine g_skip ?_
    refine g_seq ?_
    refine g_reg ?_
    refine g_l (l_call (Pre := []) Tryz.call41 rfl (ct_vault_New)) rfl ?_
    rintro _ _ ⟨q0, rfl, rfl⟩
    refine g_v (v_assign rfl) rfl ?_
    refine g_nil ?_
    refine g_seq ?_
    refine g_seq ?_
    refine g_reg ?_
    refine g_v (v_assign rfl) rfl ?_
    refine g_nil ?_
    refine g_block ?_
    refine g_loop (α := Nat × Nat × SI × List Pt × Int) (fun z => z.1 ≤ l.length ∧ ∃ G0, Con z.2.2.1 z.2.2.2.1 z.2.2.2.2 G0) (fun z => U [(0, sl s l.length cap), (4, ptr z.2.1 0), (5, I z.1)]) (fun z => vlt z.2.1 z.2.2.1 z.2.2.2.1 z.2.2.2.2 :: acts s l f :: F) (fun z => l.length - z.1) (0, q0, mkG gZ, [], 1) ⟨by simp, gZ, Con_z⟩ [0, 4, 5] rfl rfl ?_
    rintro ⟨i, q, S, L, n⟩ ⟨hi, G0, hV⟩
    simp only [] at hi hV ⊢
    refine g_seq ?_
    refine g_seq ?_
    refine g_reg ?_
    refine g_v (v_move rfl) rfl ?_
    refine g_v (v_move rfl) rfl ?_
    refine g_v (v_len Tryz.underlying22 rfl) rfl ?_
    refine g_v (v_lss rfl rfl) rfl ?_
    refine g_nil ?_
    refine g_cond rfl (fun h13 => ?_) (fun h13 => ?_)
    · simp at h13
      have hkn : i < l.length := by omega
      obtain ⟨x, hx⟩ : ∃ x, l[i]? = some x := ⟨_, List.getElem?_eq_getElem hkn⟩
      have hkr : i < (actR l f).length := by rw [actR_len]; exact hkn
      have hxp := lightPu h8' (List.mem_of_getElem? hx)
      refine g_skip ?_
      refine g_seq ?_
      refine g_block ?_
      refine g_actPuts s l f i hx ?_
      refine g_reg ?_
      refine g_v (v_move rfl) rfl ?_
      refine g_v (v_move rfl) rfl ?_
      refine g_v (v_move rfl) rfl ?_
      refine g_v (v_idxS i Tryz.underlying22 Tryz.sizeOf86 rfl rfl rfl hkn hkr) rfl ?_
      refine g_v (v_loadAS (row := encAct x (f i)) Tryz.isAgg86 Tryz.sizeOf86 rfl (actR_at hx) rfl) rfl ?_
      refine g_l (l_call (Pre := [vlt q S L n, roL 2 (f i).1.1 (putR x.puts)]) Tryz.call43 rfl (ct_T_fill q S L n x (f i) G0 hV.v (by omega) (fun p hp => Nat.le_trans (hxp.2 p hp) (by decide)))) rfl ?_
      rintro _ _ ⟨q2, rfl, rfl⟩
      refine g_v (v_assign rfl) rfl ?_
      refine g_nil ?_
      refine g_blk ?_
      refine g_reg ?_
      refine g_v (v_move rfl) rfl ?_
      refine g_v (v_add rfl rfl (w64 (by omega))) rfl ?_
      refine g_v (v_assign rfl) rfl ?_
      refine g_nil ?_
      obtain ⟨G1, hV1⟩ := fillR_con (x := x) hV
      exact g_again (i + 1, q2, (fillR S L n x).1, (fillR S L n x).2.1, (fillR S L n x).2.2) ⟨by simp only []; omega, G1, hV1⟩ (by simp only []; omega) [0, 4, 5] rfl rfl
    · skip
      refine g_exit rfl ?_
      refine g_seq ?_
      refine g_reg ?_
      refine g_v (v_move rfl) rfl ?_
      refine g_v (v_assign rfl) rfl ?_
      refine g_v (v_assign rfl) rfl ?_
      refine g_nil ?_
      exact fun a w hE hS => wp_ret (kq_ret (res_fpost (vs := [ptr q 0, Bo true]) rfl hE hS (.inr ⟨q, S, L, n, G0, rfl, rfl, hV, h8'⟩)))

end Go.Proofs.YthdjckbjjfiopacGreatDoor
