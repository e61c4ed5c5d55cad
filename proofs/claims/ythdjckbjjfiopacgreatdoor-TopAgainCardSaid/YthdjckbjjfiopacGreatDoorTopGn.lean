/- A filled vault, its rows, and what dropping leaves. No condition. -/
import Derived.Test.YthdjckbjjfiopacGreatDoorTopVa
import Derived.Test.YthdjckbjjfiopacGreatDoorImG
import Derived.Test.YthdjckbjjfiopacGreatDoorIm5
import Derived.Test.YthdjckbjjfiopacGreatDoorIm6
import Derived.Test.YthdjckbjjfiopacGreatDoorRowS
namespace Go.Proofs.YthdjckbjjfiopacGreatDoor
open Go.Sl Go.Proofs
set_option linter.unusedVariables false
set_option linter.unusedSimpArgs false
theorem ids_keep {ρ : Type} {m : Nat} {B B' : Int → Option ρ} (h : ∀ q, (B' q).isSome = (B q).isSome) : ids m B' = ids m B := by
  unfold ids
  congr 1
  refine List.filter_congr fun k _ => ?_
  rw [h]
theorem pset_same {ρ : Type} (B : Int → Option ρ) (k : Int) (x : Option ρ) : pset B k x k = x := by unfold pset; rw [if_pos rfl]
theorem pset_ne {ρ : Type} (B : Int → Option ρ) {k q : Int} (x : Option ρ) (h : q ≠ k) : pset B k x q = B q := by unfold pset; rw [if_neg h]
theorem share_un {S : SI} {q : Int} (h0 : 0 ≤ q) (h : q ≠ 0 → ∃ m, S.N q = some m ∧ 0 < m.refs) : unR (shareS S q) q = S := by
  by_cases hq : q = 0
  · subst hq; unfold shareS unR unX; simp
  · obtain ⟨m, hm, hr⟩ := h hq
    have e : gN S.N q = m := by unfold gN; rw [hm]; rfl
    unfold shareS
    rw [if_pos (by omega)]
    unfold unR unX
    rw [if_neg hq]
    have e2 : gN (bumpN S.N q) q = rf m (m.refs + 1) := by
      unfold bumpN gN
      rw [pset_same, show (S.N q).getD nd0 = m from e]
      rfl
    simp only [e2]
    rw [if_pos (by show 0 < m.refs + 1 - 1; omega)]
    have e3 : pset (bumpN S.N q) q (some (rf (rf m (m.refs + 1)) ((rf m (m.refs + 1)).refs - 1))) = S.N := by
      funext p
      by_cases hp : p = q
      · subst hp
        rw [pset_same, hm]
        congr 1
        unfold rf
        simp
      · rw [pset_ne _ _ hp]
        unfold bumpN
        rw [pset_ne _ _ hp]
    rw [e3]
theorem share_N {S : SI} {q : Int} (h0 : 0 ≤ q) (h : q ≠ 0 → ∃ m, S.N q = some m ∧ 0 < m.refs) : ids 24 (shareS S q).N = ids 24 S.N := by
  unfold shareS
  split
  · refine ids_keep fun p => ?_
    show (bumpN S.N q p).isSome = _
    unfold bumpN
    by_cases hp : p = q
    · subst hp
      obtain ⟨m, hm, _⟩ := h (by omega)
      rw [pset_same, hm]
      rfl
    · rw [pset_ne _ _ hp]
  · rfl
theorem share_B {S : SI} {q : Int} : (shareS S q).B = S.B := by unfold shareS; split <;> rfl
theorem mg_last {x y : ChangeM} (hk : x.key = y.key) (hn : x ≠ y) (hi : kl x.key y.key ≠ true) (hj : kl y.key x.key ≠ true) : ∀ {l : List ChangeM}, (∀ c ∈ l, kl c.key c.key ≠ true) → mg (l ++ [x]) (l ++ [y]) = [y]
  | [], _ => by
    show mg (x :: []) (y :: []) = _
    rw [mg_eq hi hj, if_neg hn, mg_nil]
    rfl
  | c :: l, h => by
    show mg (c :: (l ++ [x])) (c :: (l ++ [y])) = _
    rw [mg_eq (h c (by simp)) (h c (by simp)), if_pos rfl, mg_last hk hn hi hj fun d hd => h d (by simp [hd])]
    rfl
theorem thr_ne {n : Int} (h : 1 ≤ n ∧ n ≤ 999) : thr n ≠ thr (n + 1) := fun e => by
  by_cases h1 : n + 1 ≤ 999
  · have a := num3_thr (n := n) (by omega)
    have b := num3_thr (n := n + 1) (by omega)
    rw [e, b] at a
    injection a with a
    omega
  · obtain rfl : n = 999 := by omega
    have a := thr_len (n := 999) (by decide)
    rw [e] at a
    change (thr 1000).length = 3 at a
    rw [thr_1000] at a
    cases a
theorem kl_nirr (k : Bytes) : kl k k ≠ true := fun h => kl_ne h rfl
theorem rows_next {S : SI} {L : List Pt} {n : Int} (h : 1 ≤ n ∧ n ≤ 999) : (mg (rowsF S L n) (rowsF S L (n + 1))).length = 1 := by
  unfold rowsF
  rw [mg_last (x := xRow n) (y := xRow (n + 1)) rfl (fun e => thr_ne h (congrArg ChangeM.val e)) (kl_nirr _) (kl_nirr _) fun c _ => kl_nirr _]
  rfl
theorem findP_mine {L : List Pt} {n : Int} {q : Pt} (h : ∀ p ∈ L, p.id < n) (hq : q.id = n) : findP (L ++ [q]) n = some q := by
  have hn : findP L n = none := by
    unfold findP
    rw [List.find?_eq_none]
    intro p hp he
    have := h p hp
    simp at he
    omega
  unfold findP at hn ⊢
  rw [List.find?_append, hn]
  simp [hq]
theorem findP_app {L : List Pt} {id : Int} {p q : Pt} (hp : findP L id = some p) : findP (L ++ [q]) id = some p := by unfold findP at hp ⊢; rw [List.find?_append, hp]; rfl
/-- a point done again, and dropped -/
theorem agn_drp {S : SI} {L : List Pt} {n id : Int} {G : Gh} {S' : SI} {L' : List Pt} {n' r : Int} (h : Vok S L n G) (e : agnF S L n id = .ok (S', L', n', r)) :
    ∃ p, findP L id = some p ∧ S' = shareS S p.root ∧ L' = L ++ [⟨n, p.disk, p.size, p.root⟩] ∧ n' = n + 1 ∧ r = n ∧ n ≤ 999 ∧ ids 24 S'.N = ids 24 S.N ∧ ids 40 S'.B = ids 40 S.B ∧ findP L' id = some p ∧ findP L' n = some ⟨n, p.disk, p.size, p.root⟩ ∧ drpF S' L' n' n = .ok (S, L, n + 1, 0) := by
  unfold agnF at e
  cases hf : findP L id with
  | none => rw [hf] at e; cases e
  | some p =>
    rw [hf] at e
    simp only at e
    split at e
    · cases e
    · rename_i ha
      injection e with e
      injection e with e1 e
      injection e with e2 e
      injection e with e3 e4
      subst e1 e2 e3 e4
      have hr : 0 ≤ p.root := (rt_rng h.rt.V (RtRt h.rt (findP_mem hf))).1
      have hh : p.root ≠ 0 → ∃ m, S.N p.root = some m ∧ 0 < m.refs := fun h0 => by
        have hok := Vok_ok h
        have hS := h.e
        have hm : ((mkG G).N p.root).isSome = true := by
          rcases RtRt h.rt (findP_mem hf) with h1 | ⟨m, h1⟩
          · exact absurd h1 h0
          · rw [mkN_isSome, h1]; rfl
        rw [← hS] at hm
        obtain ⟨m, hm⟩ := Option.isSome_iff_exists.1 hm
        exact ⟨m, hm, (hok.2.2.2 _ _ hm).1⟩
      have hln := findP_mine (L := L) (n := n) (q := ⟨n, p.disk, p.size, p.root⟩) (fun x hx => (h.pts x hx).1.2) rfl
      have hn9 : n ≤ 999 := by
        have := ha
        unfold addE at this
        split at this
        · simp at this
        · rename_i hc; simp at hc; omega
      refine ⟨p, rfl, rfl, rfl, rfl, rfl, hn9, share_N hr hh, by rw [share_B], findP_app hf, hln, ?_⟩
      unfold drpF
      rw [hln]
      simp only
      rw [share_un hr hh]
      have : (L ++ [(⟨n, p.disk, p.size, p.root⟩ : Pt)]).filter (fun x => !decide (x.id = n)) = L := by
        rw [List.filter_append, List.filter_eq_self.2 fun x hx => by have := (h.pts x hx).1.2; simp; omega]
        simp
      rw [this]
def RFldC (l : List ActM) (A : HProp) (F : List HProp) : Value → List HProp → Prop := fun v L' => (v = .tuple #[.pointer none, Bo false] ∧ L' = A :: F) ∨ ∃ q S L n G, v = .tuple #[ptr q 0, Bo true] ∧ L' = vlt q S L n :: A :: F ∧ Con S L n G ∧ lightA l 40 = true
theorem fillR_con {S : SI} {L : List Pt} {n : Int} {G : Gh} {x : ActM} (h : Con S L n G) : ∃ G', Con (fillR S L n x).1 (fillR S L n x).2.1 (fillR S L n x).2.2 G' := by
  cases hr : fillF S L n x with
  | error e => rw [fillR_err hr]; exact ⟨G, h⟩
  | ok z =>
    obtain ⟨S', L', n', r⟩ := z
    rw [fillR_ok hr]
    exact fillF_con h hr

theorem ct_T_filledC (l : List ActM) (f : Nat → ActZ) (s : Option Addr) (cap : Nat) (hl : l.length ≤ 9223372036854775807) (hla : ∀ x ∈ l, x.puts.length ≤ 9223372036854775807 ∧ x.changes.length ≤ 9223372036854775807) (F : List HProp) : Ct Tryz.prog 11 [sl s l.length cap] ([acts s l f] ++ F) (RFldC l (acts s l f) F) := by
  show Ct Tryz.prog 11 [sl s l.length cap] (acts s l f :: F) _
  refine Ct.of Tryz.func11 rfl 23 Tryz.ntmps11 (by simp) fun w0 => ?_
  refine g_seq ?_
  refine g_reg ?_
  refine g_v (v_assign rfl) rfl ?_
  refine g_v (v_assign rfl) rfl ?_
  refine g_nil ?_
  refine g_seq ?_
  refine g_seq ?_
  refine g_reg ?_
  refine g_v (v_move rfl) rfl ?_
  refine g_l (l_call (Pre := [acts s l f]) Tryz.call39 rfl (ct_L_LightActs l f s cap 40 hl hla)) rfl ?_
  rintro _ _ ⟨rfl, rfl⟩
  refine g_v (v_not rfl) rfl ?_
  refine g_nil ?_
  refine g_cond rfl (fun h8 => ?_) (fun h8 => ?_)
  · skip
    refine g_seq ?_
    refine g_reg ?_
    refine g_v (v_assign rfl) rfl ?_
    refine g_v (v_assign rfl) rfl ?_
    refine g_nil ?_
    exact fun a w hE hS => wp_ret (kq_ret (res_fpost (vs := [.pointer none, Bo false]) rfl hE hS (.inl ⟨rfl, rfl⟩)))
  · have h8' : lightA l 40 = true := by simpa using h8
    have hll := lightL h8'
    refine g_skip ?_
    refine g_seq ?_
    refine g_reg ?_
    refine g_l (l_call (Pre := []) Tryz.call41 rfl (ct_vault_New)) rfl ?_
    rintro _ _ ⟨q0, rfl, rfl⟩
    refine g_v (v_assign rfl) rfl ?_
    refine g_nil ?_
    refine g_seq ?_
    refine g_seq ?_
    refine g_reg ?_
    refine g_v (v_assign rfl) rfl ?_
    refine g_nil ?_
    refine g_block ?_
    refine g_loop (α := Nat × Nat × SI × List Pt × Int) (fun z => z.1 ≤ l.length ∧ ∃ G0, Con z.2.2.1 z.2.2.2.1 z.2.2.2.2 G0) (fun z => U [(0, sl s l.length cap), (4, ptr z.2.1 0), (5, I z.1)]) (fun z => vlt z.2.1 z.2.2.1 z.2.2.2.1 z.2.2.2.2 :: acts s l f :: F) (fun z => l.length - z.1) (0, q0, mkG gZ, [], 1) ⟨by simp, gZ, Con_z⟩ [0, 4, 5] rfl rfl ?_
    rintro ⟨i, q, S, L, n⟩ ⟨hi, G0, hV⟩
    simp only [] at hi hV ⊢
    refine g_seq ?_
    refine g_seq ?_
    refine g_reg ?_
    refine g_v (v_move rfl) rfl ?_
    refine g_v (v_move rfl) rfl ?_
    refine g_v (v_len Tryz.underlying22 rfl) rfl ?_
    refine g_v (v_lss rfl rfl) rfl ?_
    refine g_nil ?_
    refine g_cond rfl (fun h13 => ?_) (fun h13 => ?_)
    · simp at h13
      have hkn : i < l.length := by omega
      obtain ⟨x, hx⟩ : ∃ x, l[i]? = some x := ⟨_, List.getElem?_eq_getElem hkn⟩
      have hkr : i < (actR l f).length := by rw [actR_len]; exact hkn
      have hxp := lightPu h8' (List.mem_of_getElem? hx)
      refine g_skip ?_
      refine g_seq ?_
      refine g_block ?_
      refine g_actPuts s l f i hx ?_
      refine g_reg ?_
      refine g_v (v_move rfl) rfl ?_
      refine g_v (v_move rfl) rfl ?_
      refine g_v (v_move rfl) rfl ?_
      refine g_v (v_idxS i Tryz.underlying22 Tryz.sizeOf86 rfl rfl rfl hkn hkr) rfl ?_
      refine g_v (v_loadAS (row := encAct x (f i)) Tryz.isAgg86 Tryz.sizeOf86 rfl (actR_at hx) rfl) rfl ?_
      refine g_l (l_call (Pre := [vlt q S L n, roL 2 (f i).1.1 (putR x.puts)]) Tryz.call43 rfl (ct_T_fill q S L n x (f i) G0 hV.v (by omega) (fun p hp => Nat.le_trans (hxp.2 p hp) (by decide)))) rfl ?_
      rintro _ _ ⟨q2, rfl, rfl⟩
      refine g_v (v_assign rfl) rfl ?_
      refine g_nil ?_
      refine g_blk ?_
      refine g_reg ?_
      refine g_v (v_move rfl) rfl ?_
      refine g_v (v_add rfl rfl (w64 (by omega))) rfl ?_
      refine g_v (v_assign rfl) rfl ?_
      refine g_nil ?_
      obtain ⟨G1, hV1⟩ := fillR_con (x := x) hV
      exact g_again (i + 1, q2, (fillR S L n x).1, (fillR S L n x).2.1, (fillR S L n x).2.2) ⟨by simp only []; omega, G1, hV1⟩ (by simp only []; omega) [0, 4, 5] rfl rfl
    · skip
      refine g_exit rfl ?_
      refine g_seq ?_
      refine g_reg ?_
      refine g_v (v_move rfl) rfl ?_
      refine g_v (v_assign rfl) rfl ?_
      refine g_v (v_assign rfl) rfl ?_
      refine g_nil ?_
      exact fun a w hE hS => wp_ret (kq_ret (res_fpost (vs := [ptr q 0, Bo true]) rfl hE hS (.inr ⟨q, S, L, n, G0, rfl, rfl, hV, h8'⟩)))

end Go.Proofs.YthdjckbjjfiopacGreatDoor
