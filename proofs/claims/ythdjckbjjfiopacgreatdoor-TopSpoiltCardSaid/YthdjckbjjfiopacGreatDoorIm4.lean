/- The walks through image.within, image.whole and image.Parse. No condition but the library's tables. -/
import Derived.Test.YthdjckbjjfiopacGreatDoorIm2
import Derived.Test.YthdjckbjjfiopacGreatDoorIm3
namespace Go.Proofs.YthdjckbjjfiopacGreatDoor
open Go.Sl Go.Proofs
set_option linter.unusedVariables false
set_option linter.unusedSimpArgs false
theorem ids_max {ρ : Type} {m n : Nat} {B : Int → Option ρ} (h : sup n B) (hm : m ≤ n) (ha : ∀ q ∈ ids n B, q ≤ m) : sup m B := fun q x e => by
  have h1 := h q x e
  have h2 := ha q (mem_ids.2 ⟨h1, by rw [e]; rfl⟩)
  omega
theorem Top_snoc {S : SI} {L : List Pt} {p : Pt} (h : Top S L) (hp : ∀ i : Nat, p.size ≤ (i : Int) → i < 16 → getS S p.root i = []) : Top S (L ++ [p]) := fun x hx i h1 h2 => by
  rcases List.mem_append.1 hx with hx | hx
  · exact h x hx i h1 h2
  · rw [List.mem_singleton] at hx; subst hx; exact hp i h1 h2
theorem Top_nil (S : SI) : Top S [] := fun p hp => by cases hp
def wholR (b : Nat) (st : PS) (F : List HProp) : Value → List HProp → Prop := fun v L' => (v = Bo true ∧ WholeP st ∧ L' = vlt b ⟨st.B, st.N⟩ st.L st.n :: F) ∨ (v = Bo false ∧ ¬ WholeP st ∧ L' = F)
section
variable {c : Cx} {E : Env} {L : List HProp} {K : List KI}
theorem g_whNo {F : List HProp} {b : Nat} {st : PS} {vs : List Value} (hR : c.R = wholR b st F) (he : ¬ WholeP st) (hr : resOf E c.fn.results.toList = some vs) (hv : tup vs = Bo false) [S : Sub L F] (hds : c.n.ds = [] := by rfl) : G c (.code .ret :: K) E L :=
  fun a w hE hS => wp_ret (kq_ret (res_fpost (hds := hds) hr hE (S.sat hS) (by rw [hR]; exact .inr ⟨hv, he, rfl⟩)))
theorem g_whYes {F : List HProp} {b : Nat} {st : PS} {vs : List Value} (hR : c.R = wholR b st F) (he : WholeP st) (hr : resOf E c.fn.results.toList = some vs) (hv : tup vs = Bo true) [S : Sub L (vlt b ⟨st.B, st.N⟩ st.L st.n :: F)] (hds : c.n.ds = [] := by rfl) : G c (.code .ret :: K) E L :=
  fun a w hE hS => wp_ret (kq_ret (res_fpost (hds := hds) hr hE (S.sat hS) (by rw [hR]; exact .inl ⟨hv, he, rfl⟩)))
end
theorem Pok_okS {st : PS} (h : Pok st) (hN : sup 24 st.N) (hB : sup 40 st.B) : okS 999 ⟨st.B, st.N⟩ := ⟨hB, fun q x e => (h.b q x e).1, hN, fun q m e => (h.n q m e).1⟩
def parsR (l : List ChangeM) (T : TypeId) (F : List HProp) : Value → List HProp → Prop := fun v L' => (∃ st q, parsF none ps0 l = some st ∧ WholeP st ∧ v = .tuple #[ptr q 0, errT T 0] ∧ L' = vlt q ⟨st.B, st.N⟩ st.L st.n :: F) ∨ ((∀ st, parsF none ps0 l = some st → ¬ WholeP st) ∧ v = .tuple #[.pointer none, errT T 4] ∧ L' = F)
section
variable {c : Cx} {E : Env} {L : List HProp} {K : List KI}
theorem g_paNo {F : List HProp} {l : List ChangeM} {T : TypeId} {vs : List Value} (hR : c.R = parsR l T F) (he : ∀ st, parsF none ps0 l = some st → ¬ WholeP st) (hr : resOf E c.fn.results.toList = some vs) (hv : tup vs = .tuple #[.pointer none, errT T 4]) [S : Sub L F] (hds : c.n.ds = [] := by rfl) : G c (.code .ret :: K) E L :=
  fun a w hE hS => wp_ret (kq_ret (res_fpost (hds := hds) hr hE (S.sat hS) (by rw [hR]; exact .inr ⟨he, hv, rfl⟩)))
theorem g_paYes {F : List HProp} {l : List ChangeM} {T : TypeId} {st : PS} {q : Nat} {vs : List Value} (hR : c.R = parsR l T F) (he : parsF none ps0 l = some st) (hw : WholeP st) (hr : resOf E c.fn.results.toList = some vs) (hv : tup vs = .tuple #[ptr q 0, errT T 0]) [S : Sub L (vlt q ⟨st.B, st.N⟩ st.L st.n :: F)] (hds : c.n.ds = [] := by rfl) : G c (.code .ret :: K) E L :=
  fun a w hE hS => wp_ret (kq_ret (res_fpost (hds := hds) hr hE (S.sat hS) (by rw [hR]; exact .inl ⟨st, q, he, hw, hv, rfl⟩)))
end
/-- parsing goes on behind a part that was read -/
theorem pars_go : ∀ (l1 : List ChangeM) {l2 : List ChangeM} {pv : Option Bytes} {st st1 : PS}, parsF pv st l1 = some st1 → parsF pv st (l1 ++ l2) = parsF (match l1.getLast? with | none => pv | some c => some c.key) st1 l2
  | [], l2, pv, st, st1, h => by simp only [parsF] at h; injection h with h; subst h; rfl
  | c :: l1, l2, pv, st, st1, h => by
    simp only [parsF, List.cons_append] at h ⊢
    split at h
    · cases h
    · rename_i hb
      rw [if_neg hb]
      split at h
      · cases h
      · rename_i st2 hr
        rw [pars_go l1 h]
        congr 1
        cases l1 with
        | nil => rfl
        | cons d l1 => rw [List.getLast?_cons_cons]; cases hq : (d :: l1).getLast? with
          | none => simp at hq
          | some e => rfl
def pvK (l : List ChangeM) (i : Nat) : Option Bytes := match (l.take i).getLast? with | none => none | some c => some c.key
theorem pars_step {l : List ChangeM} {i : Nat} {st st' : PS} {c : ChangeM} (h : parsF none ps0 (l.take i) = some st) (hc : l[i]? = some c) (hb : ¬ (badK (pvK l i) c = true ∨ c.gone = true)) (hr : rowF st c = some st') : parsF none ps0 (l.take (i + 1)) = some st' := by
  rw [← tk_snoc hc, pars_go _ h]
  show parsF (pvK l i) st [c] = _
  simp only [parsF]
  rw [if_neg hb, hr]
theorem pars_stop {l : List ChangeM} {i : Nat} {st : PS} {c : ChangeM} (h : parsF none ps0 (l.take i) = some st) (hc : l[i]? = some c) (hb : (badK (pvK l i) c = true ∨ c.gone = true) ∨ rowF st c = none) : parsF none ps0 l = none := by
  have e : l = l.take i ++ c :: l.drop (i + 1) := by
    obtain ⟨hi, e⟩ := List.getElem?_eq_some_iff.1 hc
    rw [← e, ← List.drop_eq_getElem_cons hi, List.take_append_drop]
  rw [e, pars_go _ h]
  show parsF (pvK l i) st (c :: l.drop (i + 1)) = none
  simp only [parsF]
  rcases hb with hb | hb
  · rw [if_pos hb]
  · rw [hb]
    split <;> rfl
theorem pvK_0 (l : List ChangeM) : pvK l 0 = none := by simp [pvK]
theorem pvK_s {l : List ChangeM} {i : Nat} {c : ChangeM} (h : l[i]? = some c) : pvK l (i + 1) = some c.key := by
  unfold pvK
  rw [← tk_snoc h, List.getLast?_append]
  simp
theorem rowF_L {st st' : PS} {c : ChangeM} (h : rowF st c = some st') : st'.L.length ≤ st.L.length + 1 := by
  by_cases hX : c.key = [120]
  · unfold rowF at h
    rw [if_pos hX] at h
    unfold xF at h
    split at h
    · injection h with h; subst h; simp
    · split at h
      · split at h
        · injection h with h; subst h; simp
        · cases h
      · cases h
  · obtain ⟨id, y, _, _, _, hk⟩ := rowF_key hX h
    unfold kF at hk
    split at hk
    · unfold bF at hk
      split at hk
      · split at hk
        · injection hk with hk; subst hk; simp
        · cases hk
      · cases hk
    · split at hk
      · unfold nF at hk
        split at hk
        · split at hk
          · injection hk with hk; subst hk; simp
          · cases hk
        · cases hk
      · split at hk
        · unfold pF at hk
          split at hk
          · split at hk
            · injection hk with hk; subst hk; simp
            · cases hk
          · cases hk
        · cases hk

theorem ct_index_NumW (b p r : Nat) (N : NdT) (m : Nat) (hm : (ids m N).length ≤ 1000) (F : List HProp) : Ct Tryz.prog 19 [ptr b 0] ([pt b (.cells #[ptr p 0, .map (some r)] 43 (0, 0)), mp r (tb encN m N)] ++ F) (RSl 3 1 (ids m N).length (intR (ids m N)) (pt b (.cells #[ptr p 0, .map (some r)] 43 (0, 0)) :: mp r (tb encN m N) :: F)) := by
  show Ct Tryz.prog 19 [ptr b 0] (pt b (.cells #[ptr p 0, .map (some r)] 43 (0, 0)) :: mp r (tb encN m N) :: F) _
  refine Ct.of Tryz.func19 rfl 21 Tryz.ntmps19 (by simp) fun w0 => ?_
  refine g_mapOpen r ?_
  intro es clk
  refine g_nilown 3 1 (intR []) rfl ?_
  refine g_seq ?_
  refine g_reg ?_
  refine g_v (v_assign rfl) rfl ?_
  refine g_nil ?_
  refine g_seq ?_
  refine g_reg ?_
  refine g_v (v_assign rfl) rfl ?_
  refine g_nil ?_
  refine g_seq ?_
  refine g_seq ?_
  refine g_reg ?_
  refine g_v (v_move rfl) rfl ?_
  refine g_v (v_nilCheck rfl) rfl ?_
  refine g_v (v_fieldAddr 1 Tryz.underlying43 rfl rfl Tryz.sizeOf41 (by decide) rfl) rfl ?_
  refine g_v (v_load (v := .map (some r)) Tryz.isAgg41 rfl rfl) rfl ?_
  refine g_l (l_range Tryz.underlying41 rfl) rfl ?_
  rintro _ _ ⟨b9, rfl, rfl⟩
  refine g_nil ?_
  refine g_block ?_
  refine g_loop (α := MM × List Int × Option (Int × Value) × Option Addr × Nat) (fun z => (z.2.1 ++ z.1.map (·.1)).Perm (ids m N)) (fun z => U [(0, ptr b 0), (9, ptr b9 0), (3, sl z.2.2.2.1 z.2.1.length z.2.2.2.2)]) (fun z => mit b9 r es clk z.1 z.2.2.1 :: mpE r es clk (tb encN m N) :: pt b (.cells #[ptr p 0, .map (some r)] 43 (0, 0)) :: owL 3 1 z.2.2.2.1 z.2.2.2.2 (intR z.2.1) :: F) (fun z => z.1.length) (tb encN m N, [], none, none, 0) (by rw [List.nil_append, tb_keys]) [0, 9, 3] rfl rfl ?_
  rintro ⟨rest, zs, cur, s, c⟩ hp
  simp only [] at hp ⊢
  have hzl : zs.length ≤ 1000 := by have h1 := hp.length_eq; simp at h1; omega
  refine g_seq ?_
  refine g_reg ?_
  refine g_l (l_next rfl) rfl ?_
  rintro _ _ (⟨hr, rfl, rfl⟩ | ⟨⟨k, v⟩, rest', hq, rfl, rfl⟩)
  · subst hr
    simp only [List.map_nil, List.append_nil] at hp
    refine g_v (v_extract rfl rfl) rfl ?_
    refine g_nil ?_
    refine g_seq ?_
    refine g_false rfl ?_
    refine g_exit rfl ?_
    refine g_seq ?_
    refine g_reg ?_
    refine g_v (v_move rfl) rfl ?_
    refine g_l (l_call (Pre := [owL 3 1 s c (intR zs)]) Tryz.call49 rfl (ct_slices_Sort zs s zs.length c rfl (by omega))) rfl ?_
    rintro _ _ ⟨rfl, rfl⟩
    rw [sort_ids hp]
    refine g_nil ?_
    refine g_seq ?_
    refine g_reg ?_
    refine g_v (v_move rfl) rfl ?_
    refine g_v (v_assign rfl) rfl ?_
    refine g_nil ?_
    refine g_mapShut r ?_
    exact g_retSl rfl rfl rfl (by rw [hp.length_eq])
  · have hp2 : (zs ++ k :: rest'.map (·.1)).Perm (ids m N) := by
        have h1 := ((hq.map (·.1)).append_left zs).symm.trans hp
        simpa using h1
    refine g_v (v_extract rfl rfl) rfl ?_
    refine g_nil ?_
    refine g_seq ?_
    refine g_true rfl ?_
    refine g_skip ?_
    refine g_block ?_
    refine g_seq ?_
    refine g_reg ?_
    refine g_v (v_entry rfl) rfl ?_
    refine g_v (v_extract (v := I k) rfl rfl) rfl ?_
    refine g_v (v_assign rfl) rfl ?_
    refine g_nil ?_
    refine g_reg ?_
    refine g_v (v_move rfl) rfl ?_
    refine g_v (v_move rfl) rfl ?_
    refine g_l (l_buildSlice [[I k]] Tryz.underlying39 Tryz.sizeOf3 Tryz.zeroValue3 rfl rfl rfl (by simp) (by decide) (by decide)) rfl ?_
    rintro _ _ ⟨b16, rfl, rfl⟩
    refine g_l (l_append Tryz.underlying39 Tryz.sizeOf3 Tryz.zeroValue3 rfl Tryz.typeInfo3 (by decide) rfl rfl (intR_len _) rfl (by simp) (by intro r hr; simp at hr; subst hr; rfl) ⟨by omega, by decide, by decide⟩) rfl ?_
    rintro _ _ ⟨s17, c17, rfl, rfl⟩
    refine g_v (v_assign rfl) rfl ?_
    refine g_nil ?_
    refine g_blk ?_
    rw [show intR zs ++ [[I k]] = intR (zs ++ [k]) by simp [intR]]
    refine g_again (rest', zs ++ [k], some (k, v), s17, c17) (by simpa using hp2) (by have := hq.length_eq; simp at this; simp; omega) [0, 9, 3] rfl (by simp [U])

theorem ct_pool_NumW (b r : Nat) (B : BkT) (m : Nat) (hm : (ids m B).length ≤ 1000) (F : List HProp) : Ct Tryz.prog 18 [ptr b 0] ([pt b (.cells #[.map (some r)] 95 (0, 0)), mp r (tb encB m B)] ++ F) (RSl 3 1 (ids m B).length (intR (ids m B)) (pt b (.cells #[.map (some r)] 95 (0, 0)) :: mp r (tb encB m B) :: F)) := by
  show Ct Tryz.prog 18 [ptr b 0] (pt b (.cells #[.map (some r)] 95 (0, 0)) :: mp r (tb encB m B) :: F) _
  refine Ct.of Tryz.func18 rfl 21 Tryz.ntmps18 (by simp) fun w0 => ?_
  refine g_mapOpen r ?_
  intro es clk
  refine g_nilown 3 1 (intR []) rfl ?_
  refine g_seq ?_
  refine g_reg ?_
  refine g_v (v_assign rfl) rfl ?_
  refine g_nil ?_
  refine g_seq ?_
  refine g_reg ?_
  refine g_v (v_assign rfl) rfl ?_
  refine g_nil ?_
  refine g_seq ?_
  refine g_seq ?_
  refine g_reg ?_
  refine g_v (v_move rfl) rfl ?_
  refine g_v (v_nilCheck rfl) rfl ?_
  refine g_v (v_fieldAddr 0 Tryz.underlying95 rfl rfl Tryz.sizeOf93 (by decide) rfl) rfl ?_
  refine g_v (v_load (v := .map (some r)) Tryz.isAgg93 rfl rfl) rfl ?_
  refine g_l (l_range Tryz.underlying93 rfl) rfl ?_
  rintro _ _ ⟨b9, rfl, rfl⟩
  refine g_nil ?_
  refine g_block ?_
  refine g_loop (α := MM × List Int × Option (Int × Value) × Option Addr × Nat) (fun z => (z.2.1 ++ z.1.map (·.1)).Perm (ids m B)) (fun z => U [(0, ptr b 0), (9, ptr b9 0), (3, sl z.2.2.2.1 z.2.1.length z.2.2.2.2)]) (fun z => mit b9 r es clk z.1 z.2.2.1 :: mpE r es clk (tb encB m B) :: pt b (.cells #[.map (some r)] 95 (0, 0)) :: owL 3 1 z.2.2.2.1 z.2.2.2.2 (intR z.2.1) :: F) (fun z => z.1.length) (tb encB m B, [], none, none, 0) (by rw [List.nil_append, tb_keys]) [0, 9, 3] rfl rfl ?_
  rintro ⟨rest, zs, cur, s, c⟩ hp
  simp only [] at hp ⊢
  have hzl : zs.length ≤ 1000 := by have h1 := hp.length_eq; simp at h1; omega
  refine g_seq ?_
  refine g_reg ?_
  refine g_l (l_next rfl) rfl ?_
  rintro _ _ (⟨hr, rfl, rfl⟩ | ⟨⟨k, v⟩, rest', hq, rfl, rfl⟩)
  · subst hr
    simp only [List.map_nil, List.append_nil] at hp
    refine g_v (v_extract rfl rfl) rfl ?_
    refine g_nil ?_
    refine g_seq ?_
    refine g_false rfl ?_
    refine g_exit rfl ?_
    refine g_seq ?_
    refine g_reg ?_
    refine g_v (v_move rfl) rfl ?_
    refine g_l (l_call (Pre := [owL 3 1 s c (intR zs)]) Tryz.call49 rfl (ct_slices_Sort zs s zs.length c rfl (by omega))) rfl ?_
    rintro _ _ ⟨rfl, rfl⟩
    rw [sort_ids hp]
    refine g_nil ?_
    refine g_seq ?_
    refine g_reg ?_
    refine g_v (v_move rfl) rfl ?_
    refine g_v (v_assign rfl) rfl ?_
    refine g_nil ?_
    refine g_mapShut r ?_
    exact g_retSl rfl rfl rfl (by rw [hp.length_eq])
  · have hp2 : (zs ++ k :: rest'.map (·.1)).Perm (ids m B) := by
        have h1 := ((hq.map (·.1)).append_left zs).symm.trans hp
        simpa using h1
    refine g_v (v_extract rfl rfl) rfl ?_
    refine g_nil ?_
    refine g_seq ?_
    refine g_true rfl ?_
    refine g_skip ?_
    refine g_block ?_
    refine g_seq ?_
    refine g_reg ?_
    refine g_v (v_entry rfl) rfl ?_
    refine g_v (v_extract (v := I k) rfl rfl) rfl ?_
    refine g_v (v_assign rfl) rfl ?_
    refine g_nil ?_
    refine g_reg ?_
    refine g_v (v_move rfl) rfl ?_
    refine g_v (v_move rfl) rfl ?_
    refine g_l (l_buildSlice [[I k]] Tryz.underlying39 Tryz.sizeOf3 Tryz.zeroValue3 rfl rfl rfl (by simp) (by decide) (by decide)) rfl ?_
    rintro _ _ ⟨b16, rfl, rfl⟩
    refine g_l (l_append Tryz.underlying39 Tryz.sizeOf3 Tryz.zeroValue3 rfl Tryz.typeInfo3 (by decide) rfl rfl (intR_len _) rfl (by simp) (by intro r hr; simp at hr; subst hr; rfl) ⟨by omega, by decide, by decide⟩) rfl ?_
    rintro _ _ ⟨s17, c17, rfl, rfl⟩
    refine g_v (v_assign rfl) rfl ?_
    refine g_nil ?_
    refine g_blk ?_
    rw [show intR zs ++ [[I k]] = intR (zs ++ [k]) by simp [intR]]
    refine g_again (rest', zs ++ [k], some (k, v), s17, c17) (by simpa using hp2) (by have := hq.length_eq; simp at this; simp; omega) [0, 9, 3] rfl (by simp [U])

theorem ct_image_within (b : Nat) (S : SI) (L : List Pt) (n : Int) (hl : L.length ≤ 1000000) (hok : okS 999 S) (hp16 : ∀ p ∈ L, 0 < p.size ∧ p.size ≤ 16) (F : List HProp) : Ct Tryz.prog 91 [ptr b 0] ([vlt b S L n] ++ F) (fun v L' => ∃ o, v = Bo o ∧ L' = vlt b S L n :: F ∧ (o = true ↔ Top S L)) := by
  show Ct Tryz.prog 91 [ptr b 0] (vlt b S L n :: F) _
  refine Ct.of Tryz.func91 rfl 31 Tryz.ntmps91 (by simp) fun w0 => ?_
  refine g_openV b S L n ?_
  intro x s c
  refine g_seq ?_
  refine g_reg ?_
  refine g_v (v_assign rfl) rfl ?_
  refine g_nil ?_
  refine g_seq ?_
  refine g_seq ?_
  refine g_reg ?_
  refine g_v (v_move rfl) rfl ?_
  refine g_v (v_nilCheck rfl) rfl ?_
  refine g_v (v_fieldAddr 1 Tryz.underlying47 rfl rfl Tryz.sizeOf45 (by decide) rfl) rfl ?_
  refine g_v (v_load (v := sl s (L).length c) Tryz.isAgg45 rfl rfl) rfl ?_
  refine g_v (v_len Tryz.underlying45 rfl) rfl ?_
  refine g_v (v_move rfl) rfl ?_
  refine g_nil ?_
  refine g_block ?_
  refine g_loop (α := Nat) (fun j => j ≤ L.length ∧ Top S (L.take j)) (fun j => U [(0, ptr b 0), (9, sl s L.length c), (10, I L.length), (11, I j)]) (fun j => pt b (.cells #[ptr x 0, sl s (L).length c, I (n)] 47 (0, 0)) :: ixl x S :: owL 55 4 s c (ptR (L)) :: F) (fun j => L.length - j) 0 ⟨by simp, by simpa using Top_nil S⟩ [0, 9, 10, 11] rfl rfl ?_
  rintro j ⟨hj, hT⟩
  refine g_seq ?_
  refine g_reg ?_
  refine g_v (v_lss rfl rfl) rfl ?_
  refine g_nil ?_
  refine g_seq ?_
  refine g_cond rfl (fun h12 => ?_) (fun h12 => ?_)
  · simp at h12
    have hjn : j < L.length := by omega
    obtain ⟨p0, hp⟩ : ∃ p0, L[j]? = some p0 := ⟨_, List.getElem?_eq_getElem hjn⟩
    have hp0 := hp16 p0 (List.mem_of_getElem? hp)
    refine g_skip ?_
    refine g_seq ?_
    refine g_block ?_
    refine g_seq ?_
    refine g_reg ?_
    refine g_v (v_idxS (j) Tryz.underlying45 Tryz.sizeOf55 rfl rfl rfl hjn (by rw [ptR_len]; exact hjn)) rfl ?_
    refine g_v (v_loadAS (row := encPt p0) Tryz.isAgg55 Tryz.sizeOf55 rfl (ptR_at hp) rfl) rfl ?_
    refine g_l (l_alloc #[I 0, I 0, I 0, I 0] Tryz.zeroValue55) rfl ?_
    rintro _ _ ⟨b4, rfl, rfl⟩
    refine g_l0 (l_storeA (cs := #[I 0, I 0, I 0, I 0]) (vs := encPt (p0)) (encPt (p0)).toArray Tryz.sizeOf55 rfl rfl rfl rfl (by simp) (splice_whole rfl)) ?_
    rintro _ _ rfl
    refine g_nil ?_
    refine g_seq ?_
    refine g_reg ?_
    refine g_v (v_fieldAddr 2 Tryz.underlying55 rfl rfl Tryz.sizeOf3 (by decide) rfl) rfl ?_
    refine g_v (v_load (v := I p0.size) Tryz.isAgg3 rfl rfl) rfl ?_
    refine g_v (v_assign rfl) rfl ?_
    refine g_nil ?_
    obtain ⟨sz, hsz⟩ : ∃ k : Nat, p0.size = k := ⟨p0.size.toNat, by omega⟩
    refine g_block ?_
    refine g_loop (α := Nat) (fun a => a ≤ 16 ∧ sz ≤ a ∧ ∀ i, sz ≤ i → i < a → getS S p0.root i = []) (fun a => U [(0, ptr b 0), (9, sl s L.length c), (10, I L.length), (11, I j), (4, ptr b4 0), (5, I a)]) (fun a => pt b (.cells #[ptr x 0, sl s (L).length c, I (n)] 47 (0, 0)) :: ixl x S :: owL 55 4 s c (ptR (L)) :: pt b4 (.cells (encPt p0).toArray 55 (0, 0)) :: F) (fun a => 16 - a) sz ⟨by omega, by omega, fun i h1 h2 => absurd h1 (by omega)⟩ [0, 9, 10, 11, 4, 5] rfl (by simp [U, hsz]) ?_
    rintro a ⟨ha, hsa, hget⟩
    refine g_seq ?_
    refine g_seq ?_
    refine g_reg ?_
    refine g_v (v_move rfl) rfl ?_
    refine g_v (v_lss rfl rfl) rfl ?_
    refine g_nil ?_
    refine g_cond rfl (fun h18 => ?_) (fun h18 => ?_)
    · simp at h18
      have ha16 : a < 16 := by omega
      refine g_skip ?_
      refine g_seq ?_
      refine g_block ?_
      refine g_seq ?_
      refine g_draw (Lf := [pt b (.cells #[ptr x 0, sl s (L).length c, I (n)] 47 (0, 0)), pt b4 (.cells (encPt p0).toArray 55 (0, 0))]) [(0, false), (1, false), (2, false), (3, false), (4, false), (5, false), (6, false), (7, true), (8, false)] (by kernel_rfl) (by kernel_rfl) rfl (by kernel_rfl) ?_
      refine d_v rfl (v_move rfl) rfl ?_
      refine d_v rfl (v_nilCheck rfl) rfl ?_
      refine d_v rfl (v_fieldAddr 0 Tryz.underlying47 rfl rfl Tryz.sizeOf44 (by decide) rfl) rfl ?_
      refine d_v rfl (v_load (v := ptr x 0) Tryz.isAgg44 rfl rfl) rfl ?_
      refine d_v rfl (v_fieldAddr 3 Tryz.underlying55 rfl rfl Tryz.sizeOf3 (by decide) rfl) rfl ?_
      refine d_v rfl (v_load (v := I p0.root) Tryz.isAgg3 rfl rfl) rfl ?_
      refine d_v rfl (v_move rfl) rfl ?_
      refine d_l rfl (l_call (Pre := [ixl x S]) Tryz.call68 rfl (ct_index_Index_Get x S p0.root a 999 hok (by decide) (by omega))) rfl ?_
      rintro _ _ ⟨rfl, rfl⟩
      refine d_v rfl (v_sneq rfl rfl) rfl ?_
      refine d_nil ?_
      refine g_cond rfl (fun h29 => ?_) (fun h29 => ?_)
      · simp at h29
        refine g_seq ?_
        refine g_reg ?_
        refine g_v (v_assign rfl) rfl ?_
        refine g_nil ?_
        first
        | (refine g_shutV b x s c (S) (L) (n) ?_
           exact fun a w hE hS => wp_ret (kq_ret (res_fpost (vs := [Bo true]) rfl hE ((inferInstance : Sub _ (vlt b S L n :: F)).sat hS) ⟨true, rfl, rfl, fun _ => hT, fun _ => rfl⟩)))
        | (refine g_shutV b x s c (S) (L) (n) ?_
           exact fun a' w hE hS => wp_ret (kq_ret (res_fpost (vs := [Bo false]) rfl hE ((inferInstance : Sub _ (vlt b S L n :: F)).sat hS) ⟨false, rfl, rfl, (fun h => by cases h), fun h => absurd (h p0 (List.mem_of_getElem? hp) a (by omega) ha16) h29⟩)))
      · simp at h29
        refine g_skip ?_
        refine g_blk ?_
        refine g_reg ?_
        refine g_v (v_move rfl) rfl ?_
        refine g_v (v_add rfl rfl (w64 (by omega))) rfl ?_
        refine g_v (v_assign rfl) rfl ?_
        refine g_nil ?_
        exact g_again (a + 1) ⟨by omega, by omega, fun i h1 h2 => by
          rcases Nat.lt_or_ge i a with h | h
          · exact hget i h1 h
          · obtain rfl : i = a := by omega
            exact h29⟩ (by omega) [0, 9, 10, 11, 4, 5] rfl rfl
    · simp at h18
      obtain rfl : a = 16 := by omega
      refine g_exit rfl ?_
      refine g_blk ?_
      refine g_reg ?_
      refine g_v (v_add rfl rfl (w64 (by omega))) rfl ?_
      refine g_v (v_move rfl) rfl ?_
      refine g_nil ?_
      exact g_again (j + 1) ⟨by omega, by rw [← tk_snoc hp]; exact Top_snoc hT fun i h1 h2 => hget i (by omega) h2⟩ (by omega) [0, 9, 10, 11] rfl rfl
  · simp at h12
    obtain rfl : j = L.length := by omega
    rw [List.take_length] at hT
    refine g_exit rfl ?_
    refine g_seq ?_
    refine g_reg ?_
    refine g_v (v_assign rfl) rfl ?_
    refine g_nil ?_
    first
    | (refine g_shutV b x s c (S) (L) (n) ?_
       exact fun a w hE hS => wp_ret (kq_ret (res_fpost (vs := [Bo true]) rfl hE ((inferInstance : Sub _ (vlt b S L n :: F)).sat hS) ⟨true, rfl, rfl, fun _ => hT, fun _ => rfl⟩)))
    | (refine g_shutV b x s c (S) (L) (n) ?_
       exact fun a' w hE hS => wp_ret (kq_ret (res_fpost (vs := [Bo false]) rfl hE ((inferInstance : Sub _ (vlt b S L n :: F)).sat hS) ⟨false, rfl, rfl, (fun h => by cases h), fun h => absurd (h p0 (List.mem_of_getElem? hp) a (by omega) ha16) h29⟩)))

theorem ct_image_whole (b : Nat) (st : PS) (hP : Pok st) (hl : st.L.length ≤ 1000000) (F : List HProp) : Ct Tryz.prog 60 [ptr b 0] ([pvl b st] ++ F) (wholR b st F) := by
  show Ct Tryz.prog 60 [ptr b 0] (pvl b st :: F) _
  refine Ct.of Tryz.func60 rfl 119 Tryz.ntmps60 (by simp) fun w0 => ?_
  refine g_openW b st ?_
  intro x p r r2 s cc
  refine g_seq ?_
  refine g_reg ?_
  refine g_v (v_assign rfl) rfl ?_
  refine g_nil ?_
  refine g_seq ?_
  refine g_seq ?_
  refine g_drawL [(0, false), (1, false), (2, false), (3, false), (4, false), (5, false), (6, false), (7, false), (8, false), (9, false), (10, false), (11, false), (12, false), (13, false), (14, false), (15, false), (16, false), (17, false), (18, false), (19, false), (20, false), (21, false), (22, false), (23, false), (24, false), (25, false), (26, false), (27, false), (28, false), (29, false), (30, false), (31, false), (32, false), (33, false), (34, false), (35, false), (36, false), (37, false), (38, false), (39, false), (40, false), (41, false), (42, false), (43, false), (44, false), (45, false), (46, false), (47, false), (48, false), (49, false), (50, false), (51, false), (52, false), (53, false), (54, false), (55, false), (56, false), (57, false), (58, false), (59, false), (60, false), (61, false), (62, false), (63, false), (64, false), (65, false)] (by kernel_rfl) (by kernel_rfl) rfl (by kernel_rfl) ?_
  refine d_v rfl (v_move rfl) rfl ?_
  refine d_v rfl (v_nilCheck rfl) rfl ?_
  refine d_v rfl (v_fieldAddr 1 Tryz.underlying47 rfl rfl Tryz.sizeOf45 (by decide) rfl) rfl ?_
  refine d_v rfl (v_load (v := sl s st.L.length cc) Tryz.isAgg45 rfl rfl) rfl ?_
  refine d_v rfl (v_len Tryz.underlying45 rfl) rfl ?_
  refine d_v rfl (v_gtr rfl rfl) rfl ?_
  refine d_v rfl (v_move rfl) rfl ?_
  by_cases g1 : (6 : Int) < (st.L.length : Int)
  · skip
    refine d_no rfl rfl rfl (by rw [decide_eq_true g1]; rfl) rfl ?_
    refine d_no rfl rfl rfl (by rw [decide_eq_true g1]; rfl) rfl ?_
    refine d_no rfl rfl rfl (by rw [decide_eq_true g1]; rfl) rfl ?_
    refine d_no rfl rfl rfl (by rw [decide_eq_true g1]; rfl) rfl ?_
    refine d_no rfl rfl rfl (by rw [decide_eq_true g1]; rfl) rfl ?_
    refine d_no rfl rfl rfl (by rw [decide_eq_true g1]; rfl) rfl ?_
    refine d_no rfl rfl rfl (by rw [decide_eq_true g1]; rfl) rfl ?_
    refine d_no rfl rfl rfl (by rw [decide_eq_true g1]; rfl) rfl ?_
    refine d_no rfl rfl rfl (by rw [decide_eq_true g1]; rfl) rfl ?_
    refine d_v rfl (v_pk1 rfl (decide_eq_true g1) rfl) rfl ?_
    refine d_v rfl (v_move rfl) rfl ?_
    refine d_no rfl rfl rfl rfl rfl ?_
    refine d_no rfl rfl rfl rfl rfl ?_
    refine d_no rfl rfl rfl rfl rfl ?_
    refine d_no rfl rfl rfl rfl rfl ?_
    refine d_no rfl rfl rfl rfl rfl ?_
    refine d_no rfl rfl rfl rfl rfl ?_
    refine d_no rfl rfl rfl rfl rfl ?_
    refine d_no rfl rfl rfl rfl rfl ?_
    refine d_no rfl rfl rfl rfl rfl ?_
    refine d_no rfl rfl rfl rfl rfl ?_
    refine d_no rfl rfl rfl rfl rfl ?_
    refine d_no rfl rfl rfl rfl rfl ?_
    refine d_v rfl (v_pk1 rfl rfl rfl) rfl ?_
    refine d_v rfl (v_move rfl) rfl ?_
    refine d_no rfl rfl rfl rfl rfl ?_
    refine d_no rfl rfl rfl rfl rfl ?_
    refine d_no rfl rfl rfl rfl rfl ?_
    refine d_no rfl rfl rfl rfl rfl ?_
    refine d_no rfl rfl rfl rfl rfl ?_
    refine d_v rfl (v_pk1 rfl rfl rfl) rfl ?_
    refine d_v rfl (v_move rfl) rfl ?_
    refine d_no rfl rfl rfl rfl rfl ?_
    refine d_no rfl rfl rfl rfl rfl ?_
    refine d_no rfl rfl rfl rfl rfl ?_
    refine d_no rfl rfl rfl rfl rfl ?_
    refine d_no rfl rfl rfl rfl rfl ?_
    refine d_no rfl rfl rfl rfl rfl ?_
    refine d_no rfl rfl rfl rfl rfl ?_
    refine d_no rfl rfl rfl rfl rfl ?_
    refine d_no rfl rfl rfl rfl rfl ?_
    refine d_no rfl rfl rfl rfl rfl ?_
    refine d_no rfl rfl rfl rfl rfl ?_
    refine d_no rfl rfl rfl rfl rfl ?_
    refine d_no rfl rfl rfl rfl rfl ?_
    refine d_no rfl rfl rfl rfl rfl ?_
    refine d_no rfl rfl rfl rfl rfl ?_
    refine d_no rfl rfl rfl rfl rfl ?_
    refine d_no rfl rfl rfl rfl rfl ?_
    refine d_no rfl rfl rfl rfl rfl ?_
    refine d_no rfl rfl rfl rfl rfl ?_
    refine d_no rfl rfl rfl rfl rfl ?_
    refine d_no rfl rfl rfl rfl rfl ?_
    refine d_no rfl rfl rfl rfl rfl ?_
    refine d_no rfl rfl rfl rfl rfl ?_
    refine d_no rfl rfl rfl rfl rfl ?_
    refine d_no rfl rfl rfl rfl rfl ?_
    refine d_no rfl rfl rfl rfl rfl ?_
    refine d_v rfl (v_pk1 rfl rfl rfl) rfl ?_
    refine d_nil ?_
    refine g_cond rfl (fun h74 => ?_) (fun h74 => ?_)
    · skip
      refine g_seq ?_
      refine g_reg ?_
      refine g_v (v_assign rfl) rfl ?_
      refine g_nil ?_
      exact g_whNo rfl (fun hw => by have := hw.len; omega) rfl rfl
    · cases h74
  · skip
    refine d_gv1 rfl rfl rfl (decide_eq_false g1) (v_move rfl) rfl ?_
    refine d_gv1 rfl rfl rfl (decide_eq_false g1) (v_nilCheck rfl) rfl ?_
    refine d_gv1 rfl rfl rfl (decide_eq_false g1) (v_fieldAddr 0 Tryz.underlying47 rfl rfl Tryz.sizeOf44 (by decide) rfl) rfl ?_
    refine d_gv1 rfl rfl rfl (decide_eq_false g1) (v_load (v := ptr x 0) Tryz.isAgg44 rfl rfl) rfl ?_
    refine d_gv1 rfl rfl rfl (decide_eq_false g1) (v_nilCheck rfl) rfl ?_
    refine d_gv1 rfl rfl rfl (decide_eq_false g1) (v_fieldAddr 1 Tryz.underlying43 rfl rfl Tryz.sizeOf41 (by decide) rfl) rfl ?_
    refine d_gv1 rfl rfl rfl (decide_eq_false g1) (v_load (v := .map (some r)) Tryz.isAgg41 rfl rfl) rfl ?_
    refine d_gv1 rfl rfl rfl (decide_eq_false g1) (v_lenM Tryz.underlying41 rfl) rfl ?_
    refine d_gv1 rfl rfl rfl (decide_eq_false g1) (v_gtr rfl rfl) rfl ?_
    refine d_v rfl (v_pk2 rfl (decide_eq_false g1) rfl) rfl ?_
    refine d_v rfl (v_move rfl) rfl ?_
    by_cases g2 : (24 : Int) < (((tb encN 999 st.N).length) : Int)
    · skip
      refine d_no rfl rfl rfl (by rw [decide_eq_true g2]; rfl) rfl ?_
      refine d_no rfl rfl rfl (by rw [decide_eq_true g2]; rfl) rfl ?_
      refine d_no rfl rfl rfl (by rw [decide_eq_true g2]; rfl) rfl ?_
      refine d_no rfl rfl rfl (by rw [decide_eq_true g2]; rfl) rfl ?_
      refine d_no rfl rfl rfl (by rw [decide_eq_true g2]; rfl) rfl ?_
      refine d_no rfl rfl rfl (by rw [decide_eq_true g2]; rfl) rfl ?_
      refine d_no rfl rfl rfl (by rw [decide_eq_true g2]; rfl) rfl ?_
      refine d_no rfl rfl rfl (by rw [decide_eq_true g2]; rfl) rfl ?_
      refine d_no rfl rfl rfl (by rw [decide_eq_true g2]; rfl) rfl ?_
      refine d_no rfl rfl rfl (by rw [decide_eq_true g2]; rfl) rfl ?_
      refine d_no rfl rfl rfl (by rw [decide_eq_true g2]; rfl) rfl ?_
      refine d_no rfl rfl rfl (by rw [decide_eq_true g2]; rfl) rfl ?_
      refine d_v rfl (v_pk1 rfl (decide_eq_true g2) rfl) rfl ?_
      refine d_v rfl (v_move rfl) rfl ?_
      refine d_no rfl rfl rfl rfl rfl ?_
      refine d_no rfl rfl rfl rfl rfl ?_
      refine d_no rfl rfl rfl rfl rfl ?_
      refine d_no rfl rfl rfl rfl rfl ?_
      refine d_no rfl rfl rfl rfl rfl ?_
      refine d_v rfl (v_pk1 rfl rfl rfl) rfl ?_
      refine d_v rfl (v_move rfl) rfl ?_
      refine d_no rfl rfl rfl rfl rfl ?_
      refine d_no rfl rfl rfl rfl rfl ?_
      refine d_no rfl rfl rfl rfl rfl ?_
      refine d_no rfl rfl rfl rfl rfl ?_
      refine d_no rfl rfl rfl rfl rfl ?_
      refine d_no rfl rfl rfl rfl rfl ?_
      refine d_no rfl rfl rfl rfl rfl ?_
      refine d_no rfl rfl rfl rfl rfl ?_
      refine d_no rfl rfl rfl rfl rfl ?_
      refine d_no rfl rfl rfl rfl rfl ?_
      refine d_no rfl rfl rfl rfl rfl ?_
      refine d_no rfl rfl rfl rfl rfl ?_
      refine d_no rfl rfl rfl rfl rfl ?_
      refine d_no rfl rfl rfl rfl rfl ?_
      refine d_no rfl rfl rfl rfl rfl ?_
      refine d_no rfl rfl rfl rfl rfl ?_
      refine d_no rfl rfl rfl rfl rfl ?_
      refine d_no rfl rfl rfl rfl rfl ?_
      refine d_no rfl rfl rfl rfl rfl ?_
      refine d_no rfl rfl rfl rfl rfl ?_
      refine d_no rfl rfl rfl rfl rfl ?_
      refine d_no rfl rfl rfl rfl rfl ?_
      refine d_no rfl rfl rfl rfl rfl ?_
      refine d_no rfl rfl rfl rfl rfl ?_
      refine d_no rfl rfl rfl rfl rfl ?_
      refine d_no rfl rfl rfl rfl rfl ?_
      refine d_v rfl (v_pk1 rfl rfl rfl) rfl ?_
      refine d_nil ?_
      refine g_cond rfl (fun h74 => ?_) (fun h74 => ?_)
      · skip
        refine g_seq ?_
        refine g_reg ?_
        refine g_v (v_assign rfl) rfl ?_
        refine g_nil ?_
        exact g_whNo rfl (fun hw => by have h9 := ids_len_le 24 st.N; rw [tb_len, ids_cut (n := 999) (by decide) hw.sN] at g2; omega) rfl rfl
      · cases h74
    · skip
      refine d_gv1 rfl rfl rfl (decide_eq_false g2) (v_move rfl) rfl ?_
      refine d_gv1 rfl rfl rfl (decide_eq_false g2) (v_nilCheck rfl) rfl ?_
      refine d_gv1 rfl rfl rfl (decide_eq_false g2) (v_fieldAddr 0 Tryz.underlying47 rfl rfl Tryz.sizeOf44 (by decide) rfl) rfl ?_
      refine d_gv1 rfl rfl rfl (decide_eq_false g2) (v_load (v := ptr x 0) Tryz.isAgg44 rfl rfl) rfl ?_
      refine d_gv1 rfl rfl rfl (decide_eq_false g2) (v_nilCheck rfl) rfl ?_
      refine d_gv1 rfl rfl rfl (decide_eq_false g2) (v_fieldAddr 0 Tryz.underlying43 rfl rfl Tryz.sizeOf40 (by decide) rfl) rfl ?_
      refine d_gv1 rfl rfl rfl (decide_eq_false g2) (v_load (v := ptr p 0) Tryz.isAgg40 rfl rfl) rfl ?_
      refine d_gv1 rfl rfl rfl (decide_eq_false g2) (v_nilCheck rfl) rfl ?_
      refine d_gv1 rfl rfl rfl (decide_eq_false g2) (v_fieldAddr 0 Tryz.underlying95 rfl rfl Tryz.sizeOf93 (by decide) rfl) rfl ?_
      refine d_gv1 rfl rfl rfl (decide_eq_false g2) (v_load (v := .map (some r2)) Tryz.isAgg93 rfl rfl) rfl ?_
      refine d_gv1 rfl rfl rfl (decide_eq_false g2) (v_lenM Tryz.underlying93 rfl) rfl ?_
      refine d_gv1 rfl rfl rfl (decide_eq_false g2) (v_gtr rfl rfl) rfl ?_
      refine d_v rfl (v_pk2 rfl (decide_eq_false g2) rfl) rfl ?_
      refine d_v rfl (v_move rfl) rfl ?_
      by_cases g3 : (40 : Int) < ((tb encB 999 st.B).length : Int)
      · skip
        refine d_no rfl rfl rfl (by rw [decide_eq_true g3]; rfl) rfl ?_
        refine d_no rfl rfl rfl (by rw [decide_eq_true g3]; rfl) rfl ?_
        refine d_no rfl rfl rfl (by rw [decide_eq_true g3]; rfl) rfl ?_
        refine d_no rfl rfl rfl (by rw [decide_eq_true g3]; rfl) rfl ?_
        refine d_no rfl rfl rfl (by rw [decide_eq_true g3]; rfl) rfl ?_
        refine d_v rfl (v_pk1 rfl (decide_eq_true g3) rfl) rfl ?_
        refine d_v rfl (v_move rfl) rfl ?_
        refine d_no rfl rfl rfl rfl rfl ?_
        refine d_no rfl rfl rfl rfl rfl ?_
        refine d_no rfl rfl rfl rfl rfl ?_
        refine d_no rfl rfl rfl rfl rfl ?_
        refine d_no rfl rfl rfl rfl rfl ?_
        refine d_no rfl rfl rfl rfl rfl ?_
        refine d_no rfl rfl rfl rfl rfl ?_
        refine d_no rfl rfl rfl rfl rfl ?_
        refine d_no rfl rfl rfl rfl rfl ?_
        refine d_no rfl rfl rfl rfl rfl ?_
        refine d_no rfl rfl rfl rfl rfl ?_
        refine d_no rfl rfl rfl rfl rfl ?_
        refine d_no rfl rfl rfl rfl rfl ?_
        refine d_no rfl rfl rfl rfl rfl ?_
        refine d_no rfl rfl rfl rfl rfl ?_
        refine d_no rfl rfl rfl rfl rfl ?_
        refine d_no rfl rfl rfl rfl rfl ?_
        refine d_no rfl rfl rfl rfl rfl ?_
        refine d_no rfl rfl rfl rfl rfl ?_
        refine d_no rfl rfl rfl rfl rfl ?_
        refine d_no rfl rfl rfl rfl rfl ?_
        refine d_no rfl rfl rfl rfl rfl ?_
        refine d_no rfl rfl rfl rfl rfl ?_
        refine d_no rfl rfl rfl rfl rfl ?_
        refine d_no rfl rfl rfl rfl rfl ?_
        refine d_no rfl rfl rfl rfl rfl ?_
        refine d_v rfl (v_pk1 rfl rfl rfl) rfl ?_
        refine d_nil ?_
        refine g_cond rfl (fun h74 => ?_) (fun h74 => ?_)
        · skip
          refine g_seq ?_
          refine g_reg ?_
          refine g_v (v_assign rfl) rfl ?_
          refine g_nil ?_
          exact g_whNo rfl (fun hw => by have h9 := ids_len_le 40 st.B; rw [tb_len, ids_cut (n := 999) (by decide) hw.sB] at g3; omega) rfl rfl
        · cases h74
      · skip
        refine d_gv1 rfl rfl rfl (decide_eq_false g3) (v_move rfl) rfl ?_
        refine d_gv1 rfl rfl rfl (decide_eq_false g3) (v_nilCheck rfl) rfl ?_
        refine d_gv1 rfl rfl rfl (decide_eq_false g3) (v_fieldAddr 2 Tryz.underlying47 rfl rfl Tryz.sizeOf3 (by decide) rfl) rfl ?_
        refine d_gv1 rfl rfl rfl (decide_eq_false g3) (v_load (v := I st.n) Tryz.isAgg3 rfl rfl) rfl ?_
        refine d_gv1 rfl rfl rfl (decide_eq_false g3) (v_lss rfl rfl) rfl ?_
        refine d_v rfl (v_pk2 rfl (decide_eq_false g3) rfl) rfl ?_
        refine d_v rfl (v_move rfl) rfl ?_
        by_cases g4 : st.n < 1
        · skip
          refine d_no rfl rfl rfl (by rw [decide_eq_true g4]; rfl) rfl ?_
          refine d_no rfl rfl rfl (by rw [decide_eq_true g4]; rfl) rfl ?_
          refine d_no rfl rfl rfl (by rw [decide_eq_true g4]; rfl) rfl ?_
          refine d_no rfl rfl rfl (by rw [decide_eq_true g4]; rfl) rfl ?_
          refine d_no rfl rfl rfl (by rw [decide_eq_true g4]; rfl) rfl ?_
          refine d_no rfl rfl rfl (by rw [decide_eq_true g4]; rfl) rfl ?_
          refine d_no rfl rfl rfl (by rw [decide_eq_true g4]; rfl) rfl ?_
          refine d_no rfl rfl rfl rfl rfl ?_
          refine d_no rfl rfl rfl rfl rfl ?_
          refine d_no rfl rfl rfl rfl rfl ?_
          refine d_no rfl rfl rfl rfl rfl ?_
          refine d_no rfl rfl rfl rfl rfl ?_
          refine d_no rfl rfl rfl rfl rfl ?_
          refine d_no rfl rfl rfl rfl rfl ?_
          refine d_no rfl rfl rfl rfl rfl ?_
          refine d_no rfl rfl rfl rfl rfl ?_
          refine d_no rfl rfl rfl rfl rfl ?_
          refine d_no rfl rfl rfl rfl rfl ?_
          refine d_no rfl rfl rfl rfl rfl ?_
          refine d_no rfl rfl rfl rfl rfl ?_
          refine d_no rfl rfl rfl rfl rfl ?_
          refine d_no rfl rfl rfl rfl rfl ?_
          refine d_no rfl rfl rfl rfl rfl ?_
          refine d_no rfl rfl rfl rfl rfl ?_
          refine d_no rfl rfl rfl rfl rfl ?_
          refine d_no rfl rfl rfl (by rw [decide_eq_true g4]; rfl) rfl ?_
          refine d_v rfl (v_pk1 rfl (decide_eq_true g4) rfl) rfl ?_
          refine d_nil ?_
          refine g_cond rfl (fun h74 => ?_) (fun h74 => ?_)
          · skip
            refine g_seq ?_
            refine g_reg ?_
            refine g_v (v_assign rfl) rfl ?_
            refine g_nil ?_
            exact g_whNo rfl (fun hw => by have := hw.n1; omega) rfl rfl
          · cases h74
        · skip
          refine d_gv1 rfl rfl rfl (decide_eq_false g4) (v_move rfl) rfl ?_
          refine d_gv1 rfl rfl rfl (decide_eq_false g4) (v_nilCheck rfl) rfl ?_
          refine d_gv1 rfl rfl rfl (decide_eq_false g4) (v_fieldAddr 1 Tryz.underlying47 rfl rfl Tryz.sizeOf45 (by decide) rfl) rfl ?_
          refine d_gv1 rfl rfl rfl (decide_eq_false g4) (v_load (v := sl s st.L.length cc) Tryz.isAgg45 rfl rfl) rfl ?_
          refine d_gv1 rfl rfl rfl (decide_eq_false g4) (v_len Tryz.underlying45 rfl) rfl ?_
          refine d_gv1 rfl rfl rfl (decide_eq_false g4) (v_gtr rfl rfl) rfl ?_
          refine d_gv1 rfl rfl rfl (decide_eq_false g4) (v_move rfl) rfl ?_
          by_cases g5 : (0 : Int) < (st.L.length : Int)
          · obtain ⟨pl, hpl⟩ : ∃ pl, st.L[st.L.length - 1]? = some pl := ⟨_, List.getElem?_eq_getElem (by omega)⟩
            have hpl2 : st.L.getLast? = some pl := by rw [List.getLast?_eq_getElem?]; exact hpl
            refine d_gv1 rfl rfl rfl (decide_eq_true g5) (v_move rfl) rfl ?_
            refine d_gv1 rfl rfl rfl (decide_eq_true g5) (v_nilCheck rfl) rfl ?_
            refine d_gv1 rfl rfl rfl (decide_eq_true g5) (v_fieldAddr 1 Tryz.underlying47 rfl rfl Tryz.sizeOf45 (by decide) rfl) rfl ?_
            refine d_gv1 rfl rfl rfl (decide_eq_true g5) (v_load (v := sl s st.L.length cc) Tryz.isAgg45 rfl rfl) rfl ?_
            refine d_gv1 rfl rfl rfl (decide_eq_true g5) (v_move rfl) rfl ?_
            refine d_gv1 rfl rfl rfl (decide_eq_true g5) (v_nilCheck rfl) rfl ?_
            refine d_gv1 rfl rfl rfl (decide_eq_true g5) (v_fieldAddr 1 Tryz.underlying47 rfl rfl Tryz.sizeOf45 (by decide) rfl) rfl ?_
            refine d_gv1 rfl rfl rfl (decide_eq_true g5) (v_load (v := sl s st.L.length cc) Tryz.isAgg45 rfl rfl) rfl ?_
            refine d_gv1 rfl rfl rfl (decide_eq_true g5) (v_len Tryz.underlying45 rfl) rfl ?_
            refine d_gv1 rfl rfl rfl (decide_eq_true g5) (v_sub rfl rfl (w64 (by omega))) rfl ?_
            refine d_gv1 rfl rfl rfl (decide_eq_true g5) (v_idxS (st.L.length - 1) Tryz.underlying45 Tryz.sizeOf55 rfl rfl (by omega) (by omega) (by rw [ptR_len]; omega)) rfl ?_
            refine d_gv1 rfl rfl rfl (decide_eq_true g5) (v_fieldAdrS (j := st.L.length - 1) 0 Tryz.underlying55 rfl rfl Tryz.sizeOf3 (by decide) rfl (by rw [ptR_len]; omega)) rfl ?_
            refine d_gv1 rfl rfl rfl (decide_eq_true g5) (v_loadS (v := I pl.id) Tryz.isAgg3 rfl (ptR_at hpl) rfl) rfl ?_
            refine d_gv1 rfl rfl rfl (decide_eq_true g5) (v_move rfl) rfl ?_
            refine d_gv1 rfl rfl rfl (decide_eq_true g5) (v_nilCheck rfl) rfl ?_
            refine d_gv1 rfl rfl rfl (decide_eq_true g5) (v_fieldAddr 2 Tryz.underlying47 rfl rfl Tryz.sizeOf3 (by decide) rfl) rfl ?_
            refine d_gv1 rfl rfl rfl (decide_eq_true g5) (v_load (v := I st.n) Tryz.isAgg3 rfl rfl) rfl ?_
            refine d_gv1 rfl rfl rfl (decide_eq_true g5) (v_geq rfl rfl) rfl ?_
            refine d_gv1 rfl rfl rfl (decide_eq_false g4) (v_pk1 rfl (decide_eq_true g5) rfl) rfl ?_
            refine d_v rfl (v_pk2 rfl (decide_eq_false g4) rfl) rfl ?_
            refine d_nil ?_
            refine g_cond rfl (fun h74 => ?_) (fun h74 => ?_)
            · have g6 : st.n ≤ pl.id := by simpa using h74
              refine g_seq ?_
              refine g_reg ?_
              refine g_v (v_assign rfl) rfl ?_
              refine g_nil ?_
              first
              | exact g_whNo rfl (fun hw => by have := hw.last pl hpl2; omega) rfl rfl
              | exact g_whNo rfl (fun hw => by obtain ⟨y, hy⟩ := Option.isSome_iff_exists.1 hqi.2; have := hw.sN q y hy; omega) rfl rfl
              | exact g_whNo rfl (fun hw => by obtain ⟨y, hy⟩ := Option.isSome_iff_exists.1 hqi.2; have := hw.sB q y hy; omega) rfl rfl
            · have g6 : ¬ st.n ≤ pl.id := by simpa using h74
              have hlast : ∀ p, st.L.getLast? = some p → p.id < st.n := fun p hp => by rw [hpl2] at hp; injection hp with hp; subst hp; omega
              refine g_skip ?_
              refine g_seq ?_
              refine g_seq ?_
              refine g_reg ?_
              refine g_v (v_move rfl) rfl ?_
              refine g_v (v_nilCheck rfl) rfl ?_
              refine g_v (v_fieldAddr 0 Tryz.underlying47 rfl rfl Tryz.sizeOf44 (by decide) rfl) rfl ?_
              refine g_v (v_load (v := ptr x 0) Tryz.isAgg44 rfl rfl) rfl ?_
              refine g_l (l_call (Pre := [pt x (.cells #[ptr p 0, .map (some r)] 43 (0, 0)), mp r (tb encN 999 st.N)]) Tryz.call19 rfl (ct_index_NumW x p r st.N 999 (by rw [tb_len] at g2; omega))) rfl ?_
              rintro _ _ ⟨s79, c79, rfl, rfl⟩
              refine g_freeze s79 ?_
              refine g_v (v_len Tryz.underlying39 rfl) rfl ?_
              refine g_v (v_move rfl) rfl ?_
              refine g_nil ?_
              refine g_block ?_
              refine g_loop (α := Nat) (fun k => k ≤ (ids 999 st.N).length ∧ ∀ q ∈ (ids 999 st.N).take k, q ≤ ((24 : Nat) : Int)) (fun k => U [(0, ptr b 0), (79, sl s79 (ids 999 st.N).length c79), (80, I (ids 999 st.N).length), (81, I k)]) (fun k => roL 1 s79 (intR (ids 999 st.N)) :: pt b (.cells #[ptr x 0, sl s st.L.length cc, I st.n] 47 (0, 0)) :: pt x (.cells #[ptr p 0, .map (some r)] 43 (0, 0)) :: pt p (.cells #[.map (some r2)] 95 (0, 0)) :: mp r (tb encN 999 st.N) :: mp r2 (tb encB 999 st.B) :: owL 55 4 s cc (ptR st.L) :: F) (fun k => (ids 999 st.N).length - k) 0 ⟨by simp, fun q h => by simp at h⟩ [0, 79, 80, 81] rfl rfl ?_
              rintro k ⟨hk, hN24⟩
              refine g_seq ?_
              refine g_reg ?_
              refine g_v (v_lss rfl rfl) rfl ?_
              refine g_nil ?_
              refine g_seq ?_
              refine g_cond rfl (fun h82 => ?_) (fun h82 => ?_)
              · simp at h82
                have hnl : (ids 999 st.N).length ≤ 24 := by rw [tb_len] at g2; omega
                have hki : k < (ids 999 st.N).length := by omega
                obtain ⟨q, hq⟩ : ∃ q, (ids 999 st.N)[k]? = some q := ⟨_, List.getElem?_eq_getElem hki⟩
                have hqi := mem_ids.1 (List.mem_of_getElem? hq)
                refine g_skip ?_
                refine g_seq ?_
                refine g_block ?_
                refine g_seq ?_
                refine g_reg ?_
                refine g_v (v_idxS k Tryz.underlying39 Tryz.sizeOf3 rfl rfl rfl hki (by rw [intR_len]; exact hki)) rfl ?_
                refine g_v (v_loadS0 (v := I q) Tryz.isAgg3 rfl (intR_at hq) rfl) rfl ?_
                refine g_v (v_assign rfl) rfl ?_
                refine g_nil ?_
                refine g_seq ?_
                refine g_reg ?_
                refine g_v (v_move rfl) rfl ?_
                refine g_v (v_gtr rfl rfl) rfl ?_
                refine g_nil ?_
                refine g_cond rfl (fun h86 => ?_) (fun h86 => ?_)
                · simp at h86
                  refine g_seq ?_
                  refine g_reg ?_
                  refine g_v (v_assign rfl) rfl ?_
                  refine g_nil ?_
                  first
                  | exact g_whNo rfl (fun hw => by have := hw.last pl hpl2; omega) rfl rfl
                  | exact g_whNo rfl (fun hw => by obtain ⟨y, hy⟩ := Option.isSome_iff_exists.1 hqi.2; have := hw.sN q y hy; omega) rfl rfl
                  | exact g_whNo rfl (fun hw => by obtain ⟨y, hy⟩ := Option.isSome_iff_exists.1 hqi.2; have := hw.sB q y hy; omega) rfl rfl
                · simp at h86
                  refine g_skip ?_
                  refine g_blk ?_
                  refine g_reg ?_
                  refine g_v (v_add rfl rfl (w64 (by omega))) rfl ?_
                  refine g_v (v_move rfl) rfl ?_
                  refine g_nil ?_
                  exact g_again (k + 1) ⟨by omega, fun y hy => by
                    rw [← tk_snoc hq, List.mem_append, List.mem_singleton] at hy
                    rcases hy with hy | rfl
                    · exact hN24 y hy
                    · omega⟩ (by omega) [0, 79, 80, 81] rfl rfl
              · simp at h82
                obtain rfl : k = (ids 999 st.N).length := by omega
                rw [List.take_length] at hN24
                refine g_exit rfl ?_
                refine g_seq ?_
                refine g_seq ?_
                refine g_reg ?_
                refine g_v (v_move rfl) rfl ?_
                refine g_v (v_nilCheck rfl) rfl ?_
                refine g_v (v_fieldAddr 0 Tryz.underlying47 rfl rfl Tryz.sizeOf44 (by decide) rfl) rfl ?_
                refine g_v (v_load (v := ptr x 0) Tryz.isAgg44 rfl rfl) rfl ?_
                refine g_v (v_nilCheck rfl) rfl ?_
                refine g_v (v_fieldAddr 0 Tryz.underlying43 rfl rfl Tryz.sizeOf40 (by decide) rfl) rfl ?_
                refine g_v (v_load (v := ptr p 0) Tryz.isAgg40 rfl rfl) rfl ?_
                refine g_l (l_call (Pre := [pt p (.cells #[.map (some r2)] 95 (0, 0)), mp r2 (tb encB 999 st.B)]) Tryz.call18 rfl (ct_pool_NumW p r2 st.B 999 (by rw [tb_len] at g3; omega))) rfl ?_
                rintro _ _ ⟨s95, c95, rfl, rfl⟩
                refine g_freeze s95 ?_
                refine g_v (v_len Tryz.underlying39 rfl) rfl ?_
                refine g_v (v_move rfl) rfl ?_
                refine g_nil ?_
                refine g_block ?_
                refine g_loop (α := Nat) (fun k => k ≤ (ids 999 st.B).length ∧ ∀ q ∈ (ids 999 st.B).take k, q ≤ ((40 : Nat) : Int)) (fun k => U [(0, ptr b 0), (95, sl s95 (ids 999 st.B).length c95), (96, I (ids 999 st.B).length), (97, I k)]) (fun k => roL 1 s95 (intR (ids 999 st.B)) :: pt b (.cells #[ptr x 0, sl s st.L.length cc, I st.n] 47 (0, 0)) :: pt x (.cells #[ptr p 0, .map (some r)] 43 (0, 0)) :: pt p (.cells #[.map (some r2)] 95 (0, 0)) :: mp r (tb encN 999 st.N) :: mp r2 (tb encB 999 st.B) :: owL 55 4 s cc (ptR st.L) :: F) (fun k => (ids 999 st.B).length - k) 0 ⟨by simp, fun q h => by simp at h⟩ [0, 95, 96, 97] rfl rfl ?_
                rintro k ⟨hk, hB40⟩
                refine g_seq ?_
                refine g_reg ?_
                refine g_v (v_lss rfl rfl) rfl ?_
                refine g_nil ?_
                refine g_seq ?_
                refine g_cond rfl (fun h98 => ?_) (fun h98 => ?_)
                · simp at h98
                  have hnl2 : (ids 999 st.B).length ≤ 40 := by rw [tb_len] at g3; omega
                  have hki : k < (ids 999 st.B).length := by omega
                  obtain ⟨q, hq⟩ : ∃ q, (ids 999 st.B)[k]? = some q := ⟨_, List.getElem?_eq_getElem hki⟩
                  have hqi := mem_ids.1 (List.mem_of_getElem? hq)
                  refine g_skip ?_
                  refine g_seq ?_
                  refine g_block ?_
                  refine g_seq ?_
                  refine g_reg ?_
                  refine g_v (v_idxS k Tryz.underlying39 Tryz.sizeOf3 rfl rfl rfl hki (by rw [intR_len]; exact hki)) rfl ?_
                  refine g_v (v_loadS0 (v := I q) Tryz.isAgg3 rfl (intR_at hq) rfl) rfl ?_
                  refine g_v (v_assign rfl) rfl ?_
                  refine g_nil ?_
                  refine g_seq ?_
                  refine g_reg ?_
                  refine g_v (v_move rfl) rfl ?_
                  refine g_v (v_gtr rfl rfl) rfl ?_
                  refine g_nil ?_
                  refine g_cond rfl (fun h102 => ?_) (fun h102 => ?_)
                  · simp at h102
                    refine g_seq ?_
                    refine g_reg ?_
                    refine g_v (v_assign rfl) rfl ?_
                    refine g_nil ?_
                    first
                    | exact g_whNo rfl (fun hw => by have := hw.last pl hpl2; omega) rfl rfl
                    | exact g_whNo rfl (fun hw => by obtain ⟨y, hy⟩ := Option.isSome_iff_exists.1 hqi.2; have := hw.sN q y hy; omega) rfl rfl
                    | exact g_whNo rfl (fun hw => by obtain ⟨y, hy⟩ := Option.isSome_iff_exists.1 hqi.2; have := hw.sB q y hy; omega) rfl rfl
                  · simp at h102
                    refine g_skip ?_
                    refine g_blk ?_
                    refine g_reg ?_
                    refine g_v (v_add rfl rfl (w64 (by omega))) rfl ?_
                    refine g_v (v_move rfl) rfl ?_
                    refine g_nil ?_
                    exact g_again (k + 1) ⟨by omega, fun y hy => by
                      rw [← tk_snoc hq, List.mem_append, List.mem_singleton] at hy
                      rcases hy with hy | rfl
                      · exact hB40 y hy
                      · omega⟩ (by omega) [0, 95, 96, 97] rfl rfl
                · simp at h98
                  obtain rfl : k = (ids 999 st.B).length := by omega
                  rw [List.take_length] at hB40
                  refine g_exit rfl ?_
                  refine g_seq ?_
                  have hsN : sup 24 st.N := ids_max hP.sN (by decide) hN24
                  have hsB : sup 40 st.B := ids_max hP.sB (by decide) hB40
                  rw [tb_cut (enc := encN) (n := 999) (by decide) hsN, tb_cut (enc := encB) (n := 999) (by decide) hsB]
                  refine g_shutP r2 p st.B (.refl _) ?_
                  refine g_shutX p r x ⟨st.B, st.N⟩ (.refl _) ?_
                  refine g_shutV b x s cc ⟨st.B, st.N⟩ st.L st.n ?_
                  refine g_reg ?_
                  refine g_v (v_move rfl) rfl ?_
                  refine g_l (l_call (Pre := [vlt b ⟨st.B, st.N⟩ st.L st.n]) Tryz.call89 rfl (ct_image_kinds b ⟨st.B, st.N⟩ st.L st.n (by omega) hsN)) rfl ?_
                  rintro _ _ ⟨rm, Q, o, rfl, rfl, hk1, hk2⟩
                  refine g_v (v_move rfl) rfl ?_
                  refine g_v (v_extract (v := .map (some rm)) rfl rfl) rfl ?_
                  refine g_v (v_extract (v := Bo o) rfl rfl) rfl ?_
                  refine g_v (v_assign rfl) rfl ?_
                  refine g_v (v_assign rfl) rfl ?_
                  refine g_nil ?_
                  refine g_seq ?_
                  refine g_reg ?_
                  refine g_v (v_move rfl) rfl ?_
                  refine g_v (v_move rfl) rfl ?_
                  rcases hoo : o with _ | _
                  · have hkn : ¬ KindsP st.N st.L := fun h => by have := hk1.2 h; rw [hoo] at this; cases this
                    refine g_no rfl rfl rfl rfl ?_
                    refine g_no rfl rfl rfl rfl ?_
                    refine g_no rfl rfl rfl rfl ?_
                    refine g_v (v_pk2 rfl rfl rfl) rfl ?_
                    refine g_v (v_move rfl) rfl ?_
                    refine g_no rfl rfl rfl rfl ?_
                    refine g_no rfl rfl rfl rfl ?_
                    refine g_v (v_pk2 rfl rfl rfl) rfl ?_
                    refine g_v (v_assign rfl) rfl ?_
                    refine g_nil ?_
                    exact g_whNo rfl (fun hw => by exact hkn hw.kinds) rfl rfl
                  · have hkp : KindsP st.N st.L := hk1.1 hoo
                    refine g_gv1 rfl rfl rfl (v_move rfl) rfl ?_
                    refine g_gv1 rfl rfl rfl (v_move rfl) rfl ?_
                    refine g_gl rfl rfl rfl (l_call (Pre := [mp rm (mi Q), vlt b ⟨st.B, st.N⟩ st.L st.n]) Tryz.call90 rfl (ct_image_counted b ⟨st.B, st.N⟩ st.L st.n rm Q (by omega) hsN hsB (fun q x e => (hP.b q x e).1.1) (hk2 hoo))) rfl ?_
                    rintro _ _ ⟨o2, rfl, rfl, hc⟩
                    refine g_v (v_and rfl rfl) rfl ?_
                    refine g_v (v_move rfl) rfl ?_
                    rcases hoo2 : o2 with _ | _
                    · have hcn : ¬ CountP st.B st.N st.L := fun h => by have := hc.2 h; rw [hoo2] at this; cases this
                      refine g_no rfl rfl rfl rfl ?_
                      refine g_no rfl rfl rfl rfl ?_
                      refine g_v (v_pk2 rfl rfl rfl) rfl ?_
                      refine g_v (v_assign rfl) rfl ?_
                      refine g_nil ?_
                      exact g_whNo rfl (fun hw => by exact hcn hw.counted) rfl rfl
                    · have hcp : CountP st.B st.N st.L := hc.1 hoo2
                      refine g_gv1 rfl rfl rfl (v_move rfl) rfl ?_
                      refine g_gl rfl rfl rfl (l_call (Pre := [vlt b ⟨st.B, st.N⟩ st.L st.n]) Tryz.call91 rfl (ct_image_within b ⟨st.B, st.N⟩ st.L st.n (by omega) (Pok_okS hP hsN hsB) (fun p hp => (hP.p p hp).2.2.1))) rfl ?_
                      rintro _ _ ⟨o3, rfl, rfl, ht⟩
                      refine g_v (v_pk1 rfl rfl rfl) rfl ?_
                      refine g_v (v_assign rfl) rfl ?_
                      refine g_nil ?_
                      rcases hoo3 : o3 with _ | _
                      · exact g_whNo rfl (fun hw => by have := ht.2 hw.within; rw [hoo3] at this; cases this) rfl rfl
                      · exact g_whYes rfl ⟨by omega, by omega, hlast, hsN, hsB, hkp, hcp, ht.1 hoo3⟩ rfl rfl
          · have hlast : ∀ p, st.L.getLast? = some p → p.id < st.n := fun p hp => by
              have h0 : st.L = [] := List.length_eq_zero_iff.1 (by omega)
              rw [h0] at hp; cases hp
            refine d_no rfl rfl rfl (by rw [decide_eq_false g5]; rfl) rfl ?_
            refine d_no rfl rfl rfl (by rw [decide_eq_false g5]; rfl) rfl ?_
            refine d_no rfl rfl rfl (by rw [decide_eq_false g5]; rfl) rfl ?_
            refine d_no rfl rfl rfl (by rw [decide_eq_false g5]; rfl) rfl ?_
            refine d_no rfl rfl rfl (by rw [decide_eq_false g5]; rfl) rfl ?_
            refine d_no rfl rfl rfl (by rw [decide_eq_false g5]; rfl) rfl ?_
            refine d_no rfl rfl rfl (by rw [decide_eq_false g5]; rfl) rfl ?_
            refine d_no rfl rfl rfl (by rw [decide_eq_false g5]; rfl) rfl ?_
            refine d_no rfl rfl rfl (by rw [decide_eq_false g5]; rfl) rfl ?_
            refine d_no rfl rfl rfl (by rw [decide_eq_false g5]; rfl) rfl ?_
            refine d_no rfl rfl rfl (by rw [decide_eq_false g5]; rfl) rfl ?_
            refine d_no rfl rfl rfl (by rw [decide_eq_false g5]; rfl) rfl ?_
            refine d_no rfl rfl rfl (by rw [decide_eq_false g5]; rfl) rfl ?_
            refine d_no rfl rfl rfl (by rw [decide_eq_false g5]; rfl) rfl ?_
            refine d_no rfl rfl rfl (by rw [decide_eq_false g5]; rfl) rfl ?_
            refine d_no rfl rfl rfl (by rw [decide_eq_false g5]; rfl) rfl ?_
            refine d_no rfl rfl rfl (by rw [decide_eq_false g5]; rfl) rfl ?_
            refine d_no rfl rfl rfl (by rw [decide_eq_false g5]; rfl) rfl ?_
            refine d_gv1 rfl rfl rfl (decide_eq_false g4) (v_pk2 rfl (decide_eq_false g5) rfl) rfl ?_
            refine d_v rfl (v_pk2 rfl (decide_eq_false g4) rfl) rfl ?_
            refine d_nil ?_
            refine g_cond rfl (fun h74 => ?_) (fun h74 => ?_)
            · cases h74
            · skip
              refine g_skip ?_
              refine g_seq ?_
              refine g_seq ?_
              refine g_reg ?_
              refine g_v (v_move rfl) rfl ?_
              refine g_v (v_nilCheck rfl) rfl ?_
              refine g_v (v_fieldAddr 0 Tryz.underlying47 rfl rfl Tryz.sizeOf44 (by decide) rfl) rfl ?_
              refine g_v (v_load (v := ptr x 0) Tryz.isAgg44 rfl rfl) rfl ?_
              refine g_l (l_call (Pre := [pt x (.cells #[ptr p 0, .map (some r)] 43 (0, 0)), mp r (tb encN 999 st.N)]) Tryz.call19 rfl (ct_index_NumW x p r st.N 999 (by rw [tb_len] at g2; omega))) rfl ?_
              rintro _ _ ⟨s79, c79, rfl, rfl⟩
              refine g_freeze s79 ?_
              refine g_v (v_len Tryz.underlying39 rfl) rfl ?_
              refine g_v (v_move rfl) rfl ?_
              refine g_nil ?_
              refine g_block ?_
              refine g_loop (α := Nat) (fun k => k ≤ (ids 999 st.N).length ∧ ∀ q ∈ (ids 999 st.N).take k, q ≤ ((24 : Nat) : Int)) (fun k => U [(0, ptr b 0), (79, sl s79 (ids 999 st.N).length c79), (80, I (ids 999 st.N).length), (81, I k)]) (fun k => roL 1 s79 (intR (ids 999 st.N)) :: pt b (.cells #[ptr x 0, sl s st.L.length cc, I st.n] 47 (0, 0)) :: pt x (.cells #[ptr p 0, .map (some r)] 43 (0, 0)) :: pt p (.cells #[.map (some r2)] 95 (0, 0)) :: mp r (tb encN 999 st.N) :: mp r2 (tb encB 999 st.B) :: owL 55 4 s cc (ptR st.L) :: F) (fun k => (ids 999 st.N).length - k) 0 ⟨by simp, fun q h => by simp at h⟩ [0, 79, 80, 81] rfl rfl ?_
              rintro k ⟨hk, hN24⟩
              refine g_seq ?_
              refine g_reg ?_
              refine g_v (v_lss rfl rfl) rfl ?_
              refine g_nil ?_
              refine g_seq ?_
              refine g_cond rfl (fun h82 => ?_) (fun h82 => ?_)
              · simp at h82
                have hnl : (ids 999 st.N).length ≤ 24 := by rw [tb_len] at g2; omega
                have hki : k < (ids 999 st.N).length := by omega
                obtain ⟨q, hq⟩ : ∃ q, (ids 999 st.N)[k]? = some q := ⟨_, List.getElem?_eq_getElem hki⟩
                have hqi := mem_ids.1 (List.mem_of_getElem? hq)
                refine g_skip ?_
                refine g_seq ?_
                refine g_block ?_
                refine g_seq ?_
                refine g_reg ?_
                refine g_v (v_idxS k Tryz.underlying39 Tryz.sizeOf3 rfl rfl rfl hki (by rw [intR_len]; exact hki)) rfl ?_
                refine g_v (v_loadS0 (v := I q) Tryz.isAgg3 rfl (intR_at hq) rfl) rfl ?_
                refine g_v (v_assign rfl) rfl ?_
                refine g_nil ?_
                refine g_seq ?_
                refine g_reg ?_
                refine g_v (v_move rfl) rfl ?_
                refine g_v (v_gtr rfl rfl) rfl ?_
                refine g_nil ?_
                refine g_cond rfl (fun h86 => ?_) (fun h86 => ?_)
                · simp at h86
                  refine g_seq ?_
                  refine g_reg ?_
                  refine g_v (v_assign rfl) rfl ?_
                  refine g_nil ?_
                  first
                  | exact g_whNo rfl (fun hw => by have := hw.last pl hpl2; omega) rfl rfl
                  | exact g_whNo rfl (fun hw => by obtain ⟨y, hy⟩ := Option.isSome_iff_exists.1 hqi.2; have := hw.sN q y hy; omega) rfl rfl
                  | exact g_whNo rfl (fun hw => by obtain ⟨y, hy⟩ := Option.isSome_iff_exists.1 hqi.2; have := hw.sB q y hy; omega) rfl rfl
                · simp at h86
                  refine g_skip ?_
                  refine g_blk ?_
                  refine g_reg ?_
                  refine g_v (v_add rfl rfl (w64 (by omega))) rfl ?_
                  refine g_v (v_move rfl) rfl ?_
                  refine g_nil ?_
                  exact g_again (k + 1) ⟨by omega, fun y hy => by
                    rw [← tk_snoc hq, List.mem_append, List.mem_singleton] at hy
                    rcases hy with hy | rfl
                    · exact hN24 y hy
                    · omega⟩ (by omega) [0, 79, 80, 81] rfl rfl
              · simp at h82
                obtain rfl : k = (ids 999 st.N).length := by omega
                rw [List.take_length] at hN24
                refine g_exit rfl ?_
                refine g_seq ?_
                refine g_seq ?_
                refine g_reg ?_
                refine g_v (v_move rfl) rfl ?_
                refine g_v (v_nilCheck rfl) rfl ?_
                refine g_v (v_fieldAddr 0 Tryz.underlying47 rfl rfl Tryz.sizeOf44 (by decide) rfl) rfl ?_
                refine g_v (v_load (v := ptr x 0) Tryz.isAgg44 rfl rfl) rfl ?_
                refine g_v (v_nilCheck rfl) rfl ?_
                refine g_v (v_fieldAddr 0 Tryz.underlying43 rfl rfl Tryz.sizeOf40 (by decide) rfl) rfl ?_
                refine g_v (v_load (v := ptr p 0) Tryz.isAgg40 rfl rfl) rfl ?_
                refine g_l (l_call (Pre := [pt p (.cells #[.map (some r2)] 95 (0, 0)), mp r2 (tb encB 999 st.B)]) Tryz.call18 rfl (ct_pool_NumW p r2 st.B 999 (by rw [tb_len] at g3; omega))) rfl ?_
                rintro _ _ ⟨s95, c95, rfl, rfl⟩
                refine g_freeze s95 ?_
                refine g_v (v_len Tryz.underlying39 rfl) rfl ?_
                refine g_v (v_move rfl) rfl ?_
                refine g_nil ?_
                refine g_block ?_
                refine g_loop (α := Nat) (fun k => k ≤ (ids 999 st.B).length ∧ ∀ q ∈ (ids 999 st.B).take k, q ≤ ((40 : Nat) : Int)) (fun k => U [(0, ptr b 0), (95, sl s95 (ids 999 st.B).length c95), (96, I (ids 999 st.B).length), (97, I k)]) (fun k => roL 1 s95 (intR (ids 999 st.B)) :: pt b (.cells #[ptr x 0, sl s st.L.length cc, I st.n] 47 (0, 0)) :: pt x (.cells #[ptr p 0, .map (some r)] 43 (0, 0)) :: pt p (.cells #[.map (some r2)] 95 (0, 0)) :: mp r (tb encN 999 st.N) :: mp r2 (tb encB 999 st.B) :: owL 55 4 s cc (ptR st.L) :: F) (fun k => (ids 999 st.B).length - k) 0 ⟨by simp, fun q h => by simp at h⟩ [0, 95, 96, 97] rfl rfl ?_
                rintro k ⟨hk, hB40⟩
                refine g_seq ?_
                refine g_reg ?_
                refine g_v (v_lss rfl rfl) rfl ?_
                refine g_nil ?_
                refine g_seq ?_
                refine g_cond rfl (fun h98 => ?_) (fun h98 => ?_)
                · simp at h98
                  have hnl2 : (ids 999 st.B).length ≤ 40 := by rw [tb_len] at g3; omega
                  have hki : k < (ids 999 st.B).length := by omega
                  obtain ⟨q, hq⟩ : ∃ q, (ids 999 st.B)[k]? = some q := ⟨_, List.getElem?_eq_getElem hki⟩
                  have hqi := mem_ids.1 (List.mem_of_getElem? hq)
                  refine g_skip ?_
                  refine g_seq ?_
                  refine g_block ?_
                  refine g_seq ?_
                  refine g_reg ?_
                  refine g_v (v_idxS k Tryz.underlying39 Tryz.sizeOf3 rfl rfl rfl hki (by rw [intR_len]; exact hki)) rfl ?_
                  refine g_v (v_loadS0 (v := I q) Tryz.isAgg3 rfl (intR_at hq) rfl) rfl ?_
                  refine g_v (v_assign rfl) rfl ?_
                  refine g_nil ?_
                  refine g_seq ?_
                  refine g_reg ?_
                  refine g_v (v_move rfl) rfl ?_
                  refine g_v (v_gtr rfl rfl) rfl ?_
                  refine g_nil ?_
                  refine g_cond rfl (fun h102 => ?_) (fun h102 => ?_)
                  · simp at h102
                    refine g_seq ?_
                    refine g_reg ?_
                    refine g_v (v_assign rfl) rfl ?_
                    refine g_nil ?_
                    first
                    | exact g_whNo rfl (fun hw => by have := hw.last pl hpl2; omega) rfl rfl
                    | exact g_whNo rfl (fun hw => by obtain ⟨y, hy⟩ := Option.isSome_iff_exists.1 hqi.2; have := hw.sN q y hy; omega) rfl rfl
                    | exact g_whNo rfl (fun hw => by obtain ⟨y, hy⟩ := Option.isSome_iff_exists.1 hqi.2; have := hw.sB q y hy; omega) rfl rfl
                  · simp at h102
                    refine g_skip ?_
                    refine g_blk ?_
                    refine g_reg ?_
                    refine g_v (v_add rfl rfl (w64 (by omega))) rfl ?_
                    refine g_v (v_move rfl) rfl ?_
                    refine g_nil ?_
                    exact g_again (k + 1) ⟨by omega, fun y hy => by
                      rw [← tk_snoc hq, List.mem_append, List.mem_singleton] at hy
                      rcases hy with hy | rfl
                      · exact hB40 y hy
                      · omega⟩ (by omega) [0, 95, 96, 97] rfl rfl
                · simp at h98
                  obtain rfl : k = (ids 999 st.B).length := by omega
                  rw [List.take_length] at hB40
                  refine g_exit rfl ?_
                  refine g_seq ?_
                  have hsN : sup 24 st.N := ids_max hP.sN (by decide) hN24
                  have hsB : sup 40 st.B := ids_max hP.sB (by decide) hB40
                  rw [tb_cut (enc := encN) (n := 999) (by decide) hsN, tb_cut (enc := encB) (n := 999) (by decide) hsB]
                  refine g_shutP r2 p st.B (.refl _) ?_
                  refine g_shutX p r x ⟨st.B, st.N⟩ (.refl _) ?_
                  refine g_shutV b x s cc ⟨st.B, st.N⟩ st.L st.n ?_
                  refine g_reg ?_
                  refine g_v (v_move rfl) rfl ?_
                  refine g_l (l_call (Pre := [vlt b ⟨st.B, st.N⟩ st.L st.n]) Tryz.call89 rfl (ct_image_kinds b ⟨st.B, st.N⟩ st.L st.n (by omega) hsN)) rfl ?_
                  rintro _ _ ⟨rm, Q, o, rfl, rfl, hk1, hk2⟩
                  refine g_v (v_move rfl) rfl ?_
                  refine g_v (v_extract (v := .map (some rm)) rfl rfl) rfl ?_
                  refine g_v (v_extract (v := Bo o) rfl rfl) rfl ?_
                  refine g_v (v_assign rfl) rfl ?_
                  refine g_v (v_assign rfl) rfl ?_
                  refine g_nil ?_
                  refine g_seq ?_
                  refine g_reg ?_
                  refine g_v (v_move rfl) rfl ?_
                  refine g_v (v_move rfl) rfl ?_
                  rcases hoo : o with _ | _
                  · have hkn : ¬ KindsP st.N st.L := fun h => by have := hk1.2 h; rw [hoo] at this; cases this
                    refine g_no rfl rfl rfl rfl ?_
                    refine g_no rfl rfl rfl rfl ?_
                    refine g_no rfl rfl rfl rfl ?_
                    refine g_v (v_pk2 rfl rfl rfl) rfl ?_
                    refine g_v (v_move rfl) rfl ?_
                    refine g_no rfl rfl rfl rfl ?_
                    refine g_no rfl rfl rfl rfl ?_
                    refine g_v (v_pk2 rfl rfl rfl) rfl ?_
                    refine g_v (v_assign rfl) rfl ?_
                    refine g_nil ?_
                    exact g_whNo rfl (fun hw => by exact hkn hw.kinds) rfl rfl
                  · have hkp : KindsP st.N st.L := hk1.1 hoo
                    refine g_gv1 rfl rfl rfl (v_move rfl) rfl ?_
                    refine g_gv1 rfl rfl rfl (v_move rfl) rfl ?_
                    refine g_gl rfl rfl rfl (l_call (Pre := [mp rm (mi Q), vlt b ⟨st.B, st.N⟩ st.L st.n]) Tryz.call90 rfl (ct_image_counted b ⟨st.B, st.N⟩ st.L st.n rm Q (by omega) hsN hsB (fun q x e => (hP.b q x e).1.1) (hk2 hoo))) rfl ?_
                    rintro _ _ ⟨o2, rfl, rfl, hc⟩
                    refine g_v (v_and rfl rfl) rfl ?_
                    refine g_v (v_move rfl) rfl ?_
                    rcases hoo2 : o2 with _ | _
                    · have hcn : ¬ CountP st.B st.N st.L := fun h => by have := hc.2 h; rw [hoo2] at this; cases this
                      refine g_no rfl rfl rfl rfl ?_
                      refine g_no rfl rfl rfl rfl ?_
                      refine g_v (v_pk2 rfl rfl rfl) rfl ?_
                      refine g_v (v_assign rfl) rfl ?_
                      refine g_nil ?_
                      exact g_whNo rfl (fun hw => by exact hcn hw.counted) rfl rfl
                    · have hcp : CountP st.B st.N st.L := hc.1 hoo2
                      refine g_gv1 rfl rfl rfl (v_move rfl) rfl ?_
                      refine g_gl rfl rfl rfl (l_call (Pre := [vlt b ⟨st.B, st.N⟩ st.L st.n]) Tryz.call91 rfl (ct_image_within b ⟨st.B, st.N⟩ st.L st.n (by omega) (Pok_okS hP hsN hsB) (fun p hp => (hP.p p hp).2.2.1))) rfl ?_
                      rintro _ _ ⟨o3, rfl, rfl, ht⟩
                      refine g_v (v_pk1 rfl rfl rfl) rfl ?_
                      refine g_v (v_assign rfl) rfl ?_
                      refine g_nil ?_
                      rcases hoo3 : o3 with _ | _
                      · exact g_whNo rfl (fun hw => by have := ht.2 hw.within; rw [hoo3] at this; cases this) rfl rfl
                      · exact g_whYes rfl ⟨by omega, by omega, hlast, hsN, hsB, hkp, hcp, ht.1 hoo3⟩ rfl rfl

end Go.Proofs.YthdjckbjjfiopacGreatDoor
