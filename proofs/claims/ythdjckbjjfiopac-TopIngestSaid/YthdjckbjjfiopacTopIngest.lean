/- The walk through the law TopIngest. No condition. -/
import Derived.Test.YthdjckbjjfiopacTopVa
namespace Go.Proofs.Ythdjckbjjfiopac
open Go.Sl Go.Proofs
set_option linter.unusedVariables false
set_option linter.unusedSimpArgs false
def oldL (S : SI) (L : List Pt) (id : Int) : List Bytes := match findP L id with
  | none => []
  | some p => blk S p
def wL (l : List Bytes) : Array Value := (l.map fun s => Str s).toArray
theorem wL_size (l : List Bytes) : (wL l).size = l.length := by simp [wL]
theorem wL_set {l : List Bytes} {o : Nat} (x : Bytes) : (wL l).setIfInBounds o (Str x) = wL (l.set o x) := by
  unfold wL
  rw [List.setIfInBounds_toArray, List.map_set]
def w16 (g : Nat → Bytes) : List Bytes := (List.range 16).map g
theorem w16_len (g : Nat → Bytes) : (w16 g).length = 16 := by simp [w16]
theorem w16_set (g h : Nat → Bytes) {i : Nat} {x : Bytes} (hi : i < 16) (e : ∀ j, j < 16 → h j = if j = i then x else g j) : (w16 g).set i x = w16 h := by
  unfold w16
  apply List.ext_getElem?
  intro t
  rw [List.getElem?_set]
  by_cases ht : t < 16
  · by_cases hti : i = t
    · subst hti; simp [hi, e i hi]
    · rw [if_neg hti]
      simp only [List.getElem?_map, List.getElem?_range ht, Option.map_some]
      rw [e t ht, if_neg (Ne.symm hti)]
  · rw [List.getElem?_eq_none (by simp; omega)]
    split
    · omega
    · rw [List.getElem?_eq_none (by simp; omega)]
theorem zeroW (w : World) : (zeroValue 36).run Try.prog w = .ok (.agg (wL (w16 fun _ => []))) w := by
  have e : wL (w16 fun _ => []) = Array.replicate 16 (Str []) := by kernel_rfl
  rw [e]; exact Try.zeroValue36 w
theorem lastP_take {l : List PutM} {k : Nat} {p : PutM} (hp : l[k]? = some p) (i : Nat) (d : Bytes) : lastP (l.take (k + 1)) i d = if p.at_ = (i : Int) then p.data else lastP (l.take k) i d := by
  rw [List.take_add_one, hp]
  unfold lastP
  rw [List.foldl_append]
  rfl
section
variable {c : Cx} {g : Option (Nat × Bool)} {E : Env} {L : List HProp} {K : List KI} {d : Option Tmp} {ty : TypeId} {pos : String} {af : Array Edge} {gu : Option (Nat × Bool)}
variable {x y : Operand} {t e : TypeId} {b o sz : Nat}
theorem v_slArrHi {m : Int} {h nn : Nat} (hu : c.P.underlying t = some (.array nn e)) (hz : ∀ w, (sizeOf e).run c.P w = .ok sz w) (hx : ev g E x = some (ptr b o)) (hy : ev g E y = some (I m)) (hm : m = h) (hl : h ≤ nn) :
    OpV c g E L ⟨d, .slice t x none (some y) none, ty, pos, af, gu⟩ (sl (some ⟨b, o, none⟩) h nn) := .mk fun a w hE hg hS => by
  have h1 := fun cd => run_bound (P := c.P) (w := w) (cd := cd) hm hl
  simp only [execOp, Instr.sliceAt, Instr.sliceBounds, Option.map_some, Option.map_none, hE.ev hg hx, hE.ev hg hy, sl]
  simp [underlying, program, Sem.run, hu, hz, h1, Instr.sureAddr]
  intro _; simp [Addr.add]
theorem g_arrOwn {F : List HProp} {T : TypeId} (b : Nat) (l : List Bytes) [R : Rem L (pt b (.cells (wL l) T (0, 0))) F] (k : G c K E (owL T 1 (some ⟨b, 0, none⟩) l.length (strR l) :: F)) : G c K E L := fun a w hE hS => k a w hE ((R.sat hS).weak fun m hm => by
  refine .inr ⟨b, wL l, rfl, hm, by rw [wL_size, Nat.mul_one], by simp [strR], fun r hr => by simp only [strR, List.mem_map] at hr; obtain ⟨s, _, rfl⟩ := hr; rfl, fun j row hj f v hf => ?_⟩
  simp only [strR, List.getElem?_map, Option.map_eq_some_iff] at hj
  obtain ⟨s, hs, rfl⟩ := hj
  obtain ⟨hf0, hf1⟩ := List.getElem?_eq_some_iff.1 hf
  have hf2 : f = 0 := by simp at hf0; exact hf0
  subst hf2
  simp at hf1
  subst hf1
  simp [objCell, wL, hs])
end
theorem want_eq {S : SI} {L : List Pt} {n base size : Int} {G : Gh} {S' : SI} {root : Int} {puts : List PutM} (h : Vok S L n G) (ht : Top S L) (hs : 1 ≤ size ∧ size ≤ 16)
    (g : ∀ i : Nat, i < 16 → getS S' root i = lastP puts i (match (if base = 0 then none else findP L base) with | none => [] | some p => if size ≤ (i : Int) ∧ (i : Int) < p.size then [] else getS S p.root i)) (disk : Int) (q : Int) :
    (w16 fun j => lastP puts j (if (j : Int) < size then (oldL S L base).getD j [] else [])).take size.toNat = blk S' ⟨q, disk, size, root⟩ := by
  unfold w16 blk
  rw [← List.map_take, List.take_range]
  rw [show min size.toNat 16 = size.toNat by omega]
  refine List.map_congr_left fun j hj => ?_
  rw [List.mem_range] at hj
  rw [g j (by omega), if_pos (by omega)]
  congr 1
  unfold oldL
  by_cases hb : base = 0
  · rw [if_pos hb]
    have hn : findP L base = none := by
      cases hf : findP L base with
      | none => rfl
      | some p => have := findP_some hf; have := (h.pts p this.1).1; omega
    rw [hn]
    simp
  · rw [if_neg hb]
    cases hf : findP L base with
    | none => simp
    | some p =>
      simp only
      rw [if_neg (by omega)]
      have hp := (findP_some hf).1
      have hps := (h.pts p hp).2.2
      unfold blk
      by_cases hjp : (j : Int) < p.size
      · rw [List.getD_eq_getElem?_getD, List.getElem?_map, List.getElem?_range (by omega)]; rfl
      · rw [List.getD_eq_getElem?_getD, List.getElem?_eq_none (by simp; omega)]
        exact (ht p hp j (by omega) (by omega)).symm
theorem findP_last {L : List Pt} {n : Int} {q : Pt} (h : ∀ p ∈ L, p.id < n) (hq : q.id = n) : findP (L ++ [q]) n = some q := by
  have hn : findP L n = none := by
    unfold findP
    rw [List.find?_eq_none]
    intro p hp he
    have := h p hp
    simp at he
    omega
  unfold findP at hn ⊢
  rw [List.find?_append, hn]
  simp [hq]

theorem ct_T_blocks2 (b : Nat) (S : SI) (L : List Pt) (n id : Int) (G0 : Gh) (hV : Vok S L n G0) (F : List HProp) : Ct Try.prog 10 [ptr b 0, I id] ([vlt b S L n] ++ F) (fun v L' => ∃ so co bb, v = .tuple #[sl so (oldL S L id).length co, Bo bb] ∧ L' = owL 9 1 so co (strR (oldL S L id)) :: vlt b S L n :: F) := by
  show Ct Try.prog 10 [ptr b 0, I id] (vlt b S L n :: F) _
  have hll := hV.len
  refine Ct.of Try.func10 rfl 40 Try.ntmps10 (by simp) fun w0 => ?_
  refine g_seq ?_
  refine g_reg ?_
  refine g_v (v_assign rfl) rfl ?_
  refine g_v (v_assign rfl) rfl ?_
  refine g_nil ?_
  refine g_seq ?_
  refine g_reg ?_
  refine g_v (v_move rfl) rfl ?_
  refine g_v (v_move rfl) rfl ?_
  refine g_l (l_call (Pre := [vlt b S L n]) Try.call43 rfl (ct_vault_Vault_Find b S L n id (by omega))) rfl ?_
  rintro _ _ ⟨rfl, rfl⟩
  refine g_v (v_move rfl) rfl ?_
  refine g_v (v_extract (v := .agg (encPt ((findP L id).getD pt0)).toArray) rfl rfl) rfl ?_
  refine g_v (v_extract (v := Bo (findP L id).isSome) rfl rfl) rfl ?_
  refine g_l (l_alloc #[I 0, I 0, I 0, I 0] Try.zeroValue86) rfl ?_
  rintro _ _ ⟨b6, rfl, rfl⟩
  refine g_l0 (l_storeA (cs := #[I 0, I 0, I 0, I 0]) (vs := encPt (((findP L id).getD pt0))) (encPt (((findP L id).getD pt0))).toArray Try.sizeOf86 rfl rfl rfl rfl (by simp) (splice_whole rfl)) ?_
  rintro _ _ rfl
  refine g_v (v_assign rfl) rfl ?_
  refine g_nil ?_
  refine g_seq ?_
  refine g_seq ?_
  refine g_reg ?_
  refine g_v (v_move rfl) rfl ?_
  refine g_v (v_not rfl) rfl ?_
  refine g_nil ?_
  refine g_cond rfl (fun h19 => ?_) (fun h19 => ?_)
  · simp at h19
    refine g_seq ?_
    refine g_reg ?_
    refine g_v (v_assign rfl) rfl ?_
    refine g_v (v_assign rfl) rfl ?_
    refine g_nil ?_
    rw [show oldL S L id = [] by unfold oldL; rw [h19]]
    refine g_nilown 9 1 (strR []) rfl ?_
    refine g_sub (L2 := owL 9 1 none 0 (strR []) :: vlt b S L n :: F) ?_
    exact fun a w hE hS => wp_ret (kq_ret (res_fpost (vs := [sl none 0 0, Bo false]) rfl hE hS ⟨none, 0, false, rfl, rfl⟩))
  · simp at h19
    obtain ⟨p, hf⟩ := Option.isSome_iff_exists.1 h19
    have hpm := findP_some hf
    have hps := hV.pts p hpm.1
    rw [show (findP L id).getD pt0 = p by rw [hf]; rfl]
    refine g_skip ?_
    refine g_seq ?_
    refine g_nilown 9 1 (strR ((List.range 0).map (getS S p.root))) rfl ?_
    refine g_reg ?_
    refine g_v (v_assign rfl) rfl ?_
    refine g_nil ?_
    refine g_seq ?_
    refine g_seq ?_
    refine g_reg ?_
    refine g_v (v_assign rfl) rfl ?_
    refine g_nil ?_
    refine g_block ?_
    refine g_loop (α := Nat × Option Addr × Nat) (fun z => (z.1 : Int) ≤ p.size) (fun z => U [(0, ptr b 0), (1, I id), (6, ptr b6 0), (8, sl z.2.1 ((List.range z.1).map (getS S p.root)).length z.2.2), (9, I z.1)]) (fun z => owL 9 1 z.2.1 z.2.2 (strR ((List.range z.1).map (getS S p.root))) :: pt b6 (.cells (encPt (p)).toArray 86 (0, 0)) :: vlt b S L n :: F) (fun z => p.size.toNat - z.1) (0, none, 0) (by simp; omega) [0, 1, 6, 8, 9] rfl rfl ?_
    rintro ⟨a, s8, c8⟩ ha
    simp only [] at ha ⊢
    refine g_seq ?_
    refine g_seq ?_
    refine g_reg ?_
    refine g_v (v_move rfl) rfl ?_
    refine g_v (v_fieldAddr 2 Try.underlying86 rfl rfl Try.sizeOf3 (by decide) rfl) rfl ?_
    refine g_v (v_load (v := I p.size) Try.isAgg3 rfl rfl) rfl ?_
    refine g_v (v_lss rfl rfl) rfl ?_
    refine g_nil ?_
    refine g_cond rfl (fun h23 => ?_) (fun h23 => ?_)
    · simp at h23
      refine g_skip ?_
      refine g_seq ?_
      refine g_block ?_
      refine g_seq ?_
      refine g_reg ?_
      refine g_v (v_move rfl) rfl ?_
      refine g_v (v_move rfl) rfl ?_
      refine g_v (v_move rfl) rfl ?_
      refine g_l (l_call (Pre := [vlt b S L n]) Try.call41 rfl (ct_vault_Vault_Read b S L n id a G0 hV)) rfl ?_
      rintro _ _ ⟨rfl, rfl⟩
      rw [show rdE S L id a = (getS S p.root a, 0) by unfold rdE; rw [hf]; simp only; rw [if_neg (by omega)]; rfl]
      refine g_v (v_move rfl) rfl ?_
      refine g_v (v_extract (v := Str (getS S p.root a)) rfl rfl) rfl ?_
      refine g_v (v_extract (v := errT 94 0) rfl rfl) rfl ?_
      refine g_v (v_assign rfl) rfl ?_
      refine g_v (v_assign rfl) rfl ?_
      refine g_nil ?_
      refine g_seq ?_
      refine g_seq ?_
      refine g_reg ?_
      refine g_v (v_move rfl) rfl ?_
      refine g_v (v_ineq Try.underlying33 rfl) rfl ?_
      refine g_nil ?_
      refine g_cond rfl (fun h34 => ?_) (fun h34 => ?_)
      · simp at h34
      · skip
        refine g_skip ?_
        refine g_reg ?_
        refine g_v (v_move rfl) rfl ?_
        refine g_v (v_move rfl) rfl ?_
        refine g_l (l_buildSlice [[Str (getS S p.root a)]] Try.underlying28 Try.sizeOf9 Try.zeroValue9 rfl rfl rfl (by simp) (by decide) (by decide)) rfl ?_
        rintro _ _ ⟨b37, rfl, rfl⟩
        refine g_l (l_append Try.underlying28 Try.sizeOf9 Try.zeroValue9 rfl Try.typeInfo9 (by decide) rfl rfl (strR_len _) rfl (by simp) (by intro r hr; simp at hr; subst hr; rfl) ⟨by simp; omega, by decide, by decide⟩) rfl ?_
        rintro _ _ ⟨s38, c38, rfl, rfl⟩
        refine g_v (v_assign rfl) rfl ?_
        refine g_nil ?_
        refine g_blk ?_
        refine g_reg ?_
        refine g_v (v_move rfl) rfl ?_
        refine g_v (v_add rfl rfl (w64 (by omega))) rfl ?_
        refine g_v (v_assign rfl) rfl ?_
        refine g_nil ?_
        rw [show strR ((List.range a).map (getS S p.root)) ++ [[Str (getS S p.root a)]] = strR ((List.range (a + 1)).map (getS S p.root)) by rw [List.range_succ]; simp [strR], show ((List.range a).map (getS S p.root)).length + 1 = ((List.range (a + 1)).map (getS S p.root)).length by simp]
        exact g_again (a + 1, s38, c38) (by simp only []; omega) (by simp only []; omega) [0, 1, 6, 8, 9] rfl rfl
    · simp at h23
      obtain rfl : a = p.size.toNat := by omega
      refine g_exit rfl ?_
      refine g_seq ?_
      refine g_reg ?_
      refine g_v (v_move rfl) rfl ?_
      refine g_v (v_assign rfl) rfl ?_
      refine g_v (v_assign rfl) rfl ?_
      refine g_nil ?_
      rw [show (List.range p.size.toNat).map (getS S p.root) = oldL S L id by unfold oldL; rw [hf]; rfl]
      refine g_sub (L2 := owL 9 1 s8 c8 (strR (oldL S L id)) :: vlt b S L n :: F) ?_
      exact fun a w hE hS => wp_ret (kq_ret (res_fpost (vs := [sl s8 (oldL S L id).length c8, Bo true]) rfl hE hS ⟨s8, c8, true, rfl, rfl⟩))

theorem ct_T_TopIngest (l : List ActM) (f : Nat → ActZ) (s : Option Addr) (cap : Nat) (base disk size : Int) (puts : List PutM) (sp : Option Addr) (cp : Nat) (hl : l.length ≤ 9223372036854775807) (hla : ∀ x ∈ l, x.puts.length ≤ 9223372036854775807 ∧ x.changes.length ≤ 9223372036854775807) (hpu : puts.length ≤ 9223372036854775807) (hpd : ∀ p ∈ puts, p.data.length ≤ 9223372036854775807) (F : List HProp) : Ct Try.prog 3 [sl s l.length cap, I base, I disk, I size, sl sp puts.length cp] ([acts s l f, roL 2 sp (putR puts)] ++ F) (R1 (Bo true) (acts s l f :: roL 2 sp (putR puts) :: F)) := by
  show Ct Try.prog 3 [sl s l.length cap, I base, I disk, I size, sl sp puts.length cp] (acts s l f :: roL 2 sp (putR puts) :: F) _
  refine Ct.of Try.func3 rfl 106 Try.ntmps3 (by simp) fun w0 => ?_
  refine g_seq ?_
  refine g_reg ?_
  refine g_v (v_assign rfl) rfl ?_
  refine g_nil ?_
  refine g_seq ?_
  refine g_reg ?_
  refine g_l (l_call (Pre := []) Try.call8 rfl (ct_T_vaulted)) rfl ?_
  rintro _ _ ⟨rfl, rfl⟩
  refine g_v (v_assign rfl) rfl ?_
  refine g_nil ?_
  refine g_seq ?_
  refine g_seq ?_
  refine g_reg ?_
  refine g_v (v_move rfl) rfl ?_
  refine g_v (v_not rfl) rfl ?_
  refine g_nil ?_
  refine g_false rfl ?_
  refine g_skip ?_
  refine g_seq ?_
  refine g_reg ?_
  refine g_v (v_move rfl) rfl ?_
  refine g_l (l_call (Pre := [acts s l f]) Try.call9 rfl (ct_T_filled l f s cap hl hla)) rfl ?_
  rintro _ _ (⟨rfl, rfl⟩ | ⟨q, S, L, n, G, rfl, rfl, hV, hlight, hT⟩)
  · skip
    refine g_v (v_move rfl) rfl ?_
    refine g_v (v_extract (v := .pointer none) rfl rfl) rfl ?_
    refine g_v (v_extract (v := Bo false) rfl rfl) rfl ?_
    refine g_v (v_assign rfl) rfl ?_
    refine g_v (v_assign rfl) rfl ?_
    refine g_nil ?_
    refine g_seq ?_
    refine g_seq ?_
    refine g_reg ?_
    refine g_v (v_move rfl) rfl ?_
    refine g_v (v_not rfl) rfl ?_
    refine g_v (v_move rfl) rfl ?_
    refine g_no rfl rfl rfl rfl ?_
    refine g_no rfl rfl rfl rfl ?_
    refine g_no rfl rfl rfl rfl ?_
    refine g_v (v_pk1 rfl rfl rfl) rfl ?_
    refine g_nil ?_
    refine g_true rfl ?_
    refine g_seq ?_
    refine g_reg ?_
    refine g_v (v_assign rfl) rfl ?_
    refine g_nil ?_
    refine g_ret1 rfl rfl ?_
    show Bo _ = Bo true
    first | rfl | simp
  · have hlen := hV.len
    refine g_v (v_move rfl) rfl ?_
    refine g_v (v_extract (v := ptr q 0) rfl rfl) rfl ?_
    refine g_v (v_extract (v := Bo true) rfl rfl) rfl ?_
    refine g_v (v_assign rfl) rfl ?_
    refine g_v (v_assign rfl) rfl ?_
    refine g_nil ?_
    refine g_seq ?_
    refine g_seq ?_
    refine g_reg ?_
    refine g_v (v_move rfl) rfl ?_
    refine g_v (v_not rfl) rfl ?_
    refine g_v (v_move rfl) rfl ?_
    refine g_gv1 rfl rfl rfl (v_move rfl) rfl ?_
    refine g_gv1 rfl rfl rfl (v_len Try.underlying23 rfl) rfl ?_
    refine g_gv1 rfl rfl rfl (v_gtr rfl rfl) rfl ?_
    refine g_v (v_or rfl rfl) rfl ?_
    refine g_nil ?_
    refine g_cond rfl (fun h37 => ?_) (fun h37 => ?_)
    · skip
      refine g_seq ?_
      refine g_reg ?_
      refine g_v (v_assign rfl) rfl ?_
      refine g_nil ?_
      refine g_ret1 rfl rfl ?_
      show Bo _ = Bo true
      first | rfl | simp
    · simp at h37
      refine g_skip ?_
      refine g_seq ?_
      refine g_reg ?_
      refine g_v (v_move rfl) rfl ?_
      refine g_v (v_move rfl) rfl ?_
      refine g_l (l_call (Pre := [vlt q S L n]) Try.call10 rfl (ct_T_blocks2 q S L n base G hV)) rfl ?_
      rintro _ _ ⟨so, co, bb, rfl, rfl⟩
      refine g_freeze so ?_
      refine g_v (v_move rfl) rfl ?_
      refine g_v (v_extract (v := sl so (oldL S L base).length co) rfl rfl) rfl ?_
      refine g_v (v_extract (v := Bo bb) rfl rfl) rfl ?_
      refine g_v (v_assign rfl) rfl ?_
      refine g_v (v_assign rfl) rfl ?_
      refine g_nil ?_
      refine g_seq ?_
      refine g_reg ?_
      refine g_v (v_move rfl) rfl ?_
      refine g_l (l_call (Pre := [vlt q S L n]) Try.call11 rfl (ct_vault_Vault_Copy q S L n (by omega))) rfl ?_
      rintro _ _ ⟨q1, rfl, rfl⟩
      refine g_v (v_assign rfl) rfl ?_
      refine g_nil ?_
      refine g_seq ?_
      refine g_reg ?_
      refine g_v (v_move rfl) rfl ?_
      refine g_v (v_move rfl) rfl ?_
      refine g_v (v_move rfl) rfl ?_
      refine g_v (v_move rfl) rfl ?_
      refine g_v (v_move rfl) rfl ?_
      refine g_l (l_call (Pre := [vlt q1 S L n, roL 2 sp (putR puts)]) Try.call12 rfl (ct_vault_Vault_Ingest q1 S L n base disk size puts sp cp G hV (by omega) hpd)) rfl ?_
      rintro v L' hv
      unfold vR at hv
      rcases hr : ingF S L n base disk size puts with e0 | ⟨S1, L1, n1, r1⟩ <;> rw [hr] at hv <;> obtain ⟨rfl, rfl⟩ := hv
      · have he0 := ingF_err hr
        refine g_v (v_move rfl) rfl ?_
        refine g_v (v_extract (v := I 0) rfl rfl) rfl ?_
        refine g_v (v_extract (v := errT 94 e0) rfl rfl) rfl ?_
        refine g_v (v_assign rfl) rfl ?_
        refine g_v (v_assign rfl) rfl ?_
        refine g_nil ?_
        refine g_seq ?_
        refine g_seq ?_
        refine g_reg ?_
        refine g_v (v_move rfl) rfl ?_
        refine g_v (v_ineq Try.underlying33 rfl) rfl ?_
        refine g_nil ?_
        refine g_cond rfl (fun h56 => ?_) (fun h56 => ?_)
        · skip
          refine g_seq ?_
          refine g_reg ?_
          refine g_v (v_move rfl) rfl ?_
          refine g_v (v_eql rfl rfl) rfl ?_
          refine g_v (v_assign rfl) rfl ?_
          refine g_nil ?_
          refine g_ret1 rfl rfl ?_
          show Bo _ = Bo true
          first | rfl | simp
        · simp at h56
          omega
      · obtain ⟨G1, root, hV1, _, e1, e2, e3, hdk, hsz, hpb, hg⟩ := ingF_ok hV hr
        subst e1
        have e3 := e3.symm
        subst e3
        have hfn := findP_last (L := L) (n := n) (q := ⟨n, disk, size, root⟩) (fun p hp => (hV.pts p hp).1.2) rfl
        refine g_v (v_move rfl) rfl ?_
        refine g_v (v_extract (v := I n) rfl rfl) rfl ?_
        refine g_v (v_extract (v := errT 94 0) rfl rfl) rfl ?_
        refine g_v (v_assign rfl) rfl ?_
        refine g_v (v_assign rfl) rfl ?_
        refine g_nil ?_
        refine g_seq ?_
        refine g_seq ?_
        refine g_reg ?_
        refine g_v (v_move rfl) rfl ?_
        refine g_v (v_ineq Try.underlying33 rfl) rfl ?_
        refine g_nil ?_
        refine g_cond rfl (fun h56 => ?_) (fun h56 => ?_)
        · simp at h56
        · skip
          refine g_skip ?_
          refine g_seq ?_
          refine g_reg ?_
          refine g_l (l_alloc (wL (w16 fun _ => [])) zeroW) rfl ?_
          rintro _ _ ⟨b18, rfl, rfl⟩
          refine g_nil ?_
          refine g_seq ?_
          refine g_seq ?_
          rw [show (fun _ : Nat => ([] : Bytes)) = (fun j : Nat => if j < 0 then (oldL S L base).getD j [] else []) from funext fun j => by simp]
          refine g_reg ?_
          refine g_v (v_assign rfl) rfl ?_
          refine g_nil ?_
          refine g_block ?_
          refine g_loop (α := Nat) (fun k => k ≤ (oldL S L base).length ∧ k ≤ 16 ∧ (k : Int) ≤ size) (fun k => U [(3, I size), (4, sl sp puts.length cp), (13, sl so (oldL S L base).length co), (15, ptr q1 0), (16, I n), (18, ptr b18 0), (19, I k)]) (fun k => pt b18 (.cells (wL (w16 (fun j : Nat => if j < k then (oldL S L base).getD j [] else []))) 36 (0, 0)) :: vlt q1 S1 (L ++ [(⟨n, disk, size, root⟩ : Pt)]) n1 :: roL 1 so (strR (oldL S L base)) :: acts s l f :: roL 2 sp (putR puts) :: F) (fun k => 16 - k) 0 (by simp; omega) [3, 4, 13, 15, 16, 18, 19] rfl rfl ?_
          rintro k ⟨hk1, hk2, hk3⟩
          refine g_seq ?_
          refine g_seq ?_
          refine g_reg ?_
          refine g_v (v_move rfl) rfl ?_
          refine g_v (v_move rfl) rfl ?_
          refine g_v (v_len Try.underlying28 rfl) rfl ?_
          refine g_v (v_lss rfl rfl) rfl ?_
          refine g_v (v_move rfl) rfl ?_
          refine g_gv rfl rfl (fun hg => v_move rfl) rfl rfl ?_
          refine g_gv rfl rfl (fun hg => v_move rfl) rfl rfl ?_
          refine g_gv rfl rfl (fun hg => v_lss rfl rfl) rfl rfl ?_
          refine g_v (v_and rfl rfl) rfl ?_
          refine g_nil ?_
          refine g_cond rfl (fun h67 => ?_) (fun h67 => ?_)
          · simp at h67
            have hko : k < (oldL S L base).length := by omega
            obtain ⟨y, hy⟩ : ∃ y, (oldL S L base)[k]? = some y := ⟨_, List.getElem?_eq_getElem hko⟩
            refine g_skip ?_
            refine g_seq ?_
            refine g_block ?_
            refine g_reg ?_
            refine g_v (v_move rfl) rfl ?_
            refine g_v (v_move rfl) rfl ?_
            refine g_v (v_move rfl) rfl ?_
            refine g_v (v_idxS k Try.underlying28 Try.sizeOf9 rfl rfl rfl hko (by rw [strR_len]; exact hko)) rfl ?_
            refine g_v (v_loadS0 (v := Str y) Try.isAgg9 rfl (strV_at hy) rfl) rfl ?_
            refine g_v (v_idxA (k) Try.underlying36 Try.sizeOf9 rfl rfl rfl (by omega)) rfl ?_
            refine g_l0 (l_store (wL (w16 (fun j : Nat => if j < (k + 1) then (oldL S L base).getD j [] else []))) Try.sizeOf9 rfl rfl rfl (by rw [wL_size, w16_len]; omega) (by rw [wL_set, Nat.zero_add, Nat.mul_one, w16_set _ (fun j : Nat => if j < (k + 1) then (oldL S L base).getD j [] else []) (by omega) (fun j hj => by
      by_cases h1 : j = k
      · subst h1; rw [if_pos (by omega), if_pos rfl, List.getD_eq_getElem?_getD, hy]; rfl
      · rw [if_neg h1]
        by_cases h2 : j < k
        · rw [if_pos (by omega), if_pos h2]
        · rw [if_neg (by omega), if_neg h2])])) ?_
            rintro _ _ rfl
            refine g_nil ?_
            refine g_blk ?_
            refine g_reg ?_
            refine g_v (v_move rfl) rfl ?_
            refine g_v (v_add rfl rfl (w64 (by omega))) rfl ?_
            refine g_v (v_assign rfl) rfl ?_
            refine g_nil ?_
            exact g_again (k + 1) ⟨by omega, by omega, by omega⟩ (by omega) [3, 4, 13, 15, 16, 18, 19] rfl rfl
          · simp at h67
            have hfin : ∀ j, (fun j : Nat => if j < k then (oldL S L base).getD j [] else []) j = (fun j : Nat => lastP (puts.take 0) j (if (j : Int) < size then (oldL S L base).getD j [] else [])) j := fun j => by
              show (if j < k then (oldL S L base).getD j [] else []) = (if (j : Int) < size then (oldL S L base).getD j [] else [])
              by_cases h1 : j < k
              · rw [if_pos h1, if_pos (by omega)]
              · rw [if_neg h1]
                split
                · rw [List.getD_eq_getElem?_getD, List.getElem?_eq_none (by omega)]; rfl
                · rfl
            refine g_exit rfl ?_
            refine g_seq ?_
            refine g_seq ?_
            rw [show (fun j : Nat => if j < k then (oldL S L base).getD j [] else []) = (fun j : Nat => lastP (puts.take 0) j (if (j : Int) < size then (oldL S L base).getD j [] else [])) from funext fun j => hfin j]
            refine g_reg ?_
            refine g_v (v_assign rfl) rfl ?_
            refine g_nil ?_
            refine g_block ?_
            refine g_loop (α := Nat) (fun k => k ≤ puts.length) (fun k => U [(3, I size), (4, sl sp puts.length cp), (13, sl so (oldL S L base).length co), (15, ptr q1 0), (16, I n), (18, ptr b18 0), (20, I k)]) (fun k => pt b18 (.cells (wL (w16 (fun j : Nat => lastP (puts.take k) j (if (j : Int) < size then (oldL S L base).getD j [] else [])))) 36 (0, 0)) :: vlt q1 S1 (L ++ [(⟨n, disk, size, root⟩ : Pt)]) n1 :: roL 1 so (strR (oldL S L base)) :: acts s l f :: roL 2 sp (putR puts) :: F) (fun k => puts.length - k) 0 (by simp) [3, 4, 13, 15, 16, 18, 20] rfl rfl ?_
            rintro k hk
            refine g_seq ?_
            refine g_seq ?_
            refine g_reg ?_
            refine g_v (v_move rfl) rfl ?_
            refine g_v (v_move rfl) rfl ?_
            refine g_v (v_len Try.underlying23 rfl) rfl ?_
            refine g_v (v_lss rfl rfl) rfl ?_
            refine g_nil ?_
            refine g_cond rfl (fun h79 => ?_) (fun h79 => ?_)
            · simp at h79
              have hkn : k < puts.length := by omega
              obtain ⟨p, hp⟩ : ∃ p, puts[k]? = some p := ⟨_, List.getElem?_eq_getElem hkn⟩
              have hpb1 := hpb p (List.mem_of_getElem? hp)
              refine g_skip ?_
              refine g_seq ?_
              refine g_block ?_
              refine g_drawZ (Lf := [roL 2 sp (putR puts)]) [(0, false), (1, false), (2, false), (3, false), (4, false), (5, false), (6, false), (7, false), (8, false), (9, false), (10, false)] 11 rfl (by kernel_rfl) (by kernel_rfl) rfl (by kernel_rfl) (by kernel_rfl) ?_
              refine d_v rfl (v_move rfl) rfl ?_
              refine d_v rfl (v_move rfl) rfl ?_
              refine d_v rfl (v_idxS k Try.underlying23 Try.sizeOf38 rfl rfl rfl hkn (by rw [putR_len]; exact hkn)) rfl ?_
              refine d_v rfl (v_fieldAdrS (j := k) 0 Try.underlying38 rfl rfl Try.sizeOf3 (by decide) rfl (by rw [putR_len]; exact hkn)) rfl ?_
              refine d_v rfl (v_loadS (v := I p.at_) Try.isAgg3 rfl (putR_at hp) rfl) rfl ?_
              refine d_v rfl (v_move rfl) rfl ?_
              refine d_v rfl (v_move rfl) rfl ?_
              refine d_v rfl (v_idxS k Try.underlying23 Try.sizeOf38 rfl rfl rfl hkn (by rw [putR_len]; exact hkn)) rfl ?_
              refine d_v rfl (v_fieldAdrS (j := k) 1 Try.underlying38 rfl rfl Try.sizeOf9 (by decide) rfl (by rw [putR_len]; exact hkn)) rfl ?_
              refine d_v rfl (v_loadS (v := Str p.data) Try.isAgg9 rfl (putR_at hp) rfl) rfl ?_
              refine d_v rfl (v_idxA (p.at_.toNat) Try.underlying36 Try.sizeOf9 rfl rfl (by omega) (by omega)) rfl ?_
              refine d_nil ?_
              refine g_l0 (l_store (wL (w16 (fun j : Nat => lastP (puts.take (k + 1)) j (if (j : Int) < size then (oldL S L base).getD j [] else [])))) Try.sizeOf9 rfl rfl rfl (by rw [wL_size, w16_len]; omega) (by rw [wL_set, Nat.zero_add, Nat.mul_one, w16_set _ (fun j : Nat => lastP (puts.take (k + 1)) j (if (j : Int) < size then (oldL S L base).getD j [] else [])) (by omega) (fun j hj => by
      rw [lastP_take hp]
      by_cases h1 : p.at_ = (j : Int)
      · rw [if_pos h1, if_pos (by omega)]
      · rw [if_neg h1, if_neg (show ¬ (j = p.at_.toNat) from by omega)])])) ?_
              rintro _ _ rfl
              refine g_nil ?_
              refine g_blk ?_
              refine g_reg ?_
              refine g_v (v_move rfl) rfl ?_
              refine g_v (v_add rfl rfl (w64 (by omega))) rfl ?_
              refine g_v (v_assign rfl) rfl ?_
              refine g_nil ?_
              exact g_again (k + 1) (by omega) (by omega) [3, 4, 13, 15, 16, 18, 20] rfl rfl
            · simp at h79
              obtain rfl : k = puts.length := by omega
              refine g_exit rfl ?_
              refine g_seq ?_
              refine g_reg ?_
              refine g_v (v_move rfl) rfl ?_
              refine g_v (v_move rfl) rfl ?_
              refine g_l (l_call (Pre := [vlt q1 S1 (L ++ [(⟨n, disk, size, root⟩ : Pt)]) n1]) Try.call10 rfl (ct_T_blocks q1 S1 (L ++ [(⟨n, disk, size, root⟩ : Pt)]) n1 n G1 hV1)) rfl ?_
              rintro v L' hv
              unfold RBlk at hv
              rw [hfn] at hv
              obtain ⟨s97, c97, rfl, rfl⟩ := hv
              refine g_freeze s97 ?_
              refine g_v (v_move rfl) rfl ?_
              refine g_v (v_extract (v := sl s97 (blk S1 (⟨n, disk, size, root⟩ : Pt)).length c97) rfl rfl) rfl ?_
              refine g_v (v_extract (v := Bo true) rfl rfl) rfl ?_
              refine g_v (v_assign rfl) rfl ?_
              refine g_v (v_assign rfl) rfl ?_
              refine g_nil ?_
              refine g_seq ?_
              refine g_arrOwn (T := 36) b18 (w16 (fun j : Nat => lastP (puts.take puts.length) j (if (j : Int) < size then (oldL S L base).getD j [] else []))) ?_
              refine g_ownTake (some ⟨b18, 0, none⟩) size.toNat ?_
              refine g_freeze (some ⟨b18, 0, none⟩) ?_
              rw [show (strR (w16 (fun j : Nat => lastP (puts.take puts.length) j (if (j : Int) < size then (oldL S L base).getD j [] else [])))).take size.toNat = strR (blk S1 (⟨n, disk, size, root⟩ : Pt)) by rw [← want_eq hV hT hsz hg disk n, List.take_length]; simp [strR, List.map_take]]
              refine g_reg ?_
              refine g_v (v_move rfl) rfl ?_
              refine g_v (v_move rfl) rfl ?_
              refine g_gv1 rfl rfl rfl (v_move rfl) rfl ?_
              refine g_gv1 rfl rfl rfl (v_move rfl) rfl ?_
              refine g_gv1 rfl rfl rfl (v_slArrHi (h := (blk S1 (⟨n, disk, size, root⟩ : Pt)).length) Try.underlying36 Try.sizeOf9 rfl rfl (by simp [blk]; omega) (by simp [blk]; omega)) rfl ?_
              refine g_gl rfl rfl rfl (l_call (Pre := [roL 1 s97 (strR (blk S1 (⟨n, disk, size, root⟩ : Pt))), roL 1 (some ⟨b18, 0, none⟩) (strR (blk S1 (⟨n, disk, size, root⟩ : Pt)))]) Try.call13 rfl (ct_R_SameTexts (blk S1 (⟨n, disk, size, root⟩ : Pt)) (blk S1 (⟨n, disk, size, root⟩ : Pt)) s97 (some ⟨b18, 0, none⟩) c97 16 (by simp [blk]; omega))) rfl ?_
              rintro _ _ ⟨rfl, rfl⟩
              refine g_v (v_and rfl rfl) rfl ?_
              refine g_v (v_assign rfl) rfl ?_
              refine g_nil ?_
              refine g_ret1 rfl rfl ?_
              show Bo _ = Bo true
              first | rfl | simp

end Go.Proofs.Ythdjckbjjfiopac
