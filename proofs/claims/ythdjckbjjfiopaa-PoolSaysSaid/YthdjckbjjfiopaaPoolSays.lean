/- The walk through the law PoolSays. No condition. -/
import Derived.Test.YthdjckbjjfiopaaRIx
import Derived.Test.YthdjckbjjfiopaaLight2
import Derived.Test.YthdjckbjjfiopaaArea5
import Derived.Test.YthdjckbjjfiopaaAreaLaw
namespace Go.Proofs.Ythdjckbjjfiopaa
open Go.Sl Go.Proofs
set_option linter.unusedVariables false
set_option linter.unusedSimpArgs false
theorem eq_Block (a b : Bk) (w : World) : (Op.equal 122 (.agg [Str a.1, I a.2].toArray) (.agg [Str b.1, I b.2].toArray)).run Try.prog w = .ok (decide (a = b)) w := by
  have h1 := run_eqS (P := Try.prog) (w := w) (a := a.1) (b := b.1) 9998 Try.underlying9
  have h2 := run_eqI (P := Try.prog) (w := w) (a := a.2) (b := b.2) 9998 Try.underlying3
  show (Op.equalIn (9999 + 1) _ _ _).run _ _ = _
  unfold Op.equalIn
  simp [underlying, program, Sem.run, Try.underlying122, Try.stoodInHeld122, part, Try.isAgg9, Try.isAgg3, h1, h2]
  obtain ⟨a1, a2⟩ := a
  obtain ⟨b1, b2⟩ := b
  by_cases e1 : a1 = b1 <;> by_cases e2 : a2 = b2 <;> simp [e1, e2]
theorem xC_ldB {X : XM} {k o : Nat} {T : TypeId} {f : Nat × Nat} (hk : k < 41) (ho : o = k * 2) : ∀ j v, ([Str (X.B k).1, I (X.B k).2] : List Value)[j]? = some v → objCell (.cells (xC X) T f) (o + j) = some v := fun j v h => by
  match j, h with
  | 0, h => simp at h; subst h; exact xC_data hk (by omega)
  | 1, h => simp at h; subst h; exact xC_refs hk (by omega)
  | j + 2, h => simp at h
def okX (m : Nat) (X : XM) : Prop := ∀ k, k ≤ 40 → 0 ≤ (X.B k).2 ∧ (X.B k).2 ≤ m
theorem okX_bt {m : Nat} {X : XM} (h : okX m X) (hm : m ≤ 1000000) : okB (bt X) := ⟨bt_sup X, fun q x e => by
  unfold bt at e
  split at e
  · rename_i hq
    injection e with e
    subst e
    have := h q.toNat (by omega)
    have := hq.2
    omega
  · cases e⟩
theorem okX_mono {m n : Nat} {X : XM} (h : okX m X) (hm : m ≤ n) : okX n X := fun k hk => by have := h k hk; omega
theorem okX_Z : okX 0 xZ := fun k hk => ⟨by simp [xZ], by simp [xZ]⟩
theorem okX_set {m : Nat} {X : XM} (h : okX m X) (k : Nat) (y : Bk) (hy : 0 ≤ y.2 ∧ y.2 ≤ m) : okX m ⟨fset X.B k y, X.N⟩ := fun j hj => by
  show 0 ≤ (fset X.B k y j).2 ∧ (fset X.B k y j).2 ≤ m
  unfold fset
  split
  · exact hy
  · exact h j hj
theorem okX_put {m : Nat} {X : XM} (h : okX m X) (d : Bytes) : okX (m + 1) (putX X d) := by
  unfold putX
  split
  · exact okX_mono h (by omega)
  · split
    · exact okX_mono h (by omega)
    · exact okX_set (okX_mono h (by omega)) _ _ (by simp; omega)
theorem okX_ref {m : Nat} {X : XM} (h : okX m X) (q : Int) {n : Int} (hn : n = 1 ∨ n = -1) : okX (m + 1) (refX X q n) := by
  unfold refX
  split
  · rename_i hq
    refine okX_set (okX_mono h (by omega)) _ _ ?_
    have h1 := h q.toNat (by omega)
    have h2 := hq.2
    split
    · simp; omega
    · simp only; omega
  · exact okX_mono h (by omega)
theorem hw_of {m : Nat} {X : XM} (h : okX m X) (hm : m ≤ 1000000) (q : Int) {n : Int} (hn : n = 1 ∨ n = -1) : ∀ x, bt X q = some x → -9223372036854775808 ≤ x.2 + n ∧ x.2 + n ≤ 9223372036854775807 := fun x hx => by
  have h1 := (okX_bt h hm).2 q x hx
  have h2 : x.2 ≤ m := by
    unfold bt at hx
    split at hx
    · rename_i hq; injection hx with hx; subst hx; exact (h q.toNat (by omega)).2
    · cases hx
  omega
theorem putE_nn (B : BkT) (d : Bytes) : 0 ≤ (putE B d).2 := by
  unfold putE
  split
  · simp
  · split <;> simp
theorem refE_nn (B : BkT) (q : Int) : 0 ≤ refE B q := by unfold refE; split <;> simp
theorem getP_nn (B : BkT) (q : Int) : 0 ≤ (getP B q).2 := by unfold getP; split <;> simp
theorem pair_self (a b : Int) : (decide (a = a) && decide (b = b)) = true := by simp
theorem light_s {l : List ActM} {m : Int} {x : ActM} (h : lightA l m = true) (hx : x ∈ l) : x.s.length ≤ 100 := by
  unfold lightA at h
  simp only [Bool.and_eq_true, List.all_eq_true] at h
  have := h.2 x hx
  unfold lightA1 at this
  simp only [Bool.and_eq_true, decide_eq_true_eq] at this
  exact this.1.1.1
def oldS : Bytes := [111, 108, 100]
def pz : BkT := pset (fun _ => none) 1 (some ([120], 1))
theorem pz_ok : okB pz := ⟨sup_set (sup_none 40) (fun _ => by decide), fun q x h => by
  unfold pz pset at h
  split at h
  · injection h with h; subst h; decide
  · cases h⟩
theorem bt_Z : bt xZ = fun _ => none := funext fun q => by unfold bt; rw [if_neg]; intro h; exact h.2 rfl
theorem bldIx (w : World) : (Instr.build 129 #[]).run Try.prog w = .ok (.agg (xC xZ)) w := by
  have e : (Instr.build 129 #[]).run Try.prog w = (zeroValue 129).run Try.prog w := by
    simp [Instr.build, Try.zeroValue129, Try.runUnderlying129, Instr.fill, cells_agg]
  rw [e, Try.zeroValue129]
  have e2 : Try.zeroCells129 = xC xZ := by kernel_rfl
  rw [e2]

theorem ct_L_pools  (F : List HProp) : Ct Try.prog 74 [] ([] ++ F) (R1 (Bo true) F) := by
  show Ct Try.prog 74 [] (F) _
  refine Ct.of Try.func74 rfl 32 Try.ntmps74 (by simp) fun w0 => ?_
  refine g_seq ?_
  refine g_reg ?_
  refine g_v (v_assign rfl) rfl ?_
  refine g_nil ?_
  refine g_seq ?_
  refine g_reg ?_
  refine g_l (l_call (Pre := []) Try.call75 rfl (ct_pool_New)) rfl ?_
  rintro _ _ ⟨p, rfl, rfl⟩
  refine g_v (v_assign rfl) rfl ?_
  refine g_nil ?_
  refine g_seq ?_
  refine g_reg ?_
  refine g_v (v_move rfl) rfl ?_
  refine g_l (l_call (Pre := [plb p (fun _ => none)]) Try.call76 rfl (ct_pool_Pool_Put p (fun _ => none) [120] ⟨sup_none 40, fun q x h => by cases h⟩ (by decide))) rfl ?_
  rintro _ _ ⟨rfl, rfl⟩
  rw [show putE (fun _ => none) [120] = (1, 0) by decide, show putB (fun _ => none) [120] = pz from rfl]
  refine g_v (v_move rfl) rfl ?_
  refine g_v (v_extract (v := I 1) rfl rfl) rfl ?_
  refine g_v (v_extract (v := errV 0) rfl rfl) rfl ?_
  refine g_v (v_assign rfl) rfl ?_
  refine g_v (v_assign rfl) rfl ?_
  refine g_nil ?_
  refine g_seq ?_
  refine g_reg ?_
  refine g_v (v_move rfl) rfl ?_
  refine g_v (v_move rfl) rfl ?_
  refine g_l (l_call (Pre := [plb p pz]) Try.call82 rfl (ct_pool_Pool_Get p pz 1 pz_ok)) rfl ?_
  rintro _ _ ⟨rfl, rfl⟩
  rw [show getP pz 1 = ([120], 0) by decide]
  refine g_v (v_move rfl) rfl ?_
  refine g_v (v_extract (v := Str [120]) rfl rfl) rfl ?_
  refine g_v (v_extract (v := errV 0) rfl rfl) rfl ?_
  refine g_v (v_assign rfl) rfl ?_
  refine g_v (v_assign rfl) rfl ?_
  refine g_nil ?_
  refine g_seq ?_
  refine g_reg ?_
  refine g_v (v_move rfl) rfl ?_
  refine g_l (l_call (Pre := []) Try.call14 rfl (ct_L_same (0) (0) (by decide))) rfl ?_
  rintro _ _ ⟨rfl, rfl⟩
  refine g_v (v_move rfl) rfl ?_
  refine g_gv1 rfl rfl rfl (v_move rfl) rfl ?_
  refine g_gl rfl rfl rfl (l_call (Pre := []) Try.call14 rfl (ct_L_same (0) (0) (by decide))) rfl ?_
  rintro _ _ ⟨rfl, rfl⟩
  refine g_v (v_and rfl rfl) rfl ?_
  refine g_v (v_move rfl) rfl ?_
  refine g_gv1 rfl rfl rfl (v_move rfl) rfl ?_
  refine g_gv1 rfl rfl rfl (v_eql rfl rfl) rfl ?_
  refine g_v (v_and rfl rfl) rfl ?_
  refine g_v (v_move rfl) rfl ?_
  refine g_gv1 rfl rfl rfl (v_move rfl) rfl ?_
  refine g_gv1 rfl rfl rfl (v_seql rfl rfl) rfl ?_
  refine g_v (v_and rfl rfl) rfl ?_
  refine g_v (v_assign rfl) rfl ?_
  refine g_nil ?_
  refine g_ret1 rfl rfl ?_
  show Bo _ = Bo true
  simp

theorem ct_L_PoolSays (l : List ActM) (f : Nat → ActZ) (s : Option Addr) (cap : Nat) (hl : l.length ≤ 9223372036854775807) (hla : ∀ x ∈ l, x.puts.length ≤ 9223372036854775807 ∧ x.changes.length ≤ 9223372036854775807) (F : List HProp) : Ct Try.prog 8 [sl s l.length cap] ([acts s l f] ++ F) (R1 (Bo true) (acts s l f :: F)) := by
  show Ct Try.prog 8 [sl s l.length cap] (acts s l f :: F) _
  refine Ct.of Try.func8 rfl 164 Try.ntmps8 (by simp) fun w0 => ?_
  refine g_seq ?_
  refine g_reg ?_
  refine g_v (v_assign rfl) rfl ?_
  refine g_nil ?_
  refine g_seq ?_
  refine g_reg ?_
  refine g_l (l_call (Pre := []) Try.call74 rfl (ct_L_pools)) rfl ?_
  rintro _ _ ⟨rfl, rfl⟩
  refine g_v (v_assign rfl) rfl ?_
  refine g_nil ?_
  refine g_seq ?_
  refine g_seq ?_
  refine g_reg ?_
  refine g_v (v_move rfl) rfl ?_
  refine g_v (v_not rfl) rfl ?_
  refine g_v (v_move rfl) rfl ?_
  refine g_gv1 rfl rfl rfl (v_move rfl) rfl ?_
  refine g_gl rfl rfl rfl (l_call (Pre := [acts s l f]) Try.call28 rfl (ct_L_LightActs l f s cap 120 hl hla)) rfl ?_
  rintro _ _ ⟨rfl, rfl⟩
  refine g_gv1 rfl rfl rfl (v_not rfl) rfl ?_
  refine g_v (v_or rfl rfl) rfl ?_
  refine g_nil ?_
  refine g_cond rfl (fun h27 => ?_) (fun h27 => ?_)
  · skip
    refine g_seq ?_
    refine g_reg ?_
    refine g_v (v_move rfl) rfl ?_
    refine g_v (v_assign rfl) rfl ?_
    refine g_nil ?_
    refine g_ret1 rfl rfl ?_
    exact rfl
  · have h27' : lightA l 120 = true := by simpa using h27
    have hll : l.length ≤ 120 := by unfold lightA at h27'; simp at h27'; omega
    refine g_skip ?_
    refine g_seq ?_
    refine g_reg ?_
    refine g_l (l_call (Pre := []) Try.call75 rfl (ct_pool_New)) rfl ?_
    rintro _ _ ⟨p0, rfl, rfl⟩
    rw [← bt_Z]
    refine g_v (v_assign rfl) rfl ?_
    refine g_nil ?_
    refine g_seq ?_
    refine g_reg ?_
    refine g_v (v_build rfl bldIx) rfl ?_
    refine g_l (l_box (xC xZ) rfl rfl) rfl ?_
    rintro _ _ ⟨b31, rfl, rfl⟩
    refine g_v (v_assign rfl) rfl ?_
    refine g_nil ?_
    refine g_seq ?_
    refine g_seq ?_
    refine g_reg ?_
    refine g_v (v_assign rfl) rfl ?_
    refine g_nil ?_
    refine g_block ?_
    refine g_loop (α := Nat × Nat × XM) (fun z => z.1 ≤ l.length ∧ okX (2 * z.1) z.2.2) (fun z => U [(0, sl s l.length cap), (4, ptr z.2.1 0), (5, ptr b31 0), (6, I z.1)]) (fun z => plb z.2.1 (bt z.2.2) :: ixr b31 z.2.2 :: acts s l f :: F) (fun z => l.length - z.1) (0, p0, xZ) ⟨by simp, okX_Z⟩ [0, 4, 5, 6] rfl rfl ?_
    rintro ⟨i, p, X⟩ ⟨hi, hok⟩
    simp only [] at hi hok ⊢
    refine g_seq ?_
    refine g_seq ?_
    refine g_reg ?_
    refine g_v (v_move rfl) rfl ?_
    refine g_v (v_move rfl) rfl ?_
    refine g_v (v_len Try.underlying39 rfl) rfl ?_
    refine g_v (v_lss rfl rfl) rfl ?_
    refine g_nil ?_
    refine g_cond rfl (fun h35 => ?_) (fun h35 => ?_)
    · simp at h35
      have hkn : i < l.length := by omega
      obtain ⟨x, hx⟩ : ∃ x, l[i]? = some x := ⟨_, List.getElem?_eq_getElem hkn⟩
      have hkr : i < (actR l f).length := by rw [actR_len]; exact hkn
      have hB := okX_bt hok (by omega)
      have hxs : x.s.length ≤ 1000000 := Nat.le_trans (light_s h27' (List.mem_of_getElem? hx)) (by decide)
      refine g_skip ?_
      refine g_seq ?_
      refine g_block ?_
      refine g_seq ?_
      refine g_reg ?_
      refine g_v (v_move rfl) rfl ?_
      refine g_v (v_move rfl) rfl ?_
      refine g_v (v_idxS i Try.underlying39 Try.sizeOf52 rfl rfl rfl hkn hkr) rfl ?_
      refine g_v (v_loadAS (row := encAct x (f i)) Try.isAgg52 Try.sizeOf52 rfl (actR_at hx) rfl) rfl ?_
      refine g_l (l_alloc #[Str [], Str [], I 0, I 0, I 0, I 0, .int .u64 0, sl none 0 0, sl none 0 0] Try.zeroValue52) rfl ?_
      rintro _ _ ⟨b7, rfl, rfl⟩
      refine g_l0 (l_storeA (cs := #[Str [], Str [], I 0, I 0, I 0, I 0, .int .u64 0, sl none 0 0, sl none 0 0]) (vs := encAct x (f i)) (encAct x (f i)).toArray Try.sizeOf52 rfl rfl rfl rfl (by simp) (splice_all rfl)) ?_
      rintro _ _ rfl
      refine g_nil ?_
      refine g_seq ?_
      refine g_reg ?_
      refine g_v (v_assign rfl) rfl ?_
      refine g_nil ?_
      refine g_seq ?_
      refine g_seq ?_
      refine g_reg ?_
      refine g_v (v_fieldAddr 0 Try.underlying52 rfl rfl Try.sizeOf9 (by decide) rfl) rfl ?_
      refine g_v (v_load (v := Str x.kind) Try.isAgg9 rfl rfl) rfl ?_
      refine g_nil ?_
      refine g_block ?_
      refine g_seq ?_
      refine g_reg ?_
      refine g_v (v_seql rfl rfl) rfl ?_
      refine g_v (v_assign rfl) rfl ?_
      refine g_nil ?_
      refine g_cut (α := Nat × XM) (fun z => okX (2 * i + 2) z.2) (fun z => U [(0, sl s l.length cap), (4, ptr z.1 0), (5, ptr b31 0), (6, I i), (7, ptr b7 0), (8, Bo true)]) (fun z => plb z.1 (bt z.2) :: ixr b31 z.2 :: pt b7 (.cells (encAct x (f i)).toArray 52 (0, 0)) :: acts s l f :: F) ?_ ?_
      · skip
        refine g_cond rfl (fun h56 => ?_) (fun h56 => ?_)
        · skip
          refine g_seq ?_
          refine g_reg ?_
          refine g_v (v_move rfl) rfl ?_
          refine g_v (v_fieldAddr 1 Try.underlying52 rfl rfl Try.sizeOf9 (by decide) rfl) rfl ?_
          refine g_v (v_load (v := Str x.s) Try.isAgg9 rfl rfl) rfl ?_
          refine g_l (l_call (Pre := [plb p (bt X)]) Try.call76 rfl (ct_pool_Pool_Put p (bt X) x.s hB hxs)) rfl ?_
          rintro _ _ ⟨rfl, rfl⟩
          rw [← bt_put]
          refine g_v (v_move rfl) rfl ?_
          refine g_v (v_extract (v := I (putE (bt X) x.s).1) rfl rfl) rfl ?_
          refine g_v (v_extract (v := errV (putE (bt X) x.s).2) rfl rfl) rfl ?_
          refine g_v (v_assign rfl) rfl ?_
          refine g_v (v_assign rfl) rfl ?_
          refine g_nil ?_
          refine g_seq ?_
          refine g_reg ?_
          refine g_v (v_move rfl) rfl ?_
          refine g_v (v_fieldAddr 1 Try.underlying52 rfl rfl Try.sizeOf9 (by decide) rfl) rfl ?_
          refine g_v (v_load (v := Str x.s) Try.isAgg9 rfl rfl) rfl ?_
          refine g_l (l_call (Pre := [ixr b31 X]) Try.call77 rfl (ct_R_PutBlock b31 X x.s hxs)) rfl ?_
          rintro _ _ ⟨rfl, rfl⟩
          refine g_v (v_move rfl) rfl ?_
          refine g_v (v_extract (v := I (putE (bt X) x.s).1) rfl rfl) rfl ?_
          refine g_v (v_extract (v := I (putE (bt X) x.s).2) rfl rfl) rfl ?_
          refine g_v (v_assign rfl) rfl ?_
          refine g_v (v_assign rfl) rfl ?_
          refine g_nil ?_
          refine g_reg ?_
          refine g_v (v_move rfl) rfl ?_
          refine g_v (v_move rfl) rfl ?_
          refine g_v (v_eql rfl rfl) rfl ?_
          refine g_v (v_move rfl) rfl ?_
          refine g_gv1 rfl rfl (by simp) (v_move rfl) rfl ?_
          refine g_gv1 rfl rfl (by simp) (v_move rfl) rfl ?_
          refine g_gl rfl rfl (by simp) (l_call (Pre := []) Try.call14 rfl (ct_L_same ((putE (bt X) x.s).2) ((putE (bt X) x.s).2) (putE_nn _ _))) rfl ?_
          rintro _ _ ⟨rfl, rfl⟩
          refine g_v (v_and rfl rfl) rfl ?_
          refine g_v (v_assign rfl) rfl ?_
          refine g_nil ?_
          rw [pair_self]
          exact g_here (p, putX X x.s) (okX_mono (okX_put hok _) (by omega)) [0, 4, 5, 6, 7, 8] rfl rfl
        · skip
          refine g_seq ?_
          refine g_reg ?_
          refine g_v (v_seql rfl rfl) rfl ?_
          refine g_v (v_assign rfl) rfl ?_
          refine g_nil ?_
          refine g_cond rfl (fun h80 => ?_) (fun h80 => ?_)
          · skip
            refine g_draw (Lf := pt b7 (.cells (encAct x (f i)).toArray 52 (0, 0)) :: F) [(0, false), (1, false), (2, false), (4, false), (5, false), (6, false), (3, true), (7, true), (8, true), (9, false)] (by kernel_rfl) (by kernel_rfl) rfl (by kernel_rfl) ?_
            refine d_v rfl (v_move rfl) rfl ?_
            refine d_v rfl (v_fieldAddr 2 Try.underlying52 rfl rfl Try.sizeOf3 (by decide) rfl) rfl ?_
            refine d_v rfl (v_load (v := I x.a) Try.isAgg3 rfl rfl) rfl ?_
            refine d_v rfl (v_move rfl) rfl ?_
            refine d_v rfl (v_fieldAddr 2 Try.underlying52 rfl rfl Try.sizeOf3 (by decide) rfl) rfl ?_
            refine d_v rfl (v_load (v := I x.a) Try.isAgg3 rfl rfl) rfl ?_
            refine d_l rfl (l_call (Pre := [plb p (bt X)]) Try.call78 rfl (ct_pool_Pool_Ref p (bt X) x.a hB)) rfl ?_
            rintro _ _ ⟨rfl, rfl⟩
            rw [← bt_ref]
            refine d_l rfl (l_call (Pre := [ixr b31 X]) Try.call79 rfl (ct_R_RefBlock b31 X x.a 1 (hw_of hok (by omega) _ (.inl rfl)))) rfl ?_
            rintro _ _ ⟨rfl, rfl⟩
            refine d_l rfl (l_call (Pre := []) Try.call14 rfl (ct_L_same (refE (bt X) x.a) (refE (bt X) x.a) (refE_nn _ _))) rfl ?_
            rintro _ _ ⟨rfl, rfl⟩
            refine d_v rfl (v_assign rfl) rfl ?_
            refine d_nil ?_
            rw [decide_eq_true (rfl : refE (bt X) x.a = refE (bt X) x.a)]
            exact g_here (p, refX X x.a 1) (okX_mono (okX_ref hok _ (.inl rfl)) (by omega)) [0, 4, 5, 6, 7, 8] rfl rfl
          · skip
            refine g_seq ?_
            refine g_reg ?_
            refine g_v (v_seql rfl rfl) rfl ?_
            refine g_v (v_assign rfl) rfl ?_
            refine g_nil ?_
            refine g_cond rfl (fun h91 => ?_) (fun h91 => ?_)
            · skip
              refine g_draw (Lf := pt b7 (.cells (encAct x (f i)).toArray 52 (0, 0)) :: F) [(0, false), (1, false), (2, false), (4, false), (5, false), (6, false), (3, true), (7, true), (8, true), (9, false)] (by kernel_rfl) (by kernel_rfl) rfl (by kernel_rfl) ?_
              refine d_v rfl (v_move rfl) rfl ?_
              refine d_v rfl (v_fieldAddr 2 Try.underlying52 rfl rfl Try.sizeOf3 (by decide) rfl) rfl ?_
              refine d_v rfl (v_load (v := I x.a) Try.isAgg3 rfl rfl) rfl ?_
              refine d_v rfl (v_move rfl) rfl ?_
              refine d_v rfl (v_fieldAddr 2 Try.underlying52 rfl rfl Try.sizeOf3 (by decide) rfl) rfl ?_
              refine d_v rfl (v_load (v := I x.a) Try.isAgg3 rfl rfl) rfl ?_
              refine d_l rfl (l_call (Pre := [plb p (bt X)]) Try.call80 rfl (ct_pool_Pool_Unref p (bt X) x.a hB)) rfl ?_
              rintro _ _ ⟨rfl, rfl⟩
              rw [← bt_ref]
              refine d_l rfl (l_call (Pre := [ixr b31 X]) Try.call79 rfl (ct_R_RefBlock b31 X x.a (-1) (hw_of hok (by omega) _ (.inr rfl)))) rfl ?_
              rintro _ _ ⟨rfl, rfl⟩
              refine d_l rfl (l_call (Pre := []) Try.call14 rfl (ct_L_same (refE (bt X) x.a) (refE (bt X) x.a) (refE_nn _ _))) rfl ?_
              rintro _ _ ⟨rfl, rfl⟩
              refine d_v rfl (v_assign rfl) rfl ?_
              refine d_nil ?_
              rw [decide_eq_true (rfl : refE (bt X) x.a = refE (bt X) x.a)]
              exact g_here (p, refX X x.a (-1)) (okX_mono (okX_ref hok _ (.inr rfl)) (by omega)) [0, 4, 5, 6, 7, 8] rfl rfl
            · skip
              refine g_seq ?_
              refine g_reg ?_
              refine g_v (v_move rfl) rfl ?_
              refine g_l (l_call (Pre := [plb p (bt X)]) Try.call81 rfl (ct_pool_Pool_Copy p (bt X))) rfl ?_
              rintro _ _ ⟨q, rfl, rfl⟩
              refine g_v (v_assign rfl) rfl ?_
              refine g_nil ?_
              refine g_seq ?_
              refine g_reg ?_
              refine g_v (v_move rfl) rfl ?_
              refine g_l (l_call (Pre := [plb p (bt X)]) Try.call76 rfl (ct_pool_Pool_Put p (bt X) oldS hB (by decide))) rfl ?_
              rintro _ _ ⟨rfl, rfl⟩
              rw [← bt_put]
              refine g_v (v_move rfl) rfl ?_
              refine g_v (v_extract (v := I (putE (bt X) oldS).1) rfl rfl) rfl ?_
              refine g_v (v_extract (v := errV (putE (bt X) oldS).2) rfl rfl) rfl ?_
              refine g_nil ?_
              refine g_seq ?_
              refine g_reg ?_
              refine g_v (v_move rfl) rfl ?_
              refine g_v (v_fieldAddr 2 Try.underlying52 rfl rfl Try.sizeOf3 (by decide) rfl) rfl ?_
              refine g_v (v_load (v := I x.a) Try.isAgg3 rfl rfl) rfl ?_
              refine g_l (l_call (Pre := [plb p (bt (putX X oldS))]) Try.call80 rfl (ct_pool_Pool_Unref p (bt (putX X oldS)) x.a (okX_bt (okX_put hok _) (by omega)))) rfl ?_
              rintro _ _ ⟨rfl, rfl⟩
              refine g_nil ?_
              refine g_reg ?_
              refine g_v (v_move rfl) rfl ?_
              refine g_v (v_assign rfl) rfl ?_
              refine g_nil ?_
              exact g_here (q, X) (okX_mono hok (by omega)) [0, 4, 5, 6, 7, 8] rfl rfl
      rintro ⟨p, X'⟩ hok'
      simp only [] at hok' ⊢
      have hB' := okX_bt hok' (by omega)
      refine g_blk ?_
      refine g_seq ?_
      refine g_reg ?_
      refine g_v (v_move rfl) rfl ?_
      refine g_v (v_fieldAddr 2 Try.underlying52 rfl rfl Try.sizeOf3 (by decide) rfl) rfl ?_
      refine g_v (v_load (v := I x.a) Try.isAgg3 rfl rfl) rfl ?_
      refine g_l (l_call (Pre := [plb p (bt X')]) Try.call82 rfl (ct_pool_Pool_Get p (bt X') x.a hB')) rfl ?_
      rintro _ _ ⟨rfl, rfl⟩
      refine g_v (v_move rfl) rfl ?_
      refine g_v (v_extract (v := Str (getP (bt X') x.a).1) rfl rfl) rfl ?_
      refine g_v (v_extract (v := errV (getP (bt X') x.a).2) rfl rfl) rfl ?_
      refine g_v (v_assign rfl) rfl ?_
      refine g_v (v_assign rfl) rfl ?_
      refine g_nil ?_
      refine g_seq ?_
      refine g_reg ?_
      refine g_v (v_move rfl) rfl ?_
      refine g_v (v_fieldAddr 2 Try.underlying52 rfl rfl Try.sizeOf3 (by decide) rfl) rfl ?_
      refine g_v (v_load (v := I x.a) Try.isAgg3 rfl rfl) rfl ?_
      refine g_l (l_call (Pre := [ixr b31 X']) Try.call83 rfl (ct_R_GetBlock b31 X' x.a)) rfl ?_
      rintro _ _ ⟨rfl, rfl⟩
      refine g_v (v_move rfl) rfl ?_
      refine g_v (v_extract (v := Str (getP (bt X') x.a).1) rfl rfl) rfl ?_
      refine g_v (v_extract (v := I (getP (bt X') x.a).2) rfl rfl) rfl ?_
      refine g_v (v_assign rfl) rfl ?_
      refine g_v (v_assign rfl) rfl ?_
      refine g_nil ?_
      refine g_seq ?_
      refine g_seq ?_
      refine g_reg ?_
      refine g_v (v_move rfl) rfl ?_
      refine g_v (v_not rfl) rfl ?_
      refine g_v (v_move rfl) rfl ?_
      refine g_gv1 rfl rfl (by simp) (v_move rfl) rfl ?_
      refine g_gv1 rfl rfl (by simp) (v_move rfl) rfl ?_
      refine g_gv1 rfl rfl (by simp) (v_sneq rfl rfl) rfl ?_
      refine g_v (v_or rfl rfl) rfl ?_
      refine g_v (v_move rfl) rfl ?_
      refine g_gv1 rfl rfl (by simp) (v_move rfl) rfl ?_
      refine g_gv1 rfl rfl (by simp) (v_move rfl) rfl ?_
      refine g_gl rfl rfl (by simp) (l_call (Pre := []) Try.call14 rfl (ct_L_same ((getP (bt X') x.a).2) ((getP (bt X') x.a).2) (getP_nn _ _))) rfl ?_
      rintro _ _ ⟨rfl, rfl⟩
      refine g_gv1 rfl rfl (by simp) (v_not rfl) rfl ?_
      refine g_v (v_or rfl rfl) rfl ?_
      refine g_v (v_move rfl) rfl ?_
      refine g_gv1 rfl rfl (by simp) (v_move rfl) rfl ?_
      refine g_gl rfl rfl (by simp) (l_call (Pre := [plb p (bt X')]) Try.call85 rfl (ct_pool_Numbers p (bt X'))) rfl ?_
      rintro _ _ ⟨s131, c131, rfl, rfl⟩
      refine g_freeze s131 ?_
      refine g_gv1 rfl rfl (by simp) (v_move rfl) rfl ?_
      refine g_gl rfl rfl (by simp) (l_call (Pre := [ixr b31 X']) Try.call86 rfl (ct_R_Blocks b31 X' (fun k hk => (hok' k hk).1))) rfl ?_
      rintro _ _ ⟨s133, c133, rfl, rfl⟩
      refine g_freeze s133 ?_
      refine g_gl rfl rfl (by simp) (l_call (Pre := [roL 1 s131 (intR (ids 40 (bt X'))), roL 1 s133 (intR (ids 40 (bt X')))]) Try.call84 rfl (ct_R_SameNumbers (ids 40 (bt X')) (ids 40 (bt X')) s131 s133 c131 c133 (Nat.le_trans (ids_len_le 40 _) (by decide)))) rfl ?_
      rintro _ _ ⟨rfl, rfl⟩
      refine g_gv1 rfl rfl (by simp) (v_not rfl) rfl ?_
      refine g_v (v_or rfl rfl) rfl ?_
      refine g_nil ?_
      refine g_cond rfl (fun h136 => ?_) (fun h136 => ?_)
      · simp at h136
      · skip
        refine g_skip ?_
        refine g_seq ?_
        refine g_reg ?_
        refine g_v (v_move rfl) rfl ?_
        refine g_l (l_call (Pre := [plb p (bt X')]) Try.call85 rfl (ct_pool_Numbers p (bt X'))) rfl ?_
        rintro _ _ ⟨s138, c138, rfl, rfl⟩
        refine g_v (v_assign rfl) rfl ?_
        refine g_nil ?_
        refine g_openP p (bt X') ?_
        intro r
        refine g_seq ?_
        refine g_reg ?_
        refine g_v (v_assign rfl) rfl ?_
        refine g_nil ?_
        refine g_block ?_
        refine g_loop (α := Nat) (fun k => k ≤ (ids 40 (bt X')).length) (fun k => U [(0, sl s l.length cap), (4, ptr p 0), (5, ptr b31 0), (6, I i), (18, sl s138 (ids 40 (bt X')).length c138), (19, I k)]) (fun k => owL 3 1 s138 c138 (intR (ids 40 (bt X'))) :: pt p (.cells #[.map (some r)] 137 (0, 0)) :: mp r (tb encB 40 (bt X')) :: ixr b31 X' :: acts s l f :: F) (fun k => (ids 40 (bt X')).length - k) 0 (by simp) [0, 4, 5, 6, 18, 19] rfl rfl ?_
        intro k hk
        refine g_seq ?_
        refine g_seq ?_
        refine g_reg ?_
        refine g_v (v_move rfl) rfl ?_
        refine g_v (v_move rfl) rfl ?_
        refine g_v (v_len Try.underlying90 rfl) rfl ?_
        refine g_v (v_lss rfl rfl) rfl ?_
        refine g_nil ?_
        refine g_cond rfl (fun h142 => ?_) (fun h142 => ?_)
        · have hil := ids_len_le 40 (bt X')
          have hki : k < (ids 40 (bt X')).length := by simpa using h142
          obtain ⟨q, hq⟩ : ∃ q, (ids 40 (bt X'))[k]? = some q := ⟨_, List.getElem?_eq_getElem hki⟩
          obtain ⟨hqr, hqs⟩ := mem_ids.1 (List.mem_of_getElem? hq)
          have hbq : bt X' q = some (X'.B q.toNat) := by
            by_cases h : (1 ≤ q ∧ q ≤ 40) ∧ (X'.B q.toNat).2 ≠ 0
            · exact bt_some h
            · rw [bt_none h] at hqs; cases hqs
          have hlk : (lk (tb encB 40 (bt X')) q).getD (.agg #[Str [], I 0]) = encB (X'.B q.toNat) := by rw [lkB (bt_sup X'), hbq]; rfl
          refine g_skip ?_
          refine g_seq ?_
          refine g_block ?_
          refine g_seq ?_
          refine g_drawL [(0, false), (1, false), (2, false), (3, false), (4, false), (5, false), (6, false), (7, false), (8, false), (9, false), (10, false), (11, false), (12, false), (13, false), (14, false), (15, false), (16, false), (17, false), (18, false)] (by kernel_rfl) (by kernel_rfl) rfl (by kernel_rfl) ?_
          refine d_v rfl (v_move rfl) rfl ?_
          refine d_v rfl (v_nilCheck rfl) rfl ?_
          refine d_v rfl (v_fieldAddr 0 Try.underlying137 rfl rfl Try.sizeOf135 (by decide) rfl) rfl ?_
          refine d_v rfl (v_load (v := .map (some r)) Try.isAgg135 rfl rfl) rfl ?_
          refine d_v rfl (v_move rfl) rfl ?_
          refine d_v rfl (v_move rfl) rfl ?_
          refine d_v rfl (v_idxS k Try.underlying90 Try.sizeOf3 rfl rfl rfl hki (by rw [intR_len]; exact hki)) rfl ?_
          refine d_v rfl (v_loadS0 Try.isAgg3 rfl (intR_at hq) rfl) rfl ?_
          refine d_v rfl (v_lookup (v := encB (X'.B q.toNat)) Try.underlying135 Try.underlying3 Try.zeroValue122 rfl rfl hlk) rfl ?_
          refine d_v rfl (v_move rfl) rfl ?_
          refine d_v rfl (v_move rfl) rfl ?_
          refine d_v rfl (v_move rfl) rfl ?_
          refine d_v rfl (v_idxS k Try.underlying90 Try.sizeOf3 rfl rfl rfl hki (by rw [intR_len]; exact hki)) rfl ?_
          refine d_v rfl (v_loadS0 Try.isAgg3 rfl (intR_at hq) rfl) rfl ?_
          refine d_v rfl (v_nilCheck rfl) rfl ?_
          refine d_v rfl (v_fieldAddr 0 Try.underlying129 rfl rfl Try.sizeOf123 (by decide) rfl) rfl ?_
          refine d_v rfl (v_idxA q.toNat Try.underlying123 Try.sizeOf122 rfl rfl (by omega) (by omega)) rfl ?_
          refine d_v rfl (v_loadA (vs := [Str (X'.B q.toNat).1, I (X'.B q.toNat).2]) Try.isAgg122 Try.sizeOf122 rfl rfl (xC_ldB (by omega) (by omega))) rfl ?_
          refine d_v rfl (v_aneq Try.eqGuardType122 rfl rfl (eq_Block (X'.B q.toNat) (X'.B q.toNat))) rfl ?_
          refine d_nil ?_
          refine g_cond rfl (fun h163 => ?_) (fun h163 => ?_)
          · simp at h163
          · skip
            refine g_skip ?_
            refine g_blk ?_
            refine g_reg ?_
            refine g_v (v_move rfl) rfl ?_
            refine g_v (v_add rfl rfl (w64 (by omega))) rfl ?_
            refine g_v (v_assign rfl) rfl ?_
            refine g_nil ?_
            exact g_again (k + 1) (by omega) (by omega) [0, 4, 5, 6, 18, 19] rfl rfl
        · refine g_shutP r p (bt X') (.refl _) ?_
          refine g_exit rfl ?_
          refine g_blk ?_
          refine g_reg ?_
          refine g_v (v_move rfl) rfl ?_
          refine g_v (v_add rfl rfl (w64 (by omega))) rfl ?_
          refine g_v (v_assign rfl) rfl ?_
          refine g_nil ?_
          exact g_again (i + 1, p, X') ⟨by simp; omega, okX_mono hok' (by simp only []; omega)⟩ (by simp; omega) [0, 4, 5, 6] rfl rfl
    · skip
      refine g_exit rfl ?_
      refine g_seq ?_
      refine g_reg ?_
      refine g_v (v_assign rfl) rfl ?_
      refine g_nil ?_
      refine g_ret1 rfl rfl ?_
      exact rfl

end Go.Proofs.Ythdjckbjjfiopaa
