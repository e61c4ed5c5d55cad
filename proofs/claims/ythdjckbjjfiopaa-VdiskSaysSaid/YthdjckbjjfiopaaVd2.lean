/- Walks through package vdisk: new disks, what is found, what is marked, writing. No condition. -/
import Derived.Test.YthdjckbjjfiopaaVd
namespace Go.Proofs.Ythdjckbjjfiopaa
open Go.Sl Go.Proofs
set_option linter.unusedVariables false
set_option linter.unusedSimpArgs false
def vdNew (n : Int) : VdM := ⟨n, fun _ => [], fun _ => false, 0, 1, []⟩
def RNewG (ok : Prop) (Ev : Int → Value) (A : Nat → HProp) (F : List HProp) : Value → List HProp → Prop := fun v L' => (¬ ok ∧ v = .tuple #[.pointer none, Ev 1] ∧ L' = F) ∨ (ok ∧ ∃ b, v = .tuple #[ptr b 0, Ev 0] ∧ L' = A b :: F)
section
variable {c : Cx} {E : Env} {L : List HProp} {K : List KI}
theorem g_retNoneG {Ev : Int → Value} {ok : Prop} {A : Nat → HProp} {F : List HProp} {vs : List Value} (hR : c.R = RNewG ok Ev A F) (hr : resOf E c.fn.results.toList = some vs) (hn : ¬ ok) (hv : tup vs = .tuple #[.pointer none, Ev 1]) [S : Sub L F] : G c (.code .ret :: K) E L :=
  fun a w hE hS => wp_ret (kq_ret (res_fpost hr hE (S.sat hS) (by rw [hR]; exact .inl ⟨hn, hv, rfl⟩)))
theorem g_retSomeG {Ev : Int → Value} {ok : Prop} {A : Nat → HProp} {F : List HProp} {vs : List Value} (b : Nat) (hR : c.R = RNewG ok Ev A F) (hr : resOf E c.fn.results.toList = some vs) (hn : ok) (hv : tup vs = .tuple #[ptr b 0, Ev 0]) [S : Sub L (A b :: F)] : G c (.code .ret :: K) E L :=
  fun a w hE hS => wp_ret (kq_ret (res_fpost hr hE (S.sat hS) (by rw [hR]; exact .inr ⟨hn, b, hv, rfl⟩)))
end
/-- which snapshot has this number: its place; the length if none -/
def findN (l : List SnapM) (id : Int) : Nat := l.findIdx fun s => decide (s.id = id)
def findI (l : List SnapM) (id : Int) : Int := if findN l id < l.length then (findN l id : Int) else -1
theorem findI_hit {l : List SnapM} {id : Int} {k : Nat} {s : SnapM} (hno : ∀ j, j < k → ∀ t, l[j]? = some t → t.id ≠ id) (hs : l[k]? = some s) (he : s.id = id) : findI l id = k := by
  obtain ⟨hk, hk2⟩ := List.getElem?_eq_some_iff.1 hs
  have e : findN l id = k := by
    unfold findN
    rw [List.findIdx_eq hk]
    refine ⟨by rw [hk2]; simpa using he, fun j hj => ?_⟩
    simpa using hno j hj _ (List.getElem?_eq_getElem (by omega))
  unfold findI
  rw [e, if_pos hk]
theorem findI_none {l : List SnapM} {id : Int} (hno : ∀ j, j < l.length → ∀ t, l[j]? = some t → t.id ≠ id) : findI l id = -1 := by
  unfold findI
  rw [if_neg]
  intro h
  have := List.findIdx_getElem (w := h)
  simp at this
  exact hno _ h _ (List.getElem?_eq_getElem h) this
theorem findI_pos {l : List SnapM} {id : Int} (h : ¬ findI l id < 0) : ∃ i s, findI l id = ((i : Nat) : Int) ∧ l[i]? = some s ∧ s.id = id ∧ i < l.length := by
  unfold findI at h ⊢
  split at h
  · rename_i hl
    refine ⟨findN l id, l[findN l id], by rw [if_pos hl], List.getElem?_eq_getElem hl, ?_, hl⟩
    have := List.findIdx_getElem (w := hl)
    simp only [decide_eq_true_eq] at this
    exact this
  · omega
theorem findI_lt {l : List SnapM} {id : Int} : findI l id < (l.length : Int) := by unfold findI; split <;> omega
theorem findI_ge {l : List SnapM} {id : Int} : -1 ≤ findI l id := by unfold findI; split <;> omega
theorem gl_at {gl : List (SnapM × Loc)} {l : List SnapM} (h : gl.map Prod.fst = l) {i : Nat} {s : SnapM} (hs : l[i]? = some s) : ∃ q, gl[i]? = some (s, q) := by
  subst h
  simp only [List.getElem?_map, Option.map_eq_some_iff] at hs
  obtain ⟨⟨y, q⟩, h1, rfl⟩ := hs
  exact ⟨q, h1⟩
theorem gl_len {gl : List (SnapM × Loc)} {l : List SnapM} (h : gl.map Prod.fst = l) : gl.length = l.length := by subst h; simp
def fgD (D : VdM) : VdM := ⟨D.size, D.blocks, fun _ => false, D.time + 1, D.next, D.snaps⟩
def areaM (m : Nat → Bool) (fr mn : Int) : Nat → Bool := fun p => m p || decide (fr ≤ (p : Int) ∧ (p : Int) < fr + mn)
theorem ofM_area (m : Nat → Bool) (fr mn : Int) : ofM (orM (mk (ofM m)) (mk [⟨fr, mn⟩])) = ofM (areaM m fr mn) := ofM_congr fun p hp => by
  unfold orM areaM
  rw [mk_ofM m hp]
  simp [mk]
def markD (D : VdM) (fr mn : Int) : VdM := if 0 < mn then ⟨D.size, D.blocks, areaM D.dirty fr mn, D.time, D.next, D.snaps⟩ else D
def chkS (s : Bytes) : Int := if 6 < s.length then 2 else 0
def wrE (D : VdM) (n : Int) (s : Bytes) : Int := if n < 0 ∨ D.size ≤ n then 1 else chkS s
def wrD (D : VdM) (n : Int) (s : Bytes) : VdM := if wrE D n s = 0 then ⟨D.size, upd D.blocks n.toNat s, areaM D.dirty n 1, D.time, D.next, D.snaps⟩ else D

theorem ct_vdisk_New (n : Int) (F : List HProp) : Ct Try.prog 43 [I n] ([] ++ F) (RNewG (1 ≤ n ∧ n ≤ 16) errV (fun b => vdk b (vdNew n)) F) := by
  show Ct Try.prog 43 [I n] (F) _
  refine Ct.of Try.func43 rfl 14 Try.ntmps43 (by simp) fun w0 => ?_
  refine g_seq ?_
  refine g_reg ?_
  refine g_v (v_assign rfl) rfl ?_
  refine g_v (v_assign rfl) rfl ?_
  refine g_nil ?_
  refine g_seq ?_
  refine g_seq ?_
  refine g_reg ?_
  refine g_v (v_move rfl) rfl ?_
  refine g_v (v_lss rfl rfl) rfl ?_
  refine g_v (v_move rfl) rfl ?_
  refine g_gv rfl rfl (fun hg => v_move rfl) rfl rfl ?_
  refine g_gv rfl rfl (fun hg => v_gtr rfl rfl) rfl rfl ?_
  refine g_v (v_or rfl rfl) rfl ?_
  refine g_nil ?_
  refine g_cond rfl (fun h9 => ?_) (fun h9 => ?_)
  · simp at h9
    refine g_seq ?_
    refine g_reg ?_
    refine g_v (v_iface Try.underlying172 rfl rfl) rfl ?_
    refine g_v (v_assign rfl) rfl ?_
    refine g_v (v_assign rfl) rfl ?_
    refine g_nil ?_
    exact g_retNoneG rfl rfl (by omega) rfl
  · simp at h9
    refine g_skip ?_
    refine g_seq ?_
    refine g_reg ?_
    refine g_v (v_move rfl) rfl ?_
    refine g_v (v_build rfl (bld193_0_4 _ rfl _ rfl)) rfl ?_
    refine g_l (l_box (vdC n (fun _ => []) (sl none 0 0) 0 1 (sl none 0 0)) rfl rfl) rfl ?_
    rintro _ _ ⟨b13, rfl, rfl⟩
    refine g_v (v_assign rfl) rfl ?_
    refine g_v (v_assign rfl) rfl ?_
    refine g_nil ?_
    refine g_nilro 2 (rowsA (ofM fun _ => false)) rfl ?_
    refine g_nilown 196 20 (snapR []) rfl ?_
    refine g_dirts0 ?_
    refine g_shutV (vdC n (fun _ => []) (sl none 0 0) 0 1 (sl none 0 0)) (rowsA (ofM fun _ => false)) (snapR []) none 0 none 0 ([]) b13 ((vdNew n)) rfl rfl rfl rfl ?_
    exact g_retSomeG b13 rfl rfl (by omega) rfl

theorem ct_vdisk_Size (b : Nat) (D : VdM) (F : List HProp) : Ct Try.prog 47 [ptr b 0] ([vdk b (D)] ++ F) (R1 (I D.size) (vdk b (D) :: F)) := by
  show Ct Try.prog 47 [ptr b 0] (vdk b (D) :: F) _
  refine Ct.of Try.func47 rfl 7 Try.ntmps47 (by simp) fun w0 => ?_
  refine g_openV b (D) ?_
  intro sd cd ss cs gl hgl
  refine g_seq ?_
  refine g_reg ?_
  refine g_v (v_assign rfl) rfl ?_
  refine g_nil ?_
  refine g_seq ?_
  refine g_reg ?_
  refine g_v (v_move rfl) rfl ?_
  refine g_v (v_nilCheck rfl) rfl ?_
  refine g_v (v_fieldAddr 0 Try.underlying193 rfl rfl Try.sizeOf3 (by decide) rfl) rfl ?_
  refine g_v (v_load Try.isAgg3 rfl rfl) rfl ?_
  refine g_v (v_assign rfl) rfl ?_
  refine g_nil ?_
  refine g_shutV (vdC ((D).size) ((D).blocks) (sl sd (ofM (D).dirty).length cd) ((D).time) ((D).next) (sl ss gl.length cs)) (rowsA (ofM (D).dirty)) (snapR gl) sd cd ss cs (gl) b ((D)) rfl rfl rfl hgl ?_
  exact g_ret1 rfl rfl rfl

theorem ct_vdisk_Forget (b : Nat) (D : VdM) (ht : -9223372036854775808 ≤ D.time ∧ D.time < 9223372036854775807) (F : List HProp) : Ct Try.prog 136 [ptr b 0] ([vdk b (D)] ++ F) (R1 (.tuple #[]) (vdk b (fgD D) :: F)) := by
  show Ct Try.prog 136 [ptr b 0] (vdk b (D) :: F) _
  refine Ct.of Try.func136 rfl 12 Try.ntmps136 (by simp) fun w0 => ?_
  refine g_openV b (D) ?_
  intro sd cd ss cs gl hgl
  refine g_seq ?_
  refine g_reg ?_
  refine g_v (v_move rfl) rfl ?_
  refine g_v (v_nilCheck rfl) rfl ?_
  refine g_v (v_fieldAddr 18 Try.underlying193 rfl rfl Try.sizeOf3 (by decide) rfl) rfl ?_
  refine g_v (v_load (v := I D.time) Try.isAgg3 rfl rfl) rfl ?_
  refine g_v (v_add rfl rfl (w64 (by omega))) rfl ?_
  refine g_v (v_nilCheck rfl) rfl ?_
  refine g_v (v_fieldAddr 18 Try.underlying193 rfl rfl Try.sizeOf3 (by decide) rfl) rfl ?_
  refine g_l0 (l_store (vdC ((D).size) ((D).blocks) (sl sd (ofM (D).dirty).length cd) (D.time + 1) ((D).next) (sl ss gl.length cs)) Try.sizeOf3 rfl rfl rfl (by rw [vdC_len]; decide) (vdC_time _ _ _ _ _ _ _)) ?_
  rintro _ _ rfl
  refine g_nil ?_
  refine g_reg ?_
  refine g_v (v_move rfl) rfl ?_
  refine g_v (v_nilCheck rfl) rfl ?_
  refine g_v (v_fieldAddr 17 Try.underlying193 rfl rfl Try.sizeOf22 (by decide) rfl) rfl ?_
  refine g_l0 (l_store (vdC ((D).size) ((D).blocks) (sl none 0 0) (D.time + 1) ((D).next) (sl ss gl.length cs)) Try.sizeOf22 rfl rfl rfl (by rw [vdC_len]; decide) (vdC_dirty _ _ _ _ _ _ _)) ?_
  rintro _ _ rfl
  refine g_nil ?_
  refine g_nilro 2 (rowsA (ofM fun _ => false)) rfl ?_
  refine g_shutV (vdC ((D).size) ((D).blocks) (sl none 0 0) (D.time + 1) ((D).next) (sl ss gl.length cs)) (rowsA (ofM fun _ => false)) (snapR gl) none 0 ss cs (gl) b ((fgD D)) rfl rfl rfl hgl ?_
  exact g_end1 rfl rfl rfl

theorem ct_vdisk_Check (s : Bytes) (F : List HProp) : Ct Try.prog 183 [Str s] ([] ++ F) (R1 (errV (chkS s)) F) := by
  show Ct Try.prog 183 [Str s] (F) _
  refine Ct.of Try.func183 rfl 7 Try.ntmps183 (by simp) fun w0 => ?_
  refine g_seq ?_
  refine g_reg ?_
  refine g_v (v_assign rfl) rfl ?_
  refine g_nil ?_
  refine g_seq ?_
  refine g_seq ?_
  refine g_reg ?_
  refine g_v (v_move rfl) rfl ?_
  refine g_v (v_slen Try.underlying9 rfl) rfl ?_
  refine g_v (v_gtr rfl rfl) rfl ?_
  refine g_nil ?_
  refine g_cond rfl (fun h5 => ?_) (fun h5 => ?_)
  · simp at h5
    refine g_seq ?_
    refine g_reg ?_
    refine g_v (v_iface Try.underlying172 rfl rfl) rfl ?_
    refine g_v (v_assign rfl) rfl ?_
    refine g_nil ?_
    refine g_ret1 rfl rfl ?_
    show _ = errV _
    rw [show chkS s = 2 by unfold chkS; rw [if_pos (by omega)]]
    rfl
  · simp at h5
    refine g_skip ?_
    refine g_seq ?_
    refine g_reg ?_
    refine g_v (v_assign rfl) rfl ?_
    refine g_nil ?_
    refine g_ret1 rfl rfl ?_
    show _ = errV _
    rw [show chkS s = 0 by unfold chkS; rw [if_neg (by omega)]]
    rfl

theorem ct_vdisk_find1 (x : SnapM × Loc) (q : Nat) (id : Int) (F : List HProp) : Ct Try.prog 187 [.agg (encS x).toArray, ptr q 0] ([pt q (.cells #[I id] 3 (0, 0))] ++ F) (R1 (Bo (decide (x.1.id = id))) (pt q (.cells #[I id] 3 (0, 0)) :: F)) := by
  show Ct Try.prog 187 [.agg (encS x).toArray, ptr q 0] (pt q (.cells #[I id] 3 (0, 0)) :: F) _
  refine Ct.of Try.func187 rfl 8 Try.ntmps187 (by simp) fun w0 => ?_
  refine g_seq ?_
  refine g_reg ?_
  refine g_l (l_box (encS x).toArray rfl rfl) rfl ?_
  rintro _ _ ⟨b2, rfl, rfl⟩
  refine g_v (v_assign rfl) rfl ?_
  refine g_nil ?_
  refine g_seq ?_
  refine g_reg ?_
  refine g_v (v_fieldAddr 0 Try.underlying196 rfl rfl Try.sizeOf3 (by decide) rfl) rfl ?_
  refine g_v (v_load (v := I x.1.id) Try.isAgg3 rfl rfl) rfl ?_
  refine g_v (v_load (v := I id) Try.isAgg3 rfl rfl) rfl ?_
  refine g_v (v_eql rfl rfl) rfl ?_
  refine g_v (v_assign rfl) rfl ?_
  refine g_nil ?_
  refine g_ret1 rfl rfl ?_
  exact rfl

theorem ct_IndexFunc_snap (gl : List (SnapM × Loc)) (ss : Option Addr) (cs q : Nat) (id : Int) (hgl : gl.length ≤ 1000000) (F : List HProp) : Ct Try.prog 186 [sl ss gl.length cs, .func (.func 187) #[] #[ptr q 0]] ([owL 196 20 ss cs (snapR gl), pt q (.cells #[I id] 3 (0, 0))] ++ F) (R1 (I (findI (gl.map Prod.fst) id)) (owL 196 20 ss cs (snapR gl) :: pt q (.cells #[I id] 3 (0, 0)) :: F)) := by
  show Ct Try.prog 186 [sl ss gl.length cs, .func (.func 187) #[] #[ptr q 0]] (owL 196 20 ss cs (snapR gl) :: pt q (.cells #[I id] 3 (0, 0)) :: F) _
  refine Ct.of Try.func186 rfl 19 Try.ntmps186 (by simp) fun w0 => ?_
  refine g_seq ?_
  refine g_reg ?_
  refine g_v (v_assign rfl) rfl ?_
  refine g_nil ?_
  refine g_seq ?_
  refine g_seq ?_
  refine g_reg ?_
  refine g_v (v_move rfl) rfl ?_
  refine g_v (v_len Try.underlying191 rfl) rfl ?_
  refine g_v (v_move rfl) rfl ?_
  refine g_nil ?_
  refine g_block ?_
  refine g_loop (α := Nat) (fun k => k ≤ gl.length ∧ ∀ j, j < k → ∀ t, (gl.map Prod.fst)[j]? = some t → t.id ≠ id) (fun k => U [(0, sl ss gl.length cs), (1, .func (.func 187) #[] #[ptr q 0]), (7, I gl.length), (8, I k)]) (fun _ => owL 196 20 ss cs (snapR gl) :: pt q (.cells #[I id] 3 (0, 0)) :: F) (fun k => gl.length - k) 0 ⟨by simp, fun j hj => absurd hj (by omega)⟩ [0, 1, 7, 8] rfl rfl ?_
  rintro k ⟨hk, hno⟩
  refine g_seq ?_
  refine g_reg ?_
  refine g_v (v_lss rfl rfl) rfl ?_
  refine g_nil ?_
  refine g_seq ?_
  refine g_cond rfl (fun h9 => ?_) (fun h9 => ?_)
  · simp at h9
    have hkn : k < gl.length := by omega
    obtain ⟨x, hx⟩ : ∃ x, gl[k]? = some x := ⟨_, List.getElem?_eq_getElem hkn⟩
    have hkr : k < (snapR gl).length := by rw [snapR_len]; exact hkn
    have hx2 : (gl.map Prod.fst)[k]? = some x.1 := by simp [hx]
    refine g_skip ?_
    refine g_seq ?_
    refine g_block ?_
    refine g_seq ?_
    refine g_reg ?_
    refine g_v (v_move rfl) rfl ?_
    refine g_v (v_assign rfl) rfl ?_
    refine g_nil ?_
    refine g_seq ?_
    refine g_reg ?_
    refine g_v (v_move rfl) rfl ?_
    refine g_v (v_move rfl) rfl ?_
    refine g_v (v_move rfl) rfl ?_
    refine g_v (v_idxS k Try.underlying191 Try.sizeOf196 rfl rfl rfl hkn hkr) rfl ?_
    refine g_v (v_loadAS (row := encS x) Try.isAgg196 Try.sizeOf196 rfl (snapR_at hx) rfl) rfl ?_
    refine g_l (l_callV (fi := []) (cap := [ptr q 0]) (Pre := [pt q (.cells #[I id] 3 (0, 0))]) Try.call187 rfl rfl (ct_vdisk_find1 x q id)) rfl ?_
    rintro _ _ ⟨rfl, rfl⟩
    refine g_nil ?_
    refine g_cond rfl (fun h16 => ?_) (fun h16 => ?_)
    · simp at h16
      refine g_seq ?_
      refine g_reg ?_
      refine g_v (v_move rfl) rfl ?_
      refine g_v (v_assign rfl) rfl ?_
      refine g_nil ?_
      refine g_ret1 rfl rfl ?_
      show I _ = I _
      rw [findI_hit hno hx2 h16]
    · simp at h16
      refine g_skip ?_
      refine g_blk ?_
      refine g_reg ?_
      refine g_v (v_add rfl rfl (w64 (by omega))) rfl ?_
      refine g_v (v_move rfl) rfl ?_
      refine g_nil ?_
      exact g_again (k + 1) ⟨by omega, fun j hj t ht => by
          rcases Nat.lt_or_ge j k with h | h
          · exact hno j h t ht
          · obtain rfl : j = k := by omega
            rw [hx2] at ht
            injection ht with ht
            rw [← ht]
            exact h16⟩ (by omega) [0, 1, 7, 8] rfl rfl
  · simp at h9
    obtain rfl : k = gl.length := by omega
    refine g_exit rfl ?_
    refine g_seq ?_
    refine g_reg ?_
    refine g_v (v_assign rfl) rfl ?_
    refine g_nil ?_
    refine g_ret1 rfl rfl ?_
    show I _ = I _
    rw [findI_none (by simpa using hno)]

theorem ct_vdisk_find (b : Nat) (D : VdM) (id : Int) (hs : D.snaps.length ≤ 1000000) (F : List HProp) : Ct Try.prog 142 [ptr b 0, I id] ([vdk b (D)] ++ F) (R1 (I (findI D.snaps id)) (vdk b (D) :: F)) := by
  show Ct Try.prog 142 [ptr b 0, I id] (vdk b (D) :: F) _
  refine Ct.of Try.func142 rfl 11 Try.ntmps142 (by simp) fun w0 => ?_
  refine g_openV b (D) ?_
  intro sd cd ss cs gl hgl
  have hln := gl_len hgl
  refine g_seq ?_
  refine g_reg ?_
  refine g_l (l_box #[I id] rfl rfl) rfl ?_
  rintro _ _ ⟨b3, rfl, rfl⟩
  refine g_v (v_assign rfl) rfl ?_
  refine g_nil ?_
  refine g_seq ?_
  refine g_reg ?_
  refine g_v (v_move rfl) rfl ?_
  refine g_v (v_nilCheck rfl) rfl ?_
  refine g_v (v_fieldAddr 20 Try.underlying193 rfl rfl Try.sizeOf191 (by decide) rfl) rfl ?_
  refine g_v (v_load (v := sl ss gl.length cs) Try.isAgg191 rfl rfl) rfl ?_
  refine g_v (v_makeFunc rfl rfl) rfl ?_
  refine g_l (l_call (Pre := [owL 196 20 ss cs (snapR gl), pt b3 (.cells #[I id] 3 (0, 0))]) Try.call186 rfl (ct_IndexFunc_snap gl ss cs b3 id (by omega))) rfl ?_
  rintro _ _ ⟨rfl, rfl⟩
  rw [hgl]
  refine g_v (v_assign rfl) rfl ?_
  refine g_nil ?_
  refine g_shutV (vdC ((D).size) ((D).blocks) (sl sd (ofM (D).dirty).length cd) ((D).time) ((D).next) (sl ss gl.length cs)) (rowsA (ofM (D).dirty)) (snapR gl) sd cd ss cs (gl) b ((D)) rfl rfl rfl hgl ?_
  exact g_ret1 rfl rfl rfl

theorem ct_vdisk_mark (b : Nat) (D : VdM) (fr mn : Int) (h0 : 0 ≤ fr) (h1 : fr + mn ≤ 16) (F : List HProp) : Ct Try.prog 184 [ptr b 0, I fr, I mn] ([vdk b (D)] ++ F) (R1 (.tuple #[]) (vdk b (markD D fr mn) :: F)) := by
  show Ct Try.prog 184 [ptr b 0, I fr, I mn] (vdk b (D) :: F) _
  refine Ct.of Try.func184 rfl 20 Try.ntmps184 (by simp) fun w0 => ?_
  refine g_openV b (D) ?_
  intro sd cd ss cs gl hgl
  refine g_seq ?_
  refine g_reg ?_
  refine g_v (v_move rfl) rfl ?_
  refine g_v (v_gtr rfl rfl) rfl ?_
  refine g_nil ?_
  refine g_cond rfl (fun h7 => ?_) (fun h7 => ?_)
  · simp at h7
    refine g_reg ?_
    refine g_v (v_move rfl) rfl ?_
    refine g_v (v_move rfl) rfl ?_
    refine g_v (v_nilCheck rfl) rfl ?_
    refine g_v (v_fieldAddr 17 Try.underlying193 rfl rfl Try.sizeOf22 (by decide) rfl) rfl ?_
    refine g_v (v_load (v := sl sd (ofM D.dirty).length cd) Try.isAgg22 rfl rfl) rfl ?_
    refine g_v (v_move rfl) rfl ?_
    refine g_v (v_move rfl) rfl ?_
    refine g_v (v_build rfl (bld170_0_1 _ rfl _ rfl)) rfl ?_
    refine g_l (l_buildSlice (rowsA [⟨fr, mn⟩]) Try.underlying22 Try.sizeOf170 Try.zeroValue170 rfl rfl rfl (by simp [rowsA, encA]) (by decide) (by decide)) rfl ?_
    rintro _ _ ⟨b16, rfl, rfl⟩
    refine g_freeze (some ⟨b16, 0, none⟩) ?_
    refine g_l (l_call (Pre := [roL 2 sd (rowsA (ofM D.dirty)), roL 2 (some ⟨b16, 0, none⟩) (rowsA [⟨fr, mn⟩])]) Try.call20 rfl (ct_area_Union (ofM D.dirty) [⟨fr, mn⟩] sd (some ⟨b16, 0, none⟩) cd 1 (ofM_len _) (by simp) (okV_ofM _) (by simp [okV]; omega))) rfl ?_
    rintro _ _ ⟨s17, c17, rfl, rfl⟩
    rw [ofM_area]
    refine g_freeze s17 ?_
    refine g_v (v_nilCheck rfl) rfl ?_
    refine g_v (v_fieldAddr 17 Try.underlying193 rfl rfl Try.sizeOf22 (by decide) rfl) rfl ?_
    refine g_l0 (l_store (vdC ((D).size) ((D).blocks) (sl s17 (ofM (areaM D.dirty fr mn)).length c17) ((D).time) ((D).next) (sl ss gl.length cs)) Try.sizeOf22 rfl rfl rfl (by rw [vdC_len]; decide) (vdC_dirty _ _ _ _ _ _ _)) ?_
    rintro _ _ rfl
    refine g_nil ?_
    refine g_shutV (vdC ((D).size) ((D).blocks) (sl s17 (ofM (areaM D.dirty fr mn)).length c17) ((D).time) ((D).next) (sl ss gl.length cs)) (rowsA (ofM (areaM D.dirty fr mn))) (snapR gl) s17 c17 ss cs (gl) b ((markD D fr mn)) (by unfold markD; rw [if_pos h7]) (by unfold markD; rw [if_pos h7]) rfl (by unfold markD; rw [if_pos h7]; exact hgl) ?_
    exact g_end1 rfl rfl rfl
  · simp at h7
    refine g_skip ?_
    refine g_shutV (vdC ((D).size) ((D).blocks) (sl sd (ofM (D).dirty).length cd) ((D).time) ((D).next) (sl ss gl.length cs)) (rowsA (ofM (D).dirty)) (snapR gl) sd cd ss cs (gl) b ((D)) rfl rfl rfl hgl ?_
    rw [show vdk b D = vdk b (markD D fr mn) by unfold markD; rw [if_neg (by omega)]]
    exact g_end1 rfl rfl rfl

theorem ct_vdisk_Write (b : Nat) (D : VdM) (n : Int) (s : Bytes) (hz : D.size ≤ 16) (F : List HProp) : Ct Try.prog 133 [ptr b 0, I n, Str s] ([vdk b (D)] ++ F) (R1 (errV (wrE D n s)) (vdk b (wrD D n s) :: F)) := by
  show Ct Try.prog 133 [ptr b 0, I n, Str s] (vdk b (D) :: F) _
  refine Ct.of Try.func133 rfl 33 Try.ntmps133 (by simp) fun w0 => ?_
  refine g_openV b (D) ?_
  intro sd cd ss cs gl hgl
  refine g_seq ?_
  refine g_reg ?_
  refine g_v (v_assign rfl) rfl ?_
  refine g_nil ?_
  refine g_seq ?_
  refine g_seq ?_
  refine g_reg ?_
  refine g_v (v_move rfl) rfl ?_
  refine g_v (v_lss rfl rfl) rfl ?_
  refine g_v (v_move rfl) rfl ?_
  refine g_gv rfl rfl (fun hg => v_move rfl) rfl rfl ?_
  refine g_gv rfl rfl (fun hg => v_move rfl) rfl rfl ?_
  refine g_gv rfl rfl (fun hg => v_nilCheck rfl) rfl rfl ?_
  refine g_gv rfl rfl (fun hg => v_fieldAddr 0 Try.underlying193 rfl rfl Try.sizeOf3 (by decide) rfl) rfl rfl ?_
  refine g_gv rfl rfl (fun hg => v_load (v := I D.size) Try.isAgg3 rfl rfl) rfl rfl ?_
  refine g_gv rfl rfl (fun hg => v_geq rfl rfl) rfl rfl ?_
  refine g_v (v_or rfl rfl) rfl ?_
  refine g_nil ?_
  refine g_cond rfl (fun h17 => ?_) (fun h17 => ?_)
  · simp at h17
    have hw : wrE D n s = 1 := by unfold wrE; rw [if_pos (by omega)]
    refine g_seq ?_
    refine g_reg ?_
    refine g_v (v_iface Try.underlying172 rfl rfl) rfl ?_
    refine g_v (v_assign rfl) rfl ?_
    refine g_nil ?_
    refine g_shutV (vdC ((D).size) ((D).blocks) (sl sd (ofM (D).dirty).length cd) ((D).time) ((D).next) (sl ss gl.length cs)) (rowsA (ofM (D).dirty)) (snapR gl) sd cd ss cs (gl) b ((D)) rfl rfl rfl hgl ?_
    rw [show vdk b D = vdk b (wrD D n s) by unfold wrD; rw [if_neg (by omega)]]
    exact g_ret1 rfl rfl (by rw [hw]; rfl)
  · simp at h17
    have hw : wrE D n s = chkS s := by unfold wrE; rw [if_neg (by omega)]
    refine g_skip ?_
    refine g_seq ?_
    refine g_reg ?_
    refine g_v (v_move rfl) rfl ?_
    refine g_l (l_call (Pre := []) Try.call183 rfl (ct_vdisk_Check s)) rfl ?_
    rintro _ _ ⟨rfl, rfl⟩
    refine g_v (v_assign rfl) rfl ?_
    refine g_nil ?_
    refine g_seq ?_
    refine g_seq ?_
    refine g_reg ?_
    refine g_v (v_move rfl) rfl ?_
    refine g_v (v_ieql Try.underlying26 rfl) rfl ?_
    refine g_nil ?_
    refine g_cond rfl (fun h22 => ?_) (fun h22 => ?_)
    · simp at h22
      refine g_seq ?_
      refine g_reg ?_
      refine g_v (v_move rfl) rfl ?_
      refine g_v (v_move rfl) rfl ?_
      refine g_v (v_move rfl) rfl ?_
      refine g_v (v_nilCheck rfl) rfl ?_
      refine g_v (v_fieldAddr 1 Try.underlying193 rfl rfl Try.sizeOf77 (by decide) rfl) rfl ?_
      refine g_v (v_idxA n.toNat Try.underlying77 Try.sizeOf9 rfl rfl (by omega) (by omega)) rfl ?_
      refine g_l0 (l_store (vdC ((D).size) (upd D.blocks n.toNat s) (sl sd (ofM (D).dirty).length cd) ((D).time) ((D).next) (sl ss gl.length cs)) Try.sizeOf9 rfl rfl rfl (by rw [vdC_len]; omega) (vdC_set _ _ _ _ _ _ _ _ (by omega))) ?_
      rintro _ _ rfl
      refine g_nil ?_
      refine g_shutV (vdC ((D).size) (upd D.blocks n.toNat s) (sl sd (ofM (D).dirty).length cd) ((D).time) ((D).next) (sl ss gl.length cs)) (rowsA (ofM D.dirty)) (snapR gl) sd cd ss cs (gl) b ((⟨D.size, upd D.blocks n.toNat s, D.dirty, D.time, D.next, D.snaps⟩)) rfl rfl rfl hgl ?_
      refine g_reg ?_
      refine g_v (v_move rfl) rfl ?_
      refine g_v (v_move rfl) rfl ?_
      refine g_l (l_call (Pre := [vdk b (⟨D.size, upd D.blocks n.toNat s, D.dirty, D.time, D.next, D.snaps⟩)]) Try.call184 rfl (ct_vdisk_mark b ⟨D.size, upd D.blocks n.toNat s, D.dirty, D.time, D.next, D.snaps⟩ n 1 (by omega) (by omega))) rfl ?_
      rintro _ _ ⟨rfl, rfl⟩
      refine g_nil ?_
      refine g_seq ?_
      refine g_reg ?_
      refine g_v (v_move rfl) rfl ?_
      refine g_v (v_assign rfl) rfl ?_
      refine g_nil ?_
      rw [show markD ⟨D.size, upd D.blocks n.toNat s, D.dirty, D.time, D.next, D.snaps⟩ n 1 = wrD D n s by unfold markD wrD; rw [if_pos (by decide), if_pos (by omega)]]
      exact g_ret1 rfl rfl (by rw [hw]; rfl)
    · simp at h22
      refine g_skip ?_
      refine g_seq ?_
      refine g_reg ?_
      refine g_v (v_move rfl) rfl ?_
      refine g_v (v_assign rfl) rfl ?_
      refine g_nil ?_
      refine g_shutV (vdC ((D).size) ((D).blocks) (sl sd (ofM (D).dirty).length cd) ((D).time) ((D).next) (sl ss gl.length cs)) (rowsA (ofM (D).dirty)) (snapR gl) sd cd ss cs (gl) b ((D)) rfl rfl rfl hgl ?_
      rw [show vdk b D = vdk b (wrD D n s) by unfold wrD; rw [if_neg (by omega)]]
      exact g_ret1 rfl rfl (by rw [hw]; rfl)

end Go.Proofs.Ythdjckbjjfiopaa
