/- Walks through the reference's vault. No condition. -/
import Derived.Test.YthdjckbjjfiopaaGreatDoorVa2
import Derived.Test.YthdjckbjjfiopaaGreatDoorRIx3
namespace Go.Proofs.YthdjckbjjfiopaaGreatDoor
open Go.Sl Go.Proofs
set_option linter.unusedVariables false
set_option linter.unusedSimpArgs false
def rvP (b : Nat) (S : SI) (L : List Pt) (n : Int) (z : Nat × Option Addr × Nat) : List HProp := [pt b (.cells #[ptr z.1 0, sl z.2.1 L.length z.2.2, I n] 70 (0, 0)), ixr z.1 (xS S), owL 73 4 z.2.1 z.2.2 (ptR L)]
/-- the reference's vault at b -/
def rvl (b : Nat) (S : SI) (L : List Pt) (n : Int) : HProp := hx (rvP b S L n)
section
variable {c : Cx} {E : Env} {L : List HProp} {K : List KI}
theorem g_openRV {F : List HProp} (b : Nat) (S : SI) (P : List Pt) (n : Int) [R : Rem L (rvl b S P n) F] (k : ∀ x s cc, G c K E (pt b (.cells #[ptr x 0, sl s P.length cc, I n] 70 (0, 0)) :: ixr x (xS S) :: owL 73 4 s cc (ptR P) :: F)) : G c K E L := g_open (rvl b S P n) rfl fun z => k z.1 z.2.1 z.2.2
theorem g_shutRV {F : List HProp} (b x : Nat) (s : Option Addr) (cc : Nat) (S : SI) (P : List Pt) (n : Int) [Sp : Split L [pt b (.cells #[ptr x 0, sl s P.length cc, I n] 70 (0, 0)), ixr x (xS S), owL 73 4 s cc (ptR P)] F] (k : G c K E (rvl b S P n :: F)) : G c K E L :=
  g_pack (A := rvP b S P n) [pt b (.cells #[ptr x 0, sl s P.length cc, I n] 70 (0, 0)), ixr x (xS S), owL 73 4 s cc (ptR P)] (rvl b S P n) (x, s, cc) rfl rfl k
end
theorem zeroX (w : World) : (zeroValue 68).run Tryz.prog w = .ok (.agg (xC xZ)) w := by
  rw [Tryz.zeroValue68]
  have e2 : Tryz.zeroCells68 = xC xZ := by kernel_rfl
  rw [e2]
theorem bldIxG (w : World) : (Instr.build 68 #[]).run Tryz.prog w = .ok (.agg (xC (xS (mkG gZ)))) w := by
  have e : (Instr.build 68 #[]).run Tryz.prog w = (zeroValue 68).run Tryz.prog w := by
    simp [Instr.build, Tryz.zeroValue68, Tryz.runUnderlying68, Instr.fill, cells_agg]
  rw [e, zeroX]
  rfl
theorem xL_len (X : XM) : (xL X).length = 207 := by simp [xL, xB_len, xN_len]
theorem xL_ones (X : XM) : Go.Sl.ones (xL X) = true := by
  have key : ∀ (n : Nat) (f : Nat → List Value), (∀ k, Go.Sl.ones (f k) = true) → Go.Sl.ones (cat n f) = true := fun n f h => ones_of fun v hv => by
    unfold cat at hv
    obtain ⟨r, hr, hv⟩ := List.mem_flatten.1 hv
    obtain ⟨k, _, rfl⟩ := List.mem_map.1 hr
    exact ones_mem (h k) v hv
  refine ones_of fun v hv => ?_
  unfold xL at hv
  rcases List.mem_append.1 hv with hv | hv
  · exact ones_mem (key 41 _ fun k => rfl) v hv
  · exact ones_mem (key 25 _ fun k => rfl) v hv
theorem bldRV (x : Nat) (w : World) : (Instr.build 70 #[(0, ptr x 0), (2, I 1)]).run Tryz.prog w = .ok (.agg #[ptr x 0, sl none 0 0, I 1]) w := by
  simp [Instr.build, Tryz.zeroValue70, Tryz.runUnderlying70, Tryz.sizeOf3, Tryz.sizeOf59, Tryz.sizeOf56, Instr.fill, cells_agg, show (I 1).cells = #[I 1] from rfl, show (ptr x 0).cells = #[ptr x 0] from rfl, sl]
theorem bldRV3 (x : Nat) (s : Option Addr) (n c : Nat) (k : Int) (w : World) : (Instr.build 70 #[(0, ptr x 0), (1, sl s n c), (2, I k)]).run Tryz.prog w = .ok (.agg #[ptr x 0, sl s n c, I k]) w := by
  simp [Instr.build, Tryz.zeroValue70, Tryz.runUnderlying70, Tryz.sizeOf3, Tryz.sizeOf59, Tryz.sizeOf56, Instr.fill, cells_agg, show (I k).cells = #[I k] from rfl, show (ptr x 0).cells = #[ptr x 0] from rfl, show (sl s n c).cells = #[sl s n c] from rfl]
theorem eq_Pt (a b : Pt) (w : World) : (Op.equal 73 (.agg (encPt a).toArray) (.agg (encPt b).toArray)).run Tryz.prog w = .ok (decide (a = b)) w := by
  have h := fun x y : Int => run_eqI (P := Tryz.prog) (w := w) (a := x) (b := y) 9998 Tryz.underlying3
  show (Op.equalIn (9999 + 1) _ _ _).run _ _ = _
  unfold Op.equalIn
  simp [underlying, program, Sem.run, Tryz.underlying73, Tryz.stoodInHeld73, Go.part, Tryz.isAgg3, h]
  obtain ⟨a1, a2, a3, a4⟩ := a
  obtain ⟨b1, b2, b3, b4⟩ := b
  by_cases e1 : a1 = b1 <;> by_cases e2 : a2 = b2 <;> by_cases e3 : a3 = b3 <;> by_cases e4 : a4 = b4 <;> simp [e1, e2, e3, e4]
def put1V (S : SI) (L : List Pt) (n root : Int) (a : Nat) (d : Bytes) : VR := match put1 (S, root) a d with
  | .ok z => .ok (z.1, L, n, z.2)
  | .error e => .error e
theorem put1V_ok {S : SI} {L : List Pt} {n root : Int} {a : Nat} {d : Bytes} (h : (setE S root a d).2 = 0) : put1V S L n root a d = .ok (unR (setS S root a d) root, L, n, (setE S root a d).1) := by
  unfold put1V put1; simp only; rw [if_pos h]
theorem put1V_err {S : SI} {L : List Pt} {n root : Int} {a : Nat} {d : Bytes} (h : (setE S root a d).2 ≠ 0) : put1V S L n root a d = .error (setE S root a d).2 := by
  unfold put1V put1; simp only; rw [if_neg h]
theorem flt_step {l : List Pt} {k : Nat} {x : Pt} (id : Int) (hx : l[k]? = some x) : (l.take (k + 1)).filter (fun x => !decide (x.id = id)) = (l.take k).filter (fun x => !decide (x.id = id)) ++ if x.id = id then [] else [x] := by
  rw [List.take_add_one, hx, List.filter_append]
  congr 1
  by_cases h : x.id = id <;> simp [h]

theorem ct_R_NewVault  (F : List HProp) : Ct Tryz.prog 8 [] ([] ++ F) (fun v L' => ∃ b, v = ptr b 0 ∧ L' = rvl b (mkG gZ) [] 1 :: F) := by
  show Ct Tryz.prog 8 [] (F) _
  refine Ct.of Tryz.func8 rfl 5 Tryz.ntmps8 (by simp) fun w0 => ?_
  refine g_seq ?_
  refine g_reg ?_
  refine g_v (v_assign rfl) rfl ?_
  refine g_nil ?_
  refine g_seq ?_
  refine g_reg ?_
  refine g_v (v_build rfl bldIxG) rfl ?_
  refine g_l (l_box (xC (xS (mkG gZ))) rfl rfl) rfl ?_
  rintro _ _ ⟨b2, rfl, rfl⟩
  refine g_v (v_build rfl (bldRV b2)) rfl ?_
  refine g_l (l_box #[ptr b2 0, sl none 0 0, I 1] rfl rfl) rfl ?_
  rintro _ _ ⟨b4, rfl, rfl⟩
  refine g_v (v_assign rfl) rfl ?_
  refine g_nil ?_
  refine g_nilown 73 4 (ptR []) rfl ?_
  refine g_shutRV b4 b2 none 0 (mkG gZ) [] 1 ?_
  exact fun a w hE hS => wp_ret (kq_ret (res_fpost (vs := [ptr b4 0]) rfl hE hS ⟨b4, rfl, rfl⟩))

theorem ct_RV_Find (b : Nat) (S : SI) (L : List Pt) (n : Int) (id : Int) (hl : L.length ≤ 1000000) (F : List HProp) : Ct Tryz.prog 56 [ptr b 0, I id] ([rvl b S L n] ++ F) (R1 (.tuple #[.agg (encPt ((findP L id).getD pt0)).toArray, Bo (findP L id).isSome]) (rvl b S L n :: F)) := by
  show Ct Tryz.prog 56 [ptr b 0, I id] (rvl b S L n :: F) _
  refine Ct.of Tryz.func56 rfl 34 Tryz.ntmps56 (by simp) fun w0 => ?_
  refine g_openRV b S L n ?_
  intro x s c
  refine g_seq ?_
  refine g_reg ?_
  refine g_l (l_alloc #[I 0, I 0, I 0, I 0] Tryz.zeroValue73) rfl ?_
  rintro _ _ ⟨b4, rfl, rfl⟩
  refine g_v (v_assign rfl) rfl ?_
  refine g_nil ?_
  refine g_seq ?_
  refine g_seq ?_
  refine g_reg ?_
  refine g_v (v_assign rfl) rfl ?_
  refine g_nil ?_
  refine g_block ?_
  refine g_loop (α := Nat) (fun k => k ≤ L.length ∧ ∀ j, j < k → ∀ t, L[j]? = some t → t.id ≠ id) (fun k => U [(0, ptr b 0), (1, I id), (4, ptr b4 0), (6, I k)]) (fun _ => pt b (.cells #[ptr x 0, sl s (L).length c, I (n)] 70 (0, 0)) :: ixr x (xS S) :: owL 73 4 s c (ptR (L)) :: pt b4 (.cells #[I 0, I 0, I 0, I 0] 73 (0, 0)) :: F) (fun k => L.length - k) 0 ⟨by simp, fun j hj => absurd hj (by omega)⟩ [0, 1, 4, 6] rfl rfl ?_
  rintro k ⟨hk, hno⟩
  refine g_seq ?_
  refine g_seq ?_
  refine g_reg ?_
  refine g_v (v_move rfl) rfl ?_
  refine g_v (v_move rfl) rfl ?_
  refine g_v (v_nilCheck rfl) rfl ?_
  refine g_v (v_fieldAddr 1 Tryz.underlying70 rfl rfl Tryz.sizeOf56 (by decide) rfl) rfl ?_
  refine g_v (v_load (v := sl s (L).length c) Tryz.isAgg56 rfl rfl) rfl ?_
  refine g_v (v_len Tryz.underlying56 rfl) rfl ?_
  refine g_v (v_lss rfl rfl) rfl ?_
  refine g_nil ?_
  refine g_cond rfl (fun h13 => ?_) (fun h13 => ?_)
  · simp at h13
    have hkn : k < L.length := by omega
    obtain ⟨p, hp⟩ : ∃ p, L[k]? = some p := ⟨_, List.getElem?_eq_getElem hkn⟩
    refine g_skip ?_
    refine g_seq ?_
    refine g_block ?_
    refine g_seq ?_
    refine g_reg ?_
    refine g_v (v_move rfl) rfl ?_
    refine g_v (v_nilCheck rfl) rfl ?_
    refine g_v (v_fieldAddr 1 Tryz.underlying70 rfl rfl Tryz.sizeOf56 (by decide) rfl) rfl ?_
    refine g_v (v_load (v := sl s (L).length c) Tryz.isAgg56 rfl rfl) rfl ?_
    refine g_v (v_move rfl) rfl ?_
    refine g_v (v_idxS (k) Tryz.underlying56 Tryz.sizeOf73 rfl rfl rfl hkn (by rw [ptR_len]; exact hkn)) rfl ?_
    refine g_v (v_fieldAdrS (j := k) 0 Tryz.underlying73 rfl rfl Tryz.sizeOf3 (by decide) rfl (by rw [ptR_len]; exact hkn)) rfl ?_
    refine g_v (v_loadS (v := I p.id) Tryz.isAgg3 rfl (ptR_at hp) rfl) rfl ?_
    refine g_v (v_move rfl) rfl ?_
    refine g_v (v_eql rfl rfl) rfl ?_
    refine g_nil ?_
    refine g_cond rfl (fun h25 => ?_) (fun h25 => ?_)
    · simp at h25
      have hf : findP L id = some p := by
        obtain ⟨i, q, hi, hq, _, _, hfq, _⟩ := ptI_pos (l := L) (id := id) (by rw [ptI_hit hno hp h25]; omega)
        rw [ptI_hit hno hp h25] at hi
        obtain rfl : k = i := by omega
        rw [hp] at hq
        injection hq with hq
        rw [hq, hfq]
      rw [hf]
      refine g_seq ?_
      refine g_reg ?_
      refine g_v (v_move rfl) rfl ?_
      refine g_v (v_nilCheck rfl) rfl ?_
      refine g_v (v_fieldAddr 1 Tryz.underlying70 rfl rfl Tryz.sizeOf56 (by decide) rfl) rfl ?_
      refine g_v (v_load (v := sl s (L).length c) Tryz.isAgg56 rfl rfl) rfl ?_
      refine g_v (v_move rfl) rfl ?_
      refine g_v (v_idxS (k) Tryz.underlying56 Tryz.sizeOf73 rfl rfl rfl hkn (by rw [ptR_len]; exact hkn)) rfl ?_
      refine g_v (v_loadAS (row := encPt p) Tryz.isAgg73 Tryz.sizeOf73 rfl (ptR_at hp) rfl) rfl ?_
      refine g_l0 (l_storeA (cs := #[I 0, I 0, I 0, I 0]) (vs := encPt (p)) (encPt (p)).toArray Tryz.sizeOf73 rfl rfl rfl rfl (by simp) (splice_whole rfl)) ?_
      rintro _ _ rfl
      refine g_v (v_assign rfl) rfl ?_
      refine g_nil ?_
      refine g_shutRV b x s c (S) (L) (n) ?_
      exact g_retCT (encPt p) rfl rfl rfl rfl Tryz.isAgg73 Tryz.sizeOf73 rfl arr_ld
    · simp at h25
      refine g_skip ?_
      refine g_blk ?_
      refine g_reg ?_
      refine g_v (v_move rfl) rfl ?_
      refine g_v (v_add rfl rfl (w64 (by omega))) rfl ?_
      refine g_v (v_assign rfl) rfl ?_
      refine g_nil ?_
      exact g_again (k + 1) ⟨by omega, fun j hj t ht => by
          rcases Nat.lt_or_ge j k with h | h
          · exact hno j h t ht
          · obtain rfl : j = k := by omega
            rw [hp] at ht
            injection ht with ht
            rw [← ht]
            exact h25⟩ (by omega) [0, 1, 4, 6] rfl rfl
  · simp at h13
    obtain rfl : k = L.length := by omega
    have hf : findP L id = none := findP_none (by rw [ptI_none hno]; omega)
    rw [hf]
    refine g_exit rfl ?_
    refine g_seq ?_
    refine g_reg ?_
    refine g_v (v_build rfl bldPt0) rfl ?_
    refine g_l0 (l_storeA (cs := #[I 0, I 0, I 0, I 0]) (vs := encPt (pt0)) (encPt (pt0)).toArray Tryz.sizeOf73 rfl rfl rfl rfl (by simp) (splice_whole rfl)) ?_
    rintro _ _ rfl
    refine g_v (v_assign rfl) rfl ?_
    refine g_nil ?_
    refine g_shutRV b x s c (S) (L) (n) ?_
    exact g_retCT (encPt pt0) rfl rfl rfl rfl Tryz.isAgg73 Tryz.sizeOf73 rfl arr_ld

theorem ct_RV_add (b : Nat) (S : SI) (L : List Pt) (n : Int) (disk size root : Int) (hl : L.length ≤ 6) (hn : -9223372036854775808 ≤ n ∧ n ≤ 1000000) (F : List HProp) : Ct Tryz.prog 60 [ptr b 0, I disk, I size, I root] ([rvl b S L n] ++ F) (R1 (.tuple #[I (addI L n), I (addE L n)]) (rvl b S (addL L n disk size root) (addN L n) :: F)) := by
  show Ct Tryz.prog 60 [ptr b 0, I disk, I size, I root] (rvl b S L n :: F) _
  refine Ct.of Tryz.func60 rfl 52 Tryz.ntmps60 (by simp) fun w0 => ?_
  refine g_openRV b S L n ?_
  intro x s c
  refine g_seq ?_
  refine g_reg ?_
  refine g_v (v_assign rfl) rfl ?_
  refine g_v (v_assign rfl) rfl ?_
  refine g_nil ?_
  refine g_seq ?_
  refine g_seq ?_
  refine g_reg ?_
  refine g_v (v_move rfl) rfl ?_
  refine g_v (v_nilCheck rfl) rfl ?_
  refine g_v (v_fieldAddr 1 Tryz.underlying70 rfl rfl Tryz.sizeOf56 (by decide) rfl) rfl ?_
  refine g_v (v_load (v := sl s (L).length c) Tryz.isAgg56 rfl rfl) rfl ?_
  refine g_v (v_len Tryz.underlying56 rfl) rfl ?_
  refine g_v (v_eql rfl rfl) rfl ?_
  refine g_v (v_move rfl) rfl ?_
  refine g_gv rfl rfl (fun hg => v_move rfl) rfl rfl ?_
  refine g_gv rfl rfl (fun hg => v_nilCheck rfl) rfl rfl ?_
  refine g_gv rfl rfl (fun hg => v_fieldAddr 2 Tryz.underlying70 rfl rfl Tryz.sizeOf3 (by decide) rfl) rfl rfl ?_
  refine g_gv rfl rfl (fun hg => v_load (v := I n) Tryz.isAgg3 rfl rfl) rfl rfl ?_
  refine g_gv rfl rfl (fun hg => v_gtr rfl rfl) rfl rfl ?_
  refine g_v (v_or rfl rfl) rfl ?_
  refine g_nil ?_
  refine g_cond rfl (fun h22 => ?_) (fun h22 => ?_)
  · simp at h22
    have ha : addE L n = 8 := by unfold addE; rw [if_pos (by omega)]
    refine g_seq ?_
    refine g_reg ?_
    refine g_v (v_assign rfl) rfl ?_
    refine g_v (v_assign rfl) rfl ?_
    refine g_nil ?_
    rw [ha, show addI L n = 0 by unfold addI; rw [if_neg (by omega)], show addL L n disk size root = L by unfold addL; rw [if_neg (by omega)], show addN L n = n by unfold addN; rw [if_neg (by omega)]]
    refine g_shutRV b x s c (S) (L) (n) ?_
    exact g_ret1 rfl rfl rfl
  · simp at h22
    have ha : addE L n = 0 := by unfold addE; rw [if_neg (by omega)]
    refine g_skip ?_
    refine g_seq ?_
    refine g_drawZ (Lf := [pt b (.cells #[ptr x 0, sl s (L).length c, I (n)] 70 (0, 0))]) [(0, false), (1, false), (2, false), (3, false), (4, false), (5, false), (6, false), (7, false), (8, false), (9, false), (10, false), (11, false), (12, false), (13, true), (14, true), (15, false), (16, false)] 17 rfl (by kernel_rfl) (by kernel_rfl) rfl (by kernel_rfl) (by kernel_rfl) ?_
    refine d_v rfl (v_move rfl) rfl ?_
    refine d_v rfl (v_move rfl) rfl ?_
    refine d_v rfl (v_nilCheck rfl) rfl ?_
    refine d_v rfl (v_fieldAddr 1 Tryz.underlying70 rfl rfl Tryz.sizeOf56 (by decide) rfl) rfl ?_
    refine d_v rfl (v_load (v := sl s (L).length c) Tryz.isAgg56 rfl rfl) rfl ?_
    refine d_v rfl (v_move rfl) rfl ?_
    refine d_v rfl (v_nilCheck rfl) rfl ?_
    refine d_v rfl (v_fieldAddr 2 Tryz.underlying70 rfl rfl Tryz.sizeOf3 (by decide) rfl) rfl ?_
    refine d_v rfl (v_load (v := I n) Tryz.isAgg3 rfl rfl) rfl ?_
    refine d_v rfl (v_move rfl) rfl ?_
    refine d_v rfl (v_move rfl) rfl ?_
    refine d_v rfl (v_move rfl) rfl ?_
    refine d_v rfl (v_build rfl (bldPt n disk size root)) rfl ?_
    refine d_l rfl (l_buildSlice [encPt ⟨n, disk, size, root⟩] Tryz.underlying56 Tryz.sizeOf73 Tryz.zeroValue73 rfl rfl rfl (by simp) (by decide) (by decide)) rfl ?_
    rintro _ _ ⟨b36, rfl, rfl⟩
    refine d_l rfl (l_append Tryz.underlying56 Tryz.sizeOf73 Tryz.zeroValue73 rfl Tryz.typeInfo73 (by decide) rfl rfl (ptR_len _) rfl (by simp) (by simp [Go.Sl.ones, Go.Sl.one]) ⟨by omega, by decide, by decide⟩) rfl ?_
    rintro _ _ ⟨s37, c37, rfl, rfl⟩
    rw [show ptR L ++ [encPt ⟨n, disk, size, root⟩] = ptR (L ++ [⟨n, disk, size, root⟩]) by simp [ptR]]
    refine d_v rfl (v_nilCheck rfl) rfl ?_
    refine d_v rfl (v_fieldAddr 1 Tryz.underlying70 rfl rfl Tryz.sizeOf56 (by decide) rfl) rfl ?_
    refine d_nil ?_
    refine g_l0 (l_store #[ptr x 0, sl s37 (L.length + 1) c37, I n] Tryz.sizeOf56 rfl rfl rfl (by simp) rfl) ?_
    rintro _ _ rfl
    refine g_nil ?_
    refine g_seq ?_
    refine g_reg ?_
    refine g_v (v_move rfl) rfl ?_
    refine g_v (v_nilCheck rfl) rfl ?_
    refine g_v (v_fieldAddr 2 Tryz.underlying70 rfl rfl Tryz.sizeOf3 (by decide) rfl) rfl ?_
    refine g_v (v_load (v := I n) Tryz.isAgg3 rfl rfl) rfl ?_
    refine g_v (v_add rfl rfl (w64 (by omega))) rfl ?_
    refine g_v (v_nilCheck rfl) rfl ?_
    refine g_v (v_fieldAddr 2 Tryz.underlying70 rfl rfl Tryz.sizeOf3 (by decide) rfl) rfl ?_
    refine g_l0 (l_store #[ptr x 0, sl s37 (L.length + 1) c37, I (n + 1)] Tryz.sizeOf3 rfl rfl rfl (by simp) rfl) ?_
    rintro _ _ rfl
    refine g_nil ?_
    refine g_seq ?_
    refine g_reg ?_
    refine g_v (v_move rfl) rfl ?_
    refine g_v (v_nilCheck rfl) rfl ?_
    refine g_v (v_fieldAddr 2 Tryz.underlying70 rfl rfl Tryz.sizeOf3 (by decide) rfl) rfl ?_
    refine g_v (v_load (v := I (n + 1)) Tryz.isAgg3 rfl rfl) rfl ?_
    refine g_v (v_sub rfl rfl (w64 (by omega))) rfl ?_
    refine g_v (v_assign rfl) rfl ?_
    refine g_v (v_assign rfl) rfl ?_
    refine g_nil ?_
    rw [ha, show addI L n = n + 1 - 1 by unfold addI; rw [if_pos ha]; omega, show addL L n disk size root = L ++ [⟨n, disk, size, root⟩] by unfold addL; rw [if_pos ha], show addN L n = n + 1 by unfold addN; rw [if_pos ha], show L.length + 1 = (L ++ [(⟨n, disk, size, root⟩ : Pt)]).length by simp]
    refine g_shutRV b x s37 c37 (S) (L ++ [⟨n, disk, size, root⟩]) (n + 1) ?_
    exact g_ret1 rfl rfl rfl

theorem ct_RV_put (b : Nat) (G : Gh) (L : List Pt) (n root : Int) (a : Nat) (d : Bytes) (rs : List Int) (hR : Rt G (root :: rs)) (hl : rs.length ≤ 8) (ha : a < 16) (hd : d.length ≤ 9223372036854775807) (F : List HProp) : Ct Tryz.prog 58 [ptr b 0, I root, I a, Str d] ([rvl b (mkG G) L n] ++ F) (vR rvl I b F (put1V (mkG G) L n root a d)) := by
  show Ct Tryz.prog 58 [ptr b 0, I root, I a, Str d] (rvl b (mkG G) L n :: F) _
  refine Ct.of Tryz.func58 rfl 33 Tryz.ntmps58 (by simp) fun w0 => ?_
  refine g_openRV b (mkG G) L n ?_
  intro x s c
  have hok := RtOk hR (m := 200) (by simp; omega)
  refine g_seq ?_
  refine g_reg ?_
  refine g_v (v_assign rfl) rfl ?_
  refine g_v (v_assign rfl) rfl ?_
  refine g_nil ?_
  refine g_seq ?_
  refine g_reg ?_
  refine g_v (v_move rfl) rfl ?_
  refine g_v (v_nilCheck rfl) rfl ?_
  refine g_v (v_fieldAddr 0 Tryz.underlying70 rfl rfl Tryz.sizeOf59 (by decide) rfl) rfl ?_
  refine g_v (v_load (v := ptr x 0) Tryz.isAgg59 rfl rfl) rfl ?_
  refine g_v (v_move rfl) rfl ?_
  refine g_v (v_move rfl) rfl ?_
  refine g_v (v_move rfl) rfl ?_
  refine g_l (l_call (Pre := [ixr x (xS (mkG G))]) Tryz.call82 rfl (ct_R_Set x (mkG G) root a d 200 hok (by decide) ha hd (gOkX_of hR.V (RtRt hR (by simp))))) rfl ?_
  rintro _ _ ⟨rfl, rfl⟩
  refine g_v (v_move rfl) rfl ?_
  refine g_v (v_extract (v := I (setE (mkG G) root a d).1) rfl rfl) rfl ?_
  refine g_v (v_extract (v := I (setE (mkG G) root a d).2) rfl rfl) rfl ?_
  refine g_v (v_assign rfl) rfl ?_
  refine g_v (v_assign rfl) rfl ?_
  refine g_nil ?_
  refine g_seq ?_
  refine g_seq ?_
  refine g_reg ?_
  refine g_v (v_move rfl) rfl ?_
  refine g_v (v_gtr rfl rfl) rfl ?_
  refine g_nil ?_
  refine g_cond rfl (fun h24 => ?_) (fun h24 => ?_)
  · simp at h24
    refine g_seq ?_
    refine g_reg ?_
    refine g_v (v_move rfl) rfl ?_
    refine g_v (v_assign rfl) rfl ?_
    refine g_v (v_assign rfl) rfl ?_
    refine g_nil ?_
    exact g_nones rfl (put1V_err (by omega)) rfl rfl
  · simp at h24
    have h24' : (setE (mkG G) root a d).2 = 0 := by have := setE_nn (mkG G) root a d; omega
    obtain ⟨G1, G2, hu1, o1, r1, v1, hu2, hR2, _, _⟩ := put1_ok hR hl ha h24'
    rw [hu1]
    refine g_skip ?_
    refine g_seq ?_
    refine g_reg ?_
    refine g_v (v_move rfl) rfl ?_
    refine g_v (v_nilCheck rfl) rfl ?_
    refine g_v (v_fieldAddr 0 Tryz.underlying70 rfl rfl Tryz.sizeOf59 (by decide) rfl) rfl ?_
    refine g_v (v_load (v := ptr x 0) Tryz.isAgg59 rfl rfl) rfl ?_
    refine g_v (v_move rfl) rfl ?_
    refine g_l (l_call (Pre := [ixr x (xS (mkG G1))]) Tryz.call61 rfl (ct_R_Free x (mkG G1) root 200 o1 (by decide) (rt_rng v1 r1) (rt_kidr v1 r1))) rfl ?_
    rintro _ _ ⟨rfl, rfl⟩
    refine g_nil ?_
    refine g_seq ?_
    refine g_reg ?_
    refine g_v (v_move rfl) rfl ?_
    refine g_v (v_assign rfl) rfl ?_
    refine g_v (v_assign rfl) rfl ?_
    refine g_nil ?_
    refine g_shutRV b x s c (unR (mkG G1) root) (L) (n) ?_
    exact g_somes (S := unR (mkG G1) root) (P := L) (n := n) rfl (by rw [put1V_ok h24', hu1]) rfl rfl

theorem ct_RV_Ingest (b : Nat) (S : SI) (L : List Pt) (n : Int) (base disk size : Int) (puts : List PutM) (sp : Option Addr) (cp : Nat) (G0 : Gh) (hV : Vok S L n G0) (hpl : puts.length ≤ 1000000) (hpd : ∀ p ∈ puts, p.data.length ≤ 9223372036854775807) (F : List HProp) : Ct Tryz.prog 27 [ptr b 0, I base, I disk, I size, sl sp puts.length cp] ([rvl b S L n, roL 2 sp (putR puts)] ++ F) (vR rvl I b (roL 2 sp (putR puts) :: F) (ingF S L n base disk size puts)) := by
  show Ct Tryz.prog 27 [ptr b 0, I base, I disk, I size, sl sp puts.length cp] (rvl b S L n :: roL 2 sp (putR puts) :: F) _
  have hok := Vok_ok hV
  have hll := hV.len
  have hn1 := hV.n1
  have hrl : (L.map (·.root)).length ≤ 8 := by simp; omega
  refine Ct.of Tryz.func27 rfl 139 Tryz.ntmps27 (by simp) fun w0 => ?_
  refine g_seq ?_
  refine g_reg ?_
  refine g_v (v_assign rfl) rfl ?_
  refine g_v (v_assign rfl) rfl ?_
  refine g_nil ?_
  refine g_seq ?_
  refine g_seq ?_
  refine g_reg ?_
  refine g_v (v_move rfl) rfl ?_
  refine g_v (v_lss rfl rfl) rfl ?_
  refine g_v (v_move rfl) rfl ?_
  refine g_gv rfl rfl (fun hg => v_move rfl) rfl rfl ?_
  refine g_gv rfl rfl (fun hg => v_gtr rfl rfl) rfl rfl ?_
  refine g_v (v_or rfl rfl) rfl ?_
  refine g_v (v_move rfl) rfl ?_
  refine g_gv rfl rfl (fun hg => v_move rfl) rfl rfl ?_
  refine g_gv rfl rfl (fun hg => v_lss rfl rfl) rfl rfl ?_
  refine g_v (v_or rfl rfl) rfl ?_
  refine g_v (v_move rfl) rfl ?_
  refine g_gv rfl rfl (fun hg => v_move rfl) rfl rfl ?_
  refine g_gv rfl rfl (fun hg => v_gtr rfl rfl) rfl rfl ?_
  refine g_v (v_or rfl rfl) rfl ?_
  refine g_nil ?_
  refine g_cond rfl (fun h34 => ?_) (fun h34 => ?_)
  · simp at h34
    have hbd : disk < 1 ∨ 999 < disk ∨ size < 1 ∨ 16 < size := by omega
    refine g_seq ?_
    refine g_reg ?_
    refine g_v (v_assign rfl) rfl ?_
    refine g_v (v_assign rfl) rfl ?_
    refine g_nil ?_
    exact g_nones rfl (by unfold ingF; rw [if_pos hbd]) rfl rfl
  · simp at h34
    have hbd : ¬ (disk < 1 ∨ 999 < disk ∨ size < 1 ∨ 16 < size) := by omega
    refine g_skip ?_
    refine g_seq ?_
    refine g_reg ?_
    refine g_v (v_assign rfl) rfl ?_
    refine g_nil ?_
    refine g_seq ?_
    refine g_seq ?_
    refine g_reg ?_
    refine g_v (v_move rfl) rfl ?_
    refine g_v (v_neq rfl rfl) rfl ?_
    refine g_nil ?_
    refine g_cut (α := Gh × Int) (fun z => Rt z.1 (z.2 :: L.map (·.root)) ∧ baseF S L base disk size = .ok (mkG z.1, z.2)) (fun z => U [(0, ptr b 0), (2, I disk), (3, I size), (4, sl sp puts.length cp), (12, I z.2)]) (fun z => rvl b (mkG z.1) L n :: roL 2 sp (putR puts) :: F) ?_ ?_
    · skip
      refine g_cond rfl (fun h36 => ?_) (fun h36 => ?_)
      · simp at h36
        refine g_seq ?_
        refine g_reg ?_
        refine g_v (v_move rfl) rfl ?_
        refine g_v (v_move rfl) rfl ?_
        refine g_l (l_call (Pre := [rvl b S L n]) Tryz.call56 rfl (ct_RV_Find b S L n base (by omega))) rfl ?_
        rintro _ _ ⟨rfl, rfl⟩
        refine g_v (v_move rfl) rfl ?_
        refine g_v (v_extract (v := .agg (encPt ((findP L base).getD pt0)).toArray) rfl rfl) rfl ?_
        refine g_v (v_extract (v := Bo (findP L base).isSome) rfl rfl) rfl ?_
        refine g_l (l_alloc #[I 0, I 0, I 0, I 0] Tryz.zeroValue73) rfl ?_
        rintro _ _ ⟨b13, rfl, rfl⟩
        refine g_l0 (l_storeA (cs := #[I 0, I 0, I 0, I 0]) (vs := encPt (((findP L base).getD pt0))) (encPt (((findP L base).getD pt0))).toArray Tryz.sizeOf73 rfl rfl rfl rfl (by simp) (splice_whole rfl)) ?_
        rintro _ _ rfl
        refine g_v (v_assign rfl) rfl ?_
        refine g_nil ?_
        refine g_seq ?_
        refine g_seq ?_
        refine g_reg ?_
        refine g_v (v_move rfl) rfl ?_
        refine g_v (v_not rfl) rfl ?_
        refine g_nil ?_
        refine g_cond rfl (fun h44 => ?_) (fun h44 => ?_)
        · simp at h44
          refine g_seq ?_
          refine g_reg ?_
          refine g_v (v_assign rfl) rfl ?_
          refine g_v (v_assign rfl) rfl ?_
          refine g_nil ?_
          exact g_nones rfl (by unfold ingF baseF; rw [if_neg hbd, if_neg h36, h44]) rfl rfl
        · simp at h44
          obtain ⟨p, hf⟩ := Option.isSome_iff_exists.1 h44
          have hpm := findP_some hf
          have hps := hV.pts p hpm.1
          rw [show (findP L base).getD pt0 = p by rw [hf]; rfl]
          refine g_skip ?_
          refine g_seq ?_
          refine g_seq ?_
          refine g_reg ?_
          refine g_v (v_fieldAddr 1 Tryz.underlying73 rfl rfl Tryz.sizeOf3 (by decide) rfl) rfl ?_
          refine g_v (v_load (v := I p.disk) Tryz.isAgg3 rfl rfl) rfl ?_
          refine g_v (v_move rfl) rfl ?_
          refine g_v (v_neq rfl rfl) rfl ?_
          refine g_nil ?_
          refine g_cond rfl (fun h48 => ?_) (fun h48 => ?_)
          · simp at h48
            refine g_seq ?_
            refine g_reg ?_
            refine g_v (v_assign rfl) rfl ?_
            refine g_v (v_assign rfl) rfl ?_
            refine g_nil ?_
            exact g_nones rfl (by unfold ingF baseF; rw [if_neg hbd, if_neg h36, hf]; simp only; rw [if_pos h48]) rfl rfl
          · simp at h48
            refine g_skip ?_
            refine g_seq ?_
            refine g_openRV b S L n ?_
            intro x s c
            refine g_draw (Lf := [pt b (.cells #[ptr x 0, sl s (L).length c, I (n)] 70 (0, 0)), pt b13 (.cells (encPt (p)).toArray 73 (0, 0))]) [(0, false), (1, false), (2, false), (3, false), (4, false), (5, false), (6, true), (7, false)] (by kernel_rfl) (by kernel_rfl) rfl (by kernel_rfl) ?_
            refine d_v rfl (v_move rfl) rfl ?_
            refine d_v rfl (v_nilCheck rfl) rfl ?_
            refine d_v rfl (v_fieldAddr 0 Tryz.underlying70 rfl rfl Tryz.sizeOf59 (by decide) rfl) rfl ?_
            refine d_v rfl (v_load (v := ptr x 0) Tryz.isAgg59 rfl rfl) rfl ?_
            refine d_v rfl (v_fieldAddr 3 Tryz.underlying73 rfl rfl Tryz.sizeOf3 (by decide) rfl) rfl ?_
            refine d_v rfl (v_load (v := I p.root) Tryz.isAgg3 rfl rfl) rfl ?_
            refine d_l rfl (l_call (Pre := [ixr x (xS S)]) Tryz.call57 rfl (ct_R_Share x S p.root 200 hok (by decide) (rt_rng hV.rt.V (RtRt hV.rt (findP_mem hf))).2)) rfl ?_
            rintro _ _ ⟨rfl, rfl⟩
            obtain ⟨G1, hs1, hR1, _⟩ := Rt_share hV.rt (findP_mem hf)
            have hs1 : shareS S p.root = mkG G1 := by rw [hV.e]; exact hs1
            rw [hs1]
            refine d_v rfl (v_assign rfl) rfl ?_
            refine d_nil ?_
            refine g_shutRV b x s c (mkG G1) (L) (n) ?_
            refine g_seq ?_
            refine g_reg ?_
            refine g_v (v_move rfl) rfl ?_
            refine g_v (v_assign rfl) rfl ?_
            refine g_nil ?_
            obtain ⟨sz, rfl⟩ : ∃ k : Nat, size = k := ⟨size.toNat, by omega⟩
            refine g_block ?_
            refine g_loop (α := Nat × Gh × Int) (fun z => z.1 ≤ 16 ∧ Rt z.2.1 (z.2.2 :: L.map (·.root)) ∧ cutF (mkG z.2.1, z.2.2) (List.range' z.1 (p.size.toNat - z.1)) = cutF (shareS S p.root, p.root) (List.range' sz (p.size.toNat - sz))) (fun z => U [(0, ptr b 0), (2, I disk), (3, I (sz : Int)), (4, sl sp puts.length cp), (12, I z.2.2), (13, ptr b13 0), (15, I z.1)]) (fun z => pt b13 (.cells (encPt (p)).toArray 73 (0, 0)) :: rvl b (mkG z.2.1) L n :: roL 2 sp (putR puts) :: F) (fun z => 16 - z.1) (sz, G1, p.root) ⟨by simp only []; omega, hR1, by rw [hs1]⟩ [0, 2, 3, 4, 12, 13, 15] rfl rfl ?_
            rintro ⟨a, G, root⟩ ⟨ha, hR, hcut⟩
            simp only [] at ha hR hcut ⊢
            refine g_seq ?_
            refine g_seq ?_
            refine g_reg ?_
            refine g_v (v_move rfl) rfl ?_
            refine g_v (v_fieldAddr 2 Tryz.underlying73 rfl rfl Tryz.sizeOf3 (by decide) rfl) rfl ?_
            refine g_v (v_load (v := I p.size) Tryz.isAgg3 rfl rfl) rfl ?_
            refine g_v (v_lss rfl rfl) rfl ?_
            refine g_nil ?_
            refine g_cond rfl (fun h60 => ?_) (fun h60 => ?_)
            · simp at h60
              refine g_skip ?_
              refine g_seq ?_
              refine g_block ?_
              refine g_seq ?_
              refine g_reg ?_
              refine g_v (v_move rfl) rfl ?_
              refine g_v (v_move rfl) rfl ?_
              refine g_v (v_move rfl) rfl ?_
              refine g_l (l_call (Pre := [rvl b (mkG G) L n]) Tryz.call58 rfl (ct_RV_put b G L n root a [] (L.map (·.root)) hR hrl (by omega) (by decide))) rfl ?_
              rintro v L' hv
              unfold vR at hv
              by_cases hE : (setE (mkG G) root a []).2 = 0
              · obtain ⟨G1, G2, hu1, o1, r1, v1, hu2, hR2, _, _⟩ := put1_ok hR hrl (by omega) hE
                rw [put1V_ok hE, hu1, hu2] at hv
                obtain ⟨rfl, rfl⟩ := hv
                refine g_v (v_move rfl) rfl ?_
                refine g_v (v_extract (v := I (setE (mkG G) root a []).1) rfl rfl) rfl ?_
                refine g_v (v_extract (v := I 0) rfl rfl) rfl ?_
                refine g_v (v_assign rfl) rfl ?_
                refine g_v (v_assign rfl) rfl ?_
                refine g_nil ?_
                refine g_seq ?_
                refine g_seq ?_
                refine g_reg ?_
                refine g_v (v_move rfl) rfl ?_
                refine g_v (v_gtr rfl rfl) rfl ?_
                refine g_nil ?_
                refine g_cond rfl (fun h71 => ?_) (fun h71 => ?_)
                · simp at h71
                · skip
                  refine g_skip ?_
                  refine g_reg ?_
                  refine g_v (v_move rfl) rfl ?_
                  refine g_v (v_assign rfl) rfl ?_
                  refine g_nil ?_
                  refine g_blk ?_
                  refine g_reg ?_
                  refine g_v (v_move rfl) rfl ?_
                  refine g_v (v_add rfl rfl (w64 (by omega))) rfl ?_
                  refine g_v (v_assign rfl) rfl ?_
                  refine g_nil ?_
                  exact g_again (a + 1, G2, (setE (mkG G) root a []).1) ⟨by simp only []; omega, hR2, by
                    rw [← hcut, range_cons (a := a) (m := p.size.toNat) (by omega)]
                    simp only [cutF, put1]
                    rw [if_pos hE, hu1, hu2]⟩ (by simp only []; omega) [0, 2, 3, 4, 12, 13, 15] rfl rfl
              · rw [put1V_err hE] at hv
                obtain ⟨rfl, rfl⟩ := hv
                have hnn := setE_nn (mkG G) root a []
                refine g_v (v_move rfl) rfl ?_
                refine g_v (v_extract (v := I 0) rfl rfl) rfl ?_
                refine g_v (v_extract (v := I (setE (mkG G) root a []).2) rfl rfl) rfl ?_
                refine g_v (v_assign rfl) rfl ?_
                refine g_v (v_assign rfl) rfl ?_
                refine g_nil ?_
                refine g_seq ?_
                refine g_seq ?_
                refine g_reg ?_
                refine g_v (v_move rfl) rfl ?_
                refine g_v (v_gtr rfl rfl) rfl ?_
                refine g_nil ?_
                refine g_cond rfl (fun h71 => ?_) (fun h71 => ?_)
                · skip
                  refine g_seq ?_
                  refine g_reg ?_
                  refine g_v (v_move rfl) rfl ?_
                  refine g_v (v_assign rfl) rfl ?_
                  refine g_v (v_assign rfl) rfl ?_
                  refine g_nil ?_
                  exact g_nones rfl (by
                    unfold ingF baseF
                    rw [if_neg hbd, if_neg h36, hf]
                    simp only
                    rw [if_neg (by omega), Int.toNat_natCast, ← hcut, range_cons (a := a) (m := p.size.toNat) (by omega)]
                    simp only [cutF, put1]
                    rw [if_neg hE]) rfl rfl
                · simp at h71
                  omega
            · simp at h60
              refine g_exit rfl ?_
              exact g_here (G, root) ⟨hR, by
                unfold baseF
                rw [if_neg h36, hf]
                simp only
                rw [if_neg (by omega), Int.toNat_natCast, ← hcut, range_nil (by omega)]
                simp only [cutF]⟩ [0, 2, 3, 4, 12] rfl rfl
      · simp at h36
        refine g_skip ?_
        rw [show rvl b S L n = rvl b (mkG G0) L n by rw [hV.e]]
        exact g_here (G0, 0) ⟨Rt_zero hV.rt, by
          unfold baseF
          rw [if_pos h36, hV.e]⟩ [0, 2, 3, 4, 12] rfl rfl
    rintro ⟨G2, z2⟩ ⟨hR2, hb⟩
    simp only [] at hR2 hb ⊢
    refine g_seq ?_
    refine g_seq ?_
    refine g_reg ?_
    refine g_v (v_assign rfl) rfl ?_
    refine g_nil ?_
    refine g_block ?_
    refine g_loop (α := Nat × Gh × Int) (fun z => z.1 ≤ puts.length ∧ Rt z.2.1 (z.2.2 :: L.map (·.root)) ∧ putsF size (mkG z.2.1, z.2.2) (puts.drop z.1) = putsF size (mkG G2, z2) puts) (fun z => U [(0, ptr b 0), (2, I disk), (3, I size), (4, sl sp puts.length cp), (12, I z.2.2), (18, I z.1)]) (fun z => rvl b (mkG z.2.1) L n :: roL 2 sp (putR puts) :: F) (fun z => puts.length - z.1) (0, G2, z2) ⟨by simp, hR2, by simp⟩ [0, 2, 3, 4, 12, 18] rfl rfl ?_
    rintro ⟨k, G, root⟩ ⟨hk, hR, hput⟩
    simp only [] at hk hR hput ⊢
    have hokG := RtOk hR (m := 200) (by simp; omega)
    refine g_seq ?_
    refine g_seq ?_
    refine g_reg ?_
    refine g_v (v_move rfl) rfl ?_
    refine g_v (v_move rfl) rfl ?_
    refine g_v (v_len Tryz.underlying36 rfl) rfl ?_
    refine g_v (v_lss rfl rfl) rfl ?_
    refine g_nil ?_
    refine g_cond rfl (fun h77 => ?_) (fun h77 => ?_)
    · simp at h77
      have hkn : k < puts.length := by omega
      obtain ⟨p, hp⟩ : ∃ p, puts[k]? = some p := ⟨_, List.getElem?_eq_getElem hkn⟩
      have hpd1 := hpd p (List.mem_of_getElem? hp)
      refine g_skip ?_
      refine g_seq ?_
      refine g_block ?_
      refine g_seq ?_
      refine g_seq ?_
      refine g_reg ?_
      refine g_v (v_move rfl) rfl ?_
      refine g_v (v_move rfl) rfl ?_
      refine g_v (v_idxS k Tryz.underlying36 Tryz.sizeOf53 rfl rfl rfl hkn (by rw [putR_len]; exact hkn)) rfl ?_
      refine g_v (v_fieldAdrS (j := k) 0 Tryz.underlying53 rfl rfl Tryz.sizeOf3 (by decide) rfl (by rw [putR_len]; exact hkn)) rfl ?_
      refine g_v (v_loadS (v := I p.at_) Tryz.isAgg3 rfl (putR_at hp) rfl) rfl ?_
      refine g_v (v_lss rfl rfl) rfl ?_
      refine g_v (v_move rfl) rfl ?_
      refine g_gv rfl rfl (fun hg => v_move rfl) rfl rfl ?_
      refine g_gv rfl rfl (fun hg => v_move rfl) rfl rfl ?_
      refine g_gv rfl rfl (fun hg => v_idxS k Tryz.underlying36 Tryz.sizeOf53 rfl rfl rfl hkn (by rw [putR_len]; exact hkn)) rfl rfl ?_
      refine g_gv rfl rfl (fun hg => v_fieldAdrS (j := k) 0 Tryz.underlying53 rfl rfl Tryz.sizeOf3 (by decide) rfl (by rw [putR_len]; exact hkn)) rfl rfl ?_
      refine g_gv rfl rfl (fun hg => v_loadS (v := I p.at_) Tryz.isAgg3 rfl (putR_at hp) rfl) rfl rfl ?_
      refine g_gv rfl rfl (fun hg => v_move rfl) rfl rfl ?_
      refine g_gv rfl rfl (fun hg => v_geq rfl rfl) rfl rfl ?_
      refine g_v (v_or rfl rfl) rfl ?_
      refine g_nil ?_
      refine g_cond rfl (fun h94 => ?_) (fun h94 => ?_)
      · simp at h94
        refine g_seq ?_
        refine g_reg ?_
        refine g_v (v_assign rfl) rfl ?_
        refine g_v (v_assign rfl) rfl ?_
        refine g_nil ?_
        first
        | exact g_nones rfl (by
            unfold ingF
            rw [if_neg hbd, hb]
            simp only
            rw [← hput, drop_cons hp]
            simp only [putsF]
            rw [if_pos (by omega)]) rfl rfl
        | (by_cases ha : addE L n = 0
           · rw [show addI L n = n by unfold addI; rw [if_pos ha], show addL L n disk size root = L ++ [⟨n, disk, size, root⟩] by unfold addL; rw [if_pos ha], show addN L n = n + 1 by unfold addN; rw [if_pos ha], ha]
             exact g_somes (S := mkG G) (P := L ++ [⟨n, disk, size, root⟩]) (n := n + 1) rfl (by
               unfold ingF
               rw [if_neg hbd, hb]
               simp only
               rw [← hput]
               simp only [putsF]
               rw [if_neg (by omega)]) rfl rfl
           · rw [show addI L n = 0 by unfold addI; rw [if_neg ha]]
             exact g_nones rfl (by
               unfold ingF
               rw [if_neg hbd, hb]
               simp only
               rw [← hput]
               simp only [putsF]
               rw [if_pos ha]) rfl rfl)
      · simp at h94
        have han : (p.at_.toNat : Int) = p.at_ := by omega
        refine g_skip ?_
        refine g_seq ?_
        refine g_seq ?_
        refine g_openRV b (mkG G) L n ?_
        intro x s c
        refine g_draw (Lf := [pt b (.cells #[ptr x 0, sl s (L).length c, I (n)] 70 (0, 0)), roL 2 sp (putR puts)]) [(0, false), (1, false), (2, false), (3, false), (4, false), (5, false), (6, false), (7, false), (8, false), (9, false), (11, false), (12, false), (13, false), (14, false), (15, false), (10, true), (16, false)] (by kernel_rfl) (by kernel_rfl) rfl (by kernel_rfl) ?_
        refine d_v rfl (v_move rfl) rfl ?_
        refine d_v rfl (v_nilCheck rfl) rfl ?_
        refine d_v rfl (v_fieldAddr 0 Tryz.underlying70 rfl rfl Tryz.sizeOf59 (by decide) rfl) rfl ?_
        refine d_v rfl (v_load (v := ptr x 0) Tryz.isAgg59 rfl rfl) rfl ?_
        refine d_v rfl (v_move rfl) rfl ?_
        refine d_v rfl (v_move rfl) rfl ?_
        refine d_v rfl (v_move rfl) rfl ?_
        refine d_v rfl (v_idxS k Tryz.underlying36 Tryz.sizeOf53 rfl rfl rfl hkn (by rw [putR_len]; exact hkn)) rfl ?_
        refine d_v rfl (v_fieldAdrS (j := k) 0 Tryz.underlying53 rfl rfl Tryz.sizeOf3 (by decide) rfl (by rw [putR_len]; exact hkn)) rfl ?_
        refine d_v rfl (v_loadS (v := I (p.at_.toNat : Int)) Tryz.isAgg3 rfl (putR_at hp) (by rw [han]; rfl)) rfl ?_
        refine d_v rfl (v_move rfl) rfl ?_
        refine d_v rfl (v_move rfl) rfl ?_
        refine d_v rfl (v_idxS k Tryz.underlying36 Tryz.sizeOf53 rfl rfl rfl hkn (by rw [putR_len]; exact hkn)) rfl ?_
        refine d_v rfl (v_fieldAdrS (j := k) 1 Tryz.underlying53 rfl rfl Tryz.sizeOf9 (by decide) rfl (by rw [putR_len]; exact hkn)) rfl ?_
        refine d_v rfl (v_loadS (v := Str p.data) Tryz.isAgg9 rfl (putR_at hp) rfl) rfl ?_
        refine d_l rfl (l_call (Pre := [ixr x (xS (mkG G))]) Tryz.call59 rfl (ct_R_Get x (mkG G) root p.at_.toNat 200 hokG (by omega) (gOkX_of hR.V (RtRt hR (by simp))))) rfl ?_
        rintro _ _ ⟨rfl, rfl⟩
        refine d_v rfl (v_seql rfl rfl) rfl ?_
        refine d_nil ?_
        refine g_shutRV b x s c (mkG G) (L) (n) ?_
        refine g_cond rfl (fun h111 => ?_) (fun h111 => ?_)
        · simp at h111
          refine g_exit rfl ?_
          refine g_reg ?_
          refine g_v (v_move rfl) rfl ?_
          refine g_v (v_add rfl rfl (w64 (by omega))) rfl ?_
          refine g_v (v_assign rfl) rfl ?_
          refine g_nil ?_
          exact g_again (k + 1, G, root) ⟨by simp only []; omega, hR, by
            rw [← hput, drop_cons hp]
            simp only [putsF]
            rw [if_neg (by omega), if_pos h111]⟩ (by simp only []; omega) [0, 2, 3, 4, 12, 18] rfl rfl
        · simp at h111
          refine g_skip ?_
          refine g_seq ?_
          refine g_draw (Lf := [roL 2 sp (putR puts)]) [(0, false), (1, false), (2, false), (3, false), (4, false), (5, false), (6, false), (7, false), (8, false), (9, false), (10, false), (11, false), (12, true), (13, false), (14, false), (15, false), (16, false), (17, false)] (by kernel_rfl) (by kernel_rfl) rfl (by kernel_rfl) ?_
          refine d_v rfl (v_move rfl) rfl ?_
          refine d_v rfl (v_move rfl) rfl ?_
          refine d_v rfl (v_move rfl) rfl ?_
          refine d_v rfl (v_move rfl) rfl ?_
          refine d_v rfl (v_idxS k Tryz.underlying36 Tryz.sizeOf53 rfl rfl rfl hkn (by rw [putR_len]; exact hkn)) rfl ?_
          refine d_v rfl (v_fieldAdrS (j := k) 0 Tryz.underlying53 rfl rfl Tryz.sizeOf3 (by decide) rfl (by rw [putR_len]; exact hkn)) rfl ?_
          refine d_v rfl (v_loadS (v := I (p.at_.toNat : Int)) Tryz.isAgg3 rfl (putR_at hp) (by rw [han]; rfl)) rfl ?_
          refine d_v rfl (v_move rfl) rfl ?_
          refine d_v rfl (v_move rfl) rfl ?_
          refine d_v rfl (v_idxS k Tryz.underlying36 Tryz.sizeOf53 rfl rfl rfl hkn (by rw [putR_len]; exact hkn)) rfl ?_
          refine d_v rfl (v_fieldAdrS (j := k) 1 Tryz.underlying53 rfl rfl Tryz.sizeOf9 (by decide) rfl (by rw [putR_len]; exact hkn)) rfl ?_
          refine d_v rfl (v_loadS (v := Str p.data) Tryz.isAgg9 rfl (putR_at hp) rfl) rfl ?_
          by_cases hE : (setE (mkG G) root p.at_.toNat p.data).2 = 0
          · obtain ⟨G1, G3, hu1, o1, r1, v1, hu2, hR3, _, _⟩ := put1_ok hR hrl (by omega) hE
            refine d_l rfl (l_call (Pre := [rvl b (mkG G) L n]) Tryz.call58 rfl (ct_RV_put b G L n root p.at_.toNat p.data (L.map (·.root)) hR hrl (by omega) hpd1)) rfl ?_
            rintro v L' hv
            unfold vR at hv
            rw [put1V_ok hE, hu1, hu2] at hv
            obtain ⟨rfl, rfl⟩ := hv
            refine d_v rfl (v_move rfl) rfl ?_
            refine d_v rfl (v_extract (v := I (setE (mkG G) root p.at_.toNat p.data).1) rfl rfl) rfl ?_
            refine d_v rfl (v_extract (v := I 0) rfl rfl) rfl ?_
            refine d_v rfl (v_assign rfl) rfl ?_
            refine d_v rfl (v_assign rfl) rfl ?_
            refine d_nil ?_
            refine g_seq ?_
            refine g_seq ?_
            refine g_reg ?_
            refine g_v (v_move rfl) rfl ?_
            refine g_v (v_gtr rfl rfl) rfl ?_
            refine g_nil ?_
            refine g_cond rfl (fun h129 => ?_) (fun h129 => ?_)
            · simp at h129
            · skip
              refine g_skip ?_
              refine g_reg ?_
              refine g_v (v_move rfl) rfl ?_
              refine g_v (v_assign rfl) rfl ?_
              refine g_nil ?_
              refine g_blk ?_
              refine g_reg ?_
              refine g_v (v_move rfl) rfl ?_
              refine g_v (v_add rfl rfl (w64 (by omega))) rfl ?_
              refine g_v (v_assign rfl) rfl ?_
              refine g_nil ?_
              exact g_again (k + 1, G3, (setE (mkG G) root p.at_.toNat p.data).1) ⟨by simp only []; omega, hR3, by
                rw [← hput, drop_cons hp]
                simp only [putsF, put1]
                rw [if_neg (by omega), if_neg h111, if_pos hE, hu1, hu2]⟩ (by simp only []; omega) [0, 2, 3, 4, 12, 18] rfl rfl
          · have hnn := setE_nn (mkG G) root p.at_.toNat p.data
            refine d_l rfl (l_call (Pre := [rvl b (mkG G) L n]) Tryz.call58 rfl (ct_RV_put b G L n root p.at_.toNat p.data (L.map (·.root)) hR hrl (by omega) hpd1)) rfl ?_
            rintro v L' hv
            unfold vR at hv
            rw [put1V_err hE] at hv
            obtain ⟨rfl, rfl⟩ := hv
            refine d_v rfl (v_move rfl) rfl ?_
            refine d_v rfl (v_extract (v := I 0) rfl rfl) rfl ?_
            refine d_v rfl (v_extract (v := I (setE (mkG G) root p.at_.toNat p.data).2) rfl rfl) rfl ?_
            refine d_v rfl (v_assign rfl) rfl ?_
            refine d_v rfl (v_assign rfl) rfl ?_
            refine d_nil ?_
            refine g_seq ?_
            refine g_seq ?_
            refine g_reg ?_
            refine g_v (v_move rfl) rfl ?_
            refine g_v (v_gtr rfl rfl) rfl ?_
            refine g_nil ?_
            refine g_cond rfl (fun h129 => ?_) (fun h129 => ?_)
            · skip
              refine g_seq ?_
              refine g_reg ?_
              refine g_v (v_move rfl) rfl ?_
              refine g_v (v_assign rfl) rfl ?_
              refine g_v (v_assign rfl) rfl ?_
              refine g_nil ?_
              exact g_nones rfl (by
                unfold ingF
                rw [if_neg hbd, hb]
                simp only
                rw [← hput, drop_cons hp]
                simp only [putsF, put1]
                rw [if_neg (by omega), if_neg h111, if_neg hE]) rfl rfl
            · simp at h129
              omega
    · simp at h77
      obtain rfl : k = puts.length := by omega
      rw [List.drop_length] at hput
      refine g_exit rfl ?_
      refine g_seq ?_
      refine g_reg ?_
      refine g_v (v_move rfl) rfl ?_
      refine g_v (v_move rfl) rfl ?_
      refine g_v (v_move rfl) rfl ?_
      refine g_v (v_move rfl) rfl ?_
      refine g_l (l_call (Pre := [rvl b (mkG G) L n]) Tryz.call60 rfl (ct_RV_add b (mkG G) L n disk size root (by omega) (by omega))) rfl ?_
      rintro _ _ ⟨rfl, rfl⟩
      refine g_v (v_extract (v := I (addI L n)) rfl rfl) rfl ?_
      refine g_v (v_extract (v := I (addE L n)) rfl rfl) rfl ?_
      refine g_v (v_assign rfl) rfl ?_
      refine g_v (v_assign rfl) rfl ?_
      refine g_nil ?_
      first
      | exact g_nones rfl (by
          unfold ingF
          rw [if_neg hbd, hb]
          simp only
          rw [← hput, drop_cons hp]
          simp only [putsF]
          rw [if_pos (by omega)]) rfl rfl
      | (by_cases ha : addE L n = 0
         · rw [show addI L n = n by unfold addI; rw [if_pos ha], show addL L n disk size root = L ++ [⟨n, disk, size, root⟩] by unfold addL; rw [if_pos ha], show addN L n = n + 1 by unfold addN; rw [if_pos ha], ha]
           exact g_somes (S := mkG G) (P := L ++ [⟨n, disk, size, root⟩]) (n := n + 1) rfl (by
             unfold ingF
             rw [if_neg hbd, hb]
             simp only
             rw [← hput]
             simp only [putsF]
             rw [if_neg (by omega)]) rfl rfl
         · rw [show addI L n = 0 by unfold addI; rw [if_neg ha]]
           exact g_nones rfl (by
             unfold ingF
             rw [if_neg hbd, hb]
             simp only
             rw [← hput]
             simp only [putsF]
             rw [if_pos ha]) rfl rfl)

end Go.Proofs.YthdjckbjjfiopaaGreatDoor
