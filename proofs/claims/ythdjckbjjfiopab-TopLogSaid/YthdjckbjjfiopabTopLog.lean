/- The walk through the law TopLog. No condition. -/
import Derived.Test.YthdjckbjjfiopabLg4
import Derived.Test.YthdjckbjjfiopabLgC
import Derived.Test.YthdjckbjjfiopabLgA
import Derived.Test.YthdjckbjjfiopabLight
import Derived.Test.YthdjckbjjfiopabTopNum
namespace Go.Proofs.Ythdjckbjjfiopab
open Go.Sl Go.Proofs
set_option linter.unusedVariables false
set_option linter.unusedSimpArgs false
theorem dR_one {gl : LogG} : ∀ r ∈ dR gl, r.length = 1 := fun r hr => by simp only [dR, List.mem_map] at hr; obtain ⟨x, _, rfl⟩ := hr; rfl
theorem dR_ones {gl : LogG} : ∀ r ∈ dR gl, ones r = true := fun r hr => by simp only [dR, List.mem_map] at hr; obtain ⟨x, _, rfl⟩ := hr; rfl
theorem okW_add {N i : Nat} {D : DiskM} (h : okW N i D) (from_ many first used : Nat) (c : List ChangeM) : okW N (i + 200) (addD from_ many first used c D) := by
  unfold addD
  split
  · rename_i hv
    obtain ⟨h1, _, _⟩ := addV_ok hv
    refine okW_le (okW_run _ _ _ h) ?_
    have := layL_len from_ many first used c
    simp only [addL, List.length_append, List.length_cons, List.length_nil]
    omega
  · exact okW_le h (by omega)
theorem bldKV (k v : Bytes) (w : World) : (Instr.build 90 #[(0, Str k), (1, Str v)]).run Try.prog w = .ok (.agg (encC ⟨k, v, false⟩).toArray) w := by
  simp [Instr.build, Try.zeroValue90, Try.runUnderlying90, Try.sizeOf9, Try.sizeOf4, Instr.fill, cells_agg, encC, show ∀ s : Bytes, (Str s).cells = #[Str s] from fun _ => rfl]
theorem sec_new {n from_ : Nat} {i : Nat} (h : from_ + i < n) : secD (newD n) from_ i = nulls 80 := by simp [secD, newD, h]
theorem new_80 (n : Nat) : ∀ x ∈ (newD n).now, x.length = 80 := fun x hx => by simp [newD] at hx; rw [hx.2]; simp [nulls]
theorem look_nulls {num : Nat} : lookB num (nulls 80) = none := by
  unfold lookB
  rw [if_neg]
  intro h
  have : sk (nulls 80) 0 = 0 := by decide
  rw [this] at h
  rcases h.2.1 with h | h <;> cases h
theorem scan_new {n from_ many first : Nat} (h : from_ + many ≤ n) : scanF first (secD (newD n) from_) many 0 [] [] 0 = ([], 0) := by
  cases many with
  | zero => rfl
  | succ m => exact scan_none (by rw [sec_new (by omega)]; exact look_nulls)
def S80 (D : DiskM) : Prop := (∀ x ∈ D.kept, x.length = 80) ∧ (∀ x ∈ D.now, x.length = 80) ∧ ∀ t ∈ D.wait, t.2.length = 80
theorem set_80 {L : List Bytes} {n : Nat} {s : Bytes} (h : ∀ x ∈ L, x.length = 80) (hs : s.length = 80) : ∀ x ∈ L.set n s, x.length = 80 := fun x hx => by
  rcases List.mem_or_eq_of_mem_set hx with h' | h'
  · exact h x h'
  · rw [h']; exact hs
theorem S80_step {D : DiskM} (h : S80 D) : S80 (stepD D) := ⟨by rw [stepD_kept]; exact h.1, by rw [stepD_now]; exact h.2.1, by rw [stepD_wait]; exact h.2.2⟩
theorem S80_st {N : Nat} {D : DiskM} {x : Stp} (h : S80 D) (ho : okStp N x) : S80 (stD D x) := by
  cases x with
  | none =>
    show S80 (flushD D)
    unfold flushD
    split
    · have := S80_step h
      exact ⟨this.2.1, this.2.1, fun t ht => by cases ht⟩
    · exact S80_step h
  | some y =>
    show S80 (writeD D y.1 y.2)
    unfold writeD
    split
    · exact h
    · split
      · have := S80_step h
        refine ⟨this.1, set_80 this.2.1 (fullB_80 ho.2), fun t ht => ?_⟩
        simp only [wroteD, List.mem_append, List.mem_singleton] at ht
        rcases ht with ht | rfl
        · exact this.2.2 t ht
        · exact fullB_80 ho.2
      · exact S80_step h
theorem S80_run {N : Nat} : ∀ (l : List Stp) (D : DiskM), S80 D → (∀ x ∈ l, okStp N x) → S80 (runS D l).2
  | [], D, h, _ => h
  | x :: l, D, h, ho => by
    have h1 := S80_st h (ho x (List.mem_cons_self ..))
    by_cases h0 : stE D x = 0
    · rw [run_ok h0]; exact S80_run l _ h1 (fun y hy => ho y (List.mem_cons_of_mem _ hy))
    · rw [run_bad h0]; exact h1
theorem S80_add {from_ many first used N : Nat} {c : List ChangeM} {D : DiskM} (h : S80 D) (hN : from_ + many ≤ N) : S80 (addD from_ many first used c D) := by
  unfold addD
  split
  · rename_i hv; exact S80_run _ _ h (addL_ok hN hv)
  · exact h
theorem rest_80 {keep : Int} {w : List (Nat × Bytes)} {K : List Bytes} (hK : ∀ x ∈ K, x.length = 80) (hw : ∀ t ∈ w, t.2.length = 80) : ∀ k, ∀ x ∈ restK keep w K k, x.length = 80
  | 0 => hK
  | k + 1 => by
    have ih := rest_80 (keep := keep) hK hw k
    unfold restK
    split
    · rename_i t ht
      split
      · exact set_80 ih (hw t (List.mem_of_getElem? ht))
      · exact ih
    · exact ih
theorem flt_cases : ∀ (c : List ChangeM), fltC c = 0 ∨ fltC c = 2 ∨ fltC c = 3
  | [] => .inl rfl
  | x :: c => by
    unfold fltC
    split
    · exact flt_cases c
    · unfold chkC; split; simp; split <;> simp
theorem addV_9 (many used : Nat) (c : List ChangeM) : addV many used c ≠ 9 := by
  unfold addV
  split
  · decide
  · split
    · decide
    · rcases flt_cases c with h | h | h <;> rw [h] <;> decide
theorem add_cases {from_ many first used : Nat} {c : List ChangeM} {D : DiskM} {ds : Deeds} (hq : calm D) (hN : from_ + many ≤ D.now.length) (hs : Safe from_ many first D.now ds used) :
    (addE from_ many first used c D = 0 ∧ calm (addD from_ many first used c D) ∧ Safe from_ many first (addD from_ many first used c D).now (ds ++ [c]) (addU from_ many first used c D) ∧ c.length ≤ 72) ∨
    (addE from_ many first used c D = 9 ∧ ∀ keep, ∃ u, scanF first (secK (restL keep (addD from_ many first used c D)) from_) many 0 [] [] 0 = (ds, u) ∨ scanF first (secK (restL keep (addD from_ many first used c D)) from_) many 0 [] [] 0 = (ds ++ [c], u)) ∨
    (addE from_ many first used c D ≠ 0 ∧ addE from_ many first used c D ≠ 9 ∧ addD from_ many first used c D = D ∧ addU from_ many first used c D = used) := by
  by_cases hv : addV many used c = 0
  · cases hr : runS D (addL from_ many first used c) with
    | mk e D' =>
      have hE : addE from_ many first used c D = e := by unfold addE; rw [if_pos hv, hr]
      have hD : addD from_ many first used c D = D' := by unfold addD; rw [if_pos hv, hr]
      rcases add_crash hq hN hv hs hr with ⟨h0, h1, h2⟩ | ⟨h0, h1⟩
      · left
        rw [hE, hD]
        exact ⟨h0, h1, by unfold addU; rw [hE, if_pos h0]; exact h2, (addV_ok hv).1⟩
      · right; left
        rw [hE, hD]
        exact ⟨h0, h1⟩
  · obtain ⟨a, b, d⟩ := add_badV (from_ := from_) (first := first) (D := D) (rfl : addV many used c = _) hv
    right; right
    rw [a, b, d]
    exact ⟨hv, addV_9 _ _ _, rfl, rfl⟩
def lightD (gl : LogG) (most : Int) : Bool := decide ((gl.length : Int) ≤ most) && gl.all fun x => lightC x.1 14
structure TLS where
  i : Nat
  D : DiskM
  gn : LogG
  ga : LogG
  used : Nat
  sn : LocA
  sa : LocA

theorem ct_T_lightDeeds (gl : LogG) (s : Option Addr) (cap : Nat) (most : Int) (hl : gl.length ≤ 9223372036854775807) (hls : ∀ x ∈ gl, x.1.length ≤ 9223372036854775807) (F : List HProp) : Ct Try.prog 46 [sl s gl.length cap, I most] ([roL 1 s (dR gl), dees gl] ++ F) (R1 (Bo (lightD gl most)) (roL 1 s (dR gl) :: dees gl :: F)) := by
  show Ct Try.prog 46 [sl s gl.length cap, I most] (roL 1 s (dR gl) :: dees gl :: F) _
  refine Ct.of Try.func46 rfl 22 Try.ntmps46 (by simp) fun w0 => ?_
  refine g_seq ?_
  refine g_reg ?_
  refine g_v (v_assign rfl) rfl ?_
  refine g_nil ?_
  refine g_seq ?_
  refine g_seq ?_
  refine g_reg ?_
  refine g_v (v_move rfl) rfl ?_
  refine g_v (v_len Try.underlying81 rfl) rfl ?_
  refine g_v (v_move rfl) rfl ?_
  refine g_v (v_gtr rfl rfl) rfl ?_
  refine g_nil ?_
  refine g_cond rfl (fun h9 => ?_) (fun h9 => ?_)
  · simp at h9
    refine g_seq ?_
    refine g_reg ?_
    refine g_v (v_assign rfl) rfl ?_
    refine g_nil ?_
    refine g_ret1 rfl rfl ?_
    show Bo false = _
    rw [show lightD gl most = false by unfold lightD; rw [decide_eq_false (by omega)]; rfl]
  · simp at h9
    refine g_skip ?_
    refine g_seq ?_
    refine g_seq ?_
    refine g_reg ?_
    refine g_v (v_assign rfl) rfl ?_
    refine g_nil ?_
    refine g_block ?_
    refine g_loop (α := Nat) (fun i => i ≤ gl.length ∧ (gl.take i).all (fun x => lightC x.1 14) = true) (fun i => U [(0, sl s gl.length cap), (5, I i)]) (fun _ => roL 1 s (dR gl) :: dees gl :: F) (fun i => gl.length - i) 0 (by simp) [0, 5] rfl rfl ?_
    rintro i ⟨hi, hall⟩
    refine g_seq ?_
    refine g_seq ?_
    refine g_reg ?_
    refine g_v (v_move rfl) rfl ?_
    refine g_v (v_move rfl) rfl ?_
    refine g_v (v_len Try.underlying81 rfl) rfl ?_
    refine g_v (v_lss rfl rfl) rfl ?_
    refine g_nil ?_
    refine g_cond rfl (fun h13 => ?_) (fun h13 => ?_)
    · simp at h13
      have hkn : i < gl.length := by omega
      obtain ⟨x, hx⟩ : ∃ x, gl[i]? = some x := ⟨_, List.getElem?_eq_getElem hkn⟩
      refine g_skip ?_
      refine g_seq ?_
      refine g_block ?_
      refine g_seq ?_
      refine g_deesAt gl (List.mem_of_getElem? hx) ?_
      refine g_reg ?_
      refine g_v (v_move rfl) rfl ?_
      refine g_v (v_move rfl) rfl ?_
      refine g_v (v_idxS i Try.underlying81 Try.sizeOf44 rfl rfl rfl hkn (by rw [dR_len]; exact hkn)) rfl ?_
      refine g_v (v_loadS0 (v := sl x.2.1 x.1.length x.2.2) Try.isAgg44 rfl (dR_at hx) rfl) rfl ?_
      refine g_l (l_call (Pre := [roL 3 x.2.1 (chR x.1)]) Try.call61 rfl (ct_L_LightChanges x.1 x.2.1 x.2.2 14 (hls x (List.mem_of_getElem? hx)))) rfl ?_
      rintro _ _ ⟨rfl, rfl⟩
      refine g_v (v_not rfl) rfl ?_
      refine g_nil ?_
      refine g_cond rfl (fun h21 => ?_) (fun h21 => ?_)
      · simp at h21
        refine g_seq ?_
        refine g_reg ?_
        refine g_v (v_assign rfl) rfl ?_
        refine g_nil ?_
        refine g_ret1 rfl rfl ?_
        show Bo false = _
        rw [show lightD gl most = false by unfold lightD; rw [all_miss hx (by simpa using h21)]; simp]
      · simp at h21
        refine g_skip ?_
        refine g_blk ?_
        refine g_reg ?_
        refine g_v (v_move rfl) rfl ?_
        refine g_v (v_add (r := ((i + 1 : Nat) : Int)) rfl rfl (by rw [show ((i : Nat) : Int) + 1 = ((i + 1 : Nat) : Int) by omega]; exact w64 (by omega))) rfl ?_
        refine g_v (v_assign rfl) rfl ?_
        refine g_nil ?_
        exact g_again (i + 1) ⟨by omega, take_all hall hx (by simpa using h21)⟩ (by omega) [0, 5] rfl rfl
    · simp at h13
      obtain rfl : i = gl.length := by omega
      rw [List.take_length] at hall
      refine g_exit rfl ?_
      refine g_seq ?_
      refine g_reg ?_
      refine g_v (v_assign rfl) rfl ?_
      refine g_nil ?_
      refine g_ret1 rfl rfl ?_
      show Bo true = _
      rw [show lightD gl most = true by unfold lightD; rw [hall, decide_eq_true (by omega)]; rfl]

theorem ct_T_TopLog (gl : LogG) (s : Option Addr) (cap : Nat) (fuse keep : Int) (hl : gl.length ≤ 9223372036854775807) (hls : ∀ x ∈ gl, x.1.length ≤ 9223372036854775807) (hf : ok64 fuse) (hk : 0 ≤ keep ∧ keep < 18446744073709551616) (F : List HProp) : Ct Try.prog 10 [sl s gl.length cap, I fuse, Uw keep] ([deeA s gl] ++ F) (R1 (Bo true) (deeA s gl :: F)) := by
  show Ct Try.prog 10 [sl s gl.length cap, I fuse, Uw keep] (deeA s gl :: F) _
  refine Ct.of Try.func10 rfl 138 Try.ntmps10 (by simp) fun w0 => ?_
  refine g_deeA s gl ?_
  refine g_seq ?_
  refine g_reg ?_
  refine g_v (v_assign rfl) rfl ?_
  refine g_nil ?_
  refine g_seq ?_
  refine g_reg ?_
  refine g_l (l_call (Pre := []) Try.call17 rfl (ct_disk_New 60)) rfl ?_
  rintro _ _ (⟨hno, _, _⟩ | ⟨_, b21, rfl, rfl⟩)
  · exact absurd (by decide) hno
  rw [show newD (60 : Int).toNat = newD 60 from rfl]
  refine g_v (v_move rfl) rfl ?_
  refine g_v (v_extract (v := ptr b21 0) rfl rfl) rfl ?_
  refine g_v (v_extract (v := errV 0) rfl rfl) rfl ?_
  refine g_v (v_assign rfl) rfl ?_
  refine g_v (v_assign rfl) rfl ?_
  refine g_nil ?_
  refine g_seq ?_
  refine g_seq ?_
  refine g_reg ?_
  refine g_v (v_move rfl) rfl ?_
  refine g_v (v_ineq Try.underlying29 rfl) rfl ?_
  refine g_v (v_move rfl) rfl ?_
  refine g_gv1 rfl rfl rfl (v_move rfl) rfl ?_
  refine g_gv1 rfl rfl rfl (v_pnil Try.underlying36 rfl) rfl ?_
  refine g_v (v_or rfl rfl) rfl ?_
  refine g_nil ?_
  refine g_cond rfl (fun h29 => ?_) (fun h29 => ?_)
  · simp at h29
  · skip
    refine g_skip ?_
    refine g_seq ?_
    refine g_reg ?_
    refine g_v (v_move rfl) rfl ?_
    refine g_l (l_call (Pre := [dsk 109 114 b21 (newD 60)]) Try.call44 rfl (ct_log_Open b21 (newD 60) 1 59 5 (new_80 60) (by decide))) rfl ?_
    rintro _ _ (⟨hbad, _, _⟩ | ⟨_, hdn, _, _⟩ | ⟨_, _, bl, g0, so, co, used, rfl, _, _, hsc, rfl⟩)
    · exact absurd hbad (by decide)
    · cases hdn
    rw [show scanF (5 : Int).toNat (secD (newD 60) (1 : Int).toNat) (59 : Int).toNat 0 [] [] 0 = ([], 0) from scan_new (by decide)] at hsc
    obtain ⟨hg, rfl⟩ : g0.map (·.1) = [] ∧ used = 0 := by injection hsc with h1 h2; exact ⟨h1.symm, h2.symm⟩
    obtain rfl : g0 = [] := List.map_eq_nil_iff.1 hg
    rw [show lgC b21 (1 : Int).toNat (59 : Int).toNat (5 : Int).toNat 0 = lgC b21 1 59 5 0 from rfl]
    refine g_v (v_move rfl) rfl ?_
    refine g_v (v_extract (v := ptr bl 0) rfl rfl) rfl ?_
    refine g_v (v_extract (v := sl so 0 co) rfl rfl) rfl ?_
    refine g_v (v_extract (v := errV 0) rfl rfl) rfl ?_
    refine g_v (v_assign rfl) rfl ?_
    refine g_v (v_assign rfl) rfl ?_
    refine g_v (v_assign rfl) rfl ?_
    refine g_nil ?_
    refine g_seq ?_
    refine g_seq ?_
    refine g_reg ?_
    refine g_v (v_move rfl) rfl ?_
    refine g_v (v_ineq Try.underlying29 rfl) rfl ?_
    refine g_v (v_move rfl) rfl ?_
    refine g_gv1 rfl rfl rfl (v_move rfl) rfl ?_
    refine g_gv1 rfl rfl rfl (v_pnil Try.underlying82 rfl) rfl ?_
    refine g_v (v_or rfl rfl) rfl ?_
    refine g_v (v_move rfl) rfl ?_
    refine g_gv1 rfl rfl rfl (v_move rfl) rfl ?_
    refine g_gv1 rfl rfl rfl (v_len Try.underlying81 rfl) rfl ?_
    refine g_gv1 rfl rfl rfl (v_neq rfl rfl) rfl ?_
    refine g_v (v_or rfl rfl) rfl ?_
    refine g_v (v_move rfl) rfl ?_
    refine g_gv1 rfl rfl rfl (v_move rfl) rfl ?_
    refine g_gl rfl rfl rfl (l_call (Pre := [pt (bl) (.cells (lgC b21 1 59 5 (0)) 137 (0, 0))]) Try.call45 rfl (ct_log_Room bl b21 1 59 5 0 (by decide))) rfl ?_
    rintro _ _ ⟨rfl, rfl⟩
    refine g_gv1 rfl rfl rfl (v_neq rfl rfl) rfl ?_
    refine g_v (v_or rfl rfl) rfl ?_
    refine g_nil ?_
    refine g_cond rfl (fun h51 => ?_) (fun h51 => ?_)
    · simp at h51
    · skip
      refine g_skip ?_
      refine g_seq ?_
      refine g_seq ?_
      refine g_reg ?_
      refine g_v (v_move rfl) rfl ?_
      refine g_l (l_call (Pre := [roL 1 s (dR gl), dees gl]) Try.call46 rfl (ct_T_lightDeeds gl s cap 8 hl hls)) rfl ?_
      rintro _ _ ⟨rfl, rfl⟩
      refine g_v (v_not rfl) rfl ?_
      refine g_nil ?_
      refine g_cond rfl (fun h54 => ?_) (fun h54 => ?_)
      · skip
        refine g_seq ?_
        refine g_reg ?_
        refine g_v (v_assign rfl) rfl ?_
        refine g_nil ?_
        refine g_ret1 rfl rfl ?_
        show Bo _ = Bo true
        simp
      · simp at h54
        have hg8 : gl.length ≤ 8 := by unfold lightD at h54; simp at h54; omega
        have hg14 : ∀ x ∈ gl, x.1.length ≤ 14 := fun x hx => by
          unfold lightD at h54
          simp only [Bool.and_eq_true, List.all_eq_true] at h54
          have := h54.2 x hx
          unfold lightC at this
          simp at this
          omega
        refine g_skip ?_
        refine g_seq ?_
        refine g_reg ?_
        refine g_v (v_move rfl) rfl ?_
        refine g_v (v_move rfl) rfl ?_
        refine g_v (v_max rfl rfl) rfl ?_
        refine g_v (v_min rfl rfl) rfl ?_
        refine g_l (l_call (Pre := [dsk 109 114 b21 (newD 60)]) Try.call47 rfl (ct_disk_Arm b21 (newD 60) (if (200 : Int) < (if fuse < -1 then -1 else fuse) then 200 else (if fuse < -1 then -1 else fuse)))) rfl ?_
        rintro _ _ ⟨rfl, rfl⟩
        obtain ⟨fz, hfz⟩ : ∃ z : Int, (if (if (200 : Int) < (if fuse < -1 then -1 else fuse) then 200 else (if fuse < -1 then -1 else fuse)) < -1 then -1 else (if (200 : Int) < (if fuse < -1 then -1 else fuse) then 200 else (if fuse < -1 then -1 else fuse))) = z := ⟨_, rfl⟩
        have hfz1 : -1 ≤ fz ∧ fz ≤ 200 := by rw [← hfz]; (repeat' split) <;> omega
        rw [hfz]
        refine g_nil ?_
        refine g_seq ?_
        refine g_reg ?_
        refine g_v (v_assign rfl) rfl ?_
        refine g_nil ?_
        refine g_seq ?_
        refine g_reg ?_
        refine g_v (v_assign rfl) rfl ?_
        refine g_nil ?_
        refine g_seq ?_
        refine g_seq ?_
        refine g_nilown 44 1 (dR []) rfl ?_
        refine g_freeze (T := 44) (cap := 0) none ?_
        refine g_roDup (sz := 1) none (dR []) ?_
        refine g_dees0 ?_
        refine g_deesDup [] ?_
        have hini : okW 60 0 (⟨(newD 60).kept, (newD 60).now, (newD 60).wait, fz, (newD 60).down⟩ : DiskM) := by have := okW_new 60; exact ⟨this.1, this.2.1, ⟨hfz1.1, by simp only; omega⟩, this.2.2.2.1, this.2.2.2.2⟩
        refine g_reg ?_
        refine g_v (v_assign rfl) rfl ?_
        refine g_nil ?_
        refine g_block ?_
        refine g_loop (α := TLS) (fun z => z.i ≤ gl.length ∧ okW 60 (300 * z.i) z.D ∧ calm z.D ∧ S80 z.D ∧ Safe 1 59 5 z.D.now (z.gn.map (·.1)) z.used ∧ z.ga.map (·.1) = z.gn.map (·.1) ∧ z.gn.length ≤ z.i ∧ (∀ d ∈ z.gn.map (·.1), d.length ≤ 72)) (fun z => U [(0, sl s gl.length cap), (2, Uw keep), (7, ptr b21 0), (9, ptr bl 0), (11, sl z.sn.1 z.gn.length z.sn.2), (12, sl z.sa.1 z.ga.length z.sa.2), (13, I z.i)]) (fun z => pt (bl) (.cells (lgC b21 1 59 5 (z.used)) 137 (0, 0)) :: roL 1 z.sn.1 (dR z.gn) :: dees z.gn :: roL 1 z.sa.1 (dR z.ga) :: dees z.ga :: dsk 109 114 b21 (z.D) :: roL 1 s (dR gl) :: dees gl :: deeA s gl :: F) (fun z => gl.length - z.i) (⟨0, ⟨(newD 60).kept, (newD 60).now, (newD 60).wait, fz, (newD 60).down⟩, [], [], 0, (none, 0), (none, 0)⟩ : TLS) ⟨by simp, hini, ⟨rfl, rfl, rfl⟩, ⟨new_80 60, new_80 60, fun t ht => by cases ht⟩, ⟨scan_new (by decide), fun j _ hj hs => by obtain ⟨t, ht⟩ := hs; rw [show secK (newD 60).now 1 j = nulls 80 from sec_new (by omega), look_nulls] at ht; cases ht⟩, rfl, by simp, by simp⟩ [0, 2, 7, 9, 11, 12, 13] rfl rfl ?_
        rintro ⟨i, D, gn, ga, used, ⟨sn, cn⟩, ⟨sa, ca⟩⟩ ⟨hi, hok, hq, h80, hsafe, hds, hgn, hln⟩
        simp only [] at hi hok hq h80 hsafe hds hgn hln ⊢
        have hus := scan_used hsafe.1
        refine g_seq ?_
        refine g_seq ?_
        refine g_reg ?_
        refine g_v (v_move rfl) rfl ?_
        refine g_v (v_move rfl) rfl ?_
        refine g_v (v_len Try.underlying81 rfl) rfl ?_
        refine g_v (v_lss rfl rfl) rfl ?_
        refine g_nil ?_
        refine g_cond rfl (fun h63 => ?_) (fun h63 => ?_)
        · simp at h63
          have hkn : i < gl.length := by omega
          obtain ⟨x, hx⟩ : ∃ x, gl[i]? = some x := ⟨_, List.getElem?_eq_getElem hkn⟩
          have hx14 := hg14 x (List.mem_of_getElem? hx)
          refine g_skip ?_
          refine g_seq ?_
          refine g_block ?_
          refine g_seq ?_
          refine g_deesAt gl (List.mem_of_getElem? hx) ?_
          refine g_reg ?_
          refine g_v (v_move rfl) rfl ?_
          refine g_v (v_move rfl) rfl ?_
          refine g_v (v_move rfl) rfl ?_
          refine g_v (v_idxS i Try.underlying81 Try.sizeOf44 rfl rfl rfl hkn (by rw [dR_len]; exact hkn)) rfl ?_
          refine g_v (v_loadS0 (v := sl x.2.1 x.1.length x.2.2) Try.isAgg44 rfl (dR_at hx) rfl) rfl ?_
          refine g_l (l_call (Pre := [pt (bl) (.cells (lgC b21 1 59 5 (used)) 137 (0, 0)), dsk 109 114 b21 (D), roL 3 x.2.1 (chR x.1)]) Try.call48 rfl (ct_log_Add bl b21 1 59 5 used x.1 x.2.1 x.2.2 60 (300 * i) D hok ⟨by decide, by omega⟩ ⟨by decide, by decide, by decide, hus⟩ (hls x (List.mem_of_getElem? hx)))) rfl ?_
          rintro _ _ ⟨rfl, rfl⟩
          have hac := add_cases (c := x.1) hq (by rw [hok.2.1]; decide) hsafe
          refine g_v (v_assign rfl) rfl ?_
          refine g_nil ?_
          refine g_seq ?_
          refine g_nilown 44 1 (dR []) rfl ?_
          refine g_drawT (Lf := [roL 1 s (dR gl)]) (.q 0 (.q 2 (.q 3 (.q 4 (.q 5 (.alt (.l 1 (.l 6 (.l 7 (.q 8 (.nil))))) (.l 6 (.l 1 (.l 7 (.q 8 (.nil))))))))))) (by kernel_rfl) (by kernel_rfl) (by kernel_rfl) ?_
          refine t_v rfl (v_move rfl) rfl ?_
          refine t_v rfl (v_move rfl) rfl ?_
          refine t_v rfl (v_move rfl) rfl ?_
          refine t_v rfl (v_idxS i Try.underlying81 Try.sizeOf44 rfl rfl rfl hkn (by rw [dR_len]; exact hkn)) rfl ?_
          refine t_v rfl (v_loadS0 (v := sl x.2.1 x.1.length x.2.2) Try.isAgg44 rfl (dR_at hx) rfl) rfl ?_
          refine t_alt ?_ ?_
          · skip
            refine t_l rfl (l_append Try.underlying81 Try.sizeOf44 Try.zeroValue44 rfl Try.typeInfo44 (by decide) rfl rfl rfl (dR_len _) dR_one dR_ones ⟨by omega, by decide, by decide⟩) rfl ?_
            rintro _ _ ⟨s73, c73, rfl, rfl⟩
            rw [Nat.zero_add, show dR [] ++ dR gn = dR gn from rfl]
            refine t_l rfl (l_buildSlice [[sl x.2.1 x.1.length x.2.2]] Try.underlying81 Try.sizeOf44 Try.zeroValue44 rfl rfl rfl (by simp) (by decide) (by decide)) rfl ?_
            rintro _ _ ⟨b78, rfl, rfl⟩
            refine t_l rfl (l_append Try.underlying81 Try.sizeOf44 Try.zeroValue44 rfl Try.typeInfo44 (by decide) rfl rfl (dR_len _) rfl (by simp) (by simp [ones, one, sl]) ⟨by omega, by decide, by decide⟩) rfl ?_
            rintro _ _ ⟨s79, c79, rfl, rfl⟩
            rw [dR_snoc, show gn.length + 1 = (gn ++ [(x.1, (x.2.1, x.2.2))]).length by simp]
            refine t_v rfl (v_assign rfl) rfl ?_
            refine t_nil ?_
            refine g_seq ?_
            refine g_seq ?_
            refine g_reg ?_
            refine g_v (v_move rfl) rfl ?_
            refine g_v (v_ieql Try.underlying29 rfl) rfl ?_
            refine g_nil ?_
            refine g_cond rfl (fun h81 => ?_) (fun h81 => ?_)
            · have he : addE 1 59 5 used x.1 D = 0 := by simpa using h81
              obtain ⟨_, hq', hs', _⟩ | ⟨h9, _⟩ | ⟨h0, _⟩ := hac
              rotate_left
              · rw [he] at h9; cases h9
              · exact absurd he h0
              refine g_seq ?_
              refine g_reg ?_
              refine g_v (v_move rfl) rfl ?_
              refine g_v (v_assign rfl) rfl ?_
              refine g_nil ?_
              refine g_exit rfl ?_
              refine g_reg ?_
              refine g_v (v_move rfl) rfl ?_
              refine g_v (v_add (r := ((i + 1 : Nat) : Int)) rfl rfl (by rw [show ((i : Nat) : Int) + 1 = ((i + 1 : Nat) : Int) by omega]; exact w64 (by omega))) rfl ?_
              refine g_v (v_assign rfl) rfl ?_
              refine g_nil ?_
              refine g_freeze (T := 44) (cap := c79) s79 ?_
              refine g_roDup (sz := 1) s79 (dR (gn ++ [(x.1, (x.2.1, x.2.2))])) ?_
              refine g_deesAt gl (List.mem_of_getElem? hx) ?_
              refine g_deesApp gn x.1 x.2.1 x.2.2 ?_
              refine g_deesDup (gn ++ [(x.1, (x.2.1, x.2.2))]) ?_
              refine g_again (⟨i + 1, addD 1 59 5 used x.1 D, gn ++ [(x.1, (x.2.1, x.2.2))], gn ++ [(x.1, (x.2.1, x.2.2))], addU 1 59 5 used x.1 D, (s79, c79), (s79, c79)⟩ : TLS) ⟨by simp; omega, okW_le (okW_add hok _ _ _ _ _) (by simp; omega), hq', S80_add (N := 60) h80 (by decide), ?_, rfl, by simp; omega, ?_⟩ (by simp; omega) [0, 2, 7, 9, 11, 12, 13] rfl rfl
              · simp only []
                rw [map_snoc]
                exact hs'
              · simp only []
                rw [map_snoc]
                intro d hd
                rcases List.mem_append.1 hd with hd | hd
                · exact hln d hd
                · rw [List.mem_singleton] at hd; subst hd; omega
            · have he : ¬ addE 1 59 5 used x.1 D = 0 := by simpa using h81
              refine g_skip ?_
              refine g_seq ?_
              refine g_seq ?_
              refine g_reg ?_
              refine g_v (v_move rfl) rfl ?_
              refine g_l (l_call (Pre := []) Try.call36 rfl (ct_T_numb (addE 1 59 5 used x.1 D))) rfl ?_
              rintro _ _ ⟨rfl, rfl⟩
              refine g_v (v_eql rfl rfl) rfl ?_
              refine g_nil ?_
              refine g_cond rfl (fun h85 => ?_) (fun h85 => ?_)
              · have he9 : addE 1 59 5 used x.1 D = 9 := by simpa using h85
                obtain ⟨h0, _⟩ | ⟨_, hres⟩ | ⟨_, h9, _⟩ := hac
                · exact absurd h0 he
                rotate_left
                · exact absurd he9 h9
                have hok2 := okW_le (okW_add hok 1 59 5 used x.1) (show 300 * i + 200 ≤ 5000 by omega)
                have h802 := S80_add (from_ := 1) (many := 59) (first := 5) (used := used) (c := x.1) (N := 60) h80 (by decide)
                refine g_freeze (T := 44) (cap := c79) s79 ?_
                refine g_deesAt gl (List.mem_of_getElem? hx) ?_
                refine g_deesDup gn ?_
                refine g_deesApp gn x.1 x.2.1 x.2.2 ?_
                have hgn72 : ∀ x ∈ gn, x.1.length ≤ 1000000 := fun x hx => Nat.le_trans (hln _ (List.mem_map_of_mem hx)) (by decide)
                have hga72 : ∀ y ∈ gn ++ [(x.1, (x.2.1, x.2.2))], y.1.length ≤ 1000000 := fun y hy => by
                  rcases List.mem_append.1 hy with h | h
                  · exact hgn72 y h
                  · rw [List.mem_singleton] at h; subst h; simp only []; omega
                have hgal : (gn ++ [(x.1, (x.2.1, x.2.2))]).length ≤ 100 := by simp; omega
                rw [← map_snoc gn x.1 x.2.1 x.2.2] at hres
                clear hds
                generalize gn ++ [(x.1, (x.2.1, x.2.2))] = ga at hga72 hgal hres ⊢
                generalize s79 = sa
                generalize c79 = ca
                generalize hD2 : addD 1 59 5 used x.1 D = D2 at hok2 hres h802 ⊢
                refine g_exit rfl ?_
                refine g_seq ?_
                have hokr := okW_le (okW_rest hok2 keep) (show 5000 + 1 ≤ 6000 by decide)
                have hnr : (restD keep D2).now.length = 60 := hokr.2.1
                have h80r : ∀ x ∈ (restD keep D2).now, x.length = 80 := rest_80 h802.1 h802.2.2 _
                have hgnl : gn.length ≤ 100 := by omega
                refine g_reg ?_
                refine g_v (v_move rfl) rfl ?_
                refine g_v (v_move rfl) rfl ?_
                refine g_l (l_call (Pre := [dsk 109 114 b21 (D2)]) Try.call23 rfl (ct_disk_Restart b21 D2 keep hk (by rw [hok2.1, hok2.2.1]) (fun t ht => by rw [hok2.2.1]; exact hok2.2.2.2.1 t ht) (by have := hok2.2.2.2.2; omega))) rfl ?_
                rintro _ _ ⟨rfl, rfl⟩
                refine g_nil ?_
                refine g_seq ?_
                refine g_reg ?_
                refine g_v (v_move rfl) rfl ?_
                refine g_l (l_call (Pre := [dsk 109 114 b21 ((restD keep D2))]) Try.call44 rfl (ct_log_Open b21 (restD keep D2) 1 59 5 h80r ⟨by rw [hnr]; decide, by decide⟩)) rfl ?_
                rintro _ _ (⟨hbad, _, _⟩ | ⟨_, hdn, _, _⟩ | ⟨_, _, bl2, gg, sg, cg, used2, rfl, hu2, hgg, hscg, rfl⟩)
                · exfalso; unfold badO at hbad; rw [hnr] at hbad; omega
                · cases hdn
                rw [show lgC b21 (1 : Int).toNat (59 : Int).toNat (5 : Int).toNat used2 = lgC b21 1 59 5 used2 from rfl]
                replace hu2 : used2 ≤ 59 := hu2
                replace hgg : gg.length ≤ 59 := hgg
                replace hscg : scanF 5 (secK (restL keep D2) 1) 59 0 [] [] 0 = (gg.map (·.1), used2) := hscg
                have hgs : gg.map (·.1) = gn.map (·.1) ∨ gg.map (·.1) = ga.map (·.1) := by
                  obtain ⟨u, h | h⟩ := hres keep <;> rw [hscg] at h <;> injection h with h1 h2
                  · exact .inl h1
                  · exact .inr h1
                have hggl : ∀ d ∈ gg.map (·.1), d.length ≤ 59 := scan_lens _ _ _ _ _ _ _ hscg (by simp) (by simp)
                have hgg72 : ∀ x ∈ gg, x.1.length ≤ 1000000 := fun x hx => Nat.le_trans (hggl _ (List.mem_map_of_mem hx)) (by decide)
                refine g_freeze (T := 44) (cap := cg) sg ?_
                refine g_v (v_move rfl) rfl ?_
                refine g_v (v_extract (v := ptr bl2 0) rfl rfl) rfl ?_
                refine g_v (v_extract (v := sl sg gg.length cg) rfl rfl) rfl ?_
                refine g_v (v_extract (v := errV 0) rfl rfl) rfl ?_
                refine g_v (v_assign rfl) rfl ?_
                refine g_v (v_assign rfl) rfl ?_
                refine g_v (v_assign rfl) rfl ?_
                refine g_nil ?_
                refine g_seq ?_
                refine g_seq ?_
                refine g_reg ?_
                refine g_v (v_move rfl) rfl ?_
                refine g_v (v_ineq Try.underlying29 rfl) rfl ?_
                refine g_v (v_move rfl) rfl ?_
                refine g_gv1 rfl rfl rfl (v_move rfl) rfl ?_
                refine g_gv1 rfl rfl rfl (v_pnil Try.underlying82 rfl) rfl ?_
                refine g_v (v_or rfl rfl) rfl ?_
                refine g_nil ?_
                refine g_cond rfl (fun h101 => ?_) (fun h101 => ?_)
                · simp at h101
                · skip
                  refine g_skip ?_
                  refine g_seq ?_
                  refine g_seq ?_
                  refine g_reg ?_
                  refine g_v (v_move rfl) rfl ?_
                  refine g_v (v_move rfl) rfl ?_
                  refine g_l (l_call (Pre := [roL 1 sg (dR (gg)), dees (gg), roL 1 sn (dR (gn)), dees (gn)]) (R := fun F => R1 (Bo (decide ((gg).map (·.1) = (gn).map (·.1)))) (roL 1 sg (dR (gg)) :: dees (gg) :: roL 1 sn (dR (gn)) :: dees (gn) :: F)) Try.call49 rfl (ct_R_SameDeeds (gg) (gn) sg sn cg cn ⟨by omega, hgg72⟩ ⟨by omega, hgn72⟩)) rfl ?_
                  rintro _ _ ⟨rfl, rfl⟩
                  refine g_v (v_not rfl) rfl ?_
                  refine g_v (v_move rfl) rfl ?_
                  refine g_gv rfl rfl (fun hg => v_move rfl) rfl rfl ?_
                  refine g_gv rfl rfl (fun hg => v_move rfl) rfl rfl ?_
                  refine g_gq rfl rfl (fun hg => l_call (Pre := [roL 1 sg (dR (gg)), dees (gg), roL 1 sa (dR (ga)), dees (ga)]) (R := fun F => R1 (Bo (decide ((gg).map (·.1) = (ga).map (·.1)))) (roL 1 sg (dR (gg)) :: dees (gg) :: roL 1 sa (dR (ga)) :: dees (ga) :: F)) Try.call49 rfl (ct_R_SameDeeds (gg) (ga) sg sa cg ca ⟨by omega, hgg72⟩ ⟨by omega, hga72⟩)) rfl rfl ?_
                  refine g_gv rfl rfl (fun hg => v_not rfl) rfl rfl ?_
                  refine g_v (v_and rfl rfl) rfl ?_
                  refine g_nil ?_
                  refine g_cond rfl (fun h111 => ?_) (fun h111 => ?_)
                  · exfalso
                    simp at h111
                    rcases hgs with h | h
                    · exact h111.1 h
                    · exact h111.2 h
                  · skip
                    refine g_skip ?_
                    refine g_seq ?_
                    refine g_reg ?_
                    refine g_v (v_build rfl (bldKV [122] [122])) rfl ?_
                    refine g_l (l_buildSlice [encC ⟨[122], [122], false⟩] Try.underlying44 Try.sizeOf90 Try.zeroValue90 rfl rfl rfl (by decide) (by decide) (by decide)) rfl ?_
                    rintro _ _ ⟨b113, rfl, rfl⟩
                    refine g_freeze (T := 90) (cap := 1) (some ⟨b113, 0, none⟩) ?_
                    rw [show [encC ⟨[122], [122], false⟩] = chR [⟨[122], [122], false⟩] from rfl]
                    refine g_v (v_assign rfl) rfl ?_
                    refine g_nil ?_
                    refine g_seq ?_
                    refine g_seq ?_
                    refine g_reg ?_
                    refine g_v (v_move rfl) rfl ?_
                    refine g_l (l_call (Pre := [pt (bl2) (.cells (lgC b21 1 59 5 (used2)) 137 (0, 0))]) Try.call45 rfl (ct_log_Room bl2 b21 1 59 5 used2 ⟨hu2, by decide⟩)) rfl ?_
                    rintro _ _ ⟨rfl, rfl⟩
                    refine g_v (v_lss rfl rfl) rfl ?_
                    refine g_nil ?_
                    refine g_cond rfl (fun h116 => ?_) (fun h116 => ?_)
                    · skip
                      refine g_seq ?_
                      refine g_reg ?_
                      refine g_v (v_assign rfl) rfl ?_
                      refine g_nil ?_
                      refine g_ret1 rfl rfl ?_
                      show Bo _ = Bo true
                      simp
                    · simp at h116
                      have hroom : 2 ≤ 59 - used2 := by omega
                      refine g_skip ?_
                      refine g_seq ?_
                      refine g_seq ?_
                      refine g_reg ?_
                      refine g_v (v_move rfl) rfl ?_
                      refine g_v (v_move rfl) rfl ?_
                      refine g_l (l_call (Pre := [pt (bl2) (.cells (lgC b21 1 59 5 (used2)) 137 (0, 0)), dsk 109 114 b21 ((restD keep D2)), roL 3 (some ⟨b113, 0, none⟩) (chR [⟨[122], [122], false⟩])]) Try.call48 rfl (ct_log_Add bl2 b21 1 59 5 used2 [⟨[122], [122], false⟩] (some ⟨b113, 0, none⟩) 1 60 6000 (restD keep D2) hokr (by decide) ⟨by decide, by decide, by decide, hu2⟩ (by decide))) rfl ?_
                      rintro _ _ ⟨rfl, rfl⟩
                      obtain ⟨hE1, hE2, hE3, hE4, hE5⟩ := add_up (many := 59) (c := [⟨[122], [122], false⟩]) (show upW (restD keep D2) from ⟨rfl, rfl⟩) h80r (by rw [hnr]; decide) (by rw [addV_of (by decide) (by simp; omega)]; decide) hscg
                      rw [hE1]
                      generalize addD 1 59 5 used2 [⟨[122], [122], false⟩] (restD keep D2) = D3 at *
                      rw [hnr] at hE4
                      refine g_v (v_ineq Try.underlying29 rfl) rfl ?_
                      refine g_nil ?_
                      refine g_cond rfl (fun h120 => ?_) (fun h120 => ?_)
                      · simp at h120
                      · skip
                        refine g_skip ?_
                        refine g_seq ?_
                        refine g_reg ?_
                        refine g_v (v_move rfl) rfl ?_
                        refine g_l (l_call (Pre := [dsk 109 114 b21 (D3)]) Try.call44 rfl (ct_log_Open b21 D3 1 59 5 hE3 ⟨by rw [hE4]; decide, by decide⟩)) rfl ?_
                        rintro _ _ (⟨hbad, _, _⟩ | ⟨_, hdn, _, _⟩ | ⟨_, _, bl3, gh, sh, ch, used3, rfl, hu3, hgh, hsch, rfl⟩)
                        · exfalso; unfold badO at hbad; rw [hE4] at hbad; omega
                        · rw [hE2.1] at hdn; cases hdn
                        replace hgh : gh.length ≤ 59 := hgh
                        replace hsch : scanF 5 (secD D3 1) 59 0 [] [] 0 = (gh.map (·.1), used3) := hsch
                        have hge : gh.map (·.1) = gg.map (·.1) ++ [[⟨[122], [122], false⟩]] := by
                          have h1 : scanF 5 (secD D3 1) 59 0 [] [] 0 = _ := hE5
                          rw [hsch] at h1; injection h1
                        have hgh72 : ∀ x ∈ gh, x.1.length ≤ 1000000 := fun x hx => Nat.le_trans (scan_lens _ _ _ _ _ _ _ hsch (by simp) (Nat.le_of_eq (Nat.zero_add _)) _ (List.mem_map_of_mem hx)) (by decide)
                        have hgz72 : ∀ x ∈ (gg ++ [(([⟨[122], [122], false⟩] : List ChangeM), ((some (⟨b113, 0, none⟩ : Addr), 1) : LocA))] : LogG), x.1.length ≤ 1000000 := fun x hx => by
                          rcases List.mem_append.1 hx with h | h
                          · exact hgg72 x h
                          · rw [List.mem_singleton] at h; subst h; exact (by decide : 1 ≤ 1000000)
                        refine g_freeze (T := 44) (cap := ch) sh ?_
                        refine g_nilown 44 1 (dR []) rfl ?_
                        refine g_v (v_move rfl) rfl ?_
                        refine g_v (v_extract (v := ptr bl3 0) rfl rfl) rfl ?_
                        refine g_v (v_extract (v := sl sh gh.length ch) rfl rfl) rfl ?_
                        refine g_v (v_extract (v := errV 0) rfl rfl) rfl ?_
                        refine g_v (v_assign rfl) rfl ?_
                        refine g_v (v_assign rfl) rfl ?_
                        refine g_v (v_assign rfl) rfl ?_
                        refine g_nil ?_
                        refine g_seq ?_
                        refine g_reg ?_
                        refine g_v (v_move rfl) rfl ?_
                        refine g_v (v_ieql Try.underlying29 rfl) rfl ?_
                        refine g_v (v_move rfl) rfl ?_
                        refine g_gv1 rfl rfl rfl (v_move rfl) rfl ?_
                        refine g_gv1 rfl rfl rfl (v_move rfl) rfl ?_
                        refine g_gl rfl rfl rfl (l_append Try.underlying81 Try.sizeOf44 Try.zeroValue44 rfl Try.typeInfo44 (by decide) rfl rfl rfl (dR_len _) dR_one dR_ones ⟨by omega, by decide, by decide⟩) rfl ?_
                        rintro _ _ ⟨s132, c132, rfl, rfl⟩
                        rw [Nat.zero_add, show dR [] ++ dR gg = dR gg from rfl]
                        refine g_gv1 rfl rfl rfl (v_move rfl) rfl ?_
                        refine g_gl rfl rfl rfl (l_buildSlice [[sl (some ⟨b113, 0, none⟩) 1 1]] Try.underlying81 Try.sizeOf44 Try.zeroValue44 rfl rfl rfl (by simp) (by decide) (by decide)) rfl ?_
                        rintro _ _ ⟨b134, rfl, rfl⟩
                        refine g_gl rfl rfl rfl (l_append Try.underlying81 Try.sizeOf44 Try.zeroValue44 rfl Try.typeInfo44 (by decide) rfl rfl (dR_len _) rfl (by simp) (by simp [ones, one, sl]) ⟨by omega, by decide, by decide⟩) rfl ?_
                        rintro _ _ ⟨s135, c135, rfl, rfl⟩
                        rw [show dR gg ++ [[sl (some ⟨b113, 0, none⟩) 1 1]] = dR (gg ++ [(([⟨[122], [122], false⟩] : List ChangeM), ((some (⟨b113, 0, none⟩ : Addr), 1) : LocA))] : LogG) by simp [dR], show gg.length + 1 = (gg ++ [(([⟨[122], [122], false⟩] : List ChangeM), ((some (⟨b113, 0, none⟩ : Addr), 1) : LocA))] : LogG).length by simp]
                        refine g_freeze (T := 44) (cap := c135) s135 ?_
                        refine g_deesApp gg [⟨[122], [122], false⟩] (some ⟨b113, 0, none⟩) 1 ?_
                        refine g_gl rfl rfl rfl (l_call (Pre := [roL 1 sh (dR (gh)), dees (gh), roL 1 s135 (dR ((gg ++ [(([⟨[122], [122], false⟩] : List ChangeM), ((some (⟨b113, 0, none⟩ : Addr), 1) : LocA))] : LogG))), dees ((gg ++ [(([⟨[122], [122], false⟩] : List ChangeM), ((some (⟨b113, 0, none⟩ : Addr), 1) : LocA))] : LogG))]) (R := fun F => R1 (Bo (decide ((gh).map (·.1) = ((gg ++ [(([⟨[122], [122], false⟩] : List ChangeM), ((some (⟨b113, 0, none⟩ : Addr), 1) : LocA))] : LogG)).map (·.1)))) (roL 1 sh (dR (gh)) :: dees (gh) :: roL 1 s135 (dR ((gg ++ [(([⟨[122], [122], false⟩] : List ChangeM), ((some (⟨b113, 0, none⟩ : Addr), 1) : LocA))] : LogG))) :: dees ((gg ++ [(([⟨[122], [122], false⟩] : List ChangeM), ((some (⟨b113, 0, none⟩ : Addr), 1) : LocA))] : LogG)) :: F)) Try.call49 rfl (ct_R_SameDeeds (gh) ((gg ++ [(([⟨[122], [122], false⟩] : List ChangeM), ((some (⟨b113, 0, none⟩ : Addr), 1) : LocA))] : LogG)) sh s135 ch c135 ⟨by omega, hgh72⟩ ⟨by simp; omega, hgz72⟩)) rfl ?_
                        rintro _ _ ⟨rfl, rfl⟩
                        rw [decide_eq_true (show gh.map (·.1) = (gg ++ [(([⟨[122], [122], false⟩] : List ChangeM), ((some (⟨b113, 0, none⟩ : Addr), 1) : LocA))] : LogG).map (·.1) by rw [hge, List.map_append]; rfl)]
                        refine g_v (v_and rfl rfl) rfl ?_
                        refine g_v (v_assign rfl) rfl ?_
                        refine g_nil ?_
                        refine g_ret1 rfl rfl ?_
                        show Bo _ = Bo true
                        simp
              · have he9 : ¬ addE 1 59 5 used x.1 D = 9 := by simpa using h85
                obtain ⟨h0, _⟩ | ⟨h9, _⟩ | ⟨_, _, hd', hu'⟩ := hac
                · exact absurd h0 he
                · exact absurd h9 he9
                rw [hd', hu']
                refine g_skip ?_
                refine g_reg ?_
                refine g_v (v_move rfl) rfl ?_
                refine g_v (v_assign rfl) rfl ?_
                refine g_nil ?_
                refine g_blk ?_
                refine g_reg ?_
                refine g_v (v_move rfl) rfl ?_
                refine g_v (v_add (r := ((i + 1 : Nat) : Int)) rfl rfl (by rw [show ((i : Nat) : Int) + 1 = ((i + 1 : Nat) : Int) by omega]; exact w64 (by omega))) rfl ?_
                refine g_v (v_assign rfl) rfl ?_
                refine g_nil ?_
                refine g_roDup (sz := 1) sn (dR gn) ?_
                refine g_deesDup gn ?_
                refine g_again (⟨i + 1, D, gn, gn, used, (sn, cn), (sn, cn)⟩ : TLS) ⟨by simp; omega, okW_le hok (by simp; omega), hq, h80, hsafe, rfl, by simp; omega, hln⟩ (by simp; omega) [0, 2, 7, 9, 11, 12, 13] rfl rfl
          · skip
            refine t_l rfl (l_buildSlice [[sl x.2.1 x.1.length x.2.2]] Try.underlying81 Try.sizeOf44 Try.zeroValue44 rfl rfl rfl (by simp) (by decide) (by decide)) rfl ?_
            rintro _ _ ⟨b78, rfl, rfl⟩
            refine t_l rfl (l_append Try.underlying81 Try.sizeOf44 Try.zeroValue44 rfl Try.typeInfo44 (by decide) rfl rfl rfl (dR_len _) dR_one dR_ones ⟨by omega, by decide, by decide⟩) rfl ?_
            rintro _ _ ⟨s73, c73, rfl, rfl⟩
            rw [Nat.zero_add, show dR [] ++ dR gn = dR gn from rfl]
            refine t_l rfl (l_append Try.underlying81 Try.sizeOf44 Try.zeroValue44 rfl Try.typeInfo44 (by decide) rfl rfl (dR_len _) rfl (by simp) (by simp [ones, one, sl]) ⟨by omega, by decide, by decide⟩) rfl ?_
            rintro _ _ ⟨s79, c79, rfl, rfl⟩
            rw [dR_snoc, show gn.length + 1 = (gn ++ [(x.1, (x.2.1, x.2.2))]).length by simp]
            refine t_v rfl (v_assign rfl) rfl ?_
            refine t_nil ?_
            refine g_seq ?_
            refine g_seq ?_
            refine g_reg ?_
            refine g_v (v_move rfl) rfl ?_
            refine g_v (v_ieql Try.underlying29 rfl) rfl ?_
            refine g_nil ?_
            refine g_cond rfl (fun h81 => ?_) (fun h81 => ?_)
            · have he : addE 1 59 5 used x.1 D = 0 := by simpa using h81
              obtain ⟨_, hq', hs', _⟩ | ⟨h9, _⟩ | ⟨h0, _⟩ := hac
              rotate_left
              · rw [he] at h9; cases h9
              · exact absurd he h0
              refine g_seq ?_
              refine g_reg ?_
              refine g_v (v_move rfl) rfl ?_
              refine g_v (v_assign rfl) rfl ?_
              refine g_nil ?_
              refine g_exit rfl ?_
              refine g_reg ?_
              refine g_v (v_move rfl) rfl ?_
              refine g_v (v_add (r := ((i + 1 : Nat) : Int)) rfl rfl (by rw [show ((i : Nat) : Int) + 1 = ((i + 1 : Nat) : Int) by omega]; exact w64 (by omega))) rfl ?_
              refine g_v (v_assign rfl) rfl ?_
              refine g_nil ?_
              refine g_freeze (T := 44) (cap := c79) s79 ?_
              refine g_roDup (sz := 1) s79 (dR (gn ++ [(x.1, (x.2.1, x.2.2))])) ?_
              refine g_deesAt gl (List.mem_of_getElem? hx) ?_
              refine g_deesApp gn x.1 x.2.1 x.2.2 ?_
              refine g_deesDup (gn ++ [(x.1, (x.2.1, x.2.2))]) ?_
              refine g_again (⟨i + 1, addD 1 59 5 used x.1 D, gn ++ [(x.1, (x.2.1, x.2.2))], gn ++ [(x.1, (x.2.1, x.2.2))], addU 1 59 5 used x.1 D, (s79, c79), (s79, c79)⟩ : TLS) ⟨by simp; omega, okW_le (okW_add hok _ _ _ _ _) (by simp; omega), hq', S80_add (N := 60) h80 (by decide), ?_, rfl, by simp; omega, ?_⟩ (by simp; omega) [0, 2, 7, 9, 11, 12, 13] rfl rfl
              · simp only []
                rw [map_snoc]
                exact hs'
              · simp only []
                rw [map_snoc]
                intro d hd
                rcases List.mem_append.1 hd with hd | hd
                · exact hln d hd
                · rw [List.mem_singleton] at hd; subst hd; omega
            · have he : ¬ addE 1 59 5 used x.1 D = 0 := by simpa using h81
              refine g_skip ?_
              refine g_seq ?_
              refine g_seq ?_
              refine g_reg ?_
              refine g_v (v_move rfl) rfl ?_
              refine g_l (l_call (Pre := []) Try.call36 rfl (ct_T_numb (addE 1 59 5 used x.1 D))) rfl ?_
              rintro _ _ ⟨rfl, rfl⟩
              refine g_v (v_eql rfl rfl) rfl ?_
              refine g_nil ?_
              refine g_cond rfl (fun h85 => ?_) (fun h85 => ?_)
              · have he9 : addE 1 59 5 used x.1 D = 9 := by simpa using h85
                obtain ⟨h0, _⟩ | ⟨_, hres⟩ | ⟨_, h9, _⟩ := hac
                · exact absurd h0 he
                rotate_left
                · exact absurd he9 h9
                have hok2 := okW_le (okW_add hok 1 59 5 used x.1) (show 300 * i + 200 ≤ 5000 by omega)
                have h802 := S80_add (from_ := 1) (many := 59) (first := 5) (used := used) (c := x.1) (N := 60) h80 (by decide)
                refine g_freeze (T := 44) (cap := c79) s79 ?_
                refine g_deesAt gl (List.mem_of_getElem? hx) ?_
                refine g_deesDup gn ?_
                refine g_deesApp gn x.1 x.2.1 x.2.2 ?_
                have hgn72 : ∀ x ∈ gn, x.1.length ≤ 1000000 := fun x hx => Nat.le_trans (hln _ (List.mem_map_of_mem hx)) (by decide)
                have hga72 : ∀ y ∈ gn ++ [(x.1, (x.2.1, x.2.2))], y.1.length ≤ 1000000 := fun y hy => by
                  rcases List.mem_append.1 hy with h | h
                  · exact hgn72 y h
                  · rw [List.mem_singleton] at h; subst h; simp only []; omega
                have hgal : (gn ++ [(x.1, (x.2.1, x.2.2))]).length ≤ 100 := by simp; omega
                rw [← map_snoc gn x.1 x.2.1 x.2.2] at hres
                clear hds
                generalize gn ++ [(x.1, (x.2.1, x.2.2))] = ga at hga72 hgal hres ⊢
                generalize s79 = sa
                generalize c79 = ca
                generalize hD2 : addD 1 59 5 used x.1 D = D2 at hok2 hres h802 ⊢
                refine g_exit rfl ?_
                refine g_seq ?_
                have hokr := okW_le (okW_rest hok2 keep) (show 5000 + 1 ≤ 6000 by decide)
                have hnr : (restD keep D2).now.length = 60 := hokr.2.1
                have h80r : ∀ x ∈ (restD keep D2).now, x.length = 80 := rest_80 h802.1 h802.2.2 _
                have hgnl : gn.length ≤ 100 := by omega
                refine g_reg ?_
                refine g_v (v_move rfl) rfl ?_
                refine g_v (v_move rfl) rfl ?_
                refine g_l (l_call (Pre := [dsk 109 114 b21 (D2)]) Try.call23 rfl (ct_disk_Restart b21 D2 keep hk (by rw [hok2.1, hok2.2.1]) (fun t ht => by rw [hok2.2.1]; exact hok2.2.2.2.1 t ht) (by have := hok2.2.2.2.2; omega))) rfl ?_
                rintro _ _ ⟨rfl, rfl⟩
                refine g_nil ?_
                refine g_seq ?_
                refine g_reg ?_
                refine g_v (v_move rfl) rfl ?_
                refine g_l (l_call (Pre := [dsk 109 114 b21 ((restD keep D2))]) Try.call44 rfl (ct_log_Open b21 (restD keep D2) 1 59 5 h80r ⟨by rw [hnr]; decide, by decide⟩)) rfl ?_
                rintro _ _ (⟨hbad, _, _⟩ | ⟨_, hdn, _, _⟩ | ⟨_, _, bl2, gg, sg, cg, used2, rfl, hu2, hgg, hscg, rfl⟩)
                · exfalso; unfold badO at hbad; rw [hnr] at hbad; omega
                · cases hdn
                rw [show lgC b21 (1 : Int).toNat (59 : Int).toNat (5 : Int).toNat used2 = lgC b21 1 59 5 used2 from rfl]
                replace hu2 : used2 ≤ 59 := hu2
                replace hgg : gg.length ≤ 59 := hgg
                replace hscg : scanF 5 (secK (restL keep D2) 1) 59 0 [] [] 0 = (gg.map (·.1), used2) := hscg
                have hgs : gg.map (·.1) = gn.map (·.1) ∨ gg.map (·.1) = ga.map (·.1) := by
                  obtain ⟨u, h | h⟩ := hres keep <;> rw [hscg] at h <;> injection h with h1 h2
                  · exact .inl h1
                  · exact .inr h1
                have hggl : ∀ d ∈ gg.map (·.1), d.length ≤ 59 := scan_lens _ _ _ _ _ _ _ hscg (by simp) (by simp)
                have hgg72 : ∀ x ∈ gg, x.1.length ≤ 1000000 := fun x hx => Nat.le_trans (hggl _ (List.mem_map_of_mem hx)) (by decide)
                refine g_freeze (T := 44) (cap := cg) sg ?_
                refine g_v (v_move rfl) rfl ?_
                refine g_v (v_extract (v := ptr bl2 0) rfl rfl) rfl ?_
                refine g_v (v_extract (v := sl sg gg.length cg) rfl rfl) rfl ?_
                refine g_v (v_extract (v := errV 0) rfl rfl) rfl ?_
                refine g_v (v_assign rfl) rfl ?_
                refine g_v (v_assign rfl) rfl ?_
                refine g_v (v_assign rfl) rfl ?_
                refine g_nil ?_
                refine g_seq ?_
                refine g_seq ?_
                refine g_reg ?_
                refine g_v (v_move rfl) rfl ?_
                refine g_v (v_ineq Try.underlying29 rfl) rfl ?_
                refine g_v (v_move rfl) rfl ?_
                refine g_gv1 rfl rfl rfl (v_move rfl) rfl ?_
                refine g_gv1 rfl rfl rfl (v_pnil Try.underlying82 rfl) rfl ?_
                refine g_v (v_or rfl rfl) rfl ?_
                refine g_nil ?_
                refine g_cond rfl (fun h101 => ?_) (fun h101 => ?_)
                · simp at h101
                · skip
                  refine g_skip ?_
                  refine g_seq ?_
                  refine g_seq ?_
                  refine g_reg ?_
                  refine g_v (v_move rfl) rfl ?_
                  refine g_v (v_move rfl) rfl ?_
                  refine g_l (l_call (Pre := [roL 1 sg (dR (gg)), dees (gg), roL 1 sn (dR (gn)), dees (gn)]) (R := fun F => R1 (Bo (decide ((gg).map (·.1) = (gn).map (·.1)))) (roL 1 sg (dR (gg)) :: dees (gg) :: roL 1 sn (dR (gn)) :: dees (gn) :: F)) Try.call49 rfl (ct_R_SameDeeds (gg) (gn) sg sn cg cn ⟨by omega, hgg72⟩ ⟨by omega, hgn72⟩)) rfl ?_
                  rintro _ _ ⟨rfl, rfl⟩
                  refine g_v (v_not rfl) rfl ?_
                  refine g_v (v_move rfl) rfl ?_
                  refine g_gv rfl rfl (fun hg => v_move rfl) rfl rfl ?_
                  refine g_gv rfl rfl (fun hg => v_move rfl) rfl rfl ?_
                  refine g_gq rfl rfl (fun hg => l_call (Pre := [roL 1 sg (dR (gg)), dees (gg), roL 1 sa (dR (ga)), dees (ga)]) (R := fun F => R1 (Bo (decide ((gg).map (·.1) = (ga).map (·.1)))) (roL 1 sg (dR (gg)) :: dees (gg) :: roL 1 sa (dR (ga)) :: dees (ga) :: F)) Try.call49 rfl (ct_R_SameDeeds (gg) (ga) sg sa cg ca ⟨by omega, hgg72⟩ ⟨by omega, hga72⟩)) rfl rfl ?_
                  refine g_gv rfl rfl (fun hg => v_not rfl) rfl rfl ?_
                  refine g_v (v_and rfl rfl) rfl ?_
                  refine g_nil ?_
                  refine g_cond rfl (fun h111 => ?_) (fun h111 => ?_)
                  · exfalso
                    simp at h111
                    rcases hgs with h | h
                    · exact h111.1 h
                    · exact h111.2 h
                  · skip
                    refine g_skip ?_
                    refine g_seq ?_
                    refine g_reg ?_
                    refine g_v (v_build rfl (bldKV [122] [122])) rfl ?_
                    refine g_l (l_buildSlice [encC ⟨[122], [122], false⟩] Try.underlying44 Try.sizeOf90 Try.zeroValue90 rfl rfl rfl (by decide) (by decide) (by decide)) rfl ?_
                    rintro _ _ ⟨b113, rfl, rfl⟩
                    refine g_freeze (T := 90) (cap := 1) (some ⟨b113, 0, none⟩) ?_
                    rw [show [encC ⟨[122], [122], false⟩] = chR [⟨[122], [122], false⟩] from rfl]
                    refine g_v (v_assign rfl) rfl ?_
                    refine g_nil ?_
                    refine g_seq ?_
                    refine g_seq ?_
                    refine g_reg ?_
                    refine g_v (v_move rfl) rfl ?_
                    refine g_l (l_call (Pre := [pt (bl2) (.cells (lgC b21 1 59 5 (used2)) 137 (0, 0))]) Try.call45 rfl (ct_log_Room bl2 b21 1 59 5 used2 ⟨hu2, by decide⟩)) rfl ?_
                    rintro _ _ ⟨rfl, rfl⟩
                    refine g_v (v_lss rfl rfl) rfl ?_
                    refine g_nil ?_
                    refine g_cond rfl (fun h116 => ?_) (fun h116 => ?_)
                    · skip
                      refine g_seq ?_
                      refine g_reg ?_
                      refine g_v (v_assign rfl) rfl ?_
                      refine g_nil ?_
                      refine g_ret1 rfl rfl ?_
                      show Bo _ = Bo true
                      simp
                    · simp at h116
                      have hroom : 2 ≤ 59 - used2 := by omega
                      refine g_skip ?_
                      refine g_seq ?_
                      refine g_seq ?_
                      refine g_reg ?_
                      refine g_v (v_move rfl) rfl ?_
                      refine g_v (v_move rfl) rfl ?_
                      refine g_l (l_call (Pre := [pt (bl2) (.cells (lgC b21 1 59 5 (used2)) 137 (0, 0)), dsk 109 114 b21 ((restD keep D2)), roL 3 (some ⟨b113, 0, none⟩) (chR [⟨[122], [122], false⟩])]) Try.call48 rfl (ct_log_Add bl2 b21 1 59 5 used2 [⟨[122], [122], false⟩] (some ⟨b113, 0, none⟩) 1 60 6000 (restD keep D2) hokr (by decide) ⟨by decide, by decide, by decide, hu2⟩ (by decide))) rfl ?_
                      rintro _ _ ⟨rfl, rfl⟩
                      obtain ⟨hE1, hE2, hE3, hE4, hE5⟩ := add_up (many := 59) (c := [⟨[122], [122], false⟩]) (show upW (restD keep D2) from ⟨rfl, rfl⟩) h80r (by rw [hnr]; decide) (by rw [addV_of (by decide) (by simp; omega)]; decide) hscg
                      rw [hE1]
                      generalize addD 1 59 5 used2 [⟨[122], [122], false⟩] (restD keep D2) = D3 at *
                      rw [hnr] at hE4
                      refine g_v (v_ineq Try.underlying29 rfl) rfl ?_
                      refine g_nil ?_
                      refine g_cond rfl (fun h120 => ?_) (fun h120 => ?_)
                      · simp at h120
                      · skip
                        refine g_skip ?_
                        refine g_seq ?_
                        refine g_reg ?_
                        refine g_v (v_move rfl) rfl ?_
                        refine g_l (l_call (Pre := [dsk 109 114 b21 (D3)]) Try.call44 rfl (ct_log_Open b21 D3 1 59 5 hE3 ⟨by rw [hE4]; decide, by decide⟩)) rfl ?_
                        rintro _ _ (⟨hbad, _, _⟩ | ⟨_, hdn, _, _⟩ | ⟨_, _, bl3, gh, sh, ch, used3, rfl, hu3, hgh, hsch, rfl⟩)
                        · exfalso; unfold badO at hbad; rw [hE4] at hbad; omega
                        · rw [hE2.1] at hdn; cases hdn
                        replace hgh : gh.length ≤ 59 := hgh
                        replace hsch : scanF 5 (secD D3 1) 59 0 [] [] 0 = (gh.map (·.1), used3) := hsch
                        have hge : gh.map (·.1) = gg.map (·.1) ++ [[⟨[122], [122], false⟩]] := by
                          have h1 : scanF 5 (secD D3 1) 59 0 [] [] 0 = _ := hE5
                          rw [hsch] at h1; injection h1
                        have hgh72 : ∀ x ∈ gh, x.1.length ≤ 1000000 := fun x hx => Nat.le_trans (scan_lens _ _ _ _ _ _ _ hsch (by simp) (Nat.le_of_eq (Nat.zero_add _)) _ (List.mem_map_of_mem hx)) (by decide)
                        have hgz72 : ∀ x ∈ (gg ++ [(([⟨[122], [122], false⟩] : List ChangeM), ((some (⟨b113, 0, none⟩ : Addr), 1) : LocA))] : LogG), x.1.length ≤ 1000000 := fun x hx => by
                          rcases List.mem_append.1 hx with h | h
                          · exact hgg72 x h
                          · rw [List.mem_singleton] at h; subst h; exact (by decide : 1 ≤ 1000000)
                        refine g_freeze (T := 44) (cap := ch) sh ?_
                        refine g_nilown 44 1 (dR []) rfl ?_
                        refine g_v (v_move rfl) rfl ?_
                        refine g_v (v_extract (v := ptr bl3 0) rfl rfl) rfl ?_
                        refine g_v (v_extract (v := sl sh gh.length ch) rfl rfl) rfl ?_
                        refine g_v (v_extract (v := errV 0) rfl rfl) rfl ?_
                        refine g_v (v_assign rfl) rfl ?_
                        refine g_v (v_assign rfl) rfl ?_
                        refine g_v (v_assign rfl) rfl ?_
                        refine g_nil ?_
                        refine g_seq ?_
                        refine g_reg ?_
                        refine g_v (v_move rfl) rfl ?_
                        refine g_v (v_ieql Try.underlying29 rfl) rfl ?_
                        refine g_v (v_move rfl) rfl ?_
                        refine g_gv1 rfl rfl rfl (v_move rfl) rfl ?_
                        refine g_gv1 rfl rfl rfl (v_move rfl) rfl ?_
                        refine g_gl rfl rfl rfl (l_append Try.underlying81 Try.sizeOf44 Try.zeroValue44 rfl Try.typeInfo44 (by decide) rfl rfl rfl (dR_len _) dR_one dR_ones ⟨by omega, by decide, by decide⟩) rfl ?_
                        rintro _ _ ⟨s132, c132, rfl, rfl⟩
                        rw [Nat.zero_add, show dR [] ++ dR gg = dR gg from rfl]
                        refine g_gv1 rfl rfl rfl (v_move rfl) rfl ?_
                        refine g_gl rfl rfl rfl (l_buildSlice [[sl (some ⟨b113, 0, none⟩) 1 1]] Try.underlying81 Try.sizeOf44 Try.zeroValue44 rfl rfl rfl (by simp) (by decide) (by decide)) rfl ?_
                        rintro _ _ ⟨b134, rfl, rfl⟩
                        refine g_gl rfl rfl rfl (l_append Try.underlying81 Try.sizeOf44 Try.zeroValue44 rfl Try.typeInfo44 (by decide) rfl rfl (dR_len _) rfl (by simp) (by simp [ones, one, sl]) ⟨by omega, by decide, by decide⟩) rfl ?_
                        rintro _ _ ⟨s135, c135, rfl, rfl⟩
                        rw [show dR gg ++ [[sl (some ⟨b113, 0, none⟩) 1 1]] = dR (gg ++ [(([⟨[122], [122], false⟩] : List ChangeM), ((some (⟨b113, 0, none⟩ : Addr), 1) : LocA))] : LogG) by simp [dR], show gg.length + 1 = (gg ++ [(([⟨[122], [122], false⟩] : List ChangeM), ((some (⟨b113, 0, none⟩ : Addr), 1) : LocA))] : LogG).length by simp]
                        refine g_freeze (T := 44) (cap := c135) s135 ?_
                        refine g_deesApp gg [⟨[122], [122], false⟩] (some ⟨b113, 0, none⟩) 1 ?_
                        refine g_gl rfl rfl rfl (l_call (Pre := [roL 1 sh (dR (gh)), dees (gh), roL 1 s135 (dR ((gg ++ [(([⟨[122], [122], false⟩] : List ChangeM), ((some (⟨b113, 0, none⟩ : Addr), 1) : LocA))] : LogG))), dees ((gg ++ [(([⟨[122], [122], false⟩] : List ChangeM), ((some (⟨b113, 0, none⟩ : Addr), 1) : LocA))] : LogG))]) (R := fun F => R1 (Bo (decide ((gh).map (·.1) = ((gg ++ [(([⟨[122], [122], false⟩] : List ChangeM), ((some (⟨b113, 0, none⟩ : Addr), 1) : LocA))] : LogG)).map (·.1)))) (roL 1 sh (dR (gh)) :: dees (gh) :: roL 1 s135 (dR ((gg ++ [(([⟨[122], [122], false⟩] : List ChangeM), ((some (⟨b113, 0, none⟩ : Addr), 1) : LocA))] : LogG))) :: dees ((gg ++ [(([⟨[122], [122], false⟩] : List ChangeM), ((some (⟨b113, 0, none⟩ : Addr), 1) : LocA))] : LogG)) :: F)) Try.call49 rfl (ct_R_SameDeeds (gh) ((gg ++ [(([⟨[122], [122], false⟩] : List ChangeM), ((some (⟨b113, 0, none⟩ : Addr), 1) : LocA))] : LogG)) sh s135 ch c135 ⟨by omega, hgh72⟩ ⟨by simp; omega, hgz72⟩)) rfl ?_
                        rintro _ _ ⟨rfl, rfl⟩
                        rw [decide_eq_true (show gh.map (·.1) = (gg ++ [(([⟨[122], [122], false⟩] : List ChangeM), ((some (⟨b113, 0, none⟩ : Addr), 1) : LocA))] : LogG).map (·.1) by rw [hge, List.map_append]; rfl)]
                        refine g_v (v_and rfl rfl) rfl ?_
                        refine g_v (v_assign rfl) rfl ?_
                        refine g_nil ?_
                        refine g_ret1 rfl rfl ?_
                        show Bo _ = Bo true
                        simp
              · have he9 : ¬ addE 1 59 5 used x.1 D = 9 := by simpa using h85
                obtain ⟨h0, _⟩ | ⟨h9, _⟩ | ⟨_, _, hd', hu'⟩ := hac
                · exact absurd h0 he
                · exact absurd h9 he9
                rw [hd', hu']
                refine g_skip ?_
                refine g_reg ?_
                refine g_v (v_move rfl) rfl ?_
                refine g_v (v_assign rfl) rfl ?_
                refine g_nil ?_
                refine g_blk ?_
                refine g_reg ?_
                refine g_v (v_move rfl) rfl ?_
                refine g_v (v_add (r := ((i + 1 : Nat) : Int)) rfl rfl (by rw [show ((i : Nat) : Int) + 1 = ((i + 1 : Nat) : Int) by omega]; exact w64 (by omega))) rfl ?_
                refine g_v (v_assign rfl) rfl ?_
                refine g_nil ?_
                refine g_roDup (sz := 1) sn (dR gn) ?_
                refine g_deesDup gn ?_
                refine g_again (⟨i + 1, D, gn, gn, used, (sn, cn), (sn, cn)⟩ : TLS) ⟨by simp; omega, okW_le hok (by simp; omega), hq, h80, hsafe, rfl, by simp; omega, hln⟩ (by simp; omega) [0, 2, 7, 9, 11, 12, 13] rfl rfl
        · simp at h63
          obtain rfl : i = gl.length := by omega
          have hok2 := okW_le hok (show 300 * gl.length ≤ 5000 by omega)
          have hres : ∀ keep, ∃ u, scanF 5 (secK (restL keep D) 1) 59 0 [] [] 0 = (gn.map (·.1), u) ∨ scanF 5 (secK (restL keep D) 1) 59 0 [] [] 0 = (ga.map (·.1), u) := fun keep => ⟨used, .inl (by rw [show restL keep D = D.now by unfold restL; rw [hq.2.1, hq.1]; rfl]; exact hsafe.1)⟩
          have hgn72 : ∀ x ∈ gn, x.1.length ≤ 1000000 := fun x hx => Nat.le_trans (hln _ (List.mem_map_of_mem hx)) (by decide)
          have hga72 : ∀ x ∈ ga, x.1.length ≤ 1000000 := fun x hx => Nat.le_trans (hln _ (by rw [← hds]; exact List.mem_map_of_mem hx)) (by decide)
          have hgal : ga.length ≤ 100 := by have := congrArg List.length hds; simp at this; omega
          have h802 := h80
          generalize hD2 : D = D2 at hok2 hres h802 ⊢
          refine g_exit rfl ?_
          refine g_seq ?_
          have hokr := okW_le (okW_rest hok2 keep) (show 5000 + 1 ≤ 6000 by decide)
          have hnr : (restD keep D2).now.length = 60 := hokr.2.1
          have h80r : ∀ x ∈ (restD keep D2).now, x.length = 80 := rest_80 h802.1 h802.2.2 _
          have hgnl : gn.length ≤ 100 := by omega
          refine g_reg ?_
          refine g_v (v_move rfl) rfl ?_
          refine g_v (v_move rfl) rfl ?_
          refine g_l (l_call (Pre := [dsk 109 114 b21 (D2)]) Try.call23 rfl (ct_disk_Restart b21 D2 keep hk (by rw [hok2.1, hok2.2.1]) (fun t ht => by rw [hok2.2.1]; exact hok2.2.2.2.1 t ht) (by have := hok2.2.2.2.2; omega))) rfl ?_
          rintro _ _ ⟨rfl, rfl⟩
          refine g_nil ?_
          refine g_seq ?_
          refine g_reg ?_
          refine g_v (v_move rfl) rfl ?_
          refine g_l (l_call (Pre := [dsk 109 114 b21 ((restD keep D2))]) Try.call44 rfl (ct_log_Open b21 (restD keep D2) 1 59 5 h80r ⟨by rw [hnr]; decide, by decide⟩)) rfl ?_
          rintro _ _ (⟨hbad, _, _⟩ | ⟨_, hdn, _, _⟩ | ⟨_, _, bl2, gg, sg, cg, used2, rfl, hu2, hgg, hscg, rfl⟩)
          · exfalso; unfold badO at hbad; rw [hnr] at hbad; omega
          · cases hdn
          rw [show lgC b21 (1 : Int).toNat (59 : Int).toNat (5 : Int).toNat used2 = lgC b21 1 59 5 used2 from rfl]
          replace hu2 : used2 ≤ 59 := hu2
          replace hgg : gg.length ≤ 59 := hgg
          replace hscg : scanF 5 (secK (restL keep D2) 1) 59 0 [] [] 0 = (gg.map (·.1), used2) := hscg
          have hgs : gg.map (·.1) = gn.map (·.1) ∨ gg.map (·.1) = ga.map (·.1) := by
            obtain ⟨u, h | h⟩ := hres keep <;> rw [hscg] at h <;> injection h with h1 h2
            · exact .inl h1
            · exact .inr h1
          have hggl : ∀ d ∈ gg.map (·.1), d.length ≤ 59 := scan_lens _ _ _ _ _ _ _ hscg (by simp) (by simp)
          have hgg72 : ∀ x ∈ gg, x.1.length ≤ 1000000 := fun x hx => Nat.le_trans (hggl _ (List.mem_map_of_mem hx)) (by decide)
          refine g_freeze (T := 44) (cap := cg) sg ?_
          refine g_v (v_move rfl) rfl ?_
          refine g_v (v_extract (v := ptr bl2 0) rfl rfl) rfl ?_
          refine g_v (v_extract (v := sl sg gg.length cg) rfl rfl) rfl ?_
          refine g_v (v_extract (v := errV 0) rfl rfl) rfl ?_
          refine g_v (v_assign rfl) rfl ?_
          refine g_v (v_assign rfl) rfl ?_
          refine g_v (v_assign rfl) rfl ?_
          refine g_nil ?_
          refine g_seq ?_
          refine g_seq ?_
          refine g_reg ?_
          refine g_v (v_move rfl) rfl ?_
          refine g_v (v_ineq Try.underlying29 rfl) rfl ?_
          refine g_v (v_move rfl) rfl ?_
          refine g_gv1 rfl rfl rfl (v_move rfl) rfl ?_
          refine g_gv1 rfl rfl rfl (v_pnil Try.underlying82 rfl) rfl ?_
          refine g_v (v_or rfl rfl) rfl ?_
          refine g_nil ?_
          refine g_cond rfl (fun h101 => ?_) (fun h101 => ?_)
          · simp at h101
          · skip
            refine g_skip ?_
            refine g_seq ?_
            refine g_seq ?_
            refine g_reg ?_
            refine g_v (v_move rfl) rfl ?_
            refine g_v (v_move rfl) rfl ?_
            refine g_l (l_call (Pre := [roL 1 sg (dR (gg)), dees (gg), roL 1 sn (dR (gn)), dees (gn)]) (R := fun F => R1 (Bo (decide ((gg).map (·.1) = (gn).map (·.1)))) (roL 1 sg (dR (gg)) :: dees (gg) :: roL 1 sn (dR (gn)) :: dees (gn) :: F)) Try.call49 rfl (ct_R_SameDeeds (gg) (gn) sg sn cg cn ⟨by omega, hgg72⟩ ⟨by omega, hgn72⟩)) rfl ?_
            rintro _ _ ⟨rfl, rfl⟩
            refine g_v (v_not rfl) rfl ?_
            refine g_v (v_move rfl) rfl ?_
            refine g_gv rfl rfl (fun hg => v_move rfl) rfl rfl ?_
            refine g_gv rfl rfl (fun hg => v_move rfl) rfl rfl ?_
            refine g_gq rfl rfl (fun hg => l_call (Pre := [roL 1 sg (dR (gg)), dees (gg), roL 1 sa (dR (ga)), dees (ga)]) (R := fun F => R1 (Bo (decide ((gg).map (·.1) = (ga).map (·.1)))) (roL 1 sg (dR (gg)) :: dees (gg) :: roL 1 sa (dR (ga)) :: dees (ga) :: F)) Try.call49 rfl (ct_R_SameDeeds (gg) (ga) sg sa cg ca ⟨by omega, hgg72⟩ ⟨by omega, hga72⟩)) rfl rfl ?_
            refine g_gv rfl rfl (fun hg => v_not rfl) rfl rfl ?_
            refine g_v (v_and rfl rfl) rfl ?_
            refine g_nil ?_
            refine g_cond rfl (fun h111 => ?_) (fun h111 => ?_)
            · exfalso
              simp at h111
              rcases hgs with h | h
              · exact h111.1 h
              · exact h111.2 h
            · skip
              refine g_skip ?_
              refine g_seq ?_
              refine g_reg ?_
              refine g_v (v_build rfl (bldKV [122] [122])) rfl ?_
              refine g_l (l_buildSlice [encC ⟨[122], [122], false⟩] Try.underlying44 Try.sizeOf90 Try.zeroValue90 rfl rfl rfl (by decide) (by decide) (by decide)) rfl ?_
              rintro _ _ ⟨b113, rfl, rfl⟩
              refine g_freeze (T := 90) (cap := 1) (some ⟨b113, 0, none⟩) ?_
              rw [show [encC ⟨[122], [122], false⟩] = chR [⟨[122], [122], false⟩] from rfl]
              refine g_v (v_assign rfl) rfl ?_
              refine g_nil ?_
              refine g_seq ?_
              refine g_seq ?_
              refine g_reg ?_
              refine g_v (v_move rfl) rfl ?_
              refine g_l (l_call (Pre := [pt (bl2) (.cells (lgC b21 1 59 5 (used2)) 137 (0, 0))]) Try.call45 rfl (ct_log_Room bl2 b21 1 59 5 used2 ⟨hu2, by decide⟩)) rfl ?_
              rintro _ _ ⟨rfl, rfl⟩
              refine g_v (v_lss rfl rfl) rfl ?_
              refine g_nil ?_
              refine g_cond rfl (fun h116 => ?_) (fun h116 => ?_)
              · skip
                refine g_seq ?_
                refine g_reg ?_
                refine g_v (v_assign rfl) rfl ?_
                refine g_nil ?_
                refine g_ret1 rfl rfl ?_
                show Bo _ = Bo true
                simp
              · simp at h116
                have hroom : 2 ≤ 59 - used2 := by omega
                refine g_skip ?_
                refine g_seq ?_
                refine g_seq ?_
                refine g_reg ?_
                refine g_v (v_move rfl) rfl ?_
                refine g_v (v_move rfl) rfl ?_
                refine g_l (l_call (Pre := [pt (bl2) (.cells (lgC b21 1 59 5 (used2)) 137 (0, 0)), dsk 109 114 b21 ((restD keep D2)), roL 3 (some ⟨b113, 0, none⟩) (chR [⟨[122], [122], false⟩])]) Try.call48 rfl (ct_log_Add bl2 b21 1 59 5 used2 [⟨[122], [122], false⟩] (some ⟨b113, 0, none⟩) 1 60 6000 (restD keep D2) hokr (by decide) ⟨by decide, by decide, by decide, hu2⟩ (by decide))) rfl ?_
                rintro _ _ ⟨rfl, rfl⟩
                obtain ⟨hE1, hE2, hE3, hE4, hE5⟩ := add_up (many := 59) (c := [⟨[122], [122], false⟩]) (show upW (restD keep D2) from ⟨rfl, rfl⟩) h80r (by rw [hnr]; decide) (by rw [addV_of (by decide) (by simp; omega)]; decide) hscg
                rw [hE1]
                generalize addD 1 59 5 used2 [⟨[122], [122], false⟩] (restD keep D2) = D3 at *
                rw [hnr] at hE4
                refine g_v (v_ineq Try.underlying29 rfl) rfl ?_
                refine g_nil ?_
                refine g_cond rfl (fun h120 => ?_) (fun h120 => ?_)
                · simp at h120
                · skip
                  refine g_skip ?_
                  refine g_seq ?_
                  refine g_reg ?_
                  refine g_v (v_move rfl) rfl ?_
                  refine g_l (l_call (Pre := [dsk 109 114 b21 (D3)]) Try.call44 rfl (ct_log_Open b21 D3 1 59 5 hE3 ⟨by rw [hE4]; decide, by decide⟩)) rfl ?_
                  rintro _ _ (⟨hbad, _, _⟩ | ⟨_, hdn, _, _⟩ | ⟨_, _, bl3, gh, sh, ch, used3, rfl, hu3, hgh, hsch, rfl⟩)
                  · exfalso; unfold badO at hbad; rw [hE4] at hbad; omega
                  · rw [hE2.1] at hdn; cases hdn
                  replace hgh : gh.length ≤ 59 := hgh
                  replace hsch : scanF 5 (secD D3 1) 59 0 [] [] 0 = (gh.map (·.1), used3) := hsch
                  have hge : gh.map (·.1) = gg.map (·.1) ++ [[⟨[122], [122], false⟩]] := by
                    have h1 : scanF 5 (secD D3 1) 59 0 [] [] 0 = _ := hE5
                    rw [hsch] at h1; injection h1
                  have hgh72 : ∀ x ∈ gh, x.1.length ≤ 1000000 := fun x hx => Nat.le_trans (scan_lens _ _ _ _ _ _ _ hsch (by simp) (Nat.le_of_eq (Nat.zero_add _)) _ (List.mem_map_of_mem hx)) (by decide)
                  have hgz72 : ∀ x ∈ (gg ++ [(([⟨[122], [122], false⟩] : List ChangeM), ((some (⟨b113, 0, none⟩ : Addr), 1) : LocA))] : LogG), x.1.length ≤ 1000000 := fun x hx => by
                    rcases List.mem_append.1 hx with h | h
                    · exact hgg72 x h
                    · rw [List.mem_singleton] at h; subst h; exact (by decide : 1 ≤ 1000000)
                  refine g_freeze (T := 44) (cap := ch) sh ?_
                  refine g_nilown 44 1 (dR []) rfl ?_
                  refine g_v (v_move rfl) rfl ?_
                  refine g_v (v_extract (v := ptr bl3 0) rfl rfl) rfl ?_
                  refine g_v (v_extract (v := sl sh gh.length ch) rfl rfl) rfl ?_
                  refine g_v (v_extract (v := errV 0) rfl rfl) rfl ?_
                  refine g_v (v_assign rfl) rfl ?_
                  refine g_v (v_assign rfl) rfl ?_
                  refine g_v (v_assign rfl) rfl ?_
                  refine g_nil ?_
                  refine g_seq ?_
                  refine g_reg ?_
                  refine g_v (v_move rfl) rfl ?_
                  refine g_v (v_ieql Try.underlying29 rfl) rfl ?_
                  refine g_v (v_move rfl) rfl ?_
                  refine g_gv1 rfl rfl rfl (v_move rfl) rfl ?_
                  refine g_gv1 rfl rfl rfl (v_move rfl) rfl ?_
                  refine g_gl rfl rfl rfl (l_append Try.underlying81 Try.sizeOf44 Try.zeroValue44 rfl Try.typeInfo44 (by decide) rfl rfl rfl (dR_len _) dR_one dR_ones ⟨by omega, by decide, by decide⟩) rfl ?_
                  rintro _ _ ⟨s132, c132, rfl, rfl⟩
                  rw [Nat.zero_add, show dR [] ++ dR gg = dR gg from rfl]
                  refine g_gv1 rfl rfl rfl (v_move rfl) rfl ?_
                  refine g_gl rfl rfl rfl (l_buildSlice [[sl (some ⟨b113, 0, none⟩) 1 1]] Try.underlying81 Try.sizeOf44 Try.zeroValue44 rfl rfl rfl (by simp) (by decide) (by decide)) rfl ?_
                  rintro _ _ ⟨b134, rfl, rfl⟩
                  refine g_gl rfl rfl rfl (l_append Try.underlying81 Try.sizeOf44 Try.zeroValue44 rfl Try.typeInfo44 (by decide) rfl rfl (dR_len _) rfl (by simp) (by simp [ones, one, sl]) ⟨by omega, by decide, by decide⟩) rfl ?_
                  rintro _ _ ⟨s135, c135, rfl, rfl⟩
                  rw [show dR gg ++ [[sl (some ⟨b113, 0, none⟩) 1 1]] = dR (gg ++ [(([⟨[122], [122], false⟩] : List ChangeM), ((some (⟨b113, 0, none⟩ : Addr), 1) : LocA))] : LogG) by simp [dR], show gg.length + 1 = (gg ++ [(([⟨[122], [122], false⟩] : List ChangeM), ((some (⟨b113, 0, none⟩ : Addr), 1) : LocA))] : LogG).length by simp]
                  refine g_freeze (T := 44) (cap := c135) s135 ?_
                  refine g_deesApp gg [⟨[122], [122], false⟩] (some ⟨b113, 0, none⟩) 1 ?_
                  refine g_gl rfl rfl rfl (l_call (Pre := [roL 1 sh (dR (gh)), dees (gh), roL 1 s135 (dR ((gg ++ [(([⟨[122], [122], false⟩] : List ChangeM), ((some (⟨b113, 0, none⟩ : Addr), 1) : LocA))] : LogG))), dees ((gg ++ [(([⟨[122], [122], false⟩] : List ChangeM), ((some (⟨b113, 0, none⟩ : Addr), 1) : LocA))] : LogG))]) (R := fun F => R1 (Bo (decide ((gh).map (·.1) = ((gg ++ [(([⟨[122], [122], false⟩] : List ChangeM), ((some (⟨b113, 0, none⟩ : Addr), 1) : LocA))] : LogG)).map (·.1)))) (roL 1 sh (dR (gh)) :: dees (gh) :: roL 1 s135 (dR ((gg ++ [(([⟨[122], [122], false⟩] : List ChangeM), ((some (⟨b113, 0, none⟩ : Addr), 1) : LocA))] : LogG))) :: dees ((gg ++ [(([⟨[122], [122], false⟩] : List ChangeM), ((some (⟨b113, 0, none⟩ : Addr), 1) : LocA))] : LogG)) :: F)) Try.call49 rfl (ct_R_SameDeeds (gh) ((gg ++ [(([⟨[122], [122], false⟩] : List ChangeM), ((some (⟨b113, 0, none⟩ : Addr), 1) : LocA))] : LogG)) sh s135 ch c135 ⟨by omega, hgh72⟩ ⟨by simp; omega, hgz72⟩)) rfl ?_
                  rintro _ _ ⟨rfl, rfl⟩
                  rw [decide_eq_true (show gh.map (·.1) = (gg ++ [(([⟨[122], [122], false⟩] : List ChangeM), ((some (⟨b113, 0, none⟩ : Addr), 1) : LocA))] : LogG).map (·.1) by rw [hge, List.map_append]; rfl)]
                  refine g_v (v_and rfl rfl) rfl ?_
                  refine g_v (v_assign rfl) rfl ?_
                  refine g_nil ?_
                  refine g_ret1 rfl rfl ?_
                  show Bo _ = Bo true
                  simp

end Go.Proofs.Ythdjckbjjfiopab
