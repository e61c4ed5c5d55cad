/- Walks through the reference's disk of chapter 2: snapshots, dropping, what changed. No condition. -/
import Derived.Test.YthdjckbjjfiopaaVdRef
namespace Go.Proofs.Ythdjckbjjfiopaa
open Go.Sl Go.Proofs
set_option linter.unusedVariables false
set_option linter.unusedSimpArgs false
theorem rvC_congr {sz tm nx : Int} {B : Nat → Bytes} {m m' : Nat → Bool} {ss : Value} (h : ∀ p, p < 16 → m p = m' p) : rvC sz B m tm nx ss = rvC sz B m' tm nx ss := by
  simp only [rvC, h 0 (by decide), h 1 (by decide), h 2 (by decide), h 3 (by decide), h 4 (by decide), h 5 (by decide), h 6 (by decide), h 7 (by decide), h 8 (by decide), h 9 (by decide), h 10 (by decide), h 11 (by decide), h 12 (by decide), h 13 (by decide), h 14 (by decide), h 15 (by decide)]
theorem encR_congr {x : SnapM} {m : Nat → Bool} (h : ∀ p, p < 16 → m p = x.dirty p) : encR (withD x m) = encR x := by
  simp only [encR, withD, h 0 (by decide), h 1 (by decide), h 2 (by decide), h 3 (by decide), h 4 (by decide), h 5 (by decide), h 6 (by decide), h 7 (by decide), h 8 (by decide), h 9 (by decide), h 10 (by decide), h 11 (by decide), h 12 (by decide), h 13 (by decide), h 14 (by decide), h 15 (by decide)]
theorem bA_congr {m m' : Nat → Bool} (h : ∀ p, p < 16 → m p = m' p) : bA m = bA m' := by
  show (bL m).toArray = (bL m').toArray
  rw [← m16_bL, ← m16_bL]
  simp only [m16, h 0 (by decide), h 1 (by decide), h 2 (by decide), h 3 (by decide), h 4 (by decide), h 5 (by decide), h 6 (by decide), h 7 (by decide), h 8 (by decide), h 9 (by decide), h 10 (by decide), h 11 (by decide), h 12 (by decide), h 13 (by decide), h 14 (by decide), h 15 (by decide)]
theorem rvC_load1 {T : TypeId} {f : Nat × Nat} (sz tm nx : Int) (B : Nat → Bytes) (m : Nat → Bool) (ss : Value) : ∀ k v, (s16 B)[k]? = some v → objCell (.cells (rvC sz B m tm nx ss) T f) (0 + 1 + k) = some v
  := fun k v h => match k, h with
    | 0, h => h
    | 1, h => h
    | 2, h => h
    | 3, h => h
    | 4, h => h
    | 5, h => h
    | 6, h => h
    | 7, h => h
    | 8, h => h
    | 9, h => h
    | 10, h => h
    | 11, h => h
    | 12, h => h
    | 13, h => h
    | 14, h => h
    | 15, h => h
    | k + 16, h => by simp [s16] at h
theorem rvC_load2 {T : TypeId} {f : Nat × Nat} (sz tm nx : Int) (B : Nat → Bytes) (m : Nat → Bool) (ss : Value) : ∀ k v, (m16 m)[k]? = some v → objCell (.cells (rvC sz B m tm nx ss) T f) (0 + 17 + k) = some v
  := fun k v h => match k, h with
    | 0, h => h
    | 1, h => h
    | 2, h => h
    | 3, h => h
    | 4, h => h
    | 5, h => h
    | 6, h => h
    | 7, h => h
    | 8, h => h
    | 9, h => h
    | 10, h => h
    | 11, h => h
    | 12, h => h
    | 13, h => h
    | 14, h => h
    | 15, h => h
    | k + 16, h => by simp [m16] at h
theorem bldRSnap (id tm sz : Int) (B : Nat → Bytes) (m : Nat → Bool) (w : World) : (Instr.build 93 #[(0, I id), (1, I tm), (2, I sz), (3, .agg (s16 B).toArray), (4, .agg (m16 m).toArray)]).run Try.prog w = .ok (.agg (encR ⟨id, tm, sz, B, m⟩).toArray) w := by
  simp [Instr.build, Try.zeroValue93, Try.runUnderlying93, Try.sizeOf3, Try.sizeOf77, Try.sizeOf35, Instr.fill, cells_agg, s16, m16, encR, cells_one (show one (I id) = true from rfl), cells_one (show one (I tm) = true from rfl), cells_one (show one (I sz) = true from rfl)]
theorem del_rowsR (l : List SnapM) (i n : Nat) (hn : l.length = n) : [] ++ ((rsnapR l).drop 0).take i ++ ((rsnapR l).drop (i + 1)).take (n - (i + 1)) = rsnapR (l.eraseIdx i) := by
  subst hn
  rw [List.take_of_length_le (i := l.length - (i + 1)) (l := (rsnapR l).drop (i + 1)) (by simp [rsnapR]), List.eraseIdx_eq_take_drop_succ]
  simp [rsnapR]
section
variable (D : VdM) (i : Nat)
/-- the marks so far -/
def dK (k : Nat) : Nat → Bool := if ¬ (i + 1 < D.snaps.length) ∧ D.time = (snapAt D i).time then fun p => D.dirty p || (decide (p < k) && (snapAt D i).dirty p) else D.dirty
def tK (k : Nat) : SnapM := if (snapAt D (i + 1)).time = (snapAt D i).time then withD (snapAt D (i + 1)) (fun p => (snapAt D (i + 1)).dirty p || (decide (p < k) && (snapAt D i).dirty p)) else snapAt D (i + 1)
def snK (k : Nat) : List SnapM := if i + 1 < D.snaps.length then D.snaps.set (i + 1) (tK D i k) else D.snaps
end
section
variable {D : VdM} {i k : Nat}
theorem snK_len : (snK D i k).length = D.snaps.length := by unfold snK; split <;> simp
theorem more_no {m d : Nat → Bool} (h : d k = false) : (fun p => m p || (decide (p < k) && d p)) = fun p => m p || (decide (p < k + 1) && d p) := funext fun p => by
  by_cases hp : p = k
  · subst hp; simp [h]
  · rw [show decide (p < k) = decide (p < k + 1) from decide_eq_decide.2 (by omega)]
theorem more_yes {m d : Nat → Bool} (h : d k = true) : updM (fun p => m p || (decide (p < k) && d p)) k = fun p => m p || (decide (p < k + 1) && d p) := funext fun p => by
  unfold updM
  by_cases hp : p = k
  · subst hp; simp [h]
  · show ((m p || (decide (p < k) && d p)) || decide (p = k)) = _
    rw [show decide (p < k) = decide (p < k + 1) from decide_eq_decide.2 (by omega), decide_eq_false hp]; simp
theorem dK_no (h : (snapAt D i).dirty k = false) : dK D i k = dK D i (k + 1) := by unfold dK; split; exact more_no h; rfl
theorem dK_off (h : ¬ (¬ (i + 1 < D.snaps.length) ∧ D.time = (snapAt D i).time)) : dK D i k = dK D i (k + 1) := by unfold dK; rw [if_neg h, if_neg h]
theorem dK_hit (h1 : ¬ (i + 1 < D.snaps.length)) (h2 : D.time = (snapAt D i).time) (h : (snapAt D i).dirty k = true) : updM (dK D i k) k = dK D i (k + 1) := by
  unfold dK
  rw [if_pos ⟨h1, h2⟩, if_pos ⟨h1, h2⟩]
  exact more_yes h
theorem tK_time : (tK D i k).time = (snapAt D (i + 1)).time := by unfold tK; split <;> rfl
theorem snK_no (h : (snapAt D i).dirty k = false) : snK D i k = snK D i (k + 1) := by
  have : tK D i k = tK D i (k + 1) := by unfold tK; rw [more_no h]
  unfold snK; rw [this]
theorem snK_off (h : ¬ (i + 1 < D.snaps.length ∧ (snapAt D (i + 1)).time = (snapAt D i).time)) : snK D i k = snK D i (k + 1) := by
  unfold snK
  by_cases h1 : i + 1 < D.snaps.length
  · have : tK D i k = tK D i (k + 1) := by unfold tK; rw [if_neg (fun hh => h ⟨h1, hh⟩), if_neg (fun hh => h ⟨h1, hh⟩)]
    rw [this]
  · rw [if_neg h1, if_neg h1]
theorem snK_at (h1 : i + 1 < D.snaps.length) : (snK D i k)[i + 1]? = some (tK D i k) := by
  unfold snK
  rw [if_pos h1, List.getElem?_set_self h1]
theorem snK_hit (h1 : i + 1 < D.snaps.length) (h2 : (snapAt D (i + 1)).time = (snapAt D i).time) (h : (snapAt D i).dirty k = true) (hk : k < 16) : (rsnapR (snK D i k)).set (i + 1) ((encR (tK D i k)).set (19 + k * 1) (Bo true)) = rsnapR (snK D i (k + 1)) := by
  rw [encR_set _ _ hk]
  unfold snK
  rw [if_pos h1, if_pos h1]
  have : withD (tK D i k) (updM (tK D i k).dirty k) = tK D i (k + 1) := by
    unfold tK
    rw [if_pos h2, if_pos h2]
    show withD (snapAt D (i + 1)) (updM (fun p => (snapAt D (i + 1)).dirty p || (decide (p < k) && (snapAt D i).dirty p)) k) = _
    rw [more_yes h]
  rw [this]
  simp [rsnapR, List.map_set]
theorem K_zero : dK D i 0 = D.dirty ∧ snK D i 0 = D.snaps := by
  constructor
  · unfold dK; split; simp; rfl
  · unfold snK
    split
    · rename_i h
      have e : tK D i 0 = snapAt D (i + 1) := by unfold tK; split; simp; rfl
      have hs : D.snaps[i + 1]? = some (snapAt D (i + 1)) := by rw [snapAt_of (List.getElem?_eq_getElem h)]; exact List.getElem?_eq_getElem h
      rw [e]
      apply List.ext_getElem?
      intro j
      by_cases hj : i + 1 = j
      · subst hj; rw [List.getElem?_set_self h, hs]
      · rw [List.getElem?_set_ne hj]
    · rfl
theorem or_all {m d : Nat → Bool} {p : Nat} (hp : p < 16) : (m p || (decide (p < 16) && d p)) = orM m d p := by unfold orM; simp [hp]
theorem dK_all {sz tm nx : Int} {B : Nat → Bytes} {ss : Value} : rvC sz B (dK D i 16) tm nx ss = rvC sz B (preM D i) tm nx ss := rvC_congr fun p hp => by
  unfold dK preM
  split
  · exact or_all hp
  · rfl
theorem snK_all : rsnapR (snK D i 16) = rsnapR (preS D i) := by
  unfold snK preS
  by_cases h1 : i + 1 < D.snaps.length
  · rw [if_pos h1]
    by_cases h2 : (snapAt D (i + 1)).time = (snapAt D i).time
    · rw [if_pos ⟨h1, h2⟩]
      unfold tK
      rw [if_pos h2]
      simp only [rsnapR, List.map_set]
      congr 1
    · rw [if_neg (fun hh => h2 hh.2)]
      have : tK D i 16 = snapAt D (i + 1) := by unfold tK; rw [if_neg h2]
      rw [this]
      have hs : D.snaps[i + 1]? = some (snapAt D (i + 1)) := by rw [snapAt_of (List.getElem?_eq_getElem h1)]; exact List.getElem?_eq_getElem h1
      congr 1
      apply List.ext_getElem?
      intro j
      by_cases hj : i + 1 = j
      · subst hj; rw [List.getElem?_set_self h1, hs]
      · rw [List.getElem?_set_ne hj]
  · rw [if_neg h1, if_neg (fun hh => h1 hh.1)]
end
theorem erase_rows {l l' : List SnapM} {i : Nat} (h : rsnapR l = rsnapR l') : rsnapR (l.eraseIdx i) = rsnapR (l'.eraseIdx i) := by
  unfold rsnapR at h ⊢
  rw [List.eraseIdx_eq_take_drop_succ, List.eraseIdx_eq_take_drop_succ, List.map_append, List.map_append, List.map_take, List.map_take, List.map_drop, List.map_drop, h]
def inC (m d : Nat → Bool) (k : Nat) : Nat → Bool := fun p => m p || (decide (p < k) && d p)
theorem inC_step (m d : Nat → Bool) (k : Nat) : (fun i => if i = k then (inC m d k k || d k) else inC m d k i) = inC m d (k + 1) := funext fun p => by
  unfold inC
  by_cases hp : p = k
  · subst hp; simp
  · rw [if_neg hp, show decide (p < k) = decide (p < k + 1) from decide_eq_decide.2 (by omega)]
theorem inC_zero (m d : Nat → Bool) : inC m d 0 = m := funext fun p => by simp [inC]
theorem inC_all (m d : Nat → Bool) : bA (inC m d 16) = bA (orM m d) := bA_congr fun p hp => or_all hp

theorem ct_R_VDisk_Snap (b : Nat) (D : VdM) (hsl : D.snaps.length ≤ 1000000) (hn : -9223372036854775808 ≤ D.next) (F : List HProp) : Ct Try.prog 139 [ptr b 0] ([rvd b (D)] ++ F) (R1 (.tuple #[I (snI D), I (snE D)]) (rvd b (snD D) :: F)) := by
  show Ct Try.prog 139 [ptr b 0] (rvd b (D) :: F) _
  refine Ct.of Try.func139 rfl 63 Try.ntmps139 (by simp) fun w0 => ?_
  refine g_openR b (D) ?_
  intro ss cs
  refine g_seq ?_
  refine g_reg ?_
  refine g_v (v_assign rfl) rfl ?_
  refine g_v (v_assign rfl) rfl ?_
  refine g_nil ?_
  refine g_seq ?_
  refine g_seq ?_
  refine g_reg ?_
  refine g_v (v_move rfl) rfl ?_
  refine g_v (v_nilCheck rfl) rfl ?_
  refine g_v (v_fieldAddr 35 Try.underlying80 rfl rfl Try.sizeOf78 (by decide) rfl) rfl ?_
  refine g_v (v_load (v := sl ss D.snaps.length cs) Try.isAgg78 rfl rfl) rfl ?_
  refine g_v (v_len Try.underlying78 rfl) rfl ?_
  refine g_v (v_eql rfl rfl) rfl ?_
  refine g_v (v_move rfl) rfl ?_
  refine g_gv rfl rfl (fun hg => v_move rfl) rfl rfl ?_
  refine g_gv rfl rfl (fun hg => v_nilCheck rfl) rfl rfl ?_
  refine g_gv rfl rfl (fun hg => v_fieldAddr 34 Try.underlying80 rfl rfl Try.sizeOf3 (by decide) rfl) rfl rfl ?_
  refine g_gv rfl rfl (fun hg => v_load (v := I D.next) Try.isAgg3 rfl rfl) rfl rfl ?_
  refine g_gv rfl rfl (fun hg => v_gtr rfl rfl) rfl rfl ?_
  refine g_v (v_or rfl rfl) rfl ?_
  refine g_nil ?_
  refine g_cond rfl (fun h16 => ?_) (fun h16 => ?_)
  · simp at h16
    have hw : snE D = 8 := by unfold snE; rw [if_pos (by omega)]
    refine g_seq ?_
    refine g_reg ?_
    refine g_v (v_assign rfl) rfl ?_
    refine g_v (v_assign rfl) rfl ?_
    refine g_nil ?_
    refine g_shutR (rvC ((D).size) ((D).blocks) ((D).dirty) ((D).time) ((D).next) (sl ss (D).snaps.length cs)) (rsnapR (D).snaps) ss cs b (D) rfl rfl ?_
    rw [show rvd b D = rvd b (snD D) by unfold snD; rw [if_neg (by omega)]]
    exact g_ret1 rfl rfl (by rw [show snI D = 0 by unfold snI; rw [if_neg (by omega)], hw]; rfl)
  · simp at h16
    have hw : snE D = 0 := by unfold snE; rw [if_neg (by omega)]
    refine g_skip ?_
    refine g_seq ?_
    refine g_drawZ (Lf := pt b (.cells (rvC ((D).size) ((D).blocks) ((D).dirty) ((D).time) ((D).next) (sl ss (D).snaps.length cs)) 80 (0, 0)) :: F) [(0, false), (1, false), (2, false), (3, false), (4, false), (5, false), (6, false), (7, false), (8, false), (9, false), (10, false), (11, false), (12, false), (13, false), (14, false), (15, false), (16, false), (17, false), (18, false), (19, false), (20, false), (21, false), (22, false), (23, false), (24, false), (25, false), (26, true), (27, true), (28, false), (29, false)] 30 rfl (by kernel_rfl) (by kernel_rfl) rfl (by kernel_rfl) (by kernel_rfl) ?_
    refine d_v rfl (v_move rfl) rfl ?_
    refine d_v rfl (v_move rfl) rfl ?_
    refine d_v rfl (v_nilCheck rfl) rfl ?_
    refine d_v rfl (v_fieldAddr 35 Try.underlying80 rfl rfl Try.sizeOf78 (by decide) rfl) rfl ?_
    refine d_v rfl (v_load (v := sl ss D.snaps.length cs) Try.isAgg78 rfl rfl) rfl ?_
    refine d_v rfl (v_move rfl) rfl ?_
    refine d_v rfl (v_nilCheck rfl) rfl ?_
    refine d_v rfl (v_fieldAddr 34 Try.underlying80 rfl rfl Try.sizeOf3 (by decide) rfl) rfl ?_
    refine d_v rfl (v_load (v := I D.next) Try.isAgg3 rfl rfl) rfl ?_
    refine d_v rfl (v_move rfl) rfl ?_
    refine d_v rfl (v_nilCheck rfl) rfl ?_
    refine d_v rfl (v_fieldAddr 33 Try.underlying80 rfl rfl Try.sizeOf3 (by decide) rfl) rfl ?_
    refine d_v rfl (v_load (v := I D.time) Try.isAgg3 rfl rfl) rfl ?_
    refine d_v rfl (v_move rfl) rfl ?_
    refine d_v rfl (v_nilCheck rfl) rfl ?_
    refine d_v rfl (v_fieldAddr 0 Try.underlying80 rfl rfl Try.sizeOf3 (by decide) rfl) rfl ?_
    refine d_v rfl (v_load (v := I D.size) Try.isAgg3 rfl rfl) rfl ?_
    refine d_v rfl (v_move rfl) rfl ?_
    refine d_v rfl (v_nilCheck rfl) rfl ?_
    refine d_v rfl (v_fieldAddr 1 Try.underlying80 rfl rfl Try.sizeOf77 (by decide) rfl) rfl ?_
    refine d_v rfl (v_loadA (vs := s16 D.blocks) Try.isAgg77 Try.sizeOf77 rfl rfl (rvC_load1 _ _ _ _ _ _)) rfl ?_
    refine d_v rfl (v_move rfl) rfl ?_
    refine d_v rfl (v_nilCheck rfl) rfl ?_
    refine d_v rfl (v_fieldAddr 17 Try.underlying80 rfl rfl Try.sizeOf35 (by decide) rfl) rfl ?_
    refine d_v rfl (v_loadA (vs := m16 D.dirty) Try.isAgg35 Try.sizeOf35 rfl rfl (rvC_load2 _ _ _ _ _ _)) rfl ?_
    refine d_v rfl (v_build rfl (bldRSnap D.next D.time D.size D.blocks D.dirty)) rfl ?_
    refine d_l rfl (l_buildSlice [encR (⟨D.next, D.time, D.size, D.blocks, D.dirty⟩ : SnapM)] Try.underlying78 Try.sizeOf93 Try.zeroValue93 rfl rfl rfl (by simp [encR_len]) (by decide) (by decide)) rfl ?_
    rintro _ _ ⟨b43, rfl, rfl⟩
    refine d_l rfl (l_append Try.underlying78 Try.sizeOf93 Try.zeroValue93 rfl Try.typeInfo93 (by decide) rfl rfl (by rw [rsnapR_len]) rfl (by simp [encR_len]) (by simp [encR, ones, one]) ⟨by omega, by decide, by decide⟩) rfl ?_
    rintro _ _ ⟨s44, c44, rfl, rfl⟩
    rw [show rsnapR D.snaps ++ [encR (⟨D.next, D.time, D.size, D.blocks, D.dirty⟩ : SnapM)] = rsnapR (D.snaps ++ [(⟨D.next, D.time, D.size, D.blocks, D.dirty⟩ : SnapM)]) by simp [rsnapR]]
    refine d_v rfl (v_nilCheck rfl) rfl ?_
    refine d_v rfl (v_fieldAddr 35 Try.underlying80 rfl rfl Try.sizeOf78 (by decide) rfl) rfl ?_
    refine d_nil ?_
    refine g_l0 (l_store (rvC ((D).size) ((D).blocks) ((D).dirty) ((D).time) ((D).next) (sl s44 (D.snaps.length + 1) c44)) Try.sizeOf78 rfl rfl rfl (by rw [rvC_len]; decide) (rvC_snaps _ _ _ _ _ _ _)) ?_
    rintro _ _ rfl
    refine g_nil ?_
    refine g_seq ?_
    refine g_reg ?_
    refine g_v (v_move rfl) rfl ?_
    refine g_v (v_build rfl bldMarks) rfl ?_
    refine g_v (v_nilCheck rfl) rfl ?_
    refine g_v (v_fieldAddr 17 Try.underlying80 rfl rfl Try.sizeOf35 (by decide) rfl) rfl ?_
    refine g_l0 (l_storeA (cs := rvC ((D).size) ((D).blocks) ((D).dirty) ((D).time) ((D).next) (sl s44 (D.snaps.length + 1) c44)) (vs := m16 fun _ => false) (rvC ((D).size) ((D).blocks) (fun _ => false) ((D).time) ((D).next) (sl s44 (D.snaps.length + 1) c44)) Try.sizeOf35 rfl rfl rfl rfl (by rw [rvC_len]; decide) (rv_marks _ _ _ _ _ _ _)) ?_
    rintro _ _ rfl
    refine g_nil ?_
    refine g_seq ?_
    refine g_reg ?_
    refine g_v (v_move rfl) rfl ?_
    refine g_v (v_nilCheck rfl) rfl ?_
    refine g_v (v_fieldAddr 34 Try.underlying80 rfl rfl Try.sizeOf3 (by decide) rfl) rfl ?_
    refine g_v (v_load (v := I D.next) Try.isAgg3 rfl rfl) rfl ?_
    refine g_v (v_add rfl rfl (w64 (by omega))) rfl ?_
    refine g_v (v_nilCheck rfl) rfl ?_
    refine g_v (v_fieldAddr 34 Try.underlying80 rfl rfl Try.sizeOf3 (by decide) rfl) rfl ?_
    refine g_l0 (l_store (rvC ((D).size) ((D).blocks) (fun _ => false) ((D).time) (D.next + 1) (sl s44 (D.snaps.length + 1) c44)) Try.sizeOf3 rfl rfl rfl (by rw [rvC_len]; decide) (rvC_next _ _ _ _ _ _ _)) ?_
    rintro _ _ rfl
    refine g_nil ?_
    refine g_seq ?_
    refine g_reg ?_
    refine g_v (v_move rfl) rfl ?_
    refine g_v (v_nilCheck rfl) rfl ?_
    refine g_v (v_fieldAddr 34 Try.underlying80 rfl rfl Try.sizeOf3 (by decide) rfl) rfl ?_
    refine g_v (v_load (v := I (D.next + 1)) Try.isAgg3 rfl rfl) rfl ?_
    refine g_v (v_sub rfl rfl (w64 (by omega))) rfl ?_
    refine g_v (v_assign rfl) rfl ?_
    refine g_v (v_assign rfl) rfl ?_
    refine g_nil ?_
    refine g_shutR (rvC ((D).size) ((D).blocks) (fun _ => false) ((D).time) (D.next + 1) (sl s44 (D.snaps.length + 1) c44)) (rsnapR (D.snaps ++ [(⟨D.next, D.time, D.size, D.blocks, D.dirty⟩ : SnapM)])) s44 c44 b (⟨D.size, D.blocks, fun _ => false, D.time, D.next + 1, D.snaps ++ [⟨D.next, D.time, D.size, D.blocks, D.dirty⟩]⟩) (by simp) rfl ?_
    rw [show rvd b ⟨D.size, D.blocks, fun _ => false, D.time, D.next + 1, D.snaps ++ [⟨D.next, D.time, D.size, D.blocks, D.dirty⟩]⟩ = rvd b (snD D) by unfold snD; rw [if_pos hw]]
    exact g_ret1 rfl rfl (by rw [show snI D = D.next + 1 - 1 by unfold snI; rw [if_pos hw]; omega, hw]; rfl)

theorem ct_R_VDisk_Drop (b : Nat) (D : VdM) (id : Int) (hsl : D.snaps.length ≤ 1000000) (F : List HProp) : Ct Try.prog 140 [ptr b 0, I id] ([rvd b (D)] ++ F) (R1 (I (drE D id)) (rvd b (drD D id) :: F)) := by
  show Ct Try.prog 140 [ptr b 0, I id] (rvd b (D) :: F) _
  refine Ct.of Try.func140 rfl 89 Try.ntmps140 (by simp) fun w0 => ?_
  refine g_seq ?_
  refine g_reg ?_
  refine g_v (v_assign rfl) rfl ?_
  refine g_nil ?_
  refine g_seq ?_
  refine g_reg ?_
  refine g_v (v_move rfl) rfl ?_
  refine g_v (v_move rfl) rfl ?_
  refine g_l (l_call (Pre := [rvd b (D)]) Try.call143 rfl (ct_R_VDisk_at b D id (by omega))) rfl ?_
  rintro _ _ ⟨rfl, rfl⟩
  refine g_v (v_assign rfl) rfl ?_
  refine g_nil ?_
  refine g_seq ?_
  refine g_seq ?_
  refine g_reg ?_
  refine g_v (v_move rfl) rfl ?_
  refine g_v (v_lss rfl rfl) rfl ?_
  refine g_nil ?_
  refine g_cond rfl (fun h12 => ?_) (fun h12 => ?_)
  · simp at h12
    refine g_seq ?_
    refine g_reg ?_
    refine g_v (v_assign rfl) rfl ?_
    refine g_nil ?_
    rw [show rvd b D = rvd b (drD D id) by unfold drD; rw [if_pos (by omega)]]
    exact g_ret1 rfl rfl (by rw [show drE D id = 5 by unfold drE; rw [if_pos (by omega)]]; rfl)
  · simp at h12
    obtain ⟨i, s, hfi, hs, hid, hil⟩ := findI_pos (show ¬ findI D.snaps id < 0 by omega)
    rw [hfi]
    refine g_openR b (D) ?_
    intro ss cs
    have hir : i < (rsnapR D.snaps).length := by rw [rsnapR_len]; exact hil
    have hsi := snapAt_of hs
    refine g_cap ss fun hcap => ?_
    rw [rsnapR_len] at hcap
    refine g_skip ?_
    refine g_seq ?_
    refine g_reg ?_
    refine g_v (v_move rfl) rfl ?_
    refine g_v (v_nilCheck rfl) rfl ?_
    refine g_v (v_fieldAddr 35 Try.underlying80 rfl rfl Try.sizeOf78 (by decide) rfl) rfl ?_
    refine g_v (v_load (v := sl ss D.snaps.length cs) Try.isAgg78 rfl rfl) rfl ?_
    refine g_v (v_move rfl) rfl ?_
    refine g_v (v_idxS i Try.underlying78 Try.sizeOf93 rfl rfl rfl hil hir) rfl ?_
    refine g_v (v_loadAS (row := encR s) Try.isAgg93 Try.sizeOf93 rfl (rsnapR_at hs) rfl) rfl ?_
    refine g_l (l_alloc #[I 0, I 0, I 0, Str [], Str [], Str [], Str [], Str [], Str [], Str [], Str [], Str [], Str [], Str [], Str [], Str [], Str [], Str [], Str [], Bo false, Bo false, Bo false, Bo false, Bo false, Bo false, Bo false, Bo false, Bo false, Bo false, Bo false, Bo false, Bo false, Bo false, Bo false, Bo false] Try.zeroValue93) rfl ?_
    rintro _ _ ⟨b6, rfl, rfl⟩
    refine g_l0 (l_storeA (cs := #[I 0, I 0, I 0, Str [], Str [], Str [], Str [], Str [], Str [], Str [], Str [], Str [], Str [], Str [], Str [], Str [], Str [], Str [], Str [], Bo false, Bo false, Bo false, Bo false, Bo false, Bo false, Bo false, Bo false, Bo false, Bo false, Bo false, Bo false, Bo false, Bo false, Bo false, Bo false]) (vs := encR s) (encR s).toArray Try.sizeOf93 rfl rfl rfl rfl (by simp) (splice_all rfl)) ?_
    rintro _ _ rfl
    refine g_nil ?_
    refine g_seq ?_
    refine g_seq ?_
    rw [show rvC D.size D.blocks D.dirty D.time D.next (sl ss D.snaps.length cs) = rvC D.size D.blocks (dK D i 0) D.time D.next (sl ss D.snaps.length cs) by rw [K_zero.1], show rsnapR D.snaps = rsnapR (snK D i 0) by rw [K_zero.2]]
    refine g_reg ?_
    refine g_v (v_assign rfl) rfl ?_
    refine g_nil ?_
    refine g_block ?_
    refine g_loop (α := Nat) (fun k => k ≤ 16) (fun k => U [(0, ptr b 0), (5, I i), (6, ptr b6 0), (7, I k)]) (fun k => pt b6 (.cells (encR s).toArray 93 (0, 0)) :: pt b (.cells (rvC ((D).size) ((D).blocks) (dK D i k) ((D).time) ((D).next) (sl ss (D).snaps.length cs)) 80 (0, 0)) :: owL 93 35 ss cs (rsnapR (snK D i k)) :: F) (fun k => 16 - k) 0 (by simp) [0, 5, 6, 7] rfl rfl ?_
    intro k hk16
    refine g_seq ?_
    refine g_seq ?_
    refine g_reg ?_
    refine g_v (v_move rfl) rfl ?_
    refine g_v (v_lss rfl rfl) rfl ?_
    refine g_nil ?_
    refine g_cond rfl (fun h21 => ?_) (fun h21 => ?_)
    · simp at h21
      have hk : k < 16 := by omega
      refine g_skip ?_
      refine g_seq ?_
      refine g_block ?_
      refine g_seq ?_
      refine g_seq ?_
      refine g_reg ?_
      refine g_v (v_move rfl) rfl ?_
      refine g_v (v_fieldAddr 19 Try.underlying93 rfl rfl Try.sizeOf35 (by decide) rfl) rfl ?_
      refine g_v (v_idxA k Try.underlying35 Try.sizeOf4 rfl rfl rfl hk) rfl ?_
      refine g_v (v_load (v := Bo (s.dirty k)) Try.isAgg4 rfl (encR_at _ _ hk)) rfl ?_
      refine g_v (v_not rfl) rfl ?_
      refine g_nil ?_
      refine g_cond rfl (fun h28 => ?_) (fun h28 => ?_)
      · simp at h28
        refine g_exit rfl ?_
        refine g_reg ?_
        refine g_v (v_move rfl) rfl ?_
        refine g_v (v_add rfl rfl (w64 (by omega))) rfl ?_
        refine g_v (v_assign rfl) rfl ?_
        refine g_nil ?_
        rw [dK_no (by rw [hsi]; exact h28), snK_no (by rw [hsi]; exact h28)]
        exact g_again (k + 1) (by omega) (by omega) [0, 5, 6, 7] rfl rfl
      · simp at h28
        refine g_skip ?_
        refine g_seq ?_
        refine g_reg ?_
        refine g_v (v_move rfl) rfl ?_
        refine g_v (v_add rfl rfl (w64 (by omega))) rfl ?_
        refine g_v (v_move rfl) rfl ?_
        refine g_v (v_nilCheck rfl) rfl ?_
        refine g_v (v_fieldAddr 35 Try.underlying80 rfl rfl Try.sizeOf78 (by decide) rfl) rfl ?_
        refine g_v (v_load (v := sl ss D.snaps.length cs) Try.isAgg78 rfl rfl) rfl ?_
        refine g_v (v_len Try.underlying78 rfl) rfl ?_
        refine g_v (v_eql rfl rfl) rfl ?_
        refine g_nil ?_
        refine g_cond rfl (fun h36 => ?_) (fun h36 => ?_)
        · simp at h36
          have h36' : ¬ (i + 1 < D.snaps.length) := by omega
          refine g_seq ?_
          refine g_drawL [(0, false), (1, false), (2, false), (3, false), (4, false), (5, false), (6, false)] (by kernel_rfl) (by kernel_rfl) rfl (by kernel_rfl) ?_
          refine d_v rfl (v_move rfl) rfl ?_
          refine d_v rfl (v_nilCheck rfl) rfl ?_
          refine d_v rfl (v_fieldAddr 33 Try.underlying80 rfl rfl Try.sizeOf3 (by decide) rfl) rfl ?_
          refine d_v rfl (v_load (v := I D.time) Try.isAgg3 rfl rfl) rfl ?_
          refine d_v rfl (v_fieldAddr 1 Try.underlying93 rfl rfl Try.sizeOf3 (by decide) rfl) rfl ?_
          refine d_v rfl (v_load (v := I s.time) Try.isAgg3 rfl rfl) rfl ?_
          refine d_v rfl (v_eql rfl rfl) rfl ?_
          refine d_nil ?_
          refine g_cond rfl (fun h43 => ?_) (fun h43 => ?_)
          · simp at h43
            refine g_reg ?_
            refine g_v (v_move rfl) rfl ?_
            refine g_v (v_move rfl) rfl ?_
            refine g_v (v_nilCheck rfl) rfl ?_
            refine g_v (v_fieldAddr 17 Try.underlying80 rfl rfl Try.sizeOf35 (by decide) rfl) rfl ?_
            refine g_v (v_idxA k Try.underlying35 Try.sizeOf4 rfl rfl rfl hk) rfl ?_
            refine g_l0 (l_store (rvC ((D).size) ((D).blocks) (dK D i (k + 1)) ((D).time) ((D).next) (sl ss (D).snaps.length cs)) Try.sizeOf4 rfl rfl rfl (by rw [rvC_len]; omega) (by rw [rvC_mark _ _ _ _ _ _ _ hk, dK_hit h36' (by rw [hsi]; exact h43) (by rw [hsi]; exact h28)])) ?_
            rintro _ _ rfl
            refine g_nil ?_
            refine g_blk ?_
            refine g_reg ?_
            refine g_v (v_move rfl) rfl ?_
            refine g_v (v_add rfl rfl (w64 (by omega))) rfl ?_
            refine g_v (v_assign rfl) rfl ?_
            refine g_nil ?_
            rw [snK_off (k := k) (fun hh => h36' hh.1)]
            exact g_again (k + 1) (by omega) (by omega) [0, 5, 6, 7] rfl rfl
          · simp at h43
            refine g_skip ?_
            refine g_blk ?_
            refine g_reg ?_
            refine g_v (v_move rfl) rfl ?_
            refine g_v (v_add rfl rfl (w64 (by omega))) rfl ?_
            refine g_v (v_assign rfl) rfl ?_
            refine g_nil ?_
            rw [snK_off (k := k) (fun hh => h36' hh.1), dK_off (k := k) (fun hh => h43 (by rw [hsi] at hh; exact hh.2))]
            exact g_again (k + 1) (by omega) (by omega) [0, 5, 6, 7] rfl rfl
        · simp at h36
          have h36' : i + 1 < D.snaps.length := by omega
          have hir2 : i + 1 < (rsnapR (snK D i k)).length := by rw [rsnapR_len, snK_len]; exact h36'
          refine g_seq ?_
          refine g_drawL [(0, false), (1, false), (2, false), (3, false), (4, false), (5, false), (6, false), (7, false), (8, false), (9, false), (10, false), (11, false)] (by kernel_rfl) (by kernel_rfl) rfl (by kernel_rfl) ?_
          refine d_v rfl (v_move rfl) rfl ?_
          refine d_v rfl (v_nilCheck rfl) rfl ?_
          refine d_v rfl (v_fieldAddr 35 Try.underlying80 rfl rfl Try.sizeOf78 (by decide) rfl) rfl ?_
          refine d_v rfl (v_load (v := sl ss D.snaps.length cs) Try.isAgg78 rfl rfl) rfl ?_
          refine d_v rfl (v_move rfl) rfl ?_
          refine d_v rfl (v_add rfl rfl (w64 (by omega))) rfl ?_
          refine d_v rfl (v_idxS (i + 1) Try.underlying78 Try.sizeOf93 rfl rfl rfl h36' hir2) rfl ?_
          refine d_v rfl (v_fieldAdrS (j := (i + 1)) 1 Try.underlying93 rfl rfl Try.sizeOf3 (by decide) rfl hir2) rfl ?_
          refine d_v rfl (v_loadS (v := I (tK D i k).time) Try.isAgg3 rfl (rsnapR_at (snK_at h36')) rfl) rfl ?_
          refine d_v rfl (v_fieldAddr 1 Try.underlying93 rfl rfl Try.sizeOf3 (by decide) rfl) rfl ?_
          refine d_v rfl (v_load (v := I s.time) Try.isAgg3 rfl rfl) rfl ?_
          refine d_v rfl (v_eql rfl rfl) rfl ?_
          refine d_nil ?_
          refine g_cond rfl (fun h60 => ?_) (fun h60 => ?_)
          · simp at h60
            refine g_reg ?_
            refine g_v (v_move rfl) rfl ?_
            refine g_v (v_nilCheck rfl) rfl ?_
            refine g_v (v_fieldAddr 35 Try.underlying80 rfl rfl Try.sizeOf78 (by decide) rfl) rfl ?_
            refine g_v (v_load (v := sl ss D.snaps.length cs) Try.isAgg78 rfl rfl) rfl ?_
            refine g_v (v_move rfl) rfl ?_
            refine g_v (v_add rfl rfl (w64 (by omega))) rfl ?_
            refine g_v (v_move rfl) rfl ?_
            refine g_v (v_idxS (i + 1) Try.underlying78 Try.sizeOf93 rfl rfl rfl h36' hir2) rfl ?_
            refine g_v (v_fieldAdrS (j := (i + 1)) 19 Try.underlying93 rfl rfl Try.sizeOf35 (by decide) rfl hir2) rfl ?_
            refine g_v (v_idxAdr (i := i + 1) (f := 19) k Try.underlying35 Try.sizeOf4 rfl rfl rfl hk hir2) rfl ?_
            refine g_l0 (l_storeS (row := encR (tK D i k)) (f := 19 + k * 1) Try.sizeOf4 rfl rfl rfl (rsnapR_at (snK_at h36')) (by omega)) ?_
            rintro _ _ rfl
            rw [snK_hit h36' (by rw [hsi]; rw [← tK_time (k := k)]; exact h60) (by rw [hsi]; exact h28) hk]
            refine g_nil ?_
            refine g_blk ?_
            refine g_reg ?_
            refine g_v (v_move rfl) rfl ?_
            refine g_v (v_add rfl rfl (w64 (by omega))) rfl ?_
            refine g_v (v_assign rfl) rfl ?_
            refine g_nil ?_
            rw [dK_off (k := k) (fun hh => hh.1 h36')]
            exact g_again (k + 1) (by omega) (by omega) [0, 5, 6, 7] rfl rfl
          · simp at h60
            refine g_skip ?_
            refine g_blk ?_
            refine g_reg ?_
            refine g_v (v_move rfl) rfl ?_
            refine g_v (v_add rfl rfl (w64 (by omega))) rfl ?_
            refine g_v (v_assign rfl) rfl ?_
            refine g_nil ?_
            rw [dK_off (k := k) (fun hh => hh.1 h36'), snK_off (k := k) (fun hh => h60 (by rw [tK_time]; rw [hsi] at hh; exact hh.2))]
            exact g_again (k + 1) (by omega) (by omega) [0, 5, 6, 7] rfl rfl
    · simp at h21
      obtain rfl : k = 16 := by omega
      refine g_exit rfl ?_
      refine g_seq ?_
      refine g_nilown 93 35 [] rfl ?_
      refine g_drawZ (Lf := pt b (.cells (rvC ((D).size) ((D).blocks) (dK D i 16) ((D).time) ((D).next) (sl ss (D).snaps.length cs)) 80 (0, 0)) :: F) [(0, false), (1, false), (2, false), (3, false), (4, false), (5, false), (6, false), (8, false), (9, false), (10, false), (11, false), (12, false), (13, false), (14, false), (7, true), (15, true), (16, false), (17, false)] 18 rfl (by kernel_rfl) (by kernel_rfl) rfl (by kernel_rfl) (by kernel_rfl) ?_
      refine d_v rfl (v_move rfl) rfl ?_
      refine d_v rfl (v_move rfl) rfl ?_
      refine d_v rfl (v_nilCheck rfl) rfl ?_
      refine d_v rfl (v_fieldAddr 35 Try.underlying80 rfl rfl Try.sizeOf78 (by decide) rfl) rfl ?_
      refine d_v rfl (v_load (v := sl ss D.snaps.length cs) Try.isAgg78 rfl rfl) rfl ?_
      refine d_v rfl (v_move rfl) rfl ?_
      refine d_v rfl (v_slHi (h := i) Try.underlying78 Try.sizeOf93 rfl rfl rfl (by omega)) rfl ?_
      refine d_v rfl (v_move rfl) rfl ?_
      refine d_v rfl (v_nilCheck rfl) rfl ?_
      refine d_v rfl (v_fieldAddr 35 Try.underlying80 rfl rfl Try.sizeOf78 (by decide) rfl) rfl ?_
      refine d_v rfl (v_load (v := sl ss D.snaps.length cs) Try.isAgg78 rfl rfl) rfl ?_
      refine d_v rfl (v_move rfl) rfl ?_
      refine d_v rfl (v_add rfl rfl (w64 (by omega))) rfl ?_
      refine d_v rfl (v_slLo (l := i + 1) Try.underlying78 Try.sizeOf93 rfl rfl (by omega) (by omega)) rfl ?_
      refine d_l rfl (l_appendAt (s2 := ss) (p := 0) Try.underlying78 Try.sizeOf93 Try.zeroValue93 rfl Try.typeInfo93 (by decide) rfl rfl rfl (.inl ⟨rfl, rfl⟩) (by rw [rsnapR_len, snK_len]; omega) (fun r hr => by simp only [rsnapR, List.mem_map] at hr; obtain ⟨x, _, rfl⟩ := hr; rfl) (fun r hr => by simp only [rsnapR, List.mem_map] at hr; obtain ⟨x, _, rfl⟩ := hr; rfl) ⟨by omega, by decide, by decide⟩) rfl ?_
      rintro _ _ ⟨s78, c78, rfl, rfl⟩
      refine d_l rfl (l_appendAt (s2 := ss) (p := i + 1) Try.underlying78 Try.sizeOf93 Try.zeroValue93 rfl Try.typeInfo93 (by decide) rfl rfl (by simp [rsnapR, snK_len]; omega) (by unfold At; split; exact .inr (.inr (by omega)); exact .inr (.inl rfl)) (by rw [rsnapR_len, snK_len]; omega) (fun r hr => by simp only [rsnapR, List.mem_map] at hr; obtain ⟨x, _, rfl⟩ := hr; rfl) (fun r hr => by simp only [rsnapR, List.mem_map] at hr; obtain ⟨x, _, rfl⟩ := hr; rfl) ⟨by omega, by decide, by decide⟩) rfl ?_
      rintro _ _ ⟨s86, c86, rfl, rfl⟩
      rw [del_rowsR _ _ _ snK_len]
      refine d_v rfl (v_nilCheck rfl) rfl ?_
      refine d_v rfl (v_fieldAddr 35 Try.underlying80 rfl rfl Try.sizeOf78 (by decide) rfl) rfl ?_
      refine d_nil ?_
      refine g_l0 (l_store (rvC ((D).size) ((D).blocks) (dK D i 16) ((D).time) ((D).next) (sl s86 (0 + i + (D.snaps.length - (i + 1))) c86)) Try.sizeOf78 rfl rfl rfl (by rw [rvC_len]; decide) (rvC_snaps _ _ _ _ _ _ _)) ?_
      rintro _ _ rfl
      refine g_nil ?_
      refine g_seq ?_
      refine g_reg ?_
      refine g_v (v_assign rfl) rfl ?_
      refine g_nil ?_
      rw [dK_all, show rsnapR ((snK D i 16).eraseIdx i) = rsnapR ((preS D i).eraseIdx i) from erase_rows snK_all]
      refine g_shutR (rvC ((D).size) ((D).blocks) (preM D i) ((D).time) ((D).next) (sl s86 (0 + i + (D.snaps.length - (i + 1))) c86)) (rsnapR ((preS D i).eraseIdx i)) s86 c86 b (⟨D.size, D.blocks, preM D i, D.time, D.next, (preS D i).eraseIdx i⟩) (by rw [List.length_eraseIdx, show (preS D i).length = D.snaps.length by unfold preS; split <;> simp, if_pos hil, show 0 + i + (D.snaps.length - (i + 1)) = D.snaps.length - 1 by omega]) rfl ?_
      rw [show rvd b ⟨D.size, D.blocks, preM D i, D.time, D.next, (preS D i).eraseIdx i⟩ = rvd b (drD D id) by unfold drD; rw [if_neg (by omega), hfi, Int.toNat_natCast]]
      exact g_ret1 rfl rfl (by rw [show drE D id = 0 by unfold drE; rw [if_neg (by omega)]]; rfl)

theorem ct_R_VDisk_Changed (b : Nat) (D : VdM) (x y : Int) (hsl : D.snaps.length ≤ 1000000) (F : List HProp) : Ct Try.prog 53 [ptr b 0, I x, I y] ([rvd b (D)] ++ F) (RSf (fun v => .tuple #[v, I (chE D x y)]) 170 2 (chA D x y).length (rowsA (chA D x y)) (rvd b (D) :: F)) := by
  show Ct Try.prog 53 [ptr b 0, I x, I y] (rvd b (D) :: F) _
  refine Ct.of Try.func53 rfl 77 Try.ntmps53 (by simp) fun w0 => ?_
  refine g_seq ?_
  refine g_reg ?_
  refine g_v (v_assign rfl) rfl ?_
  refine g_v (v_assign rfl) rfl ?_
  refine g_nil ?_
  refine g_seq ?_
  refine g_reg ?_
  refine g_v (v_move rfl) rfl ?_
  refine g_v (v_move rfl) rfl ?_
  refine g_l (l_call (Pre := [rvd b (D)]) Try.call143 rfl (ct_R_VDisk_at b D x (by omega))) rfl ?_
  rintro _ _ ⟨rfl, rfl⟩
  refine g_v (v_assign rfl) rfl ?_
  refine g_nil ?_
  refine g_seq ?_
  refine g_reg ?_
  refine g_v (v_move rfl) rfl ?_
  refine g_v (v_move rfl) rfl ?_
  refine g_l (l_call (Pre := [rvd b (D)]) Try.call143 rfl (ct_R_VDisk_at b D y (by omega))) rfl ?_
  rintro _ _ ⟨rfl, rfl⟩
  refine g_v (v_assign rfl) rfl ?_
  refine g_nil ?_
  refine g_seq ?_
  refine g_seq ?_
  refine g_reg ?_
  refine g_v (v_move rfl) rfl ?_
  refine g_v (v_lss rfl rfl) rfl ?_
  refine g_v (v_move rfl) rfl ?_
  refine g_gv rfl rfl (fun hg => v_move rfl) rfl rfl ?_
  refine g_gv rfl rfl (fun hg => v_lss rfl rfl) rfl rfl ?_
  refine g_v (v_or rfl rfl) rfl ?_
  refine g_nil ?_
  refine g_cond rfl (fun h24 => ?_) (fun h24 => ?_)
  · simp at h24
    refine g_seq ?_
    refine g_reg ?_
    refine g_v (v_assign rfl) rfl ?_
    refine g_v (v_assign rfl) rfl ?_
    refine g_nil ?_
    have hE : chE D x y = 5 := by unfold chE; rw [if_pos (by omega)]
    have hA : chA D x y = [] := by unfold chA; rw [if_neg (by omega)]
    refine g_nilown 170 2 (rowsA (chA D x y)) (by rw [hA]; rfl) ?_
    exact g_retSf (f := fun v => .tuple #[v, I (chE D x y)]) rfl rfl (by rw [hA]) (by rw [hE]; rfl)
  · simp at h24
    refine g_skip ?_
    refine g_seq ?_
    refine g_seq ?_
    obtain ⟨ia, sa, hfa, hsa, _, hla⟩ := findI_pos (show ¬ findI D.snaps x < 0 by omega)
    obtain ⟨ib, sb, hfb, hsb, _, hlb⟩ := findI_pos (show ¬ findI D.snaps y < 0 by omega)
    rw [hfa, hfb]
    refine g_reg ?_
    refine g_v (v_move rfl) rfl ?_
    refine g_v (v_move rfl) rfl ?_
    refine g_v (v_gtr rfl rfl) rfl ?_
    refine g_nil ?_
    refine g_cut (α := Unit) (fun _ => True) (fun _ => U [(0, ptr b 0), (8, I ((chLo D x y : Nat) : Int)), (9, I ((chHi D x y : Nat) : Int))]) (fun _ => rvd b (D) :: F) ?_ ?_
    · skip
      refine g_cond rfl (fun h27 => ?_) (fun h27 => ?_)
      · simp at h27
        refine g_reg ?_
        refine g_v (v_move rfl) rfl ?_
        refine g_v (v_move rfl) rfl ?_
        refine g_v (v_assign rfl) rfl ?_
        refine g_v (v_assign rfl) rfl ?_
        refine g_nil ?_
        rw [show ((ib : Nat) : Int) = ((chLo D x y : Nat) : Int) by unfold chLo; rw [hfa, hfb, if_pos (by omega)]; simp, show ((ia : Nat) : Int) = ((chHi D x y : Nat) : Int) by unfold chHi; rw [hfa, hfb, if_neg (by omega)]; simp]
        exact g_here () trivial [0, 8, 9] rfl rfl
      · simp at h27
        refine g_skip ?_
        rw [show ((ia : Nat) : Int) = ((chLo D x y : Nat) : Int) by unfold chLo; rw [hfa, hfb, if_neg (by omega)]; simp, show ((ib : Nat) : Int) = ((chHi D x y : Nat) : Int) by unfold chHi; rw [hfa, hfb]; split <;> simp <;> omega]
        exact g_here () trivial [0, 8, 9] rfl rfl
    rintro ⟨⟩ -
    refine g_seq ?_
    refine g_seq ?_
    refine g_openR b (D) ?_
    intro ss cs
    have hb1 : chLo D x y < D.snaps.length := by unfold chLo; rw [hfa, hfb]; split <;> rw [Int.toNat_natCast] <;> assumption
    have hb2 : chHi D x y < D.snaps.length := by unfold chHi; rw [hfa, hfb]; split <;> rw [Int.toNat_natCast] <;> assumption
    have hb3 : chLo D x y ≤ chHi D x y := by unfold chLo chHi; rw [hfa, hfb]; split <;> split <;> simp <;> omega
    generalize hlo : chLo D x y = lo at *
    generalize hhi : chHi D x y = hi at *
    obtain ⟨s1, hs1⟩ : ∃ s, D.snaps[lo]? = some s := ⟨_, List.getElem?_eq_getElem hb1⟩
    obtain ⟨s2, hs2⟩ : ∃ s, D.snaps[hi]? = some s := ⟨_, List.getElem?_eq_getElem hb2⟩
    have hr1 : lo < (rsnapR D.snaps).length := by rw [rsnapR_len]; exact hb1
    have hr2 : hi < (rsnapR D.snaps).length := by rw [rsnapR_len]; exact hb2
    have hse1 := snapAt_of hs1
    have hse2 := snapAt_of hs2
    refine g_drawL [(0, false), (1, false), (2, false), (3, false), (4, false), (5, false), (6, false), (7, false), (8, false), (9, false), (10, false), (11, false), (12, false), (13, false), (14, false), (15, false), (16, false)] (by kernel_rfl) (by kernel_rfl) rfl (by kernel_rfl) ?_
    refine d_v rfl (v_move rfl) rfl ?_
    refine d_v rfl (v_nilCheck rfl) rfl ?_
    refine d_v rfl (v_fieldAddr 35 Try.underlying80 rfl rfl Try.sizeOf78 (by decide) rfl) rfl ?_
    refine d_v rfl (v_load (v := sl ss D.snaps.length cs) Try.isAgg78 rfl rfl) rfl ?_
    refine d_v rfl (v_move rfl) rfl ?_
    refine d_v rfl (v_idxS lo Try.underlying78 Try.sizeOf93 rfl rfl rfl hb1 hr1) rfl ?_
    refine d_v rfl (v_fieldAdrS (j := lo) 1 Try.underlying93 rfl rfl Try.sizeOf3 (by decide) rfl hr1) rfl ?_
    refine d_v rfl (v_loadS (v := I s1.time) Try.isAgg3 rfl (rsnapR_at hs1) rfl) rfl ?_
    refine d_v rfl (v_move rfl) rfl ?_
    refine d_v rfl (v_nilCheck rfl) rfl ?_
    refine d_v rfl (v_fieldAddr 35 Try.underlying80 rfl rfl Try.sizeOf78 (by decide) rfl) rfl ?_
    refine d_v rfl (v_load (v := sl ss D.snaps.length cs) Try.isAgg78 rfl rfl) rfl ?_
    refine d_v rfl (v_move rfl) rfl ?_
    refine d_v rfl (v_idxS hi Try.underlying78 Try.sizeOf93 rfl rfl rfl hb2 hr2) rfl ?_
    refine d_v rfl (v_fieldAdrS (j := hi) 1 Try.underlying93 rfl rfl Try.sizeOf3 (by decide) rfl hr2) rfl ?_
    refine d_v rfl (v_loadS (v := I s2.time) Try.isAgg3 rfl (rsnapR_at hs2) rfl) rfl ?_
    refine d_v rfl (v_neq rfl rfl) rfl ?_
    refine d_nil ?_
    refine g_cond rfl (fun h46 => ?_) (fun h46 => ?_)
    · simp at h46
      have hE : chE D x y = 7 := by unfold chE; rw [if_neg (by omega), hlo, hhi, hse1, hse2, if_pos h46]
      have hA : chA D x y = [] := by unfold chA; rw [if_neg (by omega)]
      refine g_seq ?_
      refine g_reg ?_
      refine g_v (v_assign rfl) rfl ?_
      refine g_v (v_assign rfl) rfl ?_
      refine g_nil ?_
      refine g_shutR (rvC ((D).size) ((D).blocks) ((D).dirty) ((D).time) ((D).next) (sl ss (D).snaps.length cs)) (rsnapR (D).snaps) ss cs b (D) rfl rfl ?_
      refine g_nilown 170 2 (rowsA (chA D x y)) (by rw [hA]; rfl) ?_
      exact g_retSf (f := fun v => .tuple #[v, I (chE D x y)]) rfl rfl (by rw [hA]) (by rw [hE]; rfl)
    · simp at h46
      have hE : chE D x y = 0 := by unfold chE; rw [if_neg (by omega), hlo, hhi, hse1, hse2, if_neg (fun hh => hh h46)]
      have hA : chA D x y = ofM (chM D lo (hi - lo)) := by unfold chA; rw [if_pos hE, hlo, hhi]
      refine g_skip ?_
      refine g_seq ?_
      refine g_reg ?_
      refine g_l (l_alloc (bA (fun _ => false)) (fun w => by rw [zeroM]; exact Try.zeroValue35 w)) rfl ?_
      rintro _ _ ⟨b10, rfl, rfl⟩
      rw [show bA (fun _ => false) = bA (chM D lo 0) from rfl]
      refine g_nil ?_
      refine g_seq ?_
      refine g_seq ?_
      refine g_reg ?_
      refine g_v (v_move rfl) rfl ?_
      refine g_v (v_add rfl rfl (w64 (by omega))) rfl ?_
      refine g_v (v_assign rfl) rfl ?_
      refine g_nil ?_
      refine g_block ?_
      refine g_loop (α := Nat) (fun c => c ≤ hi - lo) (fun c => U [(0, ptr b 0), (9, I hi), (10, ptr b10 0), (11, I ((lo : Int) + 1 + c))]) (fun c => pt b10 (.cells (bA (chM D lo c)) 35 (0, 0)) :: pt b (.cells (rvC ((D).size) ((D).blocks) ((D).dirty) ((D).time) ((D).next) (sl ss (D).snaps.length cs)) 80 (0, 0)) :: owL 93 35 ss cs (rsnapR D.snaps) :: F) (fun c => hi - lo - c) 0 (by simp) [0, 9, 10, 11] rfl rfl ?_
      intro c hc
      refine g_seq ?_
      refine g_seq ?_
      refine g_reg ?_
      refine g_v (v_move rfl) rfl ?_
      refine g_v (v_move rfl) rfl ?_
      refine g_v (v_leq rfl rfl) rfl ?_
      refine g_nil ?_
      refine g_cond rfl (fun h51 => ?_) (fun h51 => ?_)
      · simp at h51
        refine g_skip ?_
        refine g_seq ?_
        refine g_block ?_
        refine g_seq ?_
        obtain ⟨s3, hs3⟩ : ∃ s, D.snaps[lo + 1 + c]? = some s := ⟨_, List.getElem?_eq_getElem (by omega)⟩
        have hkc : lo + 1 + c < D.snaps.length := by omega
        have hkrc : lo + 1 + c < (rsnapR D.snaps).length := by rw [rsnapR_len]; exact hkc
        have hs3e := snapAt_of hs3
        rw [show bA (chM D lo c) = bA (inC (chM D lo c) s3.dirty 0) by rw [inC_zero]]
        refine g_reg ?_
        refine g_v (v_assign rfl) rfl ?_
        refine g_nil ?_
        refine g_block ?_
        refine g_loop (α := Nat) (fun k => k ≤ 16) (fun k => U [(0, ptr b 0), (9, I hi), (10, ptr b10 0), (11, I ((lo : Int) + 1 + c)), (12, I k)]) (fun k => pt b10 (.cells (bA (inC (chM D lo c) s3.dirty k)) 35 (0, 0)) :: pt b (.cells (rvC ((D).size) ((D).blocks) ((D).dirty) ((D).time) ((D).next) (sl ss (D).snaps.length cs)) 80 (0, 0)) :: owL 93 35 ss cs (rsnapR D.snaps) :: F) (fun k => 16 - k) 0 (by simp) [0, 9, 10, 11, 12] rfl rfl ?_
        intro k hk16
        refine g_seq ?_
        refine g_seq ?_
        refine g_reg ?_
        refine g_v (v_move rfl) rfl ?_
        refine g_v (v_lss rfl rfl) rfl ?_
        refine g_nil ?_
        refine g_cond rfl (fun h55 => ?_) (fun h55 => ?_)
        · simp at h55
          have hk : k < 16 := by omega
          refine g_skip ?_
          refine g_seq ?_
          refine g_block ?_
          refine g_reg ?_
          refine g_v (v_move rfl) rfl ?_
          refine g_v (v_move rfl) rfl ?_
          refine g_v (v_idxA k Try.underlying35 Try.sizeOf4 rfl rfl rfl hk) rfl ?_
          refine g_v (v_load (v := Bo (inC (chM D lo c) s3.dirty k k)) Try.isAgg4 rfl (bA_cell hk)) rfl ?_
          refine g_v (v_move rfl) rfl ?_
          refine g_gv rfl rfl (fun hg => v_move rfl) rfl rfl ?_
          refine g_gv rfl rfl (fun hg => v_nilCheck rfl) rfl rfl ?_
          refine g_gv rfl rfl (fun hg => v_fieldAddr 35 Try.underlying80 rfl rfl Try.sizeOf78 (by decide) rfl) rfl rfl ?_
          refine g_gv rfl rfl (fun hg => v_load (v := sl ss D.snaps.length cs) Try.isAgg78 rfl rfl) rfl rfl ?_
          refine g_gv rfl rfl (fun hg => v_move rfl) rfl rfl ?_
          refine g_gv rfl rfl (fun hg => v_move rfl) rfl rfl ?_
          refine g_gv rfl rfl (fun hg => v_idxS (lo + 1 + c) Try.underlying78 Try.sizeOf93 rfl rfl (by omega) hkc hkrc) rfl rfl ?_
          refine g_gv rfl rfl (fun hg => v_fieldAdrS (j := (lo + 1 + c)) 19 Try.underlying93 rfl rfl Try.sizeOf35 (by decide) rfl hkrc) rfl rfl ?_
          refine g_gv rfl rfl (fun hg => v_idxAdr (i := lo + 1 + c) (f := 19) k Try.underlying35 Try.sizeOf4 rfl rfl rfl hk hkrc) rfl rfl ?_
          refine g_gv rfl rfl (fun hg => v_loadS (f := 19 + k * 1) (v := Bo (s3.dirty k)) Try.isAgg4 rfl (rsnapR_at hs3) (encR_mrk _ _ hk)) rfl rfl ?_
          refine g_v (v_or rfl rfl) rfl ?_
          refine g_v (v_idxA k Try.underlying35 Try.sizeOf4 rfl rfl rfl hk) rfl ?_
          refine g_l0 (l_store (bA (inC (chM D lo c) s3.dirty (k + 1))) Try.sizeOf4 rfl rfl rfl (by simp [bA, bL]; omega) (by rw [bA_set hk, inC_step])) ?_
          rintro _ _ rfl
          refine g_nil ?_
          refine g_blk ?_
          refine g_reg ?_
          refine g_v (v_move rfl) rfl ?_
          refine g_v (v_add rfl rfl (w64 (by omega))) rfl ?_
          refine g_v (v_assign rfl) rfl ?_
          refine g_nil ?_
          exact g_again (k + 1) (by omega) (by omega) [0, 9, 10, 11, 12] rfl rfl
        · simp at h55
          obtain rfl : k = 16 := by omega
          refine g_exit rfl ?_
          refine g_blk ?_
          refine g_reg ?_
          refine g_v (v_move rfl) rfl ?_
          refine g_v (v_add rfl rfl (w64 (by omega))) rfl ?_
          refine g_v (v_assign rfl) rfl ?_
          refine g_nil ?_
          rw [inC_all, show orM (chM D lo c) s3.dirty = chM D lo (c + 1) by rw [← hs3e]; rfl]
          exact g_again (c + 1) (by omega) (by omega) [0, 9, 10, 11] rfl (by simp [U]; try omega)
      · simp at h51
        obtain rfl : c = hi - lo := by omega
        refine g_exit rfl ?_
        refine g_seq ?_
        refine g_reg ?_
        refine g_v (v_loadA (vs := bL (chM D lo (hi - lo))) Try.isAgg35 Try.sizeOf35 rfl (bL_len _) bA_load) rfl ?_
        refine g_l (l_call (Pre := []) Try.call125 rfl (ct_R_Marks_Areas (chM D lo (hi - lo)))) rfl ?_
        rintro _ _ ⟨s76, c76, rfl, rfl⟩
        refine g_v (v_assign rfl) rfl ?_
        refine g_v (v_assign rfl) rfl ?_
        refine g_nil ?_
        refine g_shutR (rvC ((D).size) ((D).blocks) ((D).dirty) ((D).time) ((D).next) (sl ss (D).snaps.length cs)) (rsnapR (D).snaps) ss cs b (D) rfl rfl ?_
        rw [← hA]
        exact g_retSf (f := fun v => .tuple #[v, I (chE D x y)]) rfl rfl rfl (by rw [hE]; rfl)

end Go.Proofs.Ythdjckbjjfiopaa
