/- Walks through package pool. No condition. -/
import Derived.Test.YthdjckbjjfiopacGreatDoorSlC
import Derived.Test.YthdjckbjjfiopacGreatDoorSort
import Derived.Test.YthdjckbjjfiopacGreatDoorPartA
import Derived.Test.YthdjckbjjfiopacGreatDoorTypes2
namespace Go.Proofs.YthdjckbjjfiopacGreatDoor
open Go.Sl Go.Proofs
set_option linter.unusedVariables false
set_option linter.unusedSimpArgs false
abbrev Bk := List UInt8 × Int
abbrev BkT := Int → Option Bk
abbrev encB (x : Bk) : Value := .agg [Str x.1, I x.2].toArray
def plP (b : Nat) (B : BkT) (r : Nat) : List HProp := [pt b (.cells #[.map (some r)] 95 (0, 0)), mp r (tb encB 40 B)]
/-- a pool at b -/
def plb (b : Nat) (B : BkT) : HProp := hx (plP b B)
/-- what is known of a pool's blocks -/
def okB (B : BkT) : Prop := sup 40 B ∧ ∀ q x, B q = some x → 0 < x.2 ∧ x.2 < 9223372036854775807
def putE (B : BkT) (d : Bytes) : Int × Int := if 6 < d.length ∨ d = [] then (0, 3) else match freeId 40 B with | none => (0, 8) | some k => (k, 0)
def putB (B : BkT) (d : Bytes) : BkT := if 6 < d.length ∨ d = [] then B else match freeId 40 B with | none => B | some k => pset B k (some (d, 1))
def getP (B : BkT) (q : Int) : Bytes × Int := match B q with | none => ([], 5) | some x => (x.1, 0)
def refE (B : BkT) (q : Int) : Int := if (B q).isSome then 0 else 5
def refB (B : BkT) (q n : Int) : BkT := match B q with | none => B | some x => pset B q (if x.2 + n = 0 then none else some (x.1, x.2 + n))
theorem pset_pset {ρ : Type} (B : Int → Option ρ) (k : Int) (x y : Option ρ) : pset (pset B k x) k y = pset B k y := funext fun q => by unfold pset; split <;> rfl
section
variable {c : Cx} {E : Env} {L : List HProp} {K : List KI}
theorem g_openP {F : List HProp} (b : Nat) (B : BkT) [R : Rem L (plb b B) F] (k : ∀ r, G c K E (pt b (.cells #[.map (some r)] 95 (0, 0)) :: mp r (tb encB 40 B) :: F)) : G c K E L := g_open (plb b B) rfl fun z => k z
theorem g_shutP {F : List HProp} {M : MM} (r b : Nat) (B : BkT) (h : M.Perm (tb encB 40 B)) [S : Split L [pt b (.cells #[.map (some r)] 95 (0, 0)), mp r M] F] (k : G c K E (plb b B :: F)) : G c K E L := fun a w hE hS => by
  have h1 : Sat c.w0 w (pt b (.cells #[.map (some r)] 95 (0, 0)) :: mp r M :: F) := S.sat hS
  have sp : Split (mp r M :: F) [] (mp r M :: F) := inferInstance
  refine k a w hE (Sat.hx_mk (A := plP b B) r ?_)
  have r2 : Rem (pt b (.cells #[.map (some r)] 95 (0, 0)) :: mp r M :: F) (mp r M) (pt b (.cells #[.map (some r)] 95 (0, 0)) :: F) := inferInstance
  have h2 := (r2.sat h1).ex
  obtain ⟨⟨es, clk⟩, h2⟩ := h2
  have h3 : Sat c.w0 w (mp r (tb encB 40 B) :: pt b (.cells #[.map (some r)] 95 (0, 0)) :: F) := Sat.ex_mk (A := fun p : Array MapEntry × Nat => fun m => MOk p.1 p.2 (tb encB 40 B) ∧ m r = some (.map p.1 p.2, false)) (es, clk) (h2.weak fun m hm => ⟨hm.1.perm_ h, hm.2⟩)
  have r3 : Rem (mp r (tb encB 40 B) :: pt b (.cells #[.map (some r)] 95 (0, 0)) :: F) (pt b (.cells #[.map (some r)] 95 (0, 0))) (mp r (tb encB 40 B) :: F) := inferInstance
  exact r3.sat h3
end
theorem lkB {B : BkT} (h : sup 40 B) (q : Int) : lk (tb encB 40 B) q = (B q).map encB := lk_sup encB h q
theorem mset_new {got rest : MM} {k : Int} {v : Value} (h : lk got k = none) : (mset got k v ++ rest).Perm (got ++ (k, v) :: rest) := by
  unfold mset
  rw [if_neg (by simp [h]), List.append_assoc]
  exact .refl _
theorem lk_none_of {got rest M : MM} {k : Int} {v : Value} (hp : (got ++ (k, v) :: rest).Perm M) (hn : (M.map (·.1)).Nodup) : lk got k = none := by
  rw [lk_none]
  intro p hp' e
  have h1 := (hp.map (·.1)).nodup_iff.2 hn
  rw [List.map_append, List.nodup_append] at h1
  exact h1.2.2 p.1 (List.mem_map.2 ⟨p, hp', rfl⟩) k (by simp) e

theorem ct_pool_New  (F : List HProp) : Ct Tryz.prog 87 [] ([] ++ F) (fun v L' => ∃ b, v = ptr b 0 ∧ L' = plb b (fun _ => none) :: F) := by
  show Ct Tryz.prog 87 [] (F) _
  refine Ct.of Tryz.func87 rfl 4 Tryz.ntmps87 (by simp) fun w0 => ?_
  refine g_seq ?_
  refine g_reg ?_
  refine g_v (v_assign rfl) rfl ?_
  refine g_nil ?_
  refine g_seq ?_
  refine g_reg ?_
  refine g_l (l_makeMap) rfl ?_
  rintro _ _ ⟨b1, rfl, rfl⟩
  refine g_v (v_build rfl (bld95_0 _ rfl)) rfl ?_
  refine g_l (l_box #[.map (some b1)] rfl rfl) rfl ?_
  rintro _ _ ⟨b3, rfl, rfl⟩
  refine g_v (v_assign rfl) rfl ?_
  refine g_nil ?_
  refine g_shutP b1 b3 (fun _ => none) (by rw [tb_empty]) ?_
  exact fun a w hE hS => wp_ret (kq_ret (res_fpost (vs := [ptr b3 0]) rfl hE hS ⟨b3, rfl, rfl⟩))

theorem ct_pool_Pool_Get (b : Nat) (B : BkT) (id : Int) (hB : okB B) (F : List HProp) : Ct Tryz.prog 98 [ptr b 0, I id] ([plb b B] ++ F) (R1 (.tuple #[Str (getP B id).1, errT 89 (getP B id).2]) (plb b B :: F)) := by
  show Ct Tryz.prog 98 [ptr b 0, I id] (plb b B :: F) _
  refine Ct.of Tryz.func98 rfl 22 Tryz.ntmps98 (by simp) fun w0 => ?_
  refine g_openP b (B) ?_
  intro r
  refine g_seq ?_
  refine g_reg ?_
  refine g_v (v_assign rfl) rfl ?_
  refine g_v (v_assign rfl) rfl ?_
  refine g_nil ?_
  refine g_seq ?_
  refine g_reg ?_
  refine g_v (v_move rfl) rfl ?_
  refine g_v (v_nilCheck rfl) rfl ?_
  refine g_v (v_fieldAddr 0 Tryz.underlying95 rfl rfl Tryz.sizeOf93 (by decide) rfl) rfl ?_
  refine g_v (v_load Tryz.isAgg93 rfl rfl) rfl ?_
  refine g_v (v_move rfl) rfl ?_
  rcases hB0 : B id with _ | ⟨d, n⟩
  · have hlk : (lk (tb encB 40 B) id).getD (.agg #[Str [], I 0]) = .agg #[Str [], I 0] := by rw [lkB hB.1, hB0]; rfl
    have hls : (lk (tb encB 40 B) id).isSome = false := by rw [lkB hB.1, hB0]; rfl
    refine g_v (v_lookupOk (M := tb encB 40 B) (q := id) Tryz.underlying93 Tryz.underlying3 Tryz.zeroValue92 rfl rfl hlk hls) rfl ?_
    refine g_v (v_move rfl) rfl ?_
    refine g_v (v_extract rfl rfl) rfl ?_
    refine g_v (v_extract rfl rfl) rfl ?_
    refine g_l (l_alloc #[Str [], I 0] Tryz.zeroValue92) rfl ?_
    rintro _ _ ⟨b6, rfl, rfl⟩
    refine g_l0 (l_storeA _ Tryz.sizeOf92 rfl rfl rfl rfl (by decide) rfl) ?_
    rintro _ _ rfl
    refine g_v (v_assign rfl) rfl ?_
    refine g_nil ?_
    refine g_seq ?_
    refine g_seq ?_
    refine g_reg ?_
    refine g_v (v_move rfl) rfl ?_
    refine g_v (v_not rfl) rfl ?_
    refine g_nil ?_
    refine g_true rfl ?_
    refine g_seq ?_
    refine g_reg ?_
    refine g_v (v_iface Tryz.underlying89 rfl rfl) rfl ?_
    refine g_v (v_assign rfl) rfl ?_
    refine g_v (v_assign rfl) rfl ?_
    refine g_nil ?_
    refine g_shutP r b (B) (.refl _) ?_
    exact g_ret1 rfl rfl (by unfold getP; rw [hB0]; rfl)
  · have hlk : (lk (tb encB 40 B) id).getD (.agg #[Str [], I 0]) = .agg #[Str d, I n] := by rw [lkB hB.1, hB0]; rfl
    have hls : (lk (tb encB 40 B) id).isSome = true := by rw [lkB hB.1, hB0]; rfl
    have hn := hB.2 id _ hB0
    have hq := hB.1 id _ hB0
    simp only at hn
    refine g_v (v_lookupOk (M := tb encB 40 B) (q := id) Tryz.underlying93 Tryz.underlying3 Tryz.zeroValue92 rfl rfl hlk hls) rfl ?_
    refine g_v (v_move rfl) rfl ?_
    refine g_v (v_extract rfl rfl) rfl ?_
    refine g_v (v_extract rfl rfl) rfl ?_
    refine g_l (l_alloc #[Str [], I 0] Tryz.zeroValue92) rfl ?_
    rintro _ _ ⟨b6, rfl, rfl⟩
    refine g_l0 (l_storeA _ Tryz.sizeOf92 rfl rfl rfl rfl (by decide) rfl) ?_
    rintro _ _ rfl
    refine g_v (v_assign rfl) rfl ?_
    refine g_nil ?_
    refine g_seq ?_
    refine g_seq ?_
    refine g_reg ?_
    refine g_v (v_move rfl) rfl ?_
    refine g_v (v_not rfl) rfl ?_
    refine g_nil ?_
    refine g_false rfl ?_
    refine g_skip ?_
    refine g_seq ?_
    refine g_reg ?_
    refine g_v (v_fieldAddr 0 Tryz.underlying92 rfl rfl Tryz.sizeOf9 (by decide) rfl) rfl ?_
    refine g_v (v_load Tryz.isAgg9 rfl rfl) rfl ?_
    refine g_v (v_assign rfl) rfl ?_
    refine g_v (v_assign rfl) rfl ?_
    refine g_nil ?_
    refine g_shutP r b (B) (.refl _) ?_
    exact g_ret1 rfl rfl (by unfold getP; rw [hB0]; rfl)

theorem ct_pool_Pool_Ref (b : Nat) (B : BkT) (id : Int) (hB : okB B) (F : List HProp) : Ct Tryz.prog 164 [ptr b 0, I id] ([plb b B] ++ F) (R1 (errT 89 (refE B id)) (plb b (refB B id 1) :: F)) := by
  show Ct Tryz.prog 164 [ptr b 0, I id] (plb b B :: F) _
  refine Ct.of Tryz.func164 rfl 29 Tryz.ntmps164 (by simp) fun w0 => ?_
  refine g_openP b (B) ?_
  intro r
  refine g_seq ?_
  refine g_reg ?_
  refine g_v (v_assign rfl) rfl ?_
  refine g_nil ?_
  refine g_seq ?_
  refine g_reg ?_
  refine g_v (v_move rfl) rfl ?_
  refine g_v (v_nilCheck rfl) rfl ?_
  refine g_v (v_fieldAddr 0 Tryz.underlying95 rfl rfl Tryz.sizeOf93 (by decide) rfl) rfl ?_
  refine g_v (v_load Tryz.isAgg93 rfl rfl) rfl ?_
  refine g_v (v_move rfl) rfl ?_
  rcases hB0 : B id with _ | ⟨d, n⟩
  · have hlk : (lk (tb encB 40 B) id).getD (.agg #[Str [], I 0]) = .agg #[Str [], I 0] := by rw [lkB hB.1, hB0]; rfl
    have hls : (lk (tb encB 40 B) id).isSome = false := by rw [lkB hB.1, hB0]; rfl
    refine g_v (v_lookupOk (M := tb encB 40 B) (q := id) Tryz.underlying93 Tryz.underlying3 Tryz.zeroValue92 rfl rfl hlk hls) rfl ?_
    refine g_v (v_move rfl) rfl ?_
    refine g_v (v_extract rfl rfl) rfl ?_
    refine g_v (v_extract rfl rfl) rfl ?_
    refine g_l (l_alloc #[Str [], I 0] Tryz.zeroValue92) rfl ?_
    rintro _ _ ⟨b5, rfl, rfl⟩
    refine g_l0 (l_storeA _ Tryz.sizeOf92 rfl rfl rfl rfl (by decide) rfl) ?_
    rintro _ _ rfl
    refine g_v (v_assign rfl) rfl ?_
    refine g_nil ?_
    refine g_seq ?_
    refine g_seq ?_
    refine g_reg ?_
    refine g_v (v_move rfl) rfl ?_
    refine g_v (v_not rfl) rfl ?_
    refine g_nil ?_
    refine g_true rfl ?_
    refine g_seq ?_
    refine g_reg ?_
    refine g_v (v_iface Tryz.underlying89 rfl rfl) rfl ?_
    refine g_v (v_assign rfl) rfl ?_
    refine g_nil ?_
    refine g_shutP r b (B) (.refl _) ?_
    have e : plb b B = plb b (refB B id 1) := by unfold refB; rw [hB0]
    rw [e]
    exact g_ret1 rfl rfl (by unfold refE; rw [hB0]; rfl)
  · have hlk : (lk (tb encB 40 B) id).getD (.agg #[Str [], I 0]) = .agg #[Str d, I n] := by rw [lkB hB.1, hB0]; rfl
    have hls : (lk (tb encB 40 B) id).isSome = true := by rw [lkB hB.1, hB0]; rfl
    have hn := hB.2 id _ hB0
    have hq := hB.1 id _ hB0
    simp only at hn
    refine g_v (v_lookupOk (M := tb encB 40 B) (q := id) Tryz.underlying93 Tryz.underlying3 Tryz.zeroValue92 rfl rfl hlk hls) rfl ?_
    refine g_v (v_move rfl) rfl ?_
    refine g_v (v_extract rfl rfl) rfl ?_
    refine g_v (v_extract rfl rfl) rfl ?_
    refine g_l (l_alloc #[Str [], I 0] Tryz.zeroValue92) rfl ?_
    rintro _ _ ⟨b5, rfl, rfl⟩
    refine g_l0 (l_storeA #[Str d, I n] Tryz.sizeOf92 rfl rfl rfl rfl (by decide) rfl) ?_
    rintro _ _ rfl
    refine g_v (v_assign rfl) rfl ?_
    refine g_nil ?_
    refine g_seq ?_
    refine g_seq ?_
    refine g_reg ?_
    refine g_v (v_move rfl) rfl ?_
    refine g_v (v_not rfl) rfl ?_
    refine g_nil ?_
    refine g_false rfl ?_
    refine g_skip ?_
    refine g_seq ?_
    refine g_reg ?_
    refine g_v (v_fieldAddr 1 Tryz.underlying92 rfl rfl Tryz.sizeOf3 (by decide) rfl) rfl ?_
    refine g_v (v_load Tryz.isAgg3 rfl rfl) rfl ?_
    refine g_v (v_add rfl rfl (w64 (by omega))) rfl ?_
    refine g_v (v_fieldAddr 1 Tryz.underlying92 rfl rfl Tryz.sizeOf3 (by decide) rfl) rfl ?_
    refine g_l0 (l_store #[Str d, I (n + 1)] Tryz.sizeOf3 rfl rfl rfl (by simp) rfl) ?_
    rintro _ _ rfl
    refine g_nil ?_
    refine g_seq ?_
    refine g_draw (Lf := [pt b (.cells #[.map (some r)] 95 (0, 0)), pt b5 (.cells #[Str d, I (n + 1)] 92 (0, 0))]) [(0, false), (1, false), (2, false), (3, false), (4, false), (5, false), (6, true)] (by kernel_rfl) (by kernel_rfl) rfl (by kernel_rfl) ?_
    refine d_v rfl (v_move rfl) rfl ?_
    refine d_v rfl (v_nilCheck rfl) rfl ?_
    refine d_v rfl (v_fieldAddr 0 Tryz.underlying95 rfl rfl Tryz.sizeOf93 (by decide) rfl) rfl ?_
    refine d_v rfl (v_load Tryz.isAgg93 rfl rfl) rfl ?_
    refine d_v rfl (v_move rfl) rfl ?_
    refine d_v rfl (v_loadA (vs := [Str d, I (n + 1)]) Tryz.isAgg92 Tryz.sizeOf92 rfl rfl arr_ld) rfl ?_
    refine d_l0 rfl (l_mapUpdate Tryz.underlying93 Tryz.underlying3 rfl rfl rfl) ?_
    rintro _ _ rfl
    refine d_nil ?_
    refine g_seq ?_
    refine g_reg ?_
    refine g_v (v_assign rfl) rfl ?_
    refine g_nil ?_
    refine g_shutP r b (pset B id (some (d, n + 1))) (tb_set encB (x := (d, n + 1)) hq) ?_
    have e : refB B id 1 = pset B id (some (d, n + 1)) := by unfold refB; rw [hB0]; simp only; rw [if_neg (by omega)]
    rw [← e]
    exact g_ret1 rfl rfl (by unfold refE; rw [hB0]; rfl)

theorem ct_pool_Pool_Unref (b : Nat) (B : BkT) (id : Int) (hB : okB B) (F : List HProp) : Ct Tryz.prog 110 [ptr b 0, I id] ([plb b B] ++ F) (R1 (errT 89 (refE B id)) (plb b (refB B id (-1)) :: F)) := by
  show Ct Tryz.prog 110 [ptr b 0, I id] (plb b B :: F) _
  refine Ct.of Tryz.func110 rfl 37 Tryz.ntmps110 (by simp) fun w0 => ?_
  refine g_openP b (B) ?_
  intro r
  refine g_seq ?_
  refine g_reg ?_
  refine g_v (v_assign rfl) rfl ?_
  refine g_nil ?_
  refine g_seq ?_
  refine g_reg ?_
  refine g_v (v_move rfl) rfl ?_
  refine g_v (v_nilCheck rfl) rfl ?_
  refine g_v (v_fieldAddr 0 Tryz.underlying95 rfl rfl Tryz.sizeOf93 (by decide) rfl) rfl ?_
  refine g_v (v_load Tryz.isAgg93 rfl rfl) rfl ?_
  refine g_v (v_move rfl) rfl ?_
  rcases hB0 : B id with _ | ⟨d, n⟩
  · have hlk : (lk (tb encB 40 B) id).getD (.agg #[Str [], I 0]) = .agg #[Str [], I 0] := by rw [lkB hB.1, hB0]; rfl
    have hls : (lk (tb encB 40 B) id).isSome = false := by rw [lkB hB.1, hB0]; rfl
    refine g_v (v_lookupOk (M := tb encB 40 B) (q := id) Tryz.underlying93 Tryz.underlying3 Tryz.zeroValue92 rfl rfl hlk hls) rfl ?_
    refine g_v (v_move rfl) rfl ?_
    refine g_v (v_extract rfl rfl) rfl ?_
    refine g_v (v_extract rfl rfl) rfl ?_
    refine g_l (l_alloc #[Str [], I 0] Tryz.zeroValue92) rfl ?_
    rintro _ _ ⟨b5, rfl, rfl⟩
    refine g_l0 (l_storeA _ Tryz.sizeOf92 rfl rfl rfl rfl (by decide) rfl) ?_
    rintro _ _ rfl
    refine g_v (v_assign rfl) rfl ?_
    refine g_nil ?_
    refine g_seq ?_
    refine g_seq ?_
    refine g_reg ?_
    refine g_v (v_move rfl) rfl ?_
    refine g_v (v_not rfl) rfl ?_
    refine g_nil ?_
    refine g_true rfl ?_
    refine g_seq ?_
    refine g_reg ?_
    refine g_v (v_iface Tryz.underlying89 rfl rfl) rfl ?_
    refine g_v (v_assign rfl) rfl ?_
    refine g_nil ?_
    refine g_shutP r b (B) (.refl _) ?_
    have e : plb b B = plb b (refB B id (-1)) := by unfold refB; rw [hB0]
    rw [e]
    exact g_ret1 rfl rfl (by unfold refE; rw [hB0]; rfl)
  · have hlk : (lk (tb encB 40 B) id).getD (.agg #[Str [], I 0]) = .agg #[Str d, I n] := by rw [lkB hB.1, hB0]; rfl
    have hls : (lk (tb encB 40 B) id).isSome = true := by rw [lkB hB.1, hB0]; rfl
    have hn := hB.2 id _ hB0
    have hq := hB.1 id _ hB0
    simp only at hn
    refine g_v (v_lookupOk (M := tb encB 40 B) (q := id) Tryz.underlying93 Tryz.underlying3 Tryz.zeroValue92 rfl rfl hlk hls) rfl ?_
    refine g_v (v_move rfl) rfl ?_
    refine g_v (v_extract rfl rfl) rfl ?_
    refine g_v (v_extract rfl rfl) rfl ?_
    refine g_l (l_alloc #[Str [], I 0] Tryz.zeroValue92) rfl ?_
    rintro _ _ ⟨b5, rfl, rfl⟩
    refine g_l0 (l_storeA #[Str d, I n] Tryz.sizeOf92 rfl rfl rfl rfl (by decide) rfl) ?_
    rintro _ _ rfl
    refine g_v (v_assign rfl) rfl ?_
    refine g_nil ?_
    refine g_seq ?_
    refine g_seq ?_
    refine g_reg ?_
    refine g_v (v_move rfl) rfl ?_
    refine g_v (v_not rfl) rfl ?_
    refine g_nil ?_
    refine g_false rfl ?_
    refine g_skip ?_
    refine g_seq ?_
    refine g_reg ?_
    refine g_v (v_fieldAddr 1 Tryz.underlying92 rfl rfl Tryz.sizeOf3 (by decide) rfl) rfl ?_
    refine g_v (v_load Tryz.isAgg3 rfl rfl) rfl ?_
    refine g_v (v_sub rfl rfl (w64 (by omega))) rfl ?_
    refine g_v (v_fieldAddr 1 Tryz.underlying92 rfl rfl Tryz.sizeOf3 (by decide) rfl) rfl ?_
    refine g_l0 (l_store #[Str d, I (n - 1)] Tryz.sizeOf3 rfl rfl rfl (by simp) rfl) ?_
    rintro _ _ rfl
    refine g_nil ?_
    refine g_seq ?_
    refine g_draw (Lf := [pt b (.cells #[.map (some r)] 95 (0, 0)), pt b5 (.cells #[Str d, I (n - 1)] 92 (0, 0))]) [(0, false), (1, false), (2, false), (3, false), (4, false), (5, false), (6, true)] (by kernel_rfl) (by kernel_rfl) rfl (by kernel_rfl) ?_
    refine d_v rfl (v_move rfl) rfl ?_
    refine d_v rfl (v_nilCheck rfl) rfl ?_
    refine d_v rfl (v_fieldAddr 0 Tryz.underlying95 rfl rfl Tryz.sizeOf93 (by decide) rfl) rfl ?_
    refine d_v rfl (v_load Tryz.isAgg93 rfl rfl) rfl ?_
    refine d_v rfl (v_move rfl) rfl ?_
    refine d_v rfl (v_loadA (vs := [Str d, I (n - 1)]) Tryz.isAgg92 Tryz.sizeOf92 rfl rfl arr_ld) rfl ?_
    refine d_l0 rfl (l_mapUpdate Tryz.underlying93 Tryz.underlying3 rfl rfl rfl) ?_
    rintro _ _ rfl
    refine d_nil ?_
    refine g_seq ?_
    refine g_seq ?_
    refine g_reg ?_
    refine g_v (v_fieldAddr 1 Tryz.underlying92 rfl rfl Tryz.sizeOf3 (by decide) rfl) rfl ?_
    refine g_v (v_load Tryz.isAgg3 rfl rfl) rfl ?_
    refine g_v (v_eql rfl rfl) rfl ?_
    refine g_nil ?_
    refine g_cond rfl (fun h31 => ?_) (fun h31 => ?_)
    · simp at h31
      refine g_map r (tb encB 40 (pset B id (some (d, n - 1)))) (tb_set encB (x := (d, n - 1)) hq) ?_
      refine g_reg ?_
      refine g_v (v_move rfl) rfl ?_
      refine g_v (v_nilCheck rfl) rfl ?_
      refine g_v (v_fieldAddr 0 Tryz.underlying95 rfl rfl Tryz.sizeOf93 (by decide) rfl) rfl ?_
      refine g_v (v_load Tryz.isAgg93 rfl rfl) rfl ?_
      refine g_v (v_move rfl) rfl ?_
      refine g_l0 (l_delete Tryz.underlying93 Tryz.underlying3 rfl rfl) ?_
      rintro _ _ ⟨rfl, rfl⟩
      refine g_nil ?_
      refine g_seq ?_
      refine g_reg ?_
      refine g_v (v_assign rfl) rfl ?_
      refine g_nil ?_
      refine g_map r (tb encB 40 (pset B id none)) (by rw [← pset_pset B id (some (d, n - 1)) none]; exact tb_del encB) ?_
      refine g_shutP r b (pset B id none) (.refl _) ?_
      have e : refB B id (-1) = pset B id none := by unfold refB; rw [hB0]; simp only; rw [if_pos (by omega)]
      rw [← e]
      exact g_ret1 rfl rfl (by unfold refE; rw [hB0]; rfl)
    · simp at h31
      refine g_skip ?_
      refine g_seq ?_
      refine g_reg ?_
      refine g_v (v_assign rfl) rfl ?_
      refine g_nil ?_
      refine g_shutP r b (pset B id (some (d, n - 1))) (tb_set encB (x := (d, n - 1)) hq) ?_
      have e : refB B id (-1) = pset B id (some (d, n - 1)) := by unfold refB; rw [hB0]; simp only; rw [if_neg (by omega)]; rfl
      rw [← e]
      exact g_ret1 rfl rfl (by unfold refE; rw [hB0]; rfl)

theorem ct_pool_Pool_Copy (b : Nat) (B : BkT) (F : List HProp) : Ct Tryz.prog 78 [ptr b 0] ([plb b B] ++ F) (fun v L' => ∃ q, v = ptr q 0 ∧ L' = plb q (B) :: plb b B :: F) := by
  show Ct Tryz.prog 78 [ptr b 0] (plb b B :: F) _
  refine Ct.of Tryz.func78 rfl 24 Tryz.ntmps78 (by simp) fun w0 => ?_
  refine g_openP b (B) ?_
  intro r
  refine g_seq ?_
  refine g_reg ?_
  refine g_v (v_assign rfl) rfl ?_
  refine g_nil ?_
  refine g_seq ?_
  refine g_reg ?_
  refine g_l (l_call (Pre := []) Tryz.call87 rfl ct_pool_New) rfl ?_
  rintro _ _ ⟨q, rfl, rfl⟩
  refine g_v (v_assign rfl) rfl ?_
  refine g_nil ?_
  refine g_openP q (fun _ => none) ?_
  intro r2
  refine g_map r2 [] (by rw [tb_empty]) ?_
  refine g_mapOpen r ?_
  intro es clk
  refine g_seq ?_
  refine g_seq ?_
  refine g_reg ?_
  refine g_v (v_move rfl) rfl ?_
  refine g_v (v_nilCheck rfl) rfl ?_
  refine g_v (v_fieldAddr 0 Tryz.underlying95 rfl rfl Tryz.sizeOf93 (by decide) rfl) rfl ?_
  refine g_v (v_load Tryz.isAgg93 rfl rfl) rfl ?_
  refine g_l (l_range Tryz.underlying93 rfl) rfl ?_
  rintro _ _ ⟨b11, rfl, rfl⟩
  refine g_nil ?_
  refine g_block ?_
  refine g_loop (α := MM × MM × Option (Int × Value)) (fun z => (z.2.1 ++ z.1).Perm (tb encB 40 B)) (fun _ => U [(0, ptr b 0), (3, ptr q 0), (11, ptr b11 0)]) (fun z => mit b11 r es clk z.1 z.2.2 :: mpE r es clk (tb encB 40 B) :: pt b (.cells #[.map (some r)] 95 (0, 0)) :: pt q (.cells #[.map (some r2)] 95 (0, 0)) :: mp r2 z.2.1 :: F) (fun z => z.1.length) (tb encB 40 B, [], none) (.refl _) [0, 3, 11] rfl rfl ?_
  rintro ⟨rest, got, cur⟩ hp
  simp only at hp
  refine g_seq ?_
  refine g_reg ?_
  refine g_l (l_next rfl) rfl ?_
  rintro _ _ (⟨hr, rfl, rfl⟩ | ⟨⟨k, v⟩, rest', hq, rfl, rfl⟩)
  · subst hr
    have hg : got.Perm (tb encB 40 B) := by simpa using hp
    refine g_v (v_extract rfl rfl) rfl ?_
    refine g_nil ?_
    refine g_seq ?_
    refine g_false rfl ?_
    refine g_exit rfl ?_
    refine g_seq ?_
    refine g_reg ?_
    refine g_v (v_move rfl) rfl ?_
    refine g_v (v_assign rfl) rfl ?_
    refine g_nil ?_
    refine g_shutP r2 q (B) (hg) ?_
    refine g_mapShut r ?_
    refine g_shutP r b (B) (.refl _) ?_
    refine g_sub (L2 := plb q B :: plb b B :: F) ?_
    exact fun a w hE hS => wp_ret (kq_ret (res_fpost (vs := [ptr q 0]) rfl hE hS ⟨q, rfl, rfl⟩))
  · obtain ⟨x, hx, hv, hk⟩ := tb_mem (hp.mem_iff.1 (List.mem_append_right _ (hq.mem_iff.2 (List.mem_cons_self ..))))
    simp only at hv hk hx
    subst hv
    have hp2 : (got ++ (k, encB x) :: rest').Perm (tb encB 40 B) := (hq.append_left got).symm.trans hp
    have hl := lk_none_of hp2 (tb_nodup encB 40 B)
    refine g_v (v_extract rfl rfl) rfl ?_
    refine g_nil ?_
    refine g_seq ?_
    refine g_true rfl ?_
    refine g_skip ?_
    refine g_block ?_
    refine g_seq ?_
    refine g_reg ?_
    refine g_v (v_entry rfl) rfl ?_
    refine g_v (v_extract (v := I k) rfl rfl) rfl ?_
    refine g_v (v_extract (v := encB x) rfl rfl) rfl ?_
    refine g_l (l_alloc #[Str [], I 0] Tryz.zeroValue92) rfl ?_
    rintro _ _ ⟨b5, rfl, rfl⟩
    refine g_v (v_assign rfl) rfl ?_
    refine g_l0 (l_storeA (vs := [Str x.1, I x.2]) #[Str x.1, I x.2] Tryz.sizeOf92 rfl rfl rfl rfl (by decide) rfl) ?_
    rintro _ _ rfl
    refine g_nil ?_
    refine g_draw (Lf := [pt q (.cells #[.map (some r2)] 95 (0, 0)), pt b5 (.cells #[Str x.1, I x.2] 92 (0, 0))]) [(0, false), (1, false), (2, false), (3, false), (4, false), (5, false), (6, true)] (by kernel_rfl) (by kernel_rfl) rfl (by kernel_rfl) ?_
    refine d_v rfl (v_move rfl) rfl ?_
    refine d_v rfl (v_nilCheck rfl) rfl ?_
    refine d_v rfl (v_fieldAddr 0 Tryz.underlying95 rfl rfl Tryz.sizeOf93 (by decide) rfl) rfl ?_
    refine d_v rfl (v_load Tryz.isAgg93 rfl rfl) rfl ?_
    refine d_v rfl (v_move rfl) rfl ?_
    refine d_v rfl (v_loadA (vs := [Str x.1, I x.2]) Tryz.isAgg92 Tryz.sizeOf92 rfl rfl arr_ld) rfl ?_
    refine d_l0 rfl (l_mapUpdate Tryz.underlying93 Tryz.underlying3 rfl rfl rfl) ?_
    rintro _ _ rfl
    refine d_nil ?_
    refine g_blk ?_
    refine g_again (rest', mset got k (encB x), some (k, encB x)) ((mset_new hl).trans hp2) (by have := hq.length_eq; simp at this; simp; omega) [0, 3, 11] rfl rfl

theorem ct_pool_Numbers (b : Nat) (B : BkT) (F : List HProp) : Ct Tryz.prog 18 [ptr b 0] ([plb b B] ++ F) (RSl 3 1 (ids 40 B).length (intR (ids 40 B)) (plb b B :: F)) := by
  show Ct Tryz.prog 18 [ptr b 0] (plb b B :: F) _
  refine Ct.of Tryz.func18 rfl 21 Tryz.ntmps18 (by simp) fun w0 => ?_
  refine g_openP b (B) ?_
  intro r
  refine g_mapOpen r ?_
  intro es clk
  refine g_nilown 3 1 (intR []) rfl ?_
  refine g_seq ?_
  refine g_reg ?_
  refine g_v (v_assign rfl) rfl ?_
  refine g_nil ?_
  refine g_seq ?_
  refine g_reg ?_
  refine g_v (v_assign rfl) rfl ?_
  refine g_nil ?_
  refine g_seq ?_
  refine g_seq ?_
  refine g_reg ?_
  refine g_v (v_move rfl) rfl ?_
  refine g_v (v_nilCheck rfl) rfl ?_
  refine g_v (v_fieldAddr 0 Tryz.underlying95 rfl rfl Tryz.sizeOf93 (by decide) rfl) rfl ?_
  refine g_v (v_load Tryz.isAgg93 rfl rfl) rfl ?_
  refine g_l (l_range Tryz.underlying93 rfl) rfl ?_
  rintro _ _ ⟨b9, rfl, rfl⟩
  refine g_nil ?_
  refine g_block ?_
  refine g_loop (α := MM × List Int × Option (Int × Value) × Option Addr × Nat) (fun z => (z.2.1 ++ z.1.map (·.1)).Perm (ids 40 B)) (fun z => U [(0, ptr b 0), (9, ptr b9 0), (3, sl z.2.2.2.1 z.2.1.length z.2.2.2.2)]) (fun z => mit b9 r es clk z.1 z.2.2.1 :: mpE r es clk (tb encB 40 B) :: pt b (.cells #[.map (some r)] 95 (0, 0)) :: owL 3 1 z.2.2.2.1 z.2.2.2.2 (intR z.2.1) :: F) (fun z => z.1.length) (tb encB 40 B, [], none, none, 0) (by rw [List.nil_append, tb_keys]) [0, 9, 3] rfl rfl ?_
  rintro ⟨rest, zs, cur, s, c⟩ hp
  simp only [] at hp ⊢
  have hzl : zs.length ≤ 40 := by have h1 := hp.length_eq; have h2 := ids_len_le 40 B; simp at h1; omega
  refine g_seq ?_
  refine g_reg ?_
  refine g_l (l_next rfl) rfl ?_
  rintro _ _ (⟨hr, rfl, rfl⟩ | ⟨⟨k, v⟩, rest', hq, rfl, rfl⟩)
  · subst hr
    simp only [List.map_nil, List.append_nil] at hp
    refine g_v (v_extract rfl rfl) rfl ?_
    refine g_nil ?_
    refine g_seq ?_
    refine g_false rfl ?_
    refine g_exit rfl ?_
    refine g_seq ?_
    refine g_reg ?_
    refine g_v (v_move rfl) rfl ?_
    refine g_l (l_call (Pre := [owL 3 1 s c (intR zs)]) Tryz.call49 rfl (ct_slices_Sort zs s zs.length c rfl (by omega))) rfl ?_
    rintro _ _ ⟨rfl, rfl⟩
    rw [sort_ids hp]
    refine g_nil ?_
    refine g_seq ?_
    refine g_reg ?_
    refine g_v (v_move rfl) rfl ?_
    refine g_v (v_assign rfl) rfl ?_
    refine g_nil ?_
    refine g_mapShut r ?_
    refine g_shutP r b (B) (.refl _) ?_
    exact g_retSl rfl rfl rfl (by rw [hp.length_eq])
  · have hp2 : (zs ++ k :: rest'.map (·.1)).Perm (ids 40 B) := by
        have h1 := ((hq.map (·.1)).append_left zs).symm.trans hp
        simpa using h1
    refine g_v (v_extract rfl rfl) rfl ?_
    refine g_nil ?_
    refine g_seq ?_
    refine g_true rfl ?_
    refine g_skip ?_
    refine g_block ?_
    refine g_seq ?_
    refine g_reg ?_
    refine g_v (v_entry rfl) rfl ?_
    refine g_v (v_extract (v := I k) rfl rfl) rfl ?_
    refine g_v (v_assign rfl) rfl ?_
    refine g_nil ?_
    refine g_reg ?_
    refine g_v (v_move rfl) rfl ?_
    refine g_v (v_move rfl) rfl ?_
    refine g_l (l_buildSlice [[I k]] Tryz.underlying39 Tryz.sizeOf3 Tryz.zeroValue3 rfl rfl rfl (by simp) (by decide) (by decide)) rfl ?_
    rintro _ _ ⟨b16, rfl, rfl⟩
    refine g_l (l_append Tryz.underlying39 Tryz.sizeOf3 Tryz.zeroValue3 rfl Tryz.typeInfo3 (by decide) rfl rfl (intR_len _) rfl (by simp) (by intro r hr; simp at hr; subst hr; rfl) ⟨by omega, by decide, by decide⟩) rfl ?_
    rintro _ _ ⟨s17, c17, rfl, rfl⟩
    refine g_v (v_assign rfl) rfl ?_
    refine g_nil ?_
    refine g_blk ?_
    rw [show intR zs ++ [[I k]] = intR (zs ++ [k]) by simp [intR]]
    refine g_again (rest', zs ++ [k], some (k, v), s17, c17) (by simpa using hp2) (by have := hq.length_eq; simp at this; simp; omega) [0, 9, 3] rfl (by simp [U])

theorem ct_pool_Pool_Put (b : Nat) (B : BkT) (d : Bytes) (hB : okB B) (hd : d.length ≤ 9223372036854775807) (F : List HProp) : Ct Tryz.prog 163 [ptr b 0, Str d] ([plb b B] ++ F) (R1 (.tuple #[I (putE B d).1, errT 89 (putE B d).2]) (plb b (putB B d) :: F)) := by
  show Ct Tryz.prog 163 [ptr b 0, Str d] (plb b B :: F) _
  refine Ct.of Tryz.func163 rfl 40 Tryz.ntmps163 (by simp) fun w0 => ?_
  refine g_seq ?_
  refine g_reg ?_
  refine g_v (v_assign rfl) rfl ?_
  refine g_v (v_assign rfl) rfl ?_
  refine g_nil ?_
  refine g_seq ?_
  refine g_seq ?_
  refine g_reg ?_
  refine g_v (v_move rfl) rfl ?_
  refine g_v (v_slen Tryz.underlying9 rfl) rfl ?_
  refine g_v (v_gtr rfl rfl) rfl ?_
  refine g_v (v_move rfl) rfl ?_
  refine g_gv rfl rfl (fun hg => v_move rfl) rfl rfl ?_
  refine g_gv rfl rfl (fun hg => v_seql rfl rfl) rfl rfl ?_
  refine g_v (v_or rfl rfl) rfl ?_
  refine g_nil ?_
  refine g_cond rfl (fun h13 => ?_) (fun h13 => ?_)
  · simp at h13
    have h13' : 6 < d.length ∨ d = [] := h13.imp (fun h => by omega) id
    refine g_seq ?_
    refine g_reg ?_
    refine g_v (v_iface Tryz.underlying89 rfl rfl) rfl ?_
    refine g_v (v_assign rfl) rfl ?_
    refine g_v (v_assign rfl) rfl ?_
    refine g_nil ?_
    have e1 : putE B d = (0, 3) := by unfold putE; rw [if_pos h13']
    have e2 : putB B d = B := by unfold putB; rw [if_pos h13']
    rw [e1, e2]
    exact g_ret1 rfl rfl rfl
  · simp at h13
    have h13' : ¬ (6 < d.length ∨ d = []) := fun h => h.elim (fun h => by omega) h13.2
    refine g_skip ?_
    refine g_seq ?_
    refine g_seq ?_
    refine g_openP b (B) ?_
    intro r
    refine g_reg ?_
    refine g_v (v_move rfl) rfl ?_
    refine g_v (v_nilCheck rfl) rfl ?_
    refine g_v (v_fieldAddr 0 Tryz.underlying95 rfl rfl Tryz.sizeOf93 (by decide) rfl) rfl ?_
    refine g_v (v_load (v := .map (some r)) Tryz.isAgg93 rfl rfl) rfl ?_
    refine g_v (v_lenM Tryz.underlying93 rfl) rfl ?_
    refine g_v (v_eql rfl rfl) rfl ?_
    refine g_nil ?_
    refine g_cond rfl (fun h20 => ?_) (fun h20 => ?_)
    · simp at h20
      rw [tb_len] at h20
      have hfr := full_iff.1 (show (ids 40 B).length = 40 by omega)
      refine g_seq ?_
      refine g_reg ?_
      refine g_v (v_iface Tryz.underlying89 rfl rfl) rfl ?_
      refine g_v (v_assign rfl) rfl ?_
      refine g_v (v_assign rfl) rfl ?_
      refine g_nil ?_
      have e1 : putE B d = (0, 8) := by unfold putE; rw [if_neg h13', hfr]
      have e2 : putB B d = B := by unfold putB; rw [if_neg h13', hfr]
      rw [e1, e2]
      refine g_shutP r b (B) (.refl _) ?_
      exact g_ret1 rfl rfl rfl
    · simp at h20
      rw [tb_len] at h20
      obtain ⟨m, hm⟩ := free_isSome (n := 40) (B := B) (by omega)
      have hf := free_some hm
      refine g_skip ?_
      refine g_seq ?_
      refine g_reg ?_
      refine g_v (v_assign rfl) rfl ?_
      refine g_nil ?_
      refine g_seq ?_
      refine g_block ?_
      refine g_loop (α := Nat) (fun k => 1 ≤ k ∧ k ≤ m) (fun k => U [(0, ptr b 0), (1, Str d), (6, I k)]) (fun _ => pt b (.cells #[.map (some r)] 95 (0, 0)) :: mp r (tb encB 40 B) :: F) (fun k => m - k) 1 ⟨by omega, by omega⟩ [0, 1, 6] rfl rfl ?_
      intro k h0
      obtain ⟨e, n, hlk, hnk⟩ : ∃ e n, (lk (tb encB 40 B) (k : Int)).getD (.agg #[Str [], I 0]) = .agg [Str e, I n].toArray ∧ (0 < n ↔ k < m) := by
        rcases hB0 : B (k : Int) with _ | ⟨e, n⟩
        · exact ⟨[], 0, by rw [lkB hB.1, hB0]; rfl, by simp; exact (Nat.lt_or_ge k m).elim (fun h => by have := hf.2.2 k h0.1 h; rw [hB0] at this; cases this) id⟩
        · exact ⟨e, n, by rw [lkB hB.1, hB0]; rfl, by
            have h1 := hB.2 k _ hB0
            simp only at h1
            have h2 : k ≠ m := fun e => by rw [e, hf.2.1] at hB0; cases hB0
            omega⟩
      refine g_seq ?_
      refine g_seq ?_
      refine g_reg ?_
      refine g_v (v_move rfl) rfl ?_
      refine g_v (v_nilCheck rfl) rfl ?_
      refine g_v (v_fieldAddr 0 Tryz.underlying95 rfl rfl Tryz.sizeOf93 (by decide) rfl) rfl ?_
      refine g_v (v_load Tryz.isAgg93 rfl rfl) rfl ?_
      refine g_v (v_move rfl) rfl ?_
      refine g_v (v_lookup (v := .agg [Str e, I n].toArray) Tryz.underlying93 Tryz.underlying3 Tryz.zeroValue92 rfl rfl hlk) rfl ?_
      refine g_v (v_field (v := I n) Tryz.underlying92 rfl Tryz.isAgg3 rfl rfl) rfl ?_
      refine g_v (v_gtr rfl rfl) rfl ?_
      refine g_nil ?_
      refine g_cond rfl (fun h29 => ?_) (fun h29 => ?_)
      · simp at h29
        refine g_skip ?_
        refine g_block ?_
        refine g_reg ?_
        refine g_v (v_move rfl) rfl ?_
        refine g_v (v_add rfl rfl (w64 (by omega))) rfl ?_
        refine g_v (v_assign rfl) rfl ?_
        refine g_nil ?_
        refine g_blk ?_
        exact g_again (k + 1) ⟨by omega, by omega⟩ (by omega) [0, 1, 6] rfl rfl
      · simp at h29
        obtain rfl : k = m := by omega
        refine g_exit rfl ?_
        refine g_seq ?_
        refine g_reg ?_
        refine g_v (v_move rfl) rfl ?_
        refine g_v (v_nilCheck rfl) rfl ?_
        refine g_v (v_fieldAddr 0 Tryz.underlying95 rfl rfl Tryz.sizeOf93 (by decide) rfl) rfl ?_
        refine g_v (v_load Tryz.isAgg93 rfl rfl) rfl ?_
        refine g_v (v_move rfl) rfl ?_
        refine g_v (v_move rfl) rfl ?_
        refine g_v (v_build rfl (bld92_0_1 _ rfl _ rfl)) rfl ?_
        refine g_l0 (l_mapUpdate Tryz.underlying93 Tryz.underlying3 rfl rfl rfl) ?_
        rintro _ _ rfl
        refine g_nil ?_
        refine g_seq ?_
        refine g_reg ?_
        refine g_v (v_move rfl) rfl ?_
        refine g_v (v_assign rfl) rfl ?_
        refine g_v (v_assign rfl) rfl ?_
        refine g_nil ?_
        have e1 : putE B d = ((k : Int), 0) := by unfold putE; rw [if_neg h13', hm]
        have e2 : putB B d = pset B k (some (d, 1)) := by unfold putB; rw [if_neg h13', hm]
        rw [e1, e2]
        refine g_shutP r b (pset B k (some (d, 1))) (tb_set encB (x := (d, 1)) (by omega)) ?_
        exact g_ret1 rfl rfl rfl

end Go.Proofs.YthdjckbjjfiopacGreatDoor
