/- The walk through Go's Insert for rows. No condition. -/
import Derived.Test.YthdjckbjjfiopacRowLib
import Derived.Test.YthdjckbjjfiopacSlC
namespace Go.Proofs.Ythdjckbjjfiopac
open Go Go.Sl Go.Proofs
set_option linter.unusedVariables false
set_option linter.unusedSimpArgs false
section
variable {c : Cx} {g : Option (Nat × Bool)} {E : Env} {L : List HProp} {d : Option Tmp} {ty : TypeId} {pos : String} {af : Array Edge} {gu : Option (Nat × Bool)} {x : Operand} {t e : TypeId} {s : Option Addr} {n cap : Nat}
theorem v_capS (hu : c.P.underlying t = some (.slice e)) (hx : ev g E x = some (sl s n cap)) : OpV c g E L ⟨d, .call { callee := .builtin .cap, args := #[x], argTypes := #[t] }, ty, pos, af, gu⟩ (I cap) := .mk fun a w hE hg hS => by
  simp [execOp, resolve, invoke, builtin, Builtin.cap_, underlying, program, Sem.run, hu, hE.ev hg hx, sl, goInt]
end
theorem x_over : ∃ fn, Try.prog.funcs[119]? = some fn ∧ (fn.name == "runtime.NumGoroutine") = false ∧ fn.body.isNone = true ∧ Extern.findNext fn = none ∧ Extern.find fn = some (Extern.SlicesOverlaps.overlaps #[49,49] #[4]) :=
  ⟨(Try.prog.funcs[119]?).get (by kernel_rfl), (Option.some_get _).symm, by kernel_rfl, by kernel_rfl, by kernel_rfl, by kernel_rfl⟩
theorem x_over_run {w0 w : World} {L F1 F2 : List HProp} {b1 b2 c1 c2 l1 l2 n1 n2 p : Nat} {r1 r2 : List (List Value)} [R1 : Rem L (owL 111 3 (some ⟨b1, 0, none⟩) c1 r1) F1] [R2 : Rem F1 (owL 111 3 (some ⟨b2, 0, none⟩) c2 r2) F2] (h0 : 0 < r2.length) (hS : Sat w0 w L) :
    (callFunc 119 [sl (some ⟨b1, 0, none⟩) l1 n1, sl (some ⟨b2, p, none⟩) l2 n2].toArray).run Try.prog w = .ok (.value (Bo false)) w := by
  obtain ⟨fn, h1, h2, h3, h4, h5⟩ := x_over
  have hS1 := R1.sat hS
  have r3 : Rem (owL 111 3 (some ⟨b1, 0, none⟩) c1 r1 :: F1) (owL 111 3 (some ⟨b2, 0, none⟩) c2 r2) (owL 111 3 (some ⟨b1, 0, none⟩) c1 r1 :: F2) := inferInstance
  have hS2 := r3.sat hS1
  have r4 : Rem (owL 111 3 (some ⟨b2, 0, none⟩) c2 r2 :: owL 111 3 (some ⟨b1, 0, none⟩) c1 r1 :: F2) (owL 111 3 (some ⟨b1, 0, none⟩) c1 r1) (owL 111 3 (some ⟨b2, 0, none⟩) c2 r2 :: F2) := inferInstance
  have hS3 := r4.sat hS2
  rw [run_callFunc_extern h1 h2 h3 h4 h5]
  have := over_no (P := Try.prog) (t := 49) (tR := 4) (l1 := l1) (l2 := l2) (n1 := n1) (n2 := n2) (p := p) Try.underlying49 Try.sizeOf111 (by decide) h0 hS3
  show ((Extern.SlicesOverlaps.overlaps _ _ #[.slice (some ⟨b1, 0, none⟩) l1 n1, .slice (some ⟨b2, p, none⟩) l2 n2]).run Try.prog w).andThen _ = _
  rw [this]
  rfl
def insL (l : List ChangeM) (i : Nat) (c : ChangeM) : List ChangeM := l.take i ++ [c] ++ l.drop i
theorem chR_app (a b : List ChangeM) : chR (a ++ b) = chR a ++ chR b := by simp [chR]
theorem chR_take (a : List ChangeM) (i : Nat) : chR (a.take i) = (chR a).take i := by simp [chR]
theorem chR_drop (a : List ChangeM) (i : Nat) : chR (a.drop i) = (chR a).drop i := by simp [chR]
section
variable {l : List ChangeM} {i : Nat} {c : ChangeM}
theorem put1 {α : Type} (A R : List α) (y x : α) : (A ++ y :: R).take A.length ++ [x] ++ (A ++ y :: R).drop (A.length + 1) = A ++ x :: R := by
  rw [List.take_left', List.append_assoc]
  · congr 1
    rw [List.drop_append]
    simp
  · rfl
theorem put2 {α : Type} (P R X : List α) (h : X.length = R.length) : (P ++ R).take P.length ++ X.take R.length ++ (P ++ R).drop (P.length + R.length) = P ++ X := by
  have e1 : (P ++ R).take P.length = P := List.take_left' rfl
  have e2 : X.take R.length = X := List.take_of_length_le (by omega)
  have e3 : (P ++ R).drop (P.length + R.length) = [] := List.drop_of_length_le (by simp)
  rw [e1, e2, e3, List.append_nil]
theorem ins1 (hi : i ≤ l.length) {q : Nat} (hq : Nat.min 1 q = 1) {z : List Value} : ((chR l).take i ++ List.replicate (l.length + 1 - i) z).take i ++ ([encC c].drop 0).take (Nat.min 1 q) ++ ((chR l).take i ++ List.replicate (l.length + 1 - i) z).drop (i + Nat.min 1 q) = chR (l.take i ++ [c]) ++ List.replicate (l.length - i) z := by
  rw [hq]
  have h1 : ((chR l).take i).length = i := by rw [List.length_take, chR_len]; omega
  have h2 : List.replicate (l.length + 1 - i) z = z :: List.replicate (l.length - i) z := by rw [show l.length + 1 - i = (l.length - i) + 1 by omega]; rfl
  have h3 := put1 ((chR l).take i) (List.replicate (l.length - i) z) z (encC c)
  rw [h1] at h3
  rw [h2, chR_app, chR_take, List.append_assoc ((chR l).take i) (chR [c])]
  exact h3
theorem ins2 (hi : i ≤ l.length) {m q : Nat} (hm : Nat.min m q = l.length - i) {z : List Value} : (chR (l.take i ++ [c]) ++ List.replicate (l.length - i) z).take (i + 1) ++ ((chR l).drop i).take (Nat.min m q) ++ (chR (l.take i ++ [c]) ++ List.replicate (l.length - i) z).drop (i + 1 + Nat.min m q) = chR (insL l i c) := by
  rw [hm]
  have h1 : (chR (l.take i ++ [c])).length = i + 1 := by rw [chR_len]; simp; omega
  have h3 := put2 (chR (l.take i ++ [c])) (List.replicate (l.length - i) z) ((chR l).drop i) (by rw [List.length_drop, chR_len, List.length_replicate])
  rw [h1, List.length_replicate] at h3
  rw [h3]
  unfold insL
  rw [chR_app _ (l.drop i), chR_drop]
theorem ins_part (hi : i ≤ l.length) {g : List Value} : ((chR l ++ [g]).drop i).take (l.length - i) = (chR l).drop i := by
  rw [List.drop_append_of_le_length (by rw [chR_len]; exact hi), List.take_append_of_le_length (by rw [List.length_drop, chR_len]; omega), List.take_of_length_le (by rw [List.length_drop, chR_len]; omega)]
theorem ins3 (hi : i < l.length) {m q : Nat} (hm : Nat.min m q = l.length - i) {g : List Value} : (chR l ++ [g]).take (i + 1) ++ ((chR l ++ [g]).drop i).take (Nat.min m q) ++ (chR l ++ [g]).drop (i + 1 + Nat.min m q) = chR (l.take (i + 1) ++ l.drop i) := by
  rw [hm]
  have e1 : (chR l ++ [g]).take (i + 1) = (chR l).take (i + 1) := List.take_append_of_le_length (by rw [chR_len]; omega)
  have e2 := ins_part (l := l) (i := i) (by omega) (g := g)
  have e3 : (chR l ++ [g]).drop (i + 1 + (l.length - i)) = [] := List.drop_of_length_le (by rw [List.length_append, chR_len]; simp; omega)
  rw [e1, e2, e3, List.append_nil, chR_app, chR_take, chR_drop]
theorem ins4 (hi : i < l.length) {q : Nat} (hq : Nat.min 1 q = 1) : (chR (l.take (i + 1) ++ l.drop i)).take i ++ ([encC c].drop 0).take (Nat.min 1 q) ++ (chR (l.take (i + 1) ++ l.drop i)).drop (i + Nat.min 1 q) = chR (insL l i c) := by
  rw [hq, ← chR_take, ← chR_drop]
  have h1 : (l.take (i + 1)).length = i + 1 := by rw [List.length_take]; omega
  have e1 : (l.take (i + 1) ++ l.drop i).take i = l.take i := by
    rw [List.take_append_of_le_length (by omega), List.take_take, Nat.min_eq_left (by omega)]
  have e2 : (l.take (i + 1) ++ l.drop i).drop (i + 1) = l.drop i := List.drop_left' h1
  rw [e1, e2]
  unfold insL
  rw [chR_app _ (l.drop i), chR_app]
  rfl
end

theorem ct_Insert_change (l : List ChangeM) (c : ChangeM) (s : Option Addr) (cap bn i : Nat) (hi : i ≤ l.length) (hl : l.length ≤ 1000) (F : List HProp) : Ct Try.prog 97 [sl s l.length cap, I i, sl (some ⟨bn, 0, none⟩) 1 1] ([owL 111 3 s cap (chR l), owL 111 3 (some ⟨bn, 0, none⟩) 1 [encC c]] ++ F) (RSl 111 3 (l.length + 1) (chR (insL l i c)) F) := by
  show Ct Try.prog 97 [sl s l.length cap, I i, sl (some ⟨bn, 0, none⟩) 1 1] (owL 111 3 s cap (chR l) :: owL 111 3 (some ⟨bn, 0, none⟩) 1 [encC c] :: F) _
  refine Ct.of Try.func97 rfl 95 Try.ntmps97 (by simp) fun w0 => ?_
  refine g_cap s fun hcap => ?_
  rw [chR_len] at hcap
  refine g_seq ?_
  refine g_reg ?_
  refine g_v (v_assign rfl) rfl ?_
  refine g_nil ?_
  refine g_seq ?_
  refine g_reg ?_
  refine g_v (v_move rfl) rfl ?_
  refine g_v (v_move rfl) rfl ?_
  refine g_v (v_slLo (l := i) Try.underlying49 Try.sizeOf111 rfl rfl (by omega) (by omega)) rfl ?_
  refine g_nil ?_
  refine g_seq ?_
  refine g_reg ?_
  refine g_v (v_move rfl) rfl ?_
  refine g_v (v_len Try.underlying49 rfl) rfl ?_
  refine g_v (v_assign rfl) rfl ?_
  refine g_nil ?_
  refine g_seq ?_
  refine g_seq ?_
  refine g_reg ?_
  refine g_v (v_move rfl) rfl ?_
  refine g_v (v_eql rfl rfl) rfl ?_
  refine g_nil ?_
  refine g_cond rfl (fun h16 => ?_) (fun h16 => ?_)
  · simp at h16
  · skip
    refine g_skip ?_
    refine g_seq ?_
    refine g_reg ?_
    refine g_v (v_move rfl) rfl ?_
    refine g_v (v_len Try.underlying49 rfl) rfl ?_
    refine g_v (v_assign rfl) rfl ?_
    refine g_nil ?_
    refine g_seq ?_
    refine g_seq ?_
    refine g_reg ?_
    refine g_v (v_move rfl) rfl ?_
    refine g_v (v_move rfl) rfl ?_
    refine g_v (v_eql rfl rfl) rfl ?_
    refine g_nil ?_
    refine g_cond rfl (fun h22 => ?_) (fun h22 => ?_)
    · simp at h22
      refine g_seq ?_
      refine g_reg ?_
      refine g_v (v_move rfl) rfl ?_
      refine g_v (v_move rfl) rfl ?_
      refine g_l (l_append Try.underlying49 Try.sizeOf111 Try.zeroValue111 rfl Try.typeInfo111 (by decide) rfl rfl (chR_len l) rfl (by simp [encC]) (by simp [encC, ones, one]) ⟨by omega, by decide, by decide⟩) rfl ?_
      rintro _ _ ⟨s25, c25, rfl, rfl⟩
      rw [show chR l ++ [encC c] = chR (insL l i c) by unfold insL; rw [show i = l.length by omega]; simp [chR]]
      refine g_v (v_assign rfl) rfl ?_
      refine g_nil ?_
      exact g_retSl rfl rfl rfl rfl
    · simp at h22
      refine g_skip ?_
      refine g_seq ?_
      refine g_seq ?_
      refine g_reg ?_
      refine g_v (v_move rfl) rfl ?_
      refine g_v (v_move rfl) rfl ?_
      refine g_v (v_add rfl rfl (w64 (by omega))) rfl ?_
      refine g_v (v_move rfl) rfl ?_
      refine g_v (v_capS Try.underlying49 rfl) rfl ?_
      refine g_v (v_gtr rfl rfl) rfl ?_
      refine g_nil ?_
      refine g_cond rfl (fun h31 => ?_) (fun h31 => ?_)
      · simp at h31
        refine g_seq ?_
        refine g_reg ?_
        refine g_v (v_move rfl) rfl ?_
        refine g_v (v_move rfl) rfl ?_
        refine g_v (v_slHi (h := i) Try.underlying49 Try.sizeOf111 rfl rfl rfl (by omega)) rfl ?_
        refine g_v (v_move rfl) rfl ?_
        refine g_v (v_move rfl) rfl ?_
        refine g_v (v_add rfl rfl (w64 (by omega))) rfl ?_
        refine g_v (v_move rfl) rfl ?_
        refine g_v (v_sub rfl rfl (w64 (by omega))) rfl ?_
        refine g_l (l_appendMakeGrow (m := l.length + 1 - i) Try.underlying49 Try.underlying3 Try.sizeOf111 Try.zeroValue111 rfl Try.typeInfo111 (by decide) rfl rfl (by omega) (by rw [chR_len]; exact hi) (chR_three l) (by omega) (by omega) ⟨by omega, by decide, by decide⟩) rfl ?_
        rintro _ _ ⟨b40, c40, rfl, rfl⟩
        refine g_cap (some ⟨b40, 0, none⟩) fun hc40 => ?_
        rw [List.length_append, List.length_take, chR_len, List.length_replicate] at hc40
        refine g_v (v_assign rfl) rfl ?_
        refine g_nil ?_
        refine g_seq ?_
        refine g_reg ?_
        refine g_v (v_move rfl) rfl ?_
        refine g_v (v_move rfl) rfl ?_
        refine g_v (v_slLo (l := i) Try.underlying49 Try.sizeOf111 rfl rfl (by omega) (by omega)) rfl ?_
        refine g_v (v_move rfl) rfl ?_
        refine g_l (l_copy (s := (some ⟨b40, 0, none⟩)) (s2 := (some ⟨bn, 0, none⟩)) (l := i) (p := 0) Try.underlying49 Try.sizeOf111 (by decide) rfl rfl (by unfold At; split; exact .inr (.inr (by omega)); exact .inr (.inl rfl)) (.inl ⟨rfl, rfl⟩) (by simp [chR]; omega) (by simp) (by simp [encC]) (by simp [encC, ones, one])) rfl ?_
        rintro _ _ ⟨rfl, rfl⟩
        refine g_owEq (some ⟨b40, 0, none⟩) (chR (l.take i ++ [c]) ++ List.replicate (l.length - i) (encC noC)) (ins1 hi (by show min _ _ = _; omega)) ?_
        refine g_nil ?_
        refine g_seq ?_
        refine g_draw (Lf := F) [(0, false), (1, false), (2, false), (3, false), (4, false), (5, false), (6, false), (7, false), (8, true)] (by kernel_rfl) (by kernel_rfl) rfl (by kernel_rfl) ?_
        refine d_v rfl (v_move rfl) rfl ?_
        refine d_v rfl (v_move rfl) rfl ?_
        refine d_v rfl (v_move rfl) rfl ?_
        refine d_v rfl (v_add rfl rfl (w64 (by omega))) rfl ?_
        refine d_v rfl (v_slLo (l := i + 1) Try.underlying49 Try.sizeOf111 rfl rfl (by omega) (by omega)) rfl ?_
        refine d_v rfl (v_move rfl) rfl ?_
        refine d_v rfl (v_move rfl) rfl ?_
        refine d_v rfl (v_slLo (l := i) Try.underlying49 Try.sizeOf111 rfl rfl (by omega) (by omega)) rfl ?_
        refine d_l rfl (l_copy (s := (some ⟨b40, 0, none⟩)) (s2 := s) (l := i + 1) (p := i) Try.underlying49 Try.sizeOf111 (by decide) rfl rfl (by unfold At; split; exact .inr (.inr (by omega)); exact .inr (.inl rfl)) (by unfold At; split; exact .inr (.inr (by omega)); exact .inr (.inl rfl)) (by simp [chR]; omega) (by rw [chR_len]; omega) (chR_three l) (chR_ones l)) rfl ?_
        rintro _ _ ⟨rfl, rfl⟩
        refine g_owEq (some ⟨b40, 0, none⟩) (chR (insL l i c)) (ins2 hi (by show min _ _ = _; omega)) ?_
        refine d_nil ?_
        refine g_seq ?_
        refine g_reg ?_
        refine g_v (v_move rfl) rfl ?_
        refine g_v (v_assign rfl) rfl ?_
        refine g_nil ?_
        exact g_retSl rfl rfl rfl (by omega)
      · simp at h31
        refine g_skip ?_
        refine g_seq ?_
        have hil : i < l.length := by omega
        have hmin : Nat.min (l.length + 1 - i) (l.length + 1 - (i + 1)) = l.length - i := by show min _ _ = _; omega
        refine g_base s (by rw [chR_len]; omega) ?_
        rintro b rfl
        refine g_reg ?_
        refine g_v (v_move rfl) rfl ?_
        refine g_v (v_move rfl) rfl ?_
        refine g_v (v_move rfl) rfl ?_
        refine g_v (v_add rfl rfl (w64 (by omega))) rfl ?_
        refine g_v (v_slHi (h := l.length + 1) Try.underlying49 Try.sizeOf111 rfl rfl (by omega) (by omega)) rfl ?_
        refine g_v (v_assign rfl) rfl ?_
        refine g_nil ?_
        refine g_seq ?_
        refine g_seq ?_
        refine g_reg ?_
        refine g_v (v_move rfl) rfl ?_
        refine g_v (v_move rfl) rfl ?_
        refine g_v (v_move rfl) rfl ?_
        refine g_v (v_move rfl) rfl ?_
        refine g_v (v_add rfl rfl (w64 (by omega))) rfl ?_
        refine g_v (v_slLo (l := i + 1) Try.underlying49 Try.sizeOf111 rfl rfl (by omega) (by omega)) rfl ?_
        rw [if_neg (show ¬ cap = i + 1 by omega), show ((some (⟨b, 0, none⟩ : Addr)).map (·.add ((i + 1) * 3))) = some ⟨b, 0 + (i + 1) * 3, none⟩ from congrArg some (add_mk _ _ _)]
        refine g_l (l_callXw (v := Bo false) (fun w hS => x_over_run (c1 := 1) (r1 := [encC c]) (c2 := cap) (r2 := chR l) (by rw [chR_len]; omega) hS) rfl) rfl ?_
        rintro _ _ ⟨rfl, rfl⟩
        refine g_v (v_not rfl) rfl ?_
        refine g_nil ?_
        refine g_cond rfl (fun h68 => ?_) (fun h68 => ?_)
        · skip
          refine g_seq ?_
          refine g_extend (some ⟨b, 0, none⟩) (by rw [chR_len]; omega) ?_
          intro gr hgr
          refine g_draw (Lf := F) [(0, false), (1, false), (2, false), (3, false), (4, false), (5, false), (6, false), (7, false), (8, true)] (by kernel_rfl) (by kernel_rfl) rfl (by kernel_rfl) ?_
          refine d_v rfl (v_move rfl) rfl ?_
          refine d_v rfl (v_move rfl) rfl ?_
          refine d_v rfl (v_move rfl) rfl ?_
          refine d_v rfl (v_add rfl rfl (w64 (by omega))) rfl ?_
          refine d_v rfl (v_slLo (l := i + 1) Try.underlying49 Try.sizeOf111 rfl rfl (by omega) (by omega)) rfl ?_
          refine d_v rfl (v_move rfl) rfl ?_
          refine d_v rfl (v_move rfl) rfl ?_
          refine d_v rfl (v_slLo (l := i) Try.underlying49 Try.sizeOf111 rfl rfl (by omega) (by omega)) rfl ?_
          refine d_l rfl (l_copyW (s := (some ⟨b, 0, none⟩)) (s2 := (some ⟨b, 0, none⟩)) (l := i + 1) (p := i) Try.underlying49 Try.sizeOf111 (by decide) rfl rfl (by unfold At; split; exact .inr (.inr (by omega)); exact .inr (.inl rfl)) (by unfold At; split; exact .inr (.inr (by omega)); exact .inr (.inl rfl)) (by rw [hmin, List.length_append, chR_len]; simp; omega) (by rw [hmin, List.length_append, chR_len]; simp; omega) (by rw [hmin, ins_part (by omega)]; exact fun r hr => chR_three l r (List.mem_of_mem_drop hr)) (by rw [hmin, ins_part (by omega)]; exact fun r hr => chR_ones l r (List.mem_of_mem_drop hr))) rfl ?_
          rintro _ _ ⟨rfl, rfl⟩
          refine g_owEq (some ⟨b, 0, none⟩) (chR (l.take (i + 1) ++ l.drop i)) (ins3 hil hmin) ?_
          refine d_nil ?_
          refine g_seq ?_
          refine g_reg ?_
          refine g_v (v_move rfl) rfl ?_
          refine g_v (v_move rfl) rfl ?_
          refine g_v (v_slLo (l := i) Try.underlying49 Try.sizeOf111 rfl rfl (by omega) (by omega)) rfl ?_
          refine g_v (v_move rfl) rfl ?_
          refine g_l (l_copy (s := (some ⟨b, 0, none⟩)) (s2 := (some ⟨bn, 0, none⟩)) (l := i) (p := 0) Try.underlying49 Try.sizeOf111 (by decide) rfl rfl (by unfold At; split; exact .inr (.inr (by omega)); exact .inr (.inl rfl)) (.inl ⟨rfl, rfl⟩) (by simp [chR]; omega) (by simp) (by simp [encC]) (by simp [encC, ones, one])) rfl ?_
          rintro _ _ ⟨rfl, rfl⟩
          refine g_owEq (some ⟨b, 0, none⟩) (chR (insL l i c)) (ins4 hil (by show min _ _ = _; omega)) ?_
          refine g_nil ?_
          refine g_seq ?_
          refine g_reg ?_
          refine g_v (v_move rfl) rfl ?_
          refine g_v (v_assign rfl) rfl ?_
          refine g_nil ?_
          exact g_retSl rfl rfl rfl rfl
        · simp at h68

end Go.Proofs.Ythdjckbjjfiopac
