/- Walks through the functions of Go's library that rows need: comparing, cloning, deleting, finding. No condition. -/
import Derived.Test.YthdjckbjjfiopacGreatDoorRowLaw
import Derived.Test.YthdjckbjjfiopacGreatDoorSlC
import Derived.KernelRfl
namespace Go.Proofs.YthdjckbjjfiopacGreatDoor
open Go Go.Sl Go.Proofs
set_option linter.unusedVariables false
set_option linter.unusedSimpArgs false
theorem x_cmp : ∃ fn, Tryz.prog.funcs[129]? = some fn ∧ (fn.name == "runtime.NumGoroutine") = false ∧ fn.body.isNone = true ∧ Extern.findNext fn = none ∧ Extern.find fn = some Extern.BytealgCompare.compare :=
  ⟨(Tryz.prog.funcs[129]?).get (by kernel_rfl), (Option.some_get _).symm, by kernel_rfl, by kernel_rfl, by kernel_rfl, by kernel_rfl⟩
theorem x_cmp_run (a b : Bytes) (w : World) : (callFunc 129 [Str a, Str b].toArray).run Tryz.prog w = .ok (.value (I (Lib.compareBytes a b))) w := by
  obtain ⟨fn, h1, h2, h3, h4, h5⟩ := x_cmp
  rw [run_callFunc_extern h1 h2 h3 h4 h5]
  show ((Extern.BytealgCompare.compare #[.string ⟨⟨a⟩⟩, .string ⟨⟨b⟩⟩]).run Tryz.prog w).andThen _ = _
  rw [Lib.run_compareString]
  rfl
theorem chR_three (l : List ChangeM) : ∀ r ∈ chR l, r.length = 3 := fun r hr => by simp only [chR, List.mem_map] at hr; obtain ⟨x, _, rfl⟩ := hr; rfl

theorem ct_internal_bytealg_CompareString (a b : Bytes) (F : List HProp) : Ct Tryz.prog 85 [Str a, Str b] ([] ++ F) (R1 (I (Lib.compareBytes a b)) F) := by
  show Ct Tryz.prog 85 [Str a, Str b] (F) _
  refine Ct.of Tryz.func85 rfl 8 Tryz.ntmps85 (by simp) fun w0 => ?_
  refine g_seq ?_
  refine g_reg ?_
  refine g_v (v_assign rfl) rfl ?_
  refine g_nil ?_
  refine g_seq ?_
  refine g_reg ?_
  refine g_v (v_move rfl) rfl ?_
  refine g_v (v_move rfl) rfl ?_
  refine g_l (l_callX (v := I (Lib.compareBytes a b)) (x_cmp_run a b) rfl) rfl ?_
  rintro _ _ ⟨rfl, rfl⟩
  refine g_v (v_assign rfl) rfl ?_
  refine g_nil ?_
  refine g_ret1 rfl rfl ?_
  exact rfl

theorem ct_strings_Compare (a b : Bytes) (F : List HProp) : Ct Tryz.prog 54 [Str a, Str b] ([] ++ F) (R1 (I (Lib.compareBytes a b)) F) := by
  show Ct Tryz.prog 54 [Str a, Str b] (F) _
  refine Ct.of Tryz.func54 rfl 8 Tryz.ntmps54 (by simp) fun w0 => ?_
  refine g_seq ?_
  refine g_reg ?_
  refine g_v (v_assign rfl) rfl ?_
  refine g_nil ?_
  refine g_seq ?_
  refine g_reg ?_
  refine g_v (v_move rfl) rfl ?_
  refine g_v (v_move rfl) rfl ?_
  refine g_l (l_call (Pre := []) Tryz.call85 rfl (ct_internal_bytealg_CompareString a b)) rfl ?_
  rintro _ _ ⟨rfl, rfl⟩
  refine g_v (v_assign rfl) rfl ?_
  refine g_nil ?_
  refine g_ret1 rfl rfl ?_
  exact rfl

end Go.Proofs.YthdjckbjjfiopacGreatDoor
