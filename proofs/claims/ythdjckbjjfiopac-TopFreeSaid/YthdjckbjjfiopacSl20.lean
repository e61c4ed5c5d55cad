/- Two results, the first of which lies in memory. No condition. -/
import Derived.Test.YthdjckbjjfiopacSl19
namespace Go.Sl
set_option linter.unusedVariables false
set_option linter.unusedSimpArgs false
section
variable {c : Cx} {E : Env} {L : List HProp} {K : List KI} {t : TypeId} {b o sz : Nat}
theorem cellT_fpost {a : Act} {w : World} {r q : Nat} {ob : Obj} {vs : List Value} {v2 : Value} {Post : List HProp} (hf : c.fn.results.toList = [.cell r t, .tmp q]) (hx : look none E r = some (ptr b o)) (hq : look none E q = some v2) (ha : ∀ w, (isAgg t).run c.P w = .ok true w) (hz : ∀ w, (sizeOf t).run c.P w = .ok sz w) [h : Has L b ob] (hl : vs.length = sz)
    (hv : ∀ k v, vs[k]? = some v → objCell ob (o + k) = some v) (hE : EOk c.n E a) (hS : Sat c.w0 w L) [S : Sub L Post] (hR : c.R (.tuple #[.agg vs.toArray, v2]) Post) : a.defers = [] ∧ ∃ v, (results c.fn a.tmps).run c.P w = .ok v w ∧ ∃ L, Sat c.w0 w L ∧ c.R v L := by
  have hh := h.out _ _ hS
  have hload := run_loadCells (P := c.P) (w := w) b sz 0 o #[] vs hl (fun k v hk => by simpa using cell_of hh (hv k v hk))
  have h1 := hE.look (gd_none a) hx
  have h2 := hE.look (gd_none a) hq
  refine ⟨hE.defers, .tuple #[.agg vs.toArray, v2], ?_, Post, S.sat hS, hR⟩
  rw [results_eq, Array.mapM_eq_mapM_toList, hf]
  simp [resSem, Array.getD_eq_getD_getElem?, h1, h2, asAddr, loadVar, ha, hz, loadCells, hload]
theorem g_retCT {r q : Nat} {ob : Obj} {v2 : Value} {Post : List HProp} (vs : List Value) (hR : c.R = R1 (.tuple #[.agg vs.toArray, v2]) Post) (hf : c.fn.results.toList = [.cell r t, .tmp q]) (hx : look none E r = some (ptr b o)) (hq : look none E q = some v2) (ha : ∀ w, (isAgg t).run c.P w = .ok true w) (hz : ∀ w, (sizeOf t).run c.P w = .ok sz w) [h : Has L b ob] (hl : vs.length = sz)
    (hv : ∀ k v, vs[k]? = some v → objCell ob (o + k) = some v) [S : Sub L Post] : G c (.code .ret :: K) E L :=
  fun a w hE hS => wp_ret (kq_ret (cellT_fpost (h := h) (S := S) hf hx hq ha hz hl hv hE hS (by rw [hR]; exact ⟨rfl, rfl⟩)))
theorem arr_ld {T : TypeId} {f : Nat × Nat} {vs : List Value} : ∀ k v, vs[k]? = some v → objCell (.cells vs.toArray T f) (0 + k) = some v := fun k v h => by simpa [objCell] using h
end
end Go.Sl
