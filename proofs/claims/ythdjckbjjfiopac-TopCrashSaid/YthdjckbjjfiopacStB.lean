/- Walks through package store: all rows as a text, and back. No condition. -/
import Derived.Test.YthdjckbjjfiopacSt
import Derived.KernelRfl
import GoSem.Extern.AbiNoEscape
namespace Go.Proofs.Ythdjckbjjfiopac
open Go Go.Sl Go.Proofs
set_option linter.unusedVariables false
set_option linter.unusedSimpArgs false
theorem x_noesc : ∃ fn, Try.prog.funcs[130]? = some fn ∧ (fn.name == "runtime.NumGoroutine") = false ∧ fn.body.isNone = true ∧ Extern.findNext fn = none ∧ Extern.find fn = some Extern.AbiNoEscape.same :=
  ⟨(Try.prog.funcs[130]?).get (by kernel_rfl), (Option.some_get _).symm, by kernel_rfl, by kernel_rfl, by kernel_rfl, by kernel_rfl⟩
theorem x_noesc_run (v : Value) (w : World) : (callFunc 130 [v].toArray).run Try.prog w = .ok (.value v) w := by
  obtain ⟨fn, h1, h2, h3, h4, h5⟩ := x_noesc
  rw [run_callFunc_extern h1 h2 h3 h4 h5]
  rfl
theorem three_rows (a b : Nat) : [[By ((a % 256 : Nat) : Int)], [By ((b % 256 : Nat) : Int)], [By ((b / 256 % 256 : Nat) : Int)]] = bytesR [UInt8.ofNat a, UInt8.ofNat b, UInt8.ofNat (b / 256)] := by
  simp only [bytesR, List.map_cons, List.map_nil, UInt8.toNat_ofNat']
theorem bldKV (k v : Bytes) (w : World) : (Instr.build 111 #[(0, Str k), (1, Str v)]).run Try.prog w = .ok (.agg (encC ⟨k, v, false⟩).toArray) w := by
  simp [Instr.build, Try.zeroValue111, Try.runUnderlying111, Try.sizeOf9, Try.sizeOf4, Instr.fill, cells_agg, encC, show ∀ s : Bytes, (Str s).cells = #[Str s] from fun _ => rfl]
theorem allB_take {l : List ChangeM} {k : Nat} {x : ChangeM} (h : l[k]? = some x) : allB (l.take (k + 1)) = allB (l.take k) ++ rowB x := by rw [take_at h, allB_snoc]
theorem allB_drop {l : List ChangeM} {k : Nat} {x : ChangeM} (h : l[k]? = some x) : allB (l.drop k) = rowB x ++ allB (l.drop (k + 1)) := by
  obtain ⟨hk, rfl⟩ := List.getElem?_eq_some_iff.1 h
  rw [List.drop_eq_getElem_cons hk, allB_cons]
theorem allB_take_le {l : List ChangeM} (h : ∀ r ∈ l, okR r) (k : Nat) : (allB (l.take k)).length ≤ 59 * l.length := by
  have := allB_len (l := l.take k) fun r hr => h r (List.mem_of_mem_take hr)
  rw [List.length_take] at this
  omega
theorem aps_take1 {l : List ChangeM} {k : Nat} {x : ChangeM} (hs : srt l) (hx : l[k]? = some x) (hg : x.gone = false) : apsS (l.take k) [x] = l.take (k + 1) := by
  have h := srt_take hs (k + 1)
  rw [take_at hx] at h ⊢
  exact aps_snoc h hg

theorem ct_Builder_copyCheck (bb : Nat) (p s : Option Addr) (n cap : Nat) (hp : p = none ∨ p = some ⟨bb, 0, none⟩) (F : List HProp) : Ct Try.prog 117 [ptr bb 0] ([pt bb (.cells #[(.pointer p), sl s n cap] 152 (0, 0))] ++ F) (R1 (.tuple #[]) (pt bb (.cells #[ptr bb 0, sl s n cap] 152 (0, 0)) :: F)) := by
  show Ct Try.prog 117 [ptr bb 0] (pt bb (.cells #[(.pointer p), sl s n cap] 152 (0, 0)) :: F) _
  refine Ct.of Try.func117 rfl 20 Try.ntmps117 (by simp) fun w0 => ?_
  refine g_seq ?_
  refine g_reg ?_
  refine g_v (v_move rfl) rfl ?_
  refine g_v (v_nilCheck rfl) rfl ?_
  refine g_v (v_fieldAddr 0 Try.underlying152 rfl rfl Try.sizeOf150 (by decide) rfl) rfl ?_
  refine g_v (v_load (v := (.pointer p)) Try.isAgg150 rfl rfl) rfl ?_
  refine g_v (v_pnil Try.underlying150 rfl) rfl ?_
  refine g_nil ?_
  refine g_cond rfl (fun h6 => ?_) (fun h6 => ?_)
  · skip
    refine g_reg ?_
    refine g_v (v_move rfl) rfl ?_
    refine g_v (v_move rfl) rfl ?_
    refine g_v (v_toUns Try.underlying150 Try.underlying198 Try.sizeOf152 (by decide) rfl (by simp)) rfl ?_
    refine g_l (l_callX (fun w => x_noesc_run _ w) rfl) rfl ?_
    rintro _ _ ⟨rfl, rfl⟩
    refine g_v (v_ofUns Try.underlying198 Try.underlying150 Try.sizeOf152 (by decide) rfl rfl) rfl ?_
    refine g_v (v_nilCheck rfl) rfl ?_
    refine g_v (v_fieldAddr 0 Try.underlying152 rfl rfl Try.sizeOf150 (by decide) rfl) rfl ?_
    refine g_l0 (l_store #[ptr bb 0, sl s n cap] Try.sizeOf150 rfl rfl rfl (by simp) rfl) ?_
    rintro _ _ rfl
    refine g_nil ?_
    refine g_end1 rfl rfl ?_
    exact rfl
  · have hps : p = some ⟨bb, 0, none⟩ := by
      rcases hp with h | h
      · rw [h] at h6; cases h6
      · exact h
    rw [hps]
    refine g_seq ?_
    refine g_reg ?_
    refine g_v (v_move rfl) rfl ?_
    refine g_v (v_nilCheck rfl) rfl ?_
    refine g_v (v_fieldAddr 0 Try.underlying152 rfl rfl Try.sizeOf150 (by decide) rfl) rfl ?_
    refine g_v (v_load (v := ptr bb 0) Try.isAgg150 rfl rfl) rfl ?_
    refine g_v (v_move rfl) rfl ?_
    refine g_v (v_pneqSame Try.underlying150 Try.sizeOf152 rfl rfl) rfl ?_
    refine g_nil ?_
    refine g_cond rfl (fun h19 => ?_) (fun h19 => ?_)
    · cases h19
    · skip
      refine g_skip ?_
      refine g_end1 rfl rfl ?_
      exact rfl

theorem ct_Builder_WriteString (bb : Nat) (p s : Option Addr) (cap : Nat) (l t : Bytes) (hp : p = none ∨ p = some ⟨bb, 0, none⟩) (hb : l.length + t.length ≤ 1000000) (F : List HProp) : Ct Try.prog 85 [ptr bb 0, Str t] ([pt bb (.cells #[(.pointer p), sl s l.length cap] 152 (0, 0)), owL 5 1 s cap (bytesR (l))] ++ F) (fun v L' => ∃ s' cap', v = .tuple #[I t.length, .nilIface] ∧ L' = pt bb (.cells #[ptr bb 0, sl s' (l ++ t).length cap'] 152 (0, 0)) :: owL 5 1 s' cap' (bytesR (l ++ t)) :: F) := by
  show Ct Try.prog 85 [ptr bb 0, Str t] (pt bb (.cells #[(.pointer p), sl s l.length cap] 152 (0, 0)) :: owL 5 1 s cap (bytesR (l)) :: F) _
  refine Ct.of Try.func85 rfl 19 Try.ntmps85 (by simp) fun w0 => ?_
  refine g_seq ?_
  refine g_reg ?_
  refine g_v (v_assign rfl) rfl ?_
  refine g_v (v_assign rfl) rfl ?_
  refine g_nil ?_
  refine g_seq ?_
  refine g_reg ?_
  refine g_v (v_move rfl) rfl ?_
  refine g_l (l_call (Pre := [pt bb (.cells #[(.pointer p), sl s l.length cap] 152 (0, 0))]) Try.call117 rfl (ct_Builder_copyCheck bb p s l.length cap hp)) rfl ?_
  rintro _ _ ⟨rfl, rfl⟩
  refine g_nil ?_
  refine g_seq ?_
  refine g_reg ?_
  refine g_v (v_move rfl) rfl ?_
  refine g_v (v_move rfl) rfl ?_
  refine g_v (v_nilCheck rfl) rfl ?_
  refine g_v (v_fieldAddr 1 Try.underlying152 rfl rfl Try.sizeOf128 (by decide) rfl) rfl ?_
  refine g_v (v_load (v := sl s l.length cap) Try.isAgg128 rfl rfl) rfl ?_
  refine g_v (v_move rfl) rfl ?_
  refine g_l (l_appStr Try.underlying128 Try.underlying9 Try.sizeOf5 Try.zeroValue5 rfl Try.typeInfo5 rfl rfl rfl ⟨by omega, by decide, by decide⟩) rfl ?_
  rintro _ _ ⟨s14, c14, rfl, _, rfl⟩
  refine g_v (v_nilCheck rfl) rfl ?_
  refine g_v (v_fieldAddr 1 Try.underlying152 rfl rfl Try.sizeOf128 (by decide) rfl) rfl ?_
  refine g_l0 (l_store #[ptr bb 0, sl s14 (l ++ t).length c14] Try.sizeOf128 rfl rfl rfl (by simp) rfl) ?_
  rintro _ _ rfl
  refine g_nil ?_
  refine g_seq ?_
  refine g_reg ?_
  refine g_v (v_move rfl) rfl ?_
  refine g_v (v_slen Try.underlying9 rfl) rfl ?_
  refine g_v (v_assign rfl) rfl ?_
  refine g_v (v_assign rfl) rfl ?_
  refine g_nil ?_
  exact g_retAny (pt bb (.cells #[ptr bb 0, sl s14 (l ++ t).length c14] 152 (0, 0)) :: owL 5 1 s14 c14 (bytesR (l ++ t)) :: F) rfl ⟨s14, c14, rfl, rfl⟩

theorem ct_Builder_String (bb : Nat) (p s : Option Addr) (cap : Nat) (l : Bytes) (h0 : l ≠ [] ∨ s = none) (hb : l.length ≤ 1000000) (F : List HProp) : Ct Try.prog 86 [ptr bb 0] ([pt bb (.cells #[(.pointer p), sl s l.length cap] 152 (0, 0)), owL 5 1 s cap (bytesR (l))] ++ F) (R1 (Str l) (pt bb (.cells #[(.pointer p), sl s l.length cap] 152 (0, 0)) :: F)) := by
  show Ct Try.prog 86 [ptr bb 0] (pt bb (.cells #[(.pointer p), sl s l.length cap] 152 (0, 0)) :: owL 5 1 s cap (bytesR (l)) :: F) _
  refine Ct.of Try.func86 rfl 14 Try.ntmps86 (by simp) fun w0 => ?_
  refine g_seq ?_
  refine g_reg ?_
  refine g_v (v_assign rfl) rfl ?_
  refine g_nil ?_
  refine g_seq ?_
  refine g_draw (Lf := [pt bb (.cells #[(.pointer p), sl s l.length cap] 152 (0, 0))]) [(0, false), (1, false), (2, false), (3, false), (5, false), (6, false), (7, false), (8, false), (9, false), (4, true), (10, true), (11, false)] (by kernel_rfl) (by kernel_rfl) rfl (by kernel_rfl) ?_
  refine d_v rfl (v_move rfl) rfl ?_
  refine d_v rfl (v_nilCheck rfl) rfl ?_
  refine d_v rfl (v_fieldAddr 1 Try.underlying152 rfl rfl Try.sizeOf128 (by decide) rfl) rfl ?_
  refine d_v rfl (v_load (v := sl s l.length cap) Try.isAgg128 rfl rfl) rfl ?_
  refine d_v rfl (v_move rfl) rfl ?_
  refine d_v rfl (v_nilCheck rfl) rfl ?_
  refine d_v rfl (v_fieldAddr 1 Try.underlying152 rfl rfl Try.sizeOf128 (by decide) rfl) rfl ?_
  refine d_v rfl (v_load (v := sl s l.length cap) Try.isAgg128 rfl rfl) rfl ?_
  refine d_v rfl (v_len Try.underlying128 rfl) rfl ?_
  refine d_l rfl (l_usd (l := l) rfl h0) rfl ?_
  rintro _ _ ⟨rfl, rfl⟩
  refine d_l rfl (l_ustr (l := l) Try.underlying184 (cellsOf_run (Try.sizeOf5 default)) rfl rfl rfl h0 (by omega)) rfl ?_
  rintro _ _ ⟨rfl, rfl⟩
  refine d_v rfl (v_assign rfl) rfl ?_
  refine d_nil ?_
  refine g_ret1 rfl rfl ?_
  exact rfl

theorem ct_store_all (rows : List ChangeM) (s : Option Addr) (cap : Nat) (hl : rows.length ≤ 400) (hok : ∀ r ∈ rows, okR r) (F : List HProp) : Ct Try.prog 56 [sl s rows.length cap] ([roL 3 s (chR rows)] ++ F) (R1 (Str (allB rows)) (roL 3 s (chR rows) :: F)) := by
  show Ct Try.prog 56 [sl s rows.length cap] (roL 3 s (chR rows) :: F) _
  refine Ct.of Try.func56 rfl 36 Try.ntmps56 (by simp) fun w0 => ?_
  have hlen := allB_take_le hok
  refine g_seq ?_
  refine g_reg ?_
  refine g_v (v_assign rfl) rfl ?_
  refine g_nil ?_
  refine g_seq ?_
  refine g_reg ?_
  refine g_l (l_alloc #[.pointer none, sl none 0 0] Try.zeroValue152) rfl ?_
  rintro _ _ ⟨b3, rfl, rfl⟩
  refine g_nil ?_
  refine g_seq ?_
  refine g_seq ?_
  rw [show sl none 0 0 = sl none (allB (rows.take 0)).length 0 from rfl]
  refine g_nilown 5 1 (bytesR (allB (rows.take 0))) rfl ?_
  refine g_reg ?_
  refine g_v (v_move rfl) rfl ?_
  refine g_v (v_len Try.underlying49 rfl) rfl ?_
  refine g_v (v_move rfl) rfl ?_
  refine g_nil ?_
  refine g_block ?_
  refine g_loop (α := Nat × Option Addr × Option Addr × Nat) (fun z => z.1 ≤ rows.length ∧ (z.2.1 = none ∨ z.2.1 = some ⟨b3, 0, none⟩) ∧ (allB (rows.take z.1) ≠ [] ∨ z.2.2.1 = none)) (fun z => U [(3, ptr b3 0), (6, sl s rows.length cap), (7, I rows.length), (8, I z.1)]) (fun z => pt b3 (.cells #[(.pointer z.2.1), sl z.2.2.1 (allB (rows.take z.1)).length z.2.2.2] 152 (0, 0)) :: owL 5 1 z.2.2.1 z.2.2.2 (bytesR (allB (rows.take z.1))) :: roL 3 s (chR rows) :: F) (fun z => rows.length - z.1) (0, none, none, 0) ⟨by simp, .inl rfl, .inr rfl⟩ [3, 6, 7, 8] rfl rfl ?_
  rintro ⟨k, p, sB, cB⟩ ⟨hk, hp, hne⟩
  simp only [] at hk hp hne ⊢
  refine g_seq ?_
  refine g_reg ?_
  refine g_v (v_lss rfl rfl) rfl ?_
  refine g_nil ?_
  refine g_seq ?_
  refine g_cond rfl (fun h9 => ?_) (fun h9 => ?_)
  · simp at h9
    have hkn : k < rows.length := by omega
    obtain ⟨x, hx⟩ : ∃ x, rows[k]? = some x := ⟨_, List.getElem?_eq_getElem hkn⟩
    have hkr : k < (chR rows).length := by rw [chR_len]; exact hkn
    have hxl := okR_len (hok x (List.mem_of_getElem? hx))
    obtain ⟨_, _, hxk, hxv⟩ := chkC_ok (hok x (List.mem_of_getElem? hx)).1
    refine g_skip ?_
    refine g_seq ?_
    refine g_block ?_
    refine g_seq ?_
    refine g_reg ?_
    refine g_v (v_idxS k Try.underlying49 Try.sizeOf111 rfl rfl rfl hkn hkr) rfl ?_
    refine g_v (v_loadAS (row := encC x) Try.isAgg111 Try.sizeOf111 rfl (chR_at hx) rfl) rfl ?_
    refine g_l (l_alloc #[Str [], Str [], Bo false] Try.zeroValue111) rfl ?_
    rintro _ _ ⟨b5, rfl, rfl⟩
    refine g_l0 (l_storeA (cs := #[Str [], Str [], Bo false]) (vs := encC x) (encC x).toArray Try.sizeOf111 rfl rfl rfl rfl (by decide) (splice_all rfl)) ?_
    rintro _ _ rfl
    refine g_nil ?_
    refine g_reg ?_
    refine g_v (v_fieldAddr 0 Try.underlying111 rfl rfl Try.sizeOf9 (by decide) rfl) rfl ?_
    refine g_v (v_load (v := Str x.key) Try.isAgg9 rfl rfl) rfl ?_
    refine g_v (v_slen Try.underlying9 rfl) rfl ?_
    refine g_v (v_conv (r := ((x.key.length % 256 : Nat) : Int)) Try.underlying3 Try.underlying5 rfl (wu8 _)) rfl ?_
    refine g_v (v_fieldAddr 1 Try.underlying111 rfl rfl Try.sizeOf9 (by decide) rfl) rfl ?_
    refine g_v (v_load (v := Str x.val) Try.isAgg9 rfl rfl) rfl ?_
    refine g_v (v_slen Try.underlying9 rfl) rfl ?_
    refine g_v (v_conv (r := ((x.val.length % 256 : Nat) : Int)) Try.underlying3 Try.underlying5 rfl (wu8 _)) rfl ?_
    refine g_v (v_fieldAddr 1 Try.underlying111 rfl rfl Try.sizeOf9 (by decide) rfl) rfl ?_
    refine g_v (v_load (v := Str x.val) Try.isAgg9 rfl rfl) rfl ?_
    refine g_v (v_slen Try.underlying9 rfl) rfl ?_
    refine g_v (v_shr (r := ((x.val.length / 256 : Nat) : Int)) rfl rfl (by decide) (fdivN x.val.length 256)) rfl ?_
    refine g_v (v_conv (r := ((x.val.length / 256 % 256 : Nat) : Int)) Try.underlying3 Try.underlying5 rfl (wu8 _)) rfl ?_
    refine g_l (l_buildSlice (bytesR ([UInt8.ofNat x.key.length, UInt8.ofNat x.val.length, UInt8.ofNat (x.val.length / 256)])) Try.underlying128 Try.sizeOf5 Try.zeroValue5 rfl rfl (three_rows x.key.length x.val.length) (by simp [bytesR]) (by decide) (by decide)) rfl ?_
    rintro _ _ ⟨b25, rfl, rfl⟩
    refine g_v (v_bytesStr (l := [UInt8.ofNat x.key.length, UInt8.ofNat x.val.length, UInt8.ofNat (x.val.length / 256)]) Try.underlying128 Try.underlying5 Try.underlying9 rfl rfl rfl) rfl ?_
    refine g_v (v_fieldAddr 0 Try.underlying111 rfl rfl Try.sizeOf9 (by decide) rfl) rfl ?_
    refine g_v (v_load (v := Str x.key) Try.isAgg9 rfl rfl) rfl ?_
    refine g_v (v_cat rfl rfl (by simp <;> omega)) rfl ?_
    refine g_v (v_fieldAddr 1 Try.underlying111 rfl rfl Try.sizeOf9 (by decide) rfl) rfl ?_
    refine g_v (v_load (v := Str x.val) Try.isAgg9 rfl rfl) rfl ?_
    refine g_v (v_cat rfl rfl (by simp <;> omega)) rfl ?_
    refine g_l (l_call (Pre := [pt b3 (.cells #[(.pointer p), sl sB (allB (rows.take k)).length cB] 152 (0, 0)), owL 5 1 sB cB (bytesR (allB (rows.take k)))]) Try.call85 rfl (ct_Builder_WriteString b3 p sB cB (allB (rows.take k)) (rowB x) hp (by have := hlen k; have := okR_len (hok x (List.mem_of_getElem? hx)); omega))) rfl ?_
    rintro _ _ ⟨s33, c33, rfl, rfl⟩
    rw [← allB_take hx]
    refine g_nil ?_
    refine g_blk ?_
    refine g_reg ?_
    refine g_v (v_add (r := ((k + 1 : Nat) : Int)) rfl rfl (by rw [show (k : Int) + 1 = ((k + 1 : Nat) : Int) by omega]; exact w64 (by omega))) rfl ?_
    refine g_v (v_move rfl) rfl ?_
    refine g_nil ?_
    refine g_again (k + 1, some ⟨b3, 0, none⟩, s33, c33) ⟨by simp only []; omega, .inr rfl, .inl ?_⟩ (by simp only []; omega) [3, 6, 7, 8] rfl rfl
    simp only []
    rw [allB_take hx]
    intro e
    have := congrArg List.length e
    rw [List.length_append, List.length_nil] at this
    omega
  · simp at h9
    obtain rfl : k = rows.length := by omega
    rw [List.take_length] at hne ⊢
    refine g_exit rfl ?_
    refine g_seq ?_
    refine g_reg ?_
    refine g_l (l_call (Pre := [pt b3 (.cells #[(.pointer p), sl sB (allB rows).length cB] 152 (0, 0)), owL 5 1 sB cB (bytesR (allB rows))]) Try.call86 rfl (ct_Builder_String b3 p sB cB (allB rows) hne (by have := hlen rows.length; rw [List.take_length] at this; omega))) rfl ?_
    rintro _ _ ⟨rfl, rfl⟩
    refine g_v (v_assign rfl) rfl ?_
    refine g_nil ?_
    refine g_ret1 rfl rfl ?_
    exact rfl

theorem ct_store_parse (rows : List ChangeM) (hl : rows.length ≤ 400) (hs : srt rows) (hok : ∀ r ∈ rows, okR r) (F : List HProp) : Ct Try.prog 71 [Str (allB rows)] ([] ++ F) (fun v L' => ∃ s cap, v = .tuple #[sl s rows.length cap, Bo true] ∧ L' = roL 3 s (chR rows) :: F) := by
  show Ct Try.prog 71 [Str (allB rows)] (F) _
  refine Ct.of Try.func71 rfl 64 Try.ntmps71 (by simp) fun w0 => ?_
  have hlen : ∀ k, (allB (rows.drop k)).length ≤ 59 * 400 := fun k => by
    have := allB_len (l := rows.drop k) fun r hr => hok r (List.mem_of_mem_drop hr)
    rw [List.length_drop] at this
    omega
  refine g_nilro 3 (chR (rows.take 0)) rfl ?_
  refine g_seq ?_
  refine g_reg ?_
  refine g_v (v_assign rfl) rfl ?_
  refine g_v (v_assign rfl) rfl ?_
  refine g_nil ?_
  refine g_seq ?_
  refine g_reg ?_
  refine g_v (v_assign rfl) rfl ?_
  refine g_nil ?_
  refine g_seq ?_
  refine g_block ?_
  refine g_loop (α := Nat × Option Addr × Nat) (fun z => z.1 ≤ rows.length) (fun z => U [(0, Str (allB (rows.drop z.1))), (4, sl z.2.1 (rows.take z.1).length z.2.2)]) (fun z => roL 3 z.2.1 (chR (rows.take z.1)) :: F) (fun z => rows.length - z.1) (0, none, 0) (by simp) [0, 4] rfl rfl ?_
  rintro ⟨k, sA, cA⟩ hk
  simp only [] at hk ⊢
  refine g_seq ?_
  refine g_seq ?_
  refine g_reg ?_
  refine g_v (v_move rfl) rfl ?_
  refine g_v (v_sneq rfl rfl) rfl ?_
  refine g_nil ?_
  refine g_cond rfl (fun h9 => ?_) (fun h9 => ?_)
  · simp at h9
    have hkn : k < rows.length := by
      rcases Nat.lt_or_ge k rows.length with h | h
      · exact h
      · rw [List.drop_eq_nil_of_le h] at h9
        exact absurd rfl h9
    obtain ⟨x, hx⟩ : ∃ x, rows[k]? = some x := ⟨_, List.getElem?_eq_getElem hkn⟩
    have hxo := hok x (List.mem_of_getElem? hx)
    obtain ⟨hk0, hg1, hxk, hxv⟩ := chkC_ok hxo.1
    have hc0 := hxo.1
    have hg0 := hxo.2
    have hd := allB_drop hx
    have hdl := hlen k
    obtain ⟨x0, hx0, hx0e⟩ : ∃ y : UInt8, y.toNat = x.key.length ∧ UInt8.ofNat x.key.length = y := ⟨_, ofNat_small (by omega), rfl⟩
    obtain ⟨x1, hx1, hx1e⟩ : ∃ y : UInt8, y.toNat = x.val.length ∧ UInt8.ofNat x.val.length = y := ⟨_, ofNat_small (by omega), rfl⟩
    obtain ⟨x2, hx2, hx2e⟩ : ∃ y : UInt8, y.toNat = 0 ∧ UInt8.ofNat (x.val.length / 256) = y := ⟨_, by rw [show x.val.length / 256 = 0 by omega]; rfl, rfl⟩
    rw [show rowB x ++ allB (rows.drop (k + 1)) = (x0 :: x1 :: x2 :: (x.key ++ (x.val ++ allB (rows.drop (k + 1))))) by unfold rowB; rw [hx0e, hx1e, hx2e]; simp] at hd
    rw [hd] at hdl h9 ⊢
    simp only [List.length_cons, List.length_append] at hdl
    have hrest : (x0 :: x1 :: x2 :: (x.key ++ (x.val ++ allB (rows.drop (k + 1))))).drop (x0.toNat + 3 + x1.toNat) = allB (rows.drop (k + 1)) := by
      rw [hx0, hx1, show x.key.length + 3 + x.val.length = (x.key.length + x.val.length) + 3 by omega]
      simp only [List.drop_succ_cons]
      rw [show x.key.length + x.val.length = (x.key ++ x.val).length by simp, ← List.append_assoc, List.drop_left]
    have hkey : ((x0 :: x1 :: x2 :: (x.key ++ (x.val ++ allB (rows.drop (k + 1))))).take (x0.toNat + 3)).drop 3 = x.key := by
      rw [hx0]
      simp only [List.take_succ_cons, List.drop_succ_cons, List.drop_zero]
      rw [List.take_left]
    have hval : ((x0 :: x1 :: x2 :: (x.key ++ (x.val ++ allB (rows.drop (k + 1))))).take (x0.toNat + 3 + x1.toNat)).drop (x0.toNat + 3) = x.val := by
      rw [hx0, hx1, show x.key.length + 3 + x.val.length = (x.key.length + x.val.length) + 3 by omega]
      simp only [List.take_succ_cons, List.drop_succ_cons]
      rw [show x.key.length + x.val.length = (x.key ++ x.val).length by simp, ← List.append_assoc, List.take_left, List.drop_left]
    have hbld : ∀ w, (Instr.build 111 #[(0, Str (((x0 :: x1 :: x2 :: (x.key ++ (x.val ++ allB (rows.drop (k + 1))))).take (x0.toNat + 3)).drop 3)), (1, Str (((x0 :: x1 :: x2 :: (x.key ++ (x.val ++ allB (rows.drop (k + 1))))).take (x0.toNat + 3 + x1.toNat)).drop (x0.toNat + 3)))]).run Try.prog w = .ok (.agg (encC x).toArray) w := fun w => by
      rw [hkey, hval, bldKV x.key x.val w]
      obtain ⟨xk, xv, xg⟩ := x
      simp only at hg0
      subst hg0
      rfl
    refine g_skip ?_
    refine g_block ?_
    refine g_seq ?_
    refine g_seq ?_
    refine g_drawL [(0, false), (1, false), (2, false), (3, false), (4, false), (5, false), (6, false), (7, false), (8, false), (9, false), (10, false), (11, false), (12, false), (13, false), (14, false), (15, false), (16, false), (17, false), (18, false), (19, false), (20, false)] (by kernel_rfl) (by kernel_rfl) rfl (by kernel_rfl) ?_
    refine d_v rfl (v_move rfl) rfl ?_
    refine d_v rfl (v_slen Try.underlying9 rfl) rfl ?_
    refine d_v rfl (v_lss rfl rfl) rfl ?_
    refine d_v rfl (v_move rfl) rfl ?_
    refine d_gv1 rfl rfl rfl (decide_eq_false (by simp only [List.length_cons]; omega)) (v_move rfl) rfl ?_
    refine d_gv1 rfl rfl rfl (decide_eq_false (by simp only [List.length_cons]; omega)) (v_indexStr (r := x0) 0 Try.underlying9 rfl rfl rfl rfl) rfl ?_
    refine d_gv1 rfl rfl rfl (decide_eq_false (by simp only [List.length_cons]; omega)) (v_conv (r := ((x0.toNat : Nat) : Int)) Try.underlying5 Try.underlying3 rfl (w64 (by omega))) rfl ?_
    refine d_gv1 rfl rfl rfl (decide_eq_false (by simp only [List.length_cons]; omega)) (v_add rfl rfl (w64 (by omega))) rfl ?_
    refine d_gv1 rfl rfl rfl (decide_eq_false (by simp only [List.length_cons]; omega)) (v_move rfl) rfl ?_
    refine d_gv1 rfl rfl rfl (decide_eq_false (by simp only [List.length_cons]; omega)) (v_indexStr (r := x1) 1 Try.underlying9 rfl rfl rfl rfl) rfl ?_
    refine d_gv1 rfl rfl rfl (decide_eq_false (by simp only [List.length_cons]; omega)) (v_conv (r := ((x1.toNat : Nat) : Int)) Try.underlying5 Try.underlying3 rfl (w64 (by omega))) rfl ?_
    refine d_gv1 rfl rfl rfl (decide_eq_false (by simp only [List.length_cons]; omega)) (v_add rfl rfl (w64 (by omega))) rfl ?_
    refine d_gv1 rfl rfl rfl (decide_eq_false (by simp only [List.length_cons]; omega)) (v_move rfl) rfl ?_
    refine d_gv1 rfl rfl rfl (decide_eq_false (by simp only [List.length_cons]; omega)) (v_indexStr (r := x2) 2 Try.underlying9 rfl rfl rfl rfl) rfl ?_
    refine d_gv1 rfl rfl rfl (decide_eq_false (by simp only [List.length_cons]; omega)) (v_conv (r := ((x2.toNat : Nat) : Int)) Try.underlying5 Try.underlying3 rfl (w64 (by omega))) rfl ?_
    refine d_gv1 rfl rfl rfl (decide_eq_false (by simp only [List.length_cons]; omega)) (v_mul rfl rfl (w64 (by omega))) rfl ?_
    refine d_gv1 rfl rfl rfl (decide_eq_false (by simp only [List.length_cons]; omega)) (v_add rfl rfl (w64 (by omega))) rfl ?_
    refine d_gv1 rfl rfl rfl (decide_eq_false (by simp only [List.length_cons]; omega)) (v_move rfl) rfl ?_
    refine d_gv1 rfl rfl rfl (decide_eq_false (by simp only [List.length_cons]; omega)) (v_slen Try.underlying9 rfl) rfl ?_
    refine d_gv1 rfl rfl rfl (decide_eq_false (by simp only [List.length_cons]; omega)) (v_gtr rfl rfl) rfl ?_
    refine d_v rfl (v_or rfl rfl) rfl ?_
    refine d_nil ?_
    refine g_cond rfl (fun h30 => ?_) (fun h30 => ?_)
    · exfalso
      simp at h30
      omega
    · skip
      refine g_skip ?_
      refine g_seq ?_
      refine g_reg ?_
      refine g_v (v_move rfl) rfl ?_
      refine g_v (v_indexStr (r := x0) 0 Try.underlying9 rfl rfl rfl rfl) rfl ?_
      refine g_v (v_conv (r := ((x0.toNat : Nat) : Int)) Try.underlying5 Try.underlying3 rfl (w64 (by omega))) rfl ?_
      refine g_v (v_add rfl rfl (w64 (by omega))) rfl ?_
      refine g_v (v_assign rfl) rfl ?_
      refine g_nil ?_
      refine g_seq ?_
      refine g_drawL [(0, false), (1, false), (2, false), (3, false), (4, false), (5, false), (6, false), (7, false), (8, false), (9, false), (10, false)] (by kernel_rfl) (by kernel_rfl) rfl (by kernel_rfl) ?_
      refine d_v rfl (v_move rfl) rfl ?_
      refine d_v rfl (v_move rfl) rfl ?_
      refine d_v rfl (v_indexStr (r := x1) 1 Try.underlying9 rfl rfl rfl rfl) rfl ?_
      refine d_v rfl (v_conv (r := ((x1.toNat : Nat) : Int)) Try.underlying5 Try.underlying3 rfl (w64 (by omega))) rfl ?_
      refine d_v rfl (v_add rfl rfl (w64 (by omega))) rfl ?_
      refine d_v rfl (v_move rfl) rfl ?_
      refine d_v rfl (v_indexStr (r := x2) 2 Try.underlying9 rfl rfl rfl rfl) rfl ?_
      refine d_v rfl (v_conv (r := ((x2.toNat : Nat) : Int)) Try.underlying5 Try.underlying3 rfl (w64 (by omega))) rfl ?_
      refine d_v rfl (v_mul rfl rfl (w64 (by omega))) rfl ?_
      refine d_v rfl (v_add rfl rfl (w64 (by omega))) rfl ?_
      refine d_v rfl (v_assign rfl) rfl ?_
      refine d_nil ?_
      refine g_seq ?_
      refine g_drawL [(0, false), (1, false), (2, false), (3, false), (4, false), (5, false), (6, false), (7, false), (8, true), (9, true)] (by kernel_rfl) (by kernel_rfl) rfl (by kernel_rfl) ?_
      refine d_v rfl (v_move rfl) rfl ?_
      refine d_v rfl (v_move rfl) rfl ?_
      refine d_v rfl (v_strBoth (l := 3) (h := x0.toNat + 3) Try.underlying9 rfl rfl rfl rfl (by omega) (by omega) (by simp; omega)) rfl ?_
      refine d_v rfl (v_move rfl) rfl ?_
      refine d_v rfl (v_move rfl) rfl ?_
      refine d_v rfl (v_move rfl) rfl ?_
      refine d_v rfl (v_strBoth (l := x0.toNat + 3) (h := x0.toNat + 3 + x1.toNat) Try.underlying9 rfl rfl (by omega) rfl (by omega) (by omega) (by simp; omega)) rfl ?_
      refine d_v rfl (v_build rfl hbld) rfl ?_
      refine d_l rfl (l_alloc #[Str [], Str [], Bo false] Try.zeroValue111) rfl ?_
      rintro _ _ ⟨b7, rfl, rfl⟩
      refine d_l0 rfl (l_storeA (cs := #[Str [], Str [], Bo false]) (vs := encC x) (encC x).toArray Try.sizeOf111 rfl rfl rfl rfl (by decide) (splice_all rfl)) ?_
      rintro _ _ rfl
      refine d_nil ?_
      refine g_seq ?_
      refine g_seq ?_
      refine g_reg ?_
      refine g_v (v_loadA (vs := encC x) Try.isAgg111 Try.sizeOf111 rfl rfl arr_ld) rfl ?_
      refine g_l (l_call (Pre := []) Try.call64 rfl (ct_row_Check x)) rfl ?_
      rintro _ _ ⟨rfl, rfl⟩
      rw [hc0]
      refine g_v (v_ineq Try.underlying33 rfl) rfl ?_
      refine g_nil ?_
      refine g_cond rfl (fun h55 => ?_) (fun h55 => ?_)
      · simp at h55
      · skip
        refine g_skip ?_
        refine g_seq ?_
        refine g_reg ?_
        refine g_v (v_move rfl) rfl ?_
        refine g_v (v_loadA (vs := encC x) Try.isAgg111 Try.sizeOf111 rfl rfl arr_ld) rfl ?_
        refine g_l (l_buildSlice [encC x] Try.underlying49 Try.sizeOf111 Try.zeroValue111 rfl rfl rfl (by simp [encC]) (by decide) (by decide)) rfl ?_
        rintro _ _ ⟨b58, rfl, rfl⟩
        refine g_freeze (T := 111) (cap := 1) (some ⟨b58, 0, none⟩) ?_
        rw [show [encC x] = chR [x] from rfl]
        refine g_l (l_call (Pre := [roL 3 sA (chR (rows.take k)), roL 3 (some ⟨b58, 0, none⟩) (chR [x])]) Try.call65 rfl (ct_row_Apply (rows.take k) [x] sA (some ⟨b58, 0, none⟩) cA 1 (srt_take hs k) (by rw [List.length_take]; omega) (by simp))) rfl ?_
        rintro _ _ ⟨s59, c59, rfl, rfl⟩
        rw [aps_take1 hs hx hg0]
        refine g_freeze (T := 111) (cap := c59) s59 ?_
        refine g_v (v_assign rfl) rfl ?_
        refine g_nil ?_
        refine g_reg ?_
        refine g_v (v_move rfl) rfl ?_
        refine g_v (v_move rfl) rfl ?_
        refine g_v (v_strLo (l := x0.toNat + 3 + x1.toNat) Try.underlying9 rfl rfl (by omega) (by simp; omega)) rfl ?_
        refine g_v (v_assign rfl) rfl ?_
        refine g_nil ?_
        refine g_blk ?_
        rw [show (x0 :: x1 :: x2 :: (x.key ++ (x.val ++ allB (rows.drop (k + 1))))).drop (x0.toNat + 3 + x1.toNat) = allB (rows.drop (k + 1)) from hrest]
        exact g_again (k + 1, s59, c59) (by simp only []; omega) (by simp only []; omega) [0, 4] rfl rfl
  · simp at h9
    obtain rfl : k = rows.length := by
      rcases Nat.lt_or_ge k rows.length with h | h
      · exfalso
        obtain ⟨x, hx⟩ : ∃ x, rows[k]? = some x := ⟨_, List.getElem?_eq_getElem h⟩
        have := allB_drop hx
        rw [h9] at this
        have h2 := okR_len (hok x (List.mem_of_getElem? hx))
        have h3 := congrArg List.length this
        rw [List.length_append, List.length_nil] at h3
        omega
      · omega
    rw [List.take_length]
    refine g_exit rfl ?_
    refine g_seq ?_
    refine g_reg ?_
    refine g_v (v_move rfl) rfl ?_
    refine g_v (v_assign rfl) rfl ?_
    refine g_v (v_assign rfl) rfl ?_
    refine g_nil ?_
    exact g_retAny (roL 3 sA (chR rows) :: F) rfl ⟨sA, cA, rfl, rfl⟩

end Go.Proofs.Ythdjckbjjfiopac
