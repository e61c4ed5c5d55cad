/- Walks through package log, and the reference's reading of deeds. No condition. -/
import Derived.Test.YthdjckbjjfiopacLgM
import Derived.Test.YthdjckbjjfiopacSlD
namespace Go.Proofs.Ythdjckbjjfiopac
open Go.Sl Go.Proofs
set_option linter.unusedVariables false
set_option linter.unusedSimpArgs false
theorem wu8 (n : Nat) : IntKind.u8.wrap (n : Int) = ((n % 256 : Nat) : Int) := by
  show (n : Int) % 2 ^ 8 = _
  omega
theorem wu8' (n : Nat) : IntKind.u8.wrap ((n % 256 : Nat) : Int) = ((n % 256 : Nat) : Int) := by
  show ((n % 256 : Nat) : Int) % 2 ^ 8 = _
  omega
theorem fdivN (n k : Nat) : ((n : Int)).fdiv (k : Int) = ((n / k : Nat) : Int) := by
  rw [Int.fdiv_eq_ediv_of_nonneg _ (by omega)]; rfl
theorem fourN_rows (n : Nat) : [[By ((n % 256 : Nat) : Int)], [By ((n / 256 % 256 : Nat) : Int)], [By ((n / 65536 % 256 : Nat) : Int)], [By ((n / 16777216 % 256 : Nat) : Int)]] = bytesR (fourN n) := by
  simp only [bytesR, fourN, List.map_cons, List.map_nil, UInt8.toNat_ofNat']
theorem two_rows (n : Nat) : [[By ((n % 256 : Nat) : Int)], [By ((n / 256 % 256 : Nat) : Int)]] = bytesR [UInt8.ofNat n, UInt8.ofNat (n / 256)] := by
  simp only [bytesR, List.map_cons, List.map_nil, UInt8.toNat_ofNat']
def lookV : Option (UInt8 × Bytes) → Value
  | none => .tuple #[By 0, Str [], Bo false]
  | some (k, t) => .tuple #[By k.toNat, Str t, Bo true]
abbrev lgC (bd from_ many first next : Nat) : Array Value := #[ptr bd 0, I from_, I many, I first, I next]
theorem getD_at {l : List Bytes} {i : Nat} (h : i < l.length) : l[i]? = some (l.getD i []) := by rw [List.getD_eq_getElem?_getD, List.getElem?_eq_getElem h]; rfl
theorem getD_len {l : List Bytes} {i : Nat} (h : i < l.length) (hS : ∀ x ∈ l, x.length = 80) : (l.getD i []).length = 80 := hS _ (List.mem_of_getElem? (getD_at h))
theorem skN_lt (s : Bytes) : skN s ≤ 65535 := by unfold skN; have := (sk s 5).toNat_lt; have := (sk s 6).toNat_lt; omega
theorem sk_eq (s : Bytes) (i : Nat) (k : UInt8) : ((sk s i).toNat : Int) = (k.toNat : Int) ↔ sk s i = k := by
  constructor
  · intro h; exact UInt8.toNat_inj.1 (by omega)
  · intro h; rw [h]

theorem ct_log_four (n : Nat) (F : List HProp) : Ct Try.prog 91 [I n] ([] ++ F) (R1 (Str (fourN n)) F) := by
  show Ct Try.prog 91 [I n] (F) _
  refine Ct.of Try.func91 rfl 16 Try.ntmps91 (by simp) fun w0 => ?_
  refine g_seq ?_
  refine g_reg ?_
  refine g_v (v_assign rfl) rfl ?_
  refine g_nil ?_
  refine g_seq ?_
  refine g_reg ?_
  refine g_v (v_move rfl) rfl ?_
  refine g_v (v_conv (r := ((n % 256 : Nat) : Int)) Try.underlying3 Try.underlying5 rfl (wu8 _)) rfl ?_
  refine g_v (v_move rfl) rfl ?_
  refine g_v (v_shr (r := ((n / 256 : Nat) : Int)) rfl rfl (by decide) (fdivN n 256)) rfl ?_
  refine g_v (v_conv (r := ((n / 256 % 256 : Nat) : Int)) Try.underlying3 Try.underlying5 rfl (wu8 _)) rfl ?_
  refine g_v (v_move rfl) rfl ?_
  refine g_v (v_shr (r := ((n / 65536 : Nat) : Int)) rfl rfl (by decide) (fdivN n 65536)) rfl ?_
  refine g_v (v_conv (r := ((n / 65536 % 256 : Nat) : Int)) Try.underlying3 Try.underlying5 rfl (wu8 _)) rfl ?_
  refine g_v (v_move rfl) rfl ?_
  refine g_v (v_shr (r := ((n / 16777216 : Nat) : Int)) rfl rfl (by decide) (fdivN n 16777216)) rfl ?_
  refine g_v (v_conv (r := ((n / 16777216 % 256 : Nat) : Int)) Try.underlying3 Try.underlying5 rfl (wu8 _)) rfl ?_
  refine g_l (l_buildSlice (bytesR (fourN n)) Try.underlying128 Try.sizeOf5 Try.zeroValue5 rfl rfl (fourN_rows n) (by simp [bytesR]) (by decide) (by decide)) rfl ?_
  rintro _ _ ⟨b14, rfl, rfl⟩
  refine g_v (v_bytesStr (l := fourN n) Try.underlying128 Try.underlying5 Try.underlying9 rfl rfl rfl) rfl ?_
  refine g_v (v_assign rfl) rfl ?_
  refine g_nil ?_
  refine g_ret1 rfl rfl ?_
  exact rfl

-- counterfoil/counterfoilref.four is not in this seat
theorem ct_log_text (kind : UInt8) (n : Nat) (s : Bytes) (hs : s.length ≤ 1000000) (F : List HProp) : Ct Try.prog 101 [By kind.toNat, I n, Str s] ([] ++ F) (R1 (Str (textB kind n s)) F) := by
  show Ct Try.prog 101 [By kind.toNat, I n, Str s] (F) _
  refine Ct.of Try.func101 rfl 25 Try.ntmps101 (by simp) fun w0 => ?_
  refine g_seq ?_
  refine g_reg ?_
  refine g_v (v_assign rfl) rfl ?_
  refine g_nil ?_
  refine g_seq ?_
  refine g_drawT (Lf := []) (.q 0 (.q 3 (.q 6 (.q 7 (.q 8 (.q 9 (.q 10 (.q 11 (.q 12 (.q 16 (.alt (.l 1 (.c (.q 2 (.alt (.l 4 (.q 5 (.l 13 (.c (.q 14 (.q 15 (.q 17 (.q 18 (.nil))))))))) (.l 13 (.c (.q 14 (.l 4 (.q 5 (.q 15 (.q 17 (.q 18 (.nil))))))))))))) (.alt (.l 4 (.alt (.l 1 (.c (.q 2 (.q 5 (.l 13 (.c (.q 14 (.q 15 (.q 17 (.q 18 (.nil))))))))))) (.l 13 (.c (.q 14 (.l 1 (.c (.q 2 (.q 5 (.q 15 (.q 17 (.q 18 (.nil))))))))))))) (.l 13 (.c (.q 14 (.alt (.l 1 (.c (.q 2 (.l 4 (.q 5 (.q 15 (.q 17 (.q 18 (.nil))))))))) (.l 4 (.l 1 (.c (.q 2 (.q 5 (.q 15 (.q 17 (.q 18 (.nil))))))))))))))))))))))))) (by kernel_rfl) (by kernel_rfl) (by kernel_rfl) ?_
  refine t_v rfl (v_move rfl) rfl ?_
  refine t_v rfl (v_move rfl) rfl ?_
  refine t_v rfl (v_move rfl) rfl ?_
  refine t_v rfl (v_slen Try.underlying9 rfl) rfl ?_
  refine t_v rfl (v_conv (r := ((s.length % 256 : Nat) : Int)) Try.underlying3 Try.underlying5 rfl (wu8 _)) rfl ?_
  refine t_v rfl (v_move rfl) rfl ?_
  refine t_v rfl (v_slen Try.underlying9 rfl) rfl ?_
  refine t_v rfl (v_shr (r := ((s.length / 256 : Nat) : Int)) rfl rfl (by decide) (fdivN s.length 256)) rfl ?_
  refine t_v rfl (v_conv (r := ((s.length / 256 % 256 : Nat) : Int)) Try.underlying3 Try.underlying5 rfl (wu8 _)) rfl ?_
  refine t_v rfl (v_move rfl) rfl ?_
  refine t_alt ?_ ?_
  · skip
    refine t_l rfl (l_buildSlice (bytesR ([kind])) Try.underlying128 Try.sizeOf5 Try.zeroValue5 rfl rfl (rfl) (by simp [bytesR]) (by decide) (by decide)) rfl ?_
    rintro _ _ ⟨b8, rfl, rfl⟩
    refine t_cls ([owL 5 1 (some ⟨b8, 0, none⟩) 1 (bytesR [kind])]) ?_
    refine t_v rfl (v_bytesStr (l := [kind]) Try.underlying128 Try.underlying5 Try.underlying9 rfl rfl rfl) rfl ?_
    refine t_alt ?_ ?_
    · skip
      refine t_l rfl (l_call (Pre := []) Try.call91 rfl (ct_log_four n)) rfl ?_
      rintro _ _ ⟨rfl, rfl⟩
      refine t_v rfl (v_cat rfl rfl (by simp [fourN] <;> omega)) rfl ?_
      refine t_l rfl (l_buildSlice (bytesR ([UInt8.ofNat s.length, UInt8.ofNat (s.length / 256)])) Try.underlying128 Try.sizeOf5 Try.zeroValue5 rfl rfl (two_rows s.length) (by simp [bytesR]) (by decide) (by decide)) rfl ?_
      rintro _ _ ⟨b20, rfl, rfl⟩
      refine t_cls ([owL 5 1 (some ⟨b20, 0, none⟩) 2 (bytesR [UInt8.ofNat s.length, UInt8.ofNat (s.length / 256)]), owL 5 1 (some ⟨b8, 0, none⟩) 1 (bytesR [kind])]) ?_
      refine t_v rfl (v_bytesStr (l := [UInt8.ofNat s.length, UInt8.ofNat (s.length / 256)]) Try.underlying128 Try.underlying5 Try.underlying9 rfl rfl rfl) rfl ?_
      refine t_v rfl (v_cat rfl rfl (by simp [fourN])) rfl ?_
      refine t_v rfl (v_cat rfl rfl (by simp [fourN]; omega)) rfl ?_
      refine t_v rfl (v_assign rfl) rfl ?_
      refine t_nil ?_
      refine g_ret1 rfl rfl ?_
      exact rfl
    · skip
      refine t_l rfl (l_buildSlice (bytesR ([UInt8.ofNat s.length, UInt8.ofNat (s.length / 256)])) Try.underlying128 Try.sizeOf5 Try.zeroValue5 rfl rfl (two_rows s.length) (by simp [bytesR]) (by decide) (by decide)) rfl ?_
      rintro _ _ ⟨b20, rfl, rfl⟩
      refine t_cls ([owL 5 1 (some ⟨b20, 0, none⟩) 2 (bytesR [UInt8.ofNat s.length, UInt8.ofNat (s.length / 256)]), owL 5 1 (some ⟨b8, 0, none⟩) 1 (bytesR [kind])]) ?_
      refine t_v rfl (v_bytesStr (l := [UInt8.ofNat s.length, UInt8.ofNat (s.length / 256)]) Try.underlying128 Try.underlying5 Try.underlying9 rfl rfl rfl) rfl ?_
      refine t_l rfl (l_call (Pre := []) Try.call91 rfl (ct_log_four n)) rfl ?_
      rintro _ _ ⟨rfl, rfl⟩
      refine t_v rfl (v_cat rfl rfl (by simp [fourN] <;> omega)) rfl ?_
      refine t_v rfl (v_cat rfl rfl (by simp [fourN])) rfl ?_
      refine t_v rfl (v_cat rfl rfl (by simp [fourN]; omega)) rfl ?_
      refine t_v rfl (v_assign rfl) rfl ?_
      refine t_nil ?_
      refine g_ret1 rfl rfl ?_
      exact rfl
  refine t_alt ?_ ?_
  · skip
    refine t_l rfl (l_call (Pre := []) Try.call91 rfl (ct_log_four n)) rfl ?_
    rintro _ _ ⟨rfl, rfl⟩
    refine t_alt ?_ ?_
    · skip
      refine t_l rfl (l_buildSlice (bytesR ([kind])) Try.underlying128 Try.sizeOf5 Try.zeroValue5 rfl rfl (rfl) (by simp [bytesR]) (by decide) (by decide)) rfl ?_
      rintro _ _ ⟨b8, rfl, rfl⟩
      refine t_cls ([owL 5 1 (some ⟨b8, 0, none⟩) 1 (bytesR [kind])]) ?_
      refine t_v rfl (v_bytesStr (l := [kind]) Try.underlying128 Try.underlying5 Try.underlying9 rfl rfl rfl) rfl ?_
      refine t_v rfl (v_cat rfl rfl (by simp [fourN] <;> omega)) rfl ?_
      refine t_l rfl (l_buildSlice (bytesR ([UInt8.ofNat s.length, UInt8.ofNat (s.length / 256)])) Try.underlying128 Try.sizeOf5 Try.zeroValue5 rfl rfl (two_rows s.length) (by simp [bytesR]) (by decide) (by decide)) rfl ?_
      rintro _ _ ⟨b20, rfl, rfl⟩
      refine t_cls ([owL 5 1 (some ⟨b20, 0, none⟩) 2 (bytesR [UInt8.ofNat s.length, UInt8.ofNat (s.length / 256)]), owL 5 1 (some ⟨b8, 0, none⟩) 1 (bytesR [kind])]) ?_
      refine t_v rfl (v_bytesStr (l := [UInt8.ofNat s.length, UInt8.ofNat (s.length / 256)]) Try.underlying128 Try.underlying5 Try.underlying9 rfl rfl rfl) rfl ?_
      refine t_v rfl (v_cat rfl rfl (by simp [fourN])) rfl ?_
      refine t_v rfl (v_cat rfl rfl (by simp [fourN]; omega)) rfl ?_
      refine t_v rfl (v_assign rfl) rfl ?_
      refine t_nil ?_
      refine g_ret1 rfl rfl ?_
      exact rfl
    · skip
      refine t_l rfl (l_buildSlice (bytesR ([UInt8.ofNat s.length, UInt8.ofNat (s.length / 256)])) Try.underlying128 Try.sizeOf5 Try.zeroValue5 rfl rfl (two_rows s.length) (by simp [bytesR]) (by decide) (by decide)) rfl ?_
      rintro _ _ ⟨b20, rfl, rfl⟩
      refine t_cls ([owL 5 1 (some ⟨b20, 0, none⟩) 2 (bytesR [UInt8.ofNat s.length, UInt8.ofNat (s.length / 256)])]) ?_
      refine t_v rfl (v_bytesStr (l := [UInt8.ofNat s.length, UInt8.ofNat (s.length / 256)]) Try.underlying128 Try.underlying5 Try.underlying9 rfl rfl rfl) rfl ?_
      refine t_l rfl (l_buildSlice (bytesR ([kind])) Try.underlying128 Try.sizeOf5 Try.zeroValue5 rfl rfl (rfl) (by simp [bytesR]) (by decide) (by decide)) rfl ?_
      rintro _ _ ⟨b8, rfl, rfl⟩
      refine t_cls ([owL 5 1 (some ⟨b8, 0, none⟩) 1 (bytesR [kind]), owL 5 1 (some ⟨b20, 0, none⟩) 2 (bytesR [UInt8.ofNat s.length, UInt8.ofNat (s.length / 256)])]) ?_
      refine t_v rfl (v_bytesStr (l := [kind]) Try.underlying128 Try.underlying5 Try.underlying9 rfl rfl rfl) rfl ?_
      refine t_v rfl (v_cat rfl rfl (by simp [fourN] <;> omega)) rfl ?_
      refine t_v rfl (v_cat rfl rfl (by simp [fourN])) rfl ?_
      refine t_v rfl (v_cat rfl rfl (by simp [fourN]; omega)) rfl ?_
      refine t_v rfl (v_assign rfl) rfl ?_
      refine t_nil ?_
      refine g_ret1 rfl rfl ?_
      exact rfl
  · skip
    refine t_l rfl (l_buildSlice (bytesR ([UInt8.ofNat s.length, UInt8.ofNat (s.length / 256)])) Try.underlying128 Try.sizeOf5 Try.zeroValue5 rfl rfl (two_rows s.length) (by simp [bytesR]) (by decide) (by decide)) rfl ?_
    rintro _ _ ⟨b20, rfl, rfl⟩
    refine t_cls ([owL 5 1 (some ⟨b20, 0, none⟩) 2 (bytesR [UInt8.ofNat s.length, UInt8.ofNat (s.length / 256)])]) ?_
    refine t_v rfl (v_bytesStr (l := [UInt8.ofNat s.length, UInt8.ofNat (s.length / 256)]) Try.underlying128 Try.underlying5 Try.underlying9 rfl rfl rfl) rfl ?_
    refine t_alt ?_ ?_
    · skip
      refine t_l rfl (l_buildSlice (bytesR ([kind])) Try.underlying128 Try.sizeOf5 Try.zeroValue5 rfl rfl (rfl) (by simp [bytesR]) (by decide) (by decide)) rfl ?_
      rintro _ _ ⟨b8, rfl, rfl⟩
      refine t_cls ([owL 5 1 (some ⟨b8, 0, none⟩) 1 (bytesR [kind]), owL 5 1 (some ⟨b20, 0, none⟩) 2 (bytesR [UInt8.ofNat s.length, UInt8.ofNat (s.length / 256)])]) ?_
      refine t_v rfl (v_bytesStr (l := [kind]) Try.underlying128 Try.underlying5 Try.underlying9 rfl rfl rfl) rfl ?_
      refine t_l rfl (l_call (Pre := []) Try.call91 rfl (ct_log_four n)) rfl ?_
      rintro _ _ ⟨rfl, rfl⟩
      refine t_v rfl (v_cat rfl rfl (by simp [fourN] <;> omega)) rfl ?_
      refine t_v rfl (v_cat rfl rfl (by simp [fourN])) rfl ?_
      refine t_v rfl (v_cat rfl rfl (by simp [fourN]; omega)) rfl ?_
      refine t_v rfl (v_assign rfl) rfl ?_
      refine t_nil ?_
      refine g_ret1 rfl rfl ?_
      exact rfl
    · skip
      refine t_l rfl (l_call (Pre := []) Try.call91 rfl (ct_log_four n)) rfl ?_
      rintro _ _ ⟨rfl, rfl⟩
      refine t_l rfl (l_buildSlice (bytesR ([kind])) Try.underlying128 Try.sizeOf5 Try.zeroValue5 rfl rfl (rfl) (by simp [bytesR]) (by decide) (by decide)) rfl ?_
      rintro _ _ ⟨b8, rfl, rfl⟩
      refine t_cls ([owL 5 1 (some ⟨b8, 0, none⟩) 1 (bytesR [kind]), owL 5 1 (some ⟨b20, 0, none⟩) 2 (bytesR [UInt8.ofNat s.length, UInt8.ofNat (s.length / 256)])]) ?_
      refine t_v rfl (v_bytesStr (l := [kind]) Try.underlying128 Try.underlying5 Try.underlying9 rfl rfl rfl) rfl ?_
      refine t_v rfl (v_cat rfl rfl (by simp [fourN] <;> omega)) rfl ?_
      refine t_v rfl (v_cat rfl rfl (by simp [fourN])) rfl ?_
      refine t_v rfl (v_cat rfl rfl (by simp [fourN]; omega)) rfl ?_
      refine t_v rfl (v_assign rfl) rfl ?_
      refine t_nil ?_
      refine g_ret1 rfl rfl ?_
      exact rfl

theorem ct_log_Room (bl bd from_ many first next : Nat) (hb : next ≤ many ∧ many ≤ 1000000) (F : List HProp) : Ct Try.prog 66 [ptr bl 0] ([pt bl (.cells (lgC bd from_ many first (next)) 154 (0, 0))] ++ F) (R1 (I ((many - next : Nat) : Int)) (pt bl (.cells (lgC bd from_ many first (next)) 154 (0, 0)) :: F)) := by
  show Ct Try.prog 66 [ptr bl 0] (pt bl (.cells (lgC bd from_ many first (next)) 154 (0, 0)) :: F) _
  refine Ct.of Try.func66 rfl 12 Try.ntmps66 (by simp) fun w0 => ?_
  refine g_seq ?_
  refine g_reg ?_
  refine g_v (v_assign rfl) rfl ?_
  refine g_nil ?_
  refine g_seq ?_
  refine g_drawL [(0, false), (1, false), (2, false), (3, false), (4, false), (5, false), (6, false), (7, false), (8, false), (9, false)] (by kernel_rfl) (by kernel_rfl) rfl (by kernel_rfl) ?_
  refine d_v rfl (v_move rfl) rfl ?_
  refine d_v rfl (v_nilCheck rfl) rfl ?_
  refine d_v rfl (v_fieldAddr 2 Try.underlying154 rfl rfl Try.sizeOf3 (by decide) rfl) rfl ?_
  refine d_v rfl (v_load (v := I many) Try.isAgg3 rfl rfl) rfl ?_
  refine d_v rfl (v_move rfl) rfl ?_
  refine d_v rfl (v_nilCheck rfl) rfl ?_
  refine d_v rfl (v_fieldAddr 4 Try.underlying154 rfl rfl Try.sizeOf3 (by decide) rfl) rfl ?_
  refine d_v rfl (v_load (v := I next) Try.isAgg3 rfl rfl) rfl ?_
  refine d_v rfl (v_sub (r := ((many - next : Nat) : Int)) rfl rfl (by rw [show (many : Int) - (next : Int) = ((many - next : Nat) : Int) by omega]; exact w64 (by omega))) rfl ?_
  refine d_v rfl (v_assign rfl) rfl ?_
  refine d_nil ?_
  refine g_ret1 rfl rfl ?_
  exact rfl

theorem ct_log_Next (bl bd from_ many first next : Nat) (hb : many ≤ 1000000 ∧ first ≤ 1000000000000) (F : List HProp) : Ct Try.prog 57 [ptr bl 0] ([pt bl (.cells (lgC bd from_ many first (next)) 154 (0, 0))] ++ F) (R1 (I ((first + many : Nat) : Int)) (pt bl (.cells (lgC bd from_ many first (next)) 154 (0, 0)) :: F)) := by
  show Ct Try.prog 57 [ptr bl 0] (pt bl (.cells (lgC bd from_ many first (next)) 154 (0, 0)) :: F) _
  refine Ct.of Try.func57 rfl 12 Try.ntmps57 (by simp) fun w0 => ?_
  refine g_seq ?_
  refine g_reg ?_
  refine g_v (v_assign rfl) rfl ?_
  refine g_nil ?_
  refine g_seq ?_
  refine g_drawL [(0, false), (1, false), (2, false), (3, false), (4, false), (5, false), (6, false), (7, false), (8, false), (9, false)] (by kernel_rfl) (by kernel_rfl) rfl (by kernel_rfl) ?_
  refine d_v rfl (v_move rfl) rfl ?_
  refine d_v rfl (v_nilCheck rfl) rfl ?_
  refine d_v rfl (v_fieldAddr 3 Try.underlying154 rfl rfl Try.sizeOf3 (by decide) rfl) rfl ?_
  refine d_v rfl (v_load (v := I first) Try.isAgg3 rfl rfl) rfl ?_
  refine d_v rfl (v_move rfl) rfl ?_
  refine d_v rfl (v_nilCheck rfl) rfl ?_
  refine d_v rfl (v_fieldAddr 2 Try.underlying154 rfl rfl Try.sizeOf3 (by decide) rfl) rfl ?_
  refine d_v rfl (v_load (v := I many) Try.isAgg3 rfl rfl) rfl ?_
  refine d_v rfl (v_add (r := ((first + many : Nat) : Int)) rfl rfl (by rw [show (first : Int) + (many : Int) = ((first + many : Nat) : Int) by omega]; exact w64 (by omega))) rfl ?_
  refine d_v rfl (v_assign rfl) rfl ?_
  refine d_nil ?_
  refine g_ret1 rfl rfl ?_
  exact rfl

theorem ct_log_look (bl bd from_ many first next : Nat) (D : DiskM) (i : Nat) (hi : i < many) (hdn : D.down = false) (hS : ∀ x ∈ D.now, x.length = 80) (hfm : from_ + many ≤ D.now.length) (hbd : D.now.length ≤ 1000000 ∧ first ≤ 1000000000000) (F : List HProp) : Ct Try.prog 90 [ptr bl 0, I i] ([pt bl (.cells (lgC bd from_ many first (next)) 154 (0, 0)), dsk 117 135 bd (D)] ++ F) (R1 (lookV (lookB (first + i) (D.now.getD (from_ + i) []))) (pt bl (.cells (lgC bd from_ many first (next)) 154 (0, 0)) :: dsk 117 135 bd (D) :: F)) := by
  show Ct Try.prog 90 [ptr bl 0, I i] (pt bl (.cells (lgC bd from_ many first (next)) 154 (0, 0)) :: dsk 117 135 bd (D) :: F) _
  have hlt : from_ + i < D.now.length := by omega
  have hlen := getD_len hlt hS
  have hrd : readV D ((from_ : Int) + (i : Int)) = ((D.now.getD (from_ + i) []), 0) := readV_in hdn (by omega) (by rw [show ((from_ : Int) + (i : Int)).toNat = from_ + i by omega]; exact getD_at hlt)
  have hn5 := skN_lt (D.now.getD (from_ + i) [])
  generalize D.now.getD (from_ + i) [] = sec at *
  refine Ct.of Try.func90 rfl 64 Try.ntmps90 (by simp) fun w0 => ?_
  refine g_seq ?_
  refine g_reg ?_
  refine g_v (v_assign rfl) rfl ?_
  refine g_v (v_assign rfl) rfl ?_
  refine g_v (v_assign rfl) rfl ?_
  refine g_nil ?_
  refine g_seq ?_
  refine g_draw (Lf := [pt bl (.cells (lgC bd from_ many first (next)) 154 (0, 0))]) [(0, false), (1, false), (2, false), (3, false), (4, false), (5, false), (6, false), (7, false), (8, false), (9, false), (10, true), (11, false), (12, false), (13, false), (14, false), (15, false)] (by kernel_rfl) (by kernel_rfl) rfl (by kernel_rfl) ?_
  refine d_v rfl (v_move rfl) rfl ?_
  refine d_v rfl (v_nilCheck rfl) rfl ?_
  refine d_v rfl (v_fieldAddr 0 Try.underlying154 rfl rfl Try.sizeOf69 (by decide) rfl) rfl ?_
  refine d_v rfl (v_load (v := ptr bd 0) Try.isAgg69 rfl rfl) rfl ?_
  refine d_v rfl (v_move rfl) rfl ?_
  refine d_v rfl (v_nilCheck rfl) rfl ?_
  refine d_v rfl (v_fieldAddr 1 Try.underlying154 rfl rfl Try.sizeOf3 (by decide) rfl) rfl ?_
  refine d_v rfl (v_load (v := I from_) Try.isAgg3 rfl rfl) rfl ?_
  refine d_v rfl (v_move rfl) rfl ?_
  refine d_v rfl (v_add (r := (from_ : Int) + (i : Int)) rfl rfl (w64 (by omega))) rfl ?_
  refine d_l rfl (l_call (Pre := [dsk 117 135 bd (D)]) Try.call69 rfl (ct_disk_Read bd D ((from_ : Int) + (i : Int)))) rfl ?_
  rintro _ _ ⟨rfl, rfl⟩
  rw [hrd]
  refine d_v rfl (v_move rfl) rfl ?_
  refine d_v rfl (v_extract (v := Str sec) rfl rfl) rfl ?_
  refine d_v rfl (v_extract (v := errV 0) rfl rfl) rfl ?_
  refine d_v rfl (v_assign rfl) rfl ?_
  refine d_v rfl (v_assign rfl) rfl ?_
  refine d_nil ?_
  refine g_seq ?_
  refine g_seq ?_
  refine g_draw (Lf := [pt bl (.cells (lgC bd from_ many first (next)) 154 (0, 0))]) [(0, false), (1, false), (2, false), (3, false), (4, false), (5, false), (6, false), (7, false), (8, false), (9, false), (10, false), (11, true), (12, false), (13, false), (14, false), (15, false), (16, false), (17, false), (18, false), (19, false), (20, false), (21, false), (22, false), (23, false)] (by kernel_rfl) (by kernel_rfl) rfl (by kernel_rfl) ?_
  refine d_v rfl (v_move rfl) rfl ?_
  refine d_v rfl (v_ineq Try.underlying33 rfl) rfl ?_
  refine d_v rfl (v_move rfl) rfl ?_
  refine d_gv1 rfl rfl rfl (by simp) (v_move rfl) rfl ?_
  refine d_gv1 rfl rfl rfl (by simp) (v_strBoth (l := 1) (h := 5) Try.underlying9 rfl rfl rfl rfl rfl (by decide) (by omega)) rfl ?_
  refine d_gv1 rfl rfl rfl (by simp) (v_move rfl) rfl ?_
  refine d_gv1 rfl rfl rfl (by simp) (v_nilCheck rfl) rfl ?_
  refine d_gv1 rfl rfl rfl (by simp) (v_fieldAddr 3 Try.underlying154 rfl rfl Try.sizeOf3 (by decide) rfl) rfl ?_
  refine d_gv1 rfl rfl rfl (by simp) (v_load (v := I first) Try.isAgg3 rfl rfl) rfl ?_
  refine d_gv1 rfl rfl rfl (by simp) (v_move rfl) rfl ?_
  refine d_gv1 rfl rfl rfl (by simp) (v_add (r := ((first + i : Nat) : Int)) rfl rfl (by rw [show (first : Int) + (i : Int) = ((first + i : Nat) : Int) by omega]; exact w64 (by omega))) rfl ?_
  refine d_gl rfl rfl rfl (by simp) (l_call (Pre := []) Try.call91 rfl (ct_log_four (first + i))) rfl ?_
  rintro _ _ ⟨rfl, rfl⟩
  refine d_gv1 rfl rfl rfl (by simp) (v_sneq rfl rfl) rfl ?_
  refine d_v rfl (v_or rfl rfl) rfl ?_
  refine d_v rfl (v_move rfl) rfl ?_
  by_cases hnum : (sec.take 5).drop 1 = fourN (first + i)
  · have hq := decide_eq_true hnum
    refine d_gv1 rfl rfl rfl (by rw [hq]; rfl) (v_move rfl) rfl ?_
    refine d_gv1 rfl rfl rfl (by rw [hq]; rfl) (v_indexStr (r := sk sec 0) 0 Try.underlying9 rfl rfl rfl (sk_at (by omega))) rfl ?_
    refine d_gv1 rfl rfl rfl (by rw [hq]; rfl) (v_neq rfl rfl) rfl ?_
    refine d_gv1 rfl rfl rfl (by rw [hq]; rfl) (v_move rfl) rfl ?_
    refine d_gv rfl rfl rfl (fun hg => v_move rfl) rfl rfl ?_
    refine d_gv rfl rfl rfl (fun hg => v_indexStr (r := sk sec 0) 0 Try.underlying9 rfl rfl rfl (sk_at (by omega))) rfl rfl ?_
    refine d_gv rfl rfl rfl (fun hg => v_neq rfl rfl) rfl rfl ?_
    refine d_gv1 rfl rfl rfl (by rw [hq]; rfl) (v_and rfl rfl) rfl ?_
    refine d_v rfl (v_or rfl rfl) rfl ?_
    refine d_nil ?_
    refine g_cond rfl (fun h47 => ?_) (fun h47 => ?_)
    · rw [hq] at h47
      simp at h47
      have hkk : ¬ (sk sec 0 = 111 ∨ sk sec 0 = 99) := fun h => by rcases h with h | h <;> rw [h] at h47 <;> simp at h47
      refine g_seq ?_
      refine g_reg ?_
      refine g_v (v_assign rfl) rfl ?_
      refine g_v (v_assign rfl) rfl ?_
      refine g_v (v_assign rfl) rfl ?_
      refine g_nil ?_
      rw [show lookB (first + i) sec = none by unfold lookB; rw [if_neg (fun h => hkk h.2.1)]]
      exact g_ret1 rfl rfl rfl
    · rw [hq] at h47
      simp at h47
      have hkk : sk sec 0 = 111 ∨ sk sec 0 = 99 := by
        by_cases h1 : sk sec 0 = 111
        · exact .inl h1
        · right
          have h2 := h47 (fun h => h1 ((sk_eq _ _ 111).1 h))
          exact (sk_eq _ _ 99).1 h2
      refine g_skip ?_
      refine g_seq ?_
      refine g_drawL [(0, false), (1, false), (2, false), (3, false), (4, false), (5, false), (6, false), (7, false), (8, false)] (by kernel_rfl) (by kernel_rfl) rfl (by kernel_rfl) ?_
      refine d_v rfl (v_move rfl) rfl ?_
      refine d_v rfl (v_indexStr (r := sk sec 5) 5 Try.underlying9 rfl rfl rfl (sk_at (by omega))) rfl ?_
      refine d_v rfl (v_conv (r := ((sk sec 5).toNat : Int)) Try.underlying5 Try.underlying3 rfl (w64 (by have := (sk sec 5).toNat_lt; omega))) rfl ?_
      refine d_v rfl (v_move rfl) rfl ?_
      refine d_v rfl (v_indexStr (r := sk sec 6) 6 Try.underlying9 rfl rfl rfl (sk_at (by omega))) rfl ?_
      refine d_v rfl (v_conv (r := ((sk sec 6).toNat : Int)) Try.underlying5 Try.underlying3 rfl (w64 (by have := (sk sec 6).toNat_lt; omega))) rfl ?_
      refine d_v rfl (v_mul rfl rfl (w64 (by have := (sk sec 6).toNat_lt; omega))) rfl ?_
      refine d_v rfl (v_add (r := ((skN sec : Nat) : Int)) rfl rfl (by rw [show ((sk sec 5).toNat : Int) + 256 * ((sk sec 6).toNat : Int) = ((skN sec : Nat) : Int) by unfold skN; omega]; exact w64 (by omega))) rfl ?_
      refine d_v rfl (v_assign rfl) rfl ?_
      refine d_nil ?_
      refine g_seq ?_
      refine g_seq ?_
      refine g_reg ?_
      refine g_v (v_move rfl) rfl ?_
      refine g_v (v_gtr rfl rfl) rfl ?_
      refine g_nil ?_
      refine g_cond rfl (fun h57 => ?_) (fun h57 => ?_)
      · simp at h57
        refine g_seq ?_
        refine g_reg ?_
        refine g_v (v_assign rfl) rfl ?_
        refine g_v (v_assign rfl) rfl ?_
        refine g_v (v_assign rfl) rfl ?_
        refine g_nil ?_
        rw [show lookB (first + i) sec = none by unfold lookB; rw [if_neg (fun h => by have := h.2.2; omega)]]
        exact g_ret1 rfl rfl rfl
      · simp at h57
        refine g_skip ?_
        refine g_seq ?_
        refine g_drawL [(0, false), (1, false), (2, false), (3, false), (4, false), (5, false), (6, false), (7, false), (8, false)] (by kernel_rfl) (by kernel_rfl) rfl (by kernel_rfl) ?_
        refine d_v rfl (v_move rfl) rfl ?_
        refine d_v rfl (v_indexStr (r := sk sec 0) 0 Try.underlying9 rfl rfl rfl (sk_at (by omega))) rfl ?_
        refine d_v rfl (v_move rfl) rfl ?_
        refine d_v rfl (v_move rfl) rfl ?_
        refine d_v rfl (v_add (r := ((7 + skN sec : Nat) : Int)) rfl rfl (by rw [show (7 : Int) + ((skN sec : Nat) : Int) = ((7 + skN sec : Nat) : Int) by omega]; exact w64 (by omega))) rfl ?_
        refine d_v rfl (v_strBoth (l := 7) (h := 7 + skN sec) Try.underlying9 rfl rfl rfl rfl rfl (by omega) (by omega)) rfl ?_
        refine d_v rfl (v_assign rfl) rfl ?_
        refine d_v rfl (v_assign rfl) rfl ?_
        refine d_v rfl (v_assign rfl) rfl ?_
        refine d_nil ?_
        rw [show lookB (first + i) sec = some (sk sec 0, (sec.take (7 + skN sec)).drop 7) by unfold lookB; rw [if_pos ⟨hnum, hkk, by omega⟩]]
        exact g_ret1 rfl rfl rfl
  · have hq := decide_eq_false hnum
    refine d_no rfl rfl rfl (by rw [hq]; rfl) rfl ?_
    refine d_no rfl rfl rfl (by rw [hq]; rfl) rfl ?_
    refine d_no rfl rfl rfl (by rw [hq]; rfl) rfl ?_
    refine d_no rfl rfl rfl (by rw [hq]; rfl) rfl ?_
    refine d_no rfl rfl rfl rfl rfl ?_
    refine d_no rfl rfl rfl rfl rfl ?_
    refine d_no rfl rfl rfl rfl rfl ?_
    refine d_no rfl rfl rfl (by rw [hq]; rfl) rfl ?_
    refine d_v rfl (v_pk1 rfl (by rw [hq]; rfl) rfl) rfl ?_
    refine d_nil ?_
    refine g_true rfl ?_
    refine g_seq ?_
    refine g_reg ?_
    refine g_v (v_assign rfl) rfl ?_
    refine g_v (v_assign rfl) rfl ?_
    refine g_v (v_assign rfl) rfl ?_
    refine g_nil ?_
    rw [show lookB (first + i) sec = none by unfold lookB; rw [if_neg (fun h => hnum h.1)]]
    exact g_ret1 rfl rfl rfl

end Go.Proofs.Ythdjckbjjfiopac
