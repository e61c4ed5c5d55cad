/- Walks through package store: opening. No condition. -/
import Derived.Test.YthdjckbjjfiopacStP
namespace Go.Proofs.Ythdjckbjjfiopac
open Go Go.Sl Go.Proofs
set_option linter.unusedVariables false
set_option linter.unusedSimpArgs false
abbrev stV (bd : Nat) (h : HdM) (lv : Value) (s : Option Addr) (n cap : Nat) : Array Value := #[ptr bd 0, I h.ep, I h.side, I h.size, I h.first, lv, sl s n cap]
def txK (L : List Bytes) (side k : Nat) : Bytes := ((L.drop (2 + side * 60)).take k).flatten
theorem txK_s {L : List Bytes} {side k : Nat} (h : 2 + side * 60 + k < L.length) : txK L side k ++ L.getD (2 + side * 60 + k) [] = txK L side (k + 1) := by
  unfold txK
  have h1 : (L.drop (2 + side * 60))[k]? = some (L.getD (2 + side * 60 + k) []) := by rw [List.getElem?_drop, getD_at h]
  rw [take_at h1, List.flatten_append]
  simp
theorem txK_len {L : List Bytes} {side : Nat} (hS : ∀ x ∈ L, x.length = 80) : ∀ k, 2 + side * 60 + k ≤ L.length → (txK L side k).length = 80 * k
  | 0, _ => rfl
  | k + 1, h => by
    rw [← txK_s (by omega), List.length_append, txK_len hS k (by omega), getD_len (by omega) hS]
    omega
theorem srt_fold : ∀ (ds : Deeds) {r : List ChangeM}, srt r → srt (ds.foldl apsS r)
  | [], r, h => h
  | d :: ds, r, h => srt_fold ds (srt_aps h d).1
abbrev curK (r0 : List ChangeM) (gl : LogG) (k : Nat) : List ChangeM := ((gl.map (·.1)).take k).foldl apsS r0
theorem curK_s {r0 : List ChangeM} {gl : LogG} {k : Nat} {x : List ChangeM × LocA} (h : gl[k]? = some x) : apsS (curK r0 gl k) x.1 = curK r0 gl (k + 1) := by
  unfold curK
  rw [take_at (a := x.1) (by simp [h]), List.foldl_append]
  rfl

theorem ct_store_Open (bd N : Nat) (D : DiskM) (hN : D.now.length = N) (hNb : N ≤ 260) (hS : ∀ x ∈ D.now, x.length = 80) (hx : HdM) (r0 : List ChangeM) (ds : Deeds) (used : Nat) (hg : D.down = false → 196 ≤ N → (bestH D.now).ep ≠ 0 → Good D.now hx r0 ds used) (F : List HProp) : Ct Try.prog 37 [ptr bd 0] ([dsk 117 135 bd (D)] ++ F) (fun v L' => (D.down = true ∧ v = .tuple #[.pointer none, errV 9] ∧ L' = dsk 117 135 bd (D) :: F) ∨ (D.down = false ∧ N < 196 ∧ v = .tuple #[.pointer none, errV 4] ∧ L' = dsk 117 135 bd (D) :: F) ∨ (D.down = false ∧ 196 ≤ N ∧ (bestH D.now).ep = 0 ∧ v = .tuple #[.pointer none, errV 4] ∧ L' = dsk 117 135 bd (D) :: F) ∨ (D.down = false ∧ 196 ≤ N ∧ (bestH D.now).ep ≠ 0 ∧ ∃ bs bl s cap, v = .tuple #[ptr bs 0, errV 0] ∧ L' = pt bs (.cells (stC bd hx bl s (cur r0 ds).length cap) 123 (0, 0)) :: pt bl (.cells (lgC bd 122 (N - 122) hx.first used) 154 (0, 0)) :: dsk 117 135 bd (D) :: roL 3 s (chR (cur r0 ds)) :: F)) := by
  show Ct Try.prog 37 [ptr bd 0] (dsk 117 135 bd (D) :: F) _
  refine Ct.of Try.func37 rfl 144 Try.ntmps37 (by simp) fun w0 => ?_
  refine g_seq ?_
  refine g_reg ?_
  refine g_v (v_assign rfl) rfl ?_
  refine g_v (v_assign rfl) rfl ?_
  refine g_nil ?_
  refine g_seq ?_
  refine g_seq ?_
  refine g_reg ?_
  refine g_v (v_move rfl) rfl ?_
  refine g_l (l_call (Pre := [dsk 117 135 bd (D)]) Try.call68 rfl (ct_disk_Down bd D)) rfl ?_
  rintro _ _ ⟨rfl, rfl⟩
  refine g_nil ?_
  refine g_cond rfl (fun h21 => ?_) (fun h21 => ?_)
  · skip
    refine g_seq ?_
    refine g_reg ?_
    refine g_v (v_iface Try.underlying94 rfl rfl) rfl ?_
    refine g_v (v_assign rfl) rfl ?_
    refine g_v (v_assign rfl) rfl ?_
    refine g_nil ?_
    exact g_retAny (dsk 117 135 bd (D) :: F) rfl (.inl ⟨h21, rfl, rfl⟩)
  · have h21' : D.down = false := by simpa using h21
    refine g_skip ?_
    refine g_seq ?_
    refine g_seq ?_
    refine g_reg ?_
    refine g_v (v_move rfl) rfl ?_
    refine g_l (l_call (Pre := [dsk 117 135 bd (D)]) (R := fun F => R1 (I ((D).now.length : Int)) (dsk 117 135 bd (D) :: F)) Try.call63 rfl (ct_disk_Sectors bd D)) rfl ?_
    rintro _ _ ⟨rfl, rfl⟩
    refine g_v (v_lss rfl rfl) rfl ?_
    refine g_nil ?_
    refine g_cond rfl (fun h25 => ?_) (fun h25 => ?_)
    · simp at h25
      have h25' : N < 196 := by omega
      refine g_seq ?_
      refine g_reg ?_
      refine g_v (v_iface Try.underlying94 rfl rfl) rfl ?_
      refine g_v (v_assign rfl) rfl ?_
      refine g_v (v_assign rfl) rfl ?_
      refine g_nil ?_
      exact g_retAny (dsk 117 135 bd (D) :: F) rfl (.inr (.inl ⟨h21', h25', rfl, rfl⟩))
    · simp at h25
      have h25' : 196 ≤ N := by omega
      refine g_skip ?_
      refine g_seq ?_
      refine g_reg ?_
      refine g_v (v_move rfl) rfl ?_
      refine g_v (v_build rfl (bld123_0 _ rfl)) rfl ?_
      refine g_l (l_box (stV bd (hdK D.now 0) (.pointer none) none 0 0) rfl rfl) rfl ?_
      rintro _ _ ⟨b29, rfl, rfl⟩
      refine g_v (v_assign rfl) rfl ?_
      refine g_nil ?_
      refine g_seq ?_
      refine g_seq ?_
      refine g_reg ?_
      refine g_v (v_move rfl) rfl ?_
      refine g_nil ?_
      refine g_block ?_
      refine g_loop (α := Nat) (fun k => k ≤ 2) (fun k => U [(0, ptr bd 0), (4, ptr b29 0), (30, I (k : Int))]) (fun k => pt b29 (.cells (stV bd (hdK D.now k) ((.pointer none)) none (0) 0) 123 (0, 0)) :: dsk 117 135 bd (D) :: F) (fun k => 2 - k) 0 (by decide) [0, 4, 30] rfl rfl ?_
      intro k hk
      refine g_seq ?_
      refine g_reg ?_
      refine g_v (v_lss rfl rfl) rfl ?_
      refine g_nil ?_
      refine g_seq ?_
      refine g_cond rfl (fun h31 => ?_) (fun h31 => ?_)
      · simp at h31
        have hk2 : k < 2 := by omega
        refine g_skip ?_
        refine g_seq ?_
        refine g_block ?_
        refine g_seq ?_
        refine g_reg ?_
        refine g_v (v_move rfl) rfl ?_
        refine g_v (v_assign rfl) rfl ?_
        refine g_nil ?_
        refine g_seq ?_
        refine g_reg ?_
        refine g_v (v_move rfl) rfl ?_
        refine g_v (v_move rfl) rfl ?_
        refine g_l (l_call (Pre := [dsk 117 135 bd (D)]) Try.call69 rfl (ct_disk_Read bd D ((k : Nat) : Int))) rfl ?_
        rintro _ _ ⟨rfl, rfl⟩
        rw [show readV D ((k : Nat) : Int) = (D.now.getD (k) [], 0) from readV_in h21' (by omega) (by rw [Int.toNat_natCast]; exact getD_at (by omega))]
        refine g_v (v_move rfl) rfl ?_
        refine g_v (v_extract (v := Str (D.now.getD k [])) rfl rfl) rfl ?_
        refine g_v (v_extract (v := errV 0) rfl rfl) rfl ?_
        refine g_v (v_assign rfl) rfl ?_
        refine g_v (v_assign rfl) rfl ?_
        refine g_nil ?_
        refine g_seq ?_
        refine g_seq ?_
        refine g_reg ?_
        refine g_v (v_move rfl) rfl ?_
        refine g_v (v_ineq Try.underlying33 rfl) rfl ?_
        refine g_nil ?_
        refine g_cond rfl (fun h40 => ?_) (fun h40 => ?_)
        · simp at h40
        · skip
          refine g_skip ?_
          refine g_seq ?_
          refine g_reg ?_
          refine g_v (v_move rfl) rfl ?_
          refine g_l (l_call (Pre := []) Try.call70 rfl (ct_store_headOf (D.now.getD k []) (getD_len (by omega) hS))) rfl ?_
          rintro _ _ ⟨rfl, rfl⟩
          refine g_l (l_alloc #[I 0, I 0, I 0, I 0] Try.zeroValue120) rfl ?_
          rintro _ _ ⟨b8, rfl, rfl⟩
          refine g_l0 (l_storeA (cs := #[I 0, I 0, I 0, I 0]) (vs := encH (headO (D.now.getD k []))) (encH (headO (D.now.getD k []))).toArray Try.sizeOf120 rfl rfl rfl rfl (by decide) (splice_all (encH_len _))) ?_
          rintro _ _ rfl
          refine g_nil ?_
          refine g_seq ?_
          refine g_drawL [(0, false), (1, false), (2, false), (3, false), (4, false), (5, false), (6, false), (7, false)] (by kernel_rfl) (by kernel_rfl) rfl (by kernel_rfl) ?_
          refine d_v rfl (v_fieldAddr 0 Try.underlying120 rfl rfl Try.sizeOf3 (by decide) rfl) rfl ?_
          refine d_v rfl (v_load (v := I (headO (D.now.getD k [])).ep) Try.isAgg3 rfl rfl) rfl ?_
          refine d_v rfl (v_move rfl) rfl ?_
          refine d_v rfl (v_nilCheck rfl) rfl ?_
          refine d_v rfl (v_fieldAddr 1 Try.underlying123 rfl rfl Try.sizeOf120 (by decide) rfl) rfl ?_
          refine d_v rfl (v_fieldAddr 0 Try.underlying120 rfl rfl Try.sizeOf3 (by decide) rfl) rfl ?_
          refine d_v rfl (v_load (v := I (hdK D.now k).ep) Try.isAgg3 rfl rfl) rfl ?_
          refine d_v rfl (v_gtr rfl rfl) rfl ?_
          refine d_nil ?_
          refine g_cond rfl (fun h51 => ?_) (fun h51 => ?_)
          · have hgt : (hdK D.now k).ep < (headO (D.now.getD k [])).ep := by have := of_decide_eq_true h51; omega
            refine g_reg ?_
            refine g_v (v_move rfl) rfl ?_
            refine g_v (v_loadA (vs := encH (headO (D.now.getD k []))) Try.isAgg120 Try.sizeOf120 rfl rfl arr_ld) rfl ?_
            refine g_v (v_nilCheck rfl) rfl ?_
            refine g_v (v_fieldAddr 1 Try.underlying123 rfl rfl Try.sizeOf120 (by decide) rfl) rfl ?_
            refine g_l0 (l_storeA (cs := stV bd (hdK D.now k) (.pointer none) none 0 0) (vs := encH (headO (D.now.getD k []))) (stV bd (headO (D.now.getD k [])) (.pointer none) none 0 0) Try.sizeOf120 rfl rfl rfl rfl (by simp) rfl) ?_
            rintro _ _ rfl
            refine g_nil ?_
            refine g_blk ?_
            refine g_reg ?_
            refine g_v (v_add (r := ((k + 1 : Nat) : Int)) rfl rfl (by rw [show (((k : Nat) : Int) : Int) + (1 : Int) = ((k + 1 : Nat) : Int) by omega]; exact w64 (by omega))) rfl ?_
            refine g_v (v_move rfl) rfl ?_
            refine g_nil ?_
            rw [show headO (D.now.getD k []) = hdK D.now (k + 1) by rw [hdK, if_pos hgt]]
            exact g_again (k + 1) (by omega) (by omega) [0, 4, 30] rfl rfl
          · have hgt : ¬ (hdK D.now k).ep < (headO (D.now.getD k [])).ep := by have := of_decide_eq_false h51; omega
            refine g_skip ?_
            refine g_blk ?_
            refine g_reg ?_
            refine g_v (v_add (r := ((k + 1 : Nat) : Int)) rfl rfl (by rw [show (((k : Nat) : Int) : Int) + (1 : Int) = ((k + 1 : Nat) : Int) by omega]; exact w64 (by omega))) rfl ?_
            refine g_v (v_move rfl) rfl ?_
            refine g_nil ?_
            rw [show hdK D.now k = hdK D.now (k + 1) by rw [hdK, if_neg hgt]]
            exact g_again (k + 1) (by omega) (by omega) [0, 4, 30] rfl rfl
      · simp at h31
        obtain rfl : k = 2 := by omega
        refine g_exit rfl ?_
        refine g_seq ?_
        refine g_seq ?_
        refine g_reg ?_
        refine g_v (v_move rfl) rfl ?_
        refine g_v (v_nilCheck rfl) rfl ?_
        refine g_v (v_fieldAddr 1 Try.underlying123 rfl rfl Try.sizeOf120 (by decide) rfl) rfl ?_
        refine g_v (v_fieldAddr 0 Try.underlying120 rfl rfl Try.sizeOf3 (by decide) rfl) rfl ?_
        refine g_v (v_load (v := I (hdK D.now 2).ep) Try.isAgg3 rfl rfl) rfl ?_
        refine g_v (v_eql rfl rfl) rfl ?_
        refine g_nil ?_
        refine g_cond rfl (fun h62 => ?_) (fun h62 => ?_)
        · simp at h62
          have he0 : (bestH D.now).ep = 0 := by show (hdK D.now 2).ep = 0; omega
          refine g_seq ?_
          refine g_reg ?_
          refine g_v (v_iface Try.underlying94 rfl rfl) rfl ?_
          refine g_v (v_assign rfl) rfl ?_
          refine g_v (v_assign rfl) rfl ?_
          refine g_nil ?_
          exact g_retAny (dsk 117 135 bd (D) :: F) rfl (.inr (.inr (.inl ⟨h21', h25', he0, rfl, rfl⟩)))
        · simp at h62
          have he0 : (bestH D.now).ep ≠ 0 := by show (hdK D.now 2).ep ≠ 0; omega
          have hgd := hg h21' h25' he0
          rw [show hdK D.now 2 = hx from hgd.best]
          refine g_skip ?_
          refine g_seq ?_
          refine g_reg ?_
          refine g_v (v_assign rfl) rfl ?_
          refine g_nil ?_
          refine g_seq ?_
          refine g_seq ?_
          refine g_reg ?_
          refine g_v (v_move rfl) rfl ?_
          refine g_nil ?_
          refine g_block ?_
          refine g_loop (α := Nat) (fun k => k ≤ 60) (fun k => U [(0, ptr bd 0), (4, ptr b29 0), (9, Str (txK D.now hx.side k)), (64, I (k : Int))]) (fun k => pt b29 (.cells (stV bd (hx) ((.pointer none)) none (0) 0) 123 (0, 0)) :: dsk 117 135 bd (D) :: F) (fun k => 60 - k) 0 (by decide) [0, 4, 9, 64] rfl rfl ?_
          intro k hk
          have hside := hgd.side
          have htl := txK_len (side := hx.side) hS k (by omega)
          refine g_seq ?_
          refine g_reg ?_
          refine g_v (v_lss rfl rfl) rfl ?_
          refine g_nil ?_
          refine g_seq ?_
          refine g_cond rfl (fun h65 => ?_) (fun h65 => ?_)
          · simp at h65
            have hk60 : k < 60 := by omega
            have hsl : (D.now.getD (2 + hx.side * 60 + k) []).length = 80 := getD_len (by omega) hS
            refine g_skip ?_
            refine g_seq ?_
            refine g_block ?_
            refine g_seq ?_
            refine g_reg ?_
            refine g_v (v_move rfl) rfl ?_
            refine g_v (v_assign rfl) rfl ?_
            refine g_nil ?_
            refine g_seq ?_
            refine g_reg ?_
            refine g_v (v_move rfl) rfl ?_
            refine g_v (v_move rfl) rfl ?_
            refine g_v (v_nilCheck rfl) rfl ?_
            refine g_v (v_fieldAddr 1 Try.underlying123 rfl rfl Try.sizeOf120 (by decide) rfl) rfl ?_
            refine g_v (v_fieldAddr 1 Try.underlying120 rfl rfl Try.sizeOf3 (by decide) rfl) rfl ?_
            refine g_v (v_load (v := I hx.side) Try.isAgg3 rfl rfl) rfl ?_
            refine g_v (v_mul (r := ((hx.side * 60 : Nat) : Int)) rfl rfl (by rw [show (hx.side : Int) * (60 : Int) = ((hx.side * 60 : Nat) : Int) by omega]; exact w64 (by omega))) rfl ?_
            refine g_v (v_add (r := ((2 + hx.side * 60 : Nat) : Int)) rfl rfl (by rw [show (2 : Int) + (((hx.side * 60 : Nat) : Int) : Int) = ((2 + hx.side * 60 : Nat) : Int) by omega]; exact w64 (by omega))) rfl ?_
            refine g_v (v_move rfl) rfl ?_
            refine g_v (v_add (r := ((2 + hx.side * 60 + k : Nat) : Int)) rfl rfl (by rw [show (((2 + hx.side * 60 : Nat) : Int) : Int) + (((k : Nat) : Int) : Int) = ((2 + hx.side * 60 + k : Nat) : Int) by omega]; exact w64 (by omega))) rfl ?_
            refine g_l (l_call (Pre := [dsk 117 135 bd (D)]) Try.call69 rfl (ct_disk_Read bd D (((2 + hx.side * 60 + k) : Nat) : Int))) rfl ?_
            rintro _ _ ⟨rfl, rfl⟩
            rw [show readV D ((2 + hx.side * 60 + k : Nat) : Int) = (D.now.getD (2 + hx.side * 60 + k) [], 0) from readV_in h21' (by omega) (by rw [Int.toNat_natCast]; exact getD_at (by omega))]
            refine g_v (v_move rfl) rfl ?_
            refine g_v (v_extract (v := Str (D.now.getD (2 + hx.side * 60 + k) [])) rfl rfl) rfl ?_
            refine g_v (v_extract (v := errV 0) rfl rfl) rfl ?_
            refine g_v (v_assign rfl) rfl ?_
            refine g_v (v_assign rfl) rfl ?_
            refine g_nil ?_
            refine g_seq ?_
            refine g_seq ?_
            refine g_reg ?_
            refine g_v (v_move rfl) rfl ?_
            refine g_v (v_ineq Try.underlying33 rfl) rfl ?_
            refine g_nil ?_
            refine g_cond rfl (fun h82 => ?_) (fun h82 => ?_)
            · simp at h82
            · skip
              refine g_skip ?_
              refine g_reg ?_
              refine g_v (v_move rfl) rfl ?_
              refine g_v (v_move rfl) rfl ?_
              refine g_v (v_cat rfl rfl (by rw [htl, hsl]; omega)) rfl ?_
              refine g_v (v_assign rfl) rfl ?_
              refine g_nil ?_
              refine g_blk ?_
              refine g_reg ?_
              refine g_v (v_add (r := ((k + 1 : Nat) : Int)) rfl rfl (by rw [show (((k : Nat) : Int) : Int) + (1 : Int) = ((k + 1 : Nat) : Int) by omega]; exact w64 (by omega))) rfl ?_
              refine g_v (v_move rfl) rfl ?_
              refine g_nil ?_
              rw [txK_s (by omega)]
              exact g_again (k + 1) (by omega) (by omega) [0, 4, 9, 64] rfl rfl
          · simp at h65
            obtain rfl : k = 60 := by omega
            have hsz : hx.size ≤ (txK D.now hx.side 60).length := by
              have h1 := hgd.size
              have h2 := allB_len hgd.hok
              have h3 := hgd.len
              omega
            refine g_exit rfl ?_
            refine g_seq ?_
            refine g_reg ?_
            refine g_v (v_move rfl) rfl ?_
            refine g_v (v_move rfl) rfl ?_
            refine g_v (v_nilCheck rfl) rfl ?_
            refine g_v (v_fieldAddr 1 Try.underlying123 rfl rfl Try.sizeOf120 (by decide) rfl) rfl ?_
            refine g_v (v_fieldAddr 2 Try.underlying120 rfl rfl Try.sizeOf3 (by decide) rfl) rfl ?_
            refine g_v (v_load (v := I hx.size) Try.isAgg3 rfl rfl) rfl ?_
            refine g_v (v_strHi (h := hx.size) Try.underlying9 rfl rfl rfl hsz) rfl ?_
            rw [show (txK D.now hx.side 60).take hx.size = allB r0 from hgd.text]
            refine g_l (l_call (Pre := []) Try.call71 rfl (ct_store_parse r0 (by have := hgd.len; omega) hgd.hsrt hgd.hok)) rfl ?_
            rintro _ _ ⟨s96, c96, rfl, rfl⟩
            refine g_v (v_move rfl) rfl ?_
            refine g_v (v_extract (v := sl s96 r0.length c96) rfl rfl) rfl ?_
            refine g_v (v_extract (v := Bo true) rfl rfl) rfl ?_
            refine g_v (v_assign rfl) rfl ?_
            refine g_v (v_assign rfl) rfl ?_
            refine g_nil ?_
            refine g_seq ?_
            refine g_seq ?_
            refine g_reg ?_
            refine g_v (v_move rfl) rfl ?_
            refine g_v (v_not rfl) rfl ?_
            refine g_nil ?_
            refine g_cond rfl (fun h100 => ?_) (fun h100 => ?_)
            · simp at h100
            · skip
              refine g_skip ?_
              refine g_seq ?_
              refine g_draw (Lf := [pt b29 (.cells (stV bd hx (.pointer none) none 0 0) 123 (0, 0))]) [(0, false), (1, false), (4, false), (5, false), (6, false), (7, false), (8, false), (2, true), (3, false), (9, true), (10, false), (11, false), (12, false), (13, false), (14, false), (15, false), (16, false)] (by kernel_rfl) (by kernel_rfl) rfl (by kernel_rfl) ?_
              refine d_v rfl (v_move rfl) rfl ?_
              refine d_v rfl (v_move rfl) rfl ?_
              refine d_v rfl (v_move rfl) rfl ?_
              refine d_v rfl (v_nilCheck rfl) rfl ?_
              refine d_v rfl (v_fieldAddr 1 Try.underlying123 rfl rfl Try.sizeOf120 (by decide) rfl) rfl ?_
              refine d_v rfl (v_fieldAddr 3 Try.underlying120 rfl rfl Try.sizeOf3 (by decide) rfl) rfl ?_
              refine d_v rfl (v_load (v := I hx.first) Try.isAgg3 rfl rfl) rfl ?_
              refine d_l rfl (l_call (Pre := [dsk 117 135 bd (D)]) (R := fun F => R1 (I ((D).now.length : Int)) (dsk 117 135 bd (D) :: F)) Try.call63 rfl (ct_disk_Sectors bd D)) rfl ?_
              rintro _ _ ⟨rfl, rfl⟩
              refine d_v rfl (v_sub (r := ((N - 122 : Nat) : Int)) rfl rfl (by rw [hN, show (N : Int) - 122 = ((N - 122 : Nat) : Int) by omega]; exact w64 (by omega))) rfl ?_
              refine d_l rfl (l_call (Pre := [dsk 117 135 bd (D)]) Try.call62 rfl (ct_log_Open bd D 122 ((N - 122 : Nat) : Int) hx.first hS ⟨by omega, by have := hgd.first; omega⟩)) rfl ?_
              rintro _ _ (⟨hbad, _, _⟩ | ⟨_, hdn, _, _⟩ | ⟨_, _, bl, gl, so, co, used', rfl, hul, hgll, hsc, rfl⟩)
              · exfalso; unfold badO at hbad; have := hgd.first; omega
              · rw [h21'] at hdn; cases hdn
              rw [show lgC bd ((122 : Int)).toNat ((N - 122 : Nat) : Int).toNat (hx.first : Int).toNat used' = lgC bd 122 (N - 122) hx.first used' from rfl]
              replace hgll : gl.length ≤ N - 122 := hgll
              replace hsc : scanF hx.first (secD D 122) (N - 122) 0 [] [] 0 = (gl.map (·.1), used') := hsc
              have hlg := hgd.log
              rw [hN] at hlg
              have hlg2 : scanF hx.first (secD D 122) (N - 122) 0 [] [] 0 = (ds, used) := hlg
              rw [hsc] at hlg2
              injection hlg2 with hq1 hq2
              obtain rfl : used = used' := hq2.symm
              have hfit := hgd.fits
              rw [← hq1] at hfit
              have hlen72 : ∀ y ∈ gl, y.1.length ≤ 72 := fun y hy => hgd.lens _ (by rw [← hq1]; exact List.mem_map_of_mem hy)
              refine d_v rfl (v_move rfl) rfl ?_
              refine d_v rfl (v_extract (v := ptr bl 0) rfl rfl) rfl ?_
              refine d_v rfl (v_extract (v := sl so gl.length co) rfl rfl) rfl ?_
              refine d_v rfl (v_extract (v := errV 0) rfl rfl) rfl ?_
              refine d_v rfl (v_assign rfl) rfl ?_
              refine d_v rfl (v_assign rfl) rfl ?_
              refine d_v rfl (v_assign rfl) rfl ?_
              refine d_nil ?_
              refine g_seq ?_
              refine g_seq ?_
              refine g_reg ?_
              refine g_v (v_move rfl) rfl ?_
              refine g_v (v_ineq Try.underlying33 rfl) rfl ?_
              refine g_nil ?_
              refine g_cond rfl (fun h117 => ?_) (fun h117 => ?_)
              · simp at h117
              · skip
                refine g_skip ?_
                refine g_seq ?_
                refine g_reg ?_
                refine g_v (v_move rfl) rfl ?_
                refine g_v (v_move rfl) rfl ?_
                refine g_v (v_move rfl) rfl ?_
                refine g_v (v_move rfl) rfl ?_
                refine g_v (v_nilCheck rfl) rfl ?_
                refine g_v (v_fieldAddr 5 Try.underlying123 rfl rfl Try.sizeOf121 (by decide) rfl) rfl ?_
                refine g_l0 (l_store (stV bd hx (ptr bl 0) none 0 0) Try.sizeOf121 rfl rfl rfl (by simp) rfl) ?_
                rintro _ _ rfl
                refine g_v (v_nilCheck rfl) rfl ?_
                refine g_v (v_fieldAddr 6 Try.underlying123 rfl rfl Try.sizeOf49 (by decide) rfl) rfl ?_
                refine g_l0 (l_store (stV bd hx (ptr bl 0) s96 (curK r0 gl (0)).length c96) Try.sizeOf49 rfl rfl rfl (by simp) rfl) ?_
                rintro _ _ rfl
                refine g_nil ?_
                refine g_seq ?_
                refine g_seq ?_
                rw [show chR r0 = chR (curK r0 gl 0) from rfl]
                refine g_reg ?_
                refine g_v (v_move rfl) rfl ?_
                refine g_v (v_len Try.underlying68 rfl) rfl ?_
                refine g_v (v_move rfl) rfl ?_
                refine g_nil ?_
                refine g_block ?_
                refine g_loop (α := Nat × Option Addr × Nat) (fun z => z.1 ≤ gl.length) (fun z => U [(4, ptr b29 0), (127, sl so gl.length co), (128, I gl.length), (129, I (z.1 : Int))]) (fun z => pt b29 (.cells (stV bd (hx) (ptr bl 0) z.2.1 ((curK r0 gl (z.1)).length) z.2.2) 123 (0, 0)) :: roL 3 z.2.1 (chR (curK r0 gl (z.1))) :: pt bl (.cells (lgC bd 122 (N - 122) hx.first used) 154 (0, 0)) :: owL 49 1 so co (dR gl) :: dees gl :: dsk 117 135 bd (D) :: F) (fun z => gl.length - z.1) (0, s96, c96) (by simp) [4, 127, 128, 129] rfl rfl ?_
                rintro ⟨k, sA, cA⟩ hk
                simp only [] at hk ⊢
                refine g_seq ?_
                refine g_reg ?_
                refine g_v (v_lss rfl rfl) rfl ?_
                refine g_nil ?_
                refine g_seq ?_
                refine g_cond rfl (fun h130 => ?_) (fun h130 => ?_)
                · simp at h130
                  have hkn : k < gl.length := by omega
                  obtain ⟨x, hx'⟩ : ∃ x, gl[k]? = some x := ⟨_, List.getElem?_eq_getElem hkn⟩
                  refine g_skip ?_
                  refine g_seq ?_
                  refine g_block ?_
                  refine g_seq ?_
                  refine g_reg ?_
                  refine g_v (v_idxS k Try.underlying68 Try.sizeOf49 rfl rfl rfl hkn (by rw [dR_len]; exact hkn)) rfl ?_
                  refine g_v (v_loadS0 (v := sl x.2.1 x.1.length x.2.2) Try.isAgg49 rfl (dR_at hx') rfl) rfl ?_
                  refine g_v (v_assign rfl) rfl ?_
                  refine g_nil ?_
                  refine g_deesAt gl (List.mem_of_getElem? hx') ?_
                  refine g_reg ?_
                  refine g_v (v_move rfl) rfl ?_
                  refine g_v (v_move rfl) rfl ?_
                  refine g_v (v_nilCheck rfl) rfl ?_
                  refine g_v (v_fieldAddr 6 Try.underlying123 rfl rfl Try.sizeOf49 (by decide) rfl) rfl ?_
                  refine g_v (v_load (v := sl sA (curK r0 gl (k)).length cA) Try.isAgg49 rfl rfl) rfl ?_
                  refine g_v (v_move rfl) rfl ?_
                  refine g_l (l_call (Pre := [roL 3 sA (chR (curK r0 gl (k))), roL 3 x.2.1 (chR x.1)]) Try.call65 rfl (ct_row_Apply (curK r0 gl (k)) x.1 sA x.2.1 cA x.2.2 (srt_fold _ hgd.hsrt) (Nat.le_trans (hfit k) (by decide)) (by have := hlen72 x (List.mem_of_getElem? hx'); omega))) rfl ?_
                  rintro _ _ ⟨s139, c139, rfl, rfl⟩
                  rw [curK_s hx']
                  refine g_freeze (T := 111) (cap := c139) s139 ?_
                  refine g_v (v_nilCheck rfl) rfl ?_
                  refine g_v (v_fieldAddr 6 Try.underlying123 rfl rfl Try.sizeOf49 (by decide) rfl) rfl ?_
                  refine g_l0 (l_store (stV bd hx (ptr bl 0) s139 (curK r0 gl (k + 1)).length c139) Try.sizeOf49 rfl rfl rfl (by simp) rfl) ?_
                  rintro _ _ rfl
                  refine g_nil ?_
                  refine g_blk ?_
                  refine g_reg ?_
                  refine g_v (v_add (r := ((k + 1 : Nat) : Int)) rfl rfl (by rw [show (((k : Nat) : Int) : Int) + (1 : Int) = ((k + 1 : Nat) : Int) by omega]; exact w64 (by omega))) rfl ?_
                  refine g_v (v_move rfl) rfl ?_
                  refine g_nil ?_
                  exact g_again (k + 1, s139, c139) (by simp only []; omega) (by simp only []; omega) [4, 127, 128, 129] rfl rfl
                · simp at h130
                  obtain rfl : k = gl.length := by omega
                  have hcu : curK r0 gl gl.length = cur r0 ds := by unfold curK cur; rw [List.take_of_length_le (by simp), hq1]
                  rw [hcu]
                  refine g_exit rfl ?_
                  refine g_seq ?_
                  refine g_reg ?_
                  refine g_v (v_move rfl) rfl ?_
                  refine g_v (v_assign rfl) rfl ?_
                  refine g_v (v_assign rfl) rfl ?_
                  refine g_nil ?_
                  exact g_retAny (pt b29 (.cells (stC bd hx bl sA (cur r0 ds).length cA) 123 (0, 0)) :: pt bl (.cells (lgC bd 122 (N - 122) hx.first used) 154 (0, 0)) :: dsk 117 135 bd (D) :: roL 3 sA (chR (cur r0 ds)) :: F) rfl (.inr (.inr (.inr ⟨h21', h25', he0, b29, bl, sA, cA, rfl, rfl⟩)))

end Go.Proofs.Ythdjckbjjfiopac
