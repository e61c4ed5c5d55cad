/- Walks: a vault filled by actions. No condition. -/
import Derived.Test.YthdjckbjjfiopaaVa2
import Derived.Test.YthdjckbjjfiopaaLight2
import Derived.Test.YthdjckbjjfiopaaNums
namespace Go.Proofs.Ythdjckbjjfiopaa
open Go.Sl Go.Proofs
set_option linter.unusedVariables false
set_option linter.unusedSimpArgs false
theorem strV_at {l : List Bytes} {k : Nat} {x : Bytes} (h : l[k]? = some x) : (strR l)[k]? = some [Str x] := by simp [strR, h]
def kIng : Bytes := [105, 110, 103, 101, 115, 116]
def kAgn : Bytes := [97, 103, 97, 105, 110]
def kDrp : Bytes := [100, 114, 111, 112]
def fillF (S : SI) (L : List Pt) (n : Int) (x : ActM) : VR := if x.kind = kIng then ingF S L n x.a x.b x.c x.puts else if x.kind = kAgn then agnF S L n x.a else if x.kind = kDrp then drpF S L n x.a else .ok (S, L, n, 0)
def fillR (S : SI) (L : List Pt) (n : Int) (x : ActM) : SI × List Pt × Int := match fillF S L n x with
  | .ok (S', L', n', _) => (S', L', n')
  | .error _ => (S, L, n)
theorem agnF_err {S : SI} {L : List Pt} {n id e : Int} (h : agnF S L n id = .error e) : 0 < e := by
  unfold agnF at h
  split at h
  · injection h with h; omega
  · split at h
    · injection h with h; have := addE_nn L n; omega
    · cases h
theorem drpF_err {S : SI} {L : List Pt} {n id e : Int} (h : drpF S L n id = .error e) : 0 < e := by
  unfold drpF at h
  split at h
  · injection h with h; omega
  · cases h
theorem fillR_err {S : SI} {L : List Pt} {n : Int} {x : ActM} {e : Int} (h : fillF S L n x = .error e) : fillR S L n x = (S, L, n) := by unfold fillR; rw [h]
theorem fillR_ok {S : SI} {L : List Pt} {n : Int} {x : ActM} {S' : SI} {L' : List Pt} {n' r : Int} (h : fillF S L n x = .ok (S', L', n', r)) : fillR S L n x = (S', L', n') := by unfold fillR; rw [h]
/-- the blocks of a point -/
def blk (S : SI) (p : Pt) : List Bytes := (List.range p.size.toNat).map (getS S p.root)
theorem blk_same {G G' : Gh} {p : Pt} (hs : p.size ≤ 16) (h : ∀ i, i < 16 → getS (mkG G') p.root i = getS (mkG G) p.root i) : blk (mkG G') p = blk (mkG G) p := by
  unfold blk
  refine List.map_congr_left fun i hi => h i ?_
  rw [List.mem_range] at hi
  omega
/-- what a point has stays -/
theorem fill_keeps {S : SI} {L : List Pt} {n : Int} {G : Gh} {x : ActM} (h : Vok S L n G) : ∃ G', Vok (fillR S L n x).1 (fillR S L n x).2.1 (fillR S L n x).2.2 G' ∧
    ∀ id p, findP L id = some p → ¬ (x.kind = kDrp ∧ x.a = id) → findP (fillR S L n x).2.1 id = some p ∧ blk (fillR S L n x).1 p = blk S p := by
  cases hr : fillF S L n x with
  | error e => rw [fillR_err hr]; exact ⟨G, h, fun id p hp _ => ⟨hp, rfl⟩⟩
  | ok z =>
    obtain ⟨S', L', n', r⟩ := z
    rw [fillR_ok hr]
    have hS := h.e
    subst hS
    have app : ∀ q id p, findP L id = some p → findP (L ++ [q]) id = some p := fun q id p hp => by unfold findP at hp ⊢; rw [List.find?_append, hp]; rfl
    unfold fillF at hr
    split at hr
    · obtain ⟨G', root, h', k', e1, _⟩ := ingF_ok h hr
      refine ⟨G', h', fun id p hp _ => ⟨by rw [e1]; exact app _ _ _ hp, ?_⟩⟩
      rw [h'.e]
      exact blk_same (h.pts p (findP_some hp).1).2.2.2 (k' _ (findP_mem hp))
    · split at hr
      · obtain ⟨G', q, h', _, k', e1, _⟩ := agnF_ok h hr
        refine ⟨G', h', fun id p hp _ => ⟨by rw [e1]; exact app _ _ _ hp, ?_⟩⟩
        rw [h'.e]
        exact blk_same (h.pts p (findP_some hp).1).2.2.2 (k' _ (findP_mem hp))
      · split at hr
        · rename_i hk
          obtain ⟨G', q, h', hq, k', e1, _⟩ := drpF_ok h hr
          refine ⟨G', h', fun id p hp hne => ?_⟩
          have hid : x.a ≠ id := fun e => hne ⟨hk, e⟩
          have hf : findP L' id = some p := by
            unfold findP at hp ⊢
            rw [e1, List.find?_filter, ← hp]
            congr 1
            funext a
            by_cases ha : a.id = id
            · simp [ha, Ne.symm hid]
            · simp [ha]
          refine ⟨hf, ?_⟩
          rw [h'.e]
          exact blk_same (h.pts p (findP_some hp).1).2.2.2 (k' _ (findP_mem hf))
        · injection hr with hr
          injection hr with e1 hr
          injection hr with e2 hr
          injection hr with e3 e4
          subst e1 e2 e3
          exact ⟨G, h, fun id p hp _ => ⟨hp, rfl⟩⟩
theorem lightPu {l : List ActM} {m : Int} {x : ActM} (h : lightA l m = true) (hx : x ∈ l) : x.puts.length ≤ 24 ∧ ∀ p ∈ x.puts, p.data.length ≤ 20 := by
  unfold lightA at h
  simp only [Bool.and_eq_true, List.all_eq_true] at h
  have := h.2 x hx
  unfold lightA1 at this
  simp only [Bool.and_eq_true, decide_eq_true_eq, List.all_eq_true] at this
  refine ⟨by have := this.1.1.2; omega, fun p hp => ?_⟩
  have h2 := this.2 p hp
  unfold lightP at h2
  simpa using h2
def RFill (S : SI) (L : List Pt) (n : Int) (x : ActM) (F : List HProp) : Value → List HProp → Prop := fun v L' => ∃ q, v = ptr q 0 ∧ L' = vlt q (fillR S L n x).1 (fillR S L n x).2.1 (fillR S L n x).2.2 :: F
def RFld (l : List ActM) (A : HProp) (F : List HProp) : Value → List HProp → Prop := fun v L' => (v = .tuple #[.pointer none, Bo false] ∧ L' = A :: F) ∨ ∃ q S L n G, v = .tuple #[ptr q 0, Bo true] ∧ L' = vlt q S L n :: A :: F ∧ Vok S L n G ∧ lightA l 40 = true
def RBlk (b : Nat) (S : SI) (L : List Pt) (n id : Int) (F : List HProp) : Value → List HProp → Prop := fun v L' => match findP L id with
  | none => v = .tuple #[sl none 0 0, Bo false] ∧ L' = vlt b S L n :: F
  | some p => ∃ s c, v = .tuple #[sl s (blk S p).length c, Bo true] ∧ L' = owL 9 1 s c (strR (blk S p)) :: vlt b S L n :: F
section
variable {c : Cx} {E : Env} {L : List HProp} {K : List KI}
theorem g_retFill {S : SI} {P : List Pt} {n : Int} {x : ActM} {F : List HProp} {vs : List Value} {q : Nat} {S1 : SI} {P1 : List Pt} {n1 : Int} (hR : c.R = RFill S P n x F) (hf : fillR S P n x = (S1, P1, n1)) (hr : resOf E c.fn.results.toList = some vs) (hv : tup vs = ptr q 0) [Su : Sub L (vlt q S1 P1 n1 :: F)] : G c (.code .ret :: K) E L :=
  fun a w hE hS => wp_ret (kq_ret (res_fpost hr hE (Su.sat hS) (by rw [hR]; exact ⟨q, hv, by rw [hf]⟩)))
end
theorem vzF : (match ingF (mkG gZ) [] 1 0 1 4 [⟨2, [120]⟩] with | .ok z => decide (z.2.2.2 = 1) | .error _ => false) = true := by decide +kernel
theorem vz : ∃ S L n G root, ingF (mkG gZ) [] 1 0 1 4 [⟨2, [120]⟩] = .ok (S, L, n, 1) ∧ Vok S L n G ∧ L = [⟨1, 1, 4, root⟩] ∧ getS S root 2 = [120] := by
  have h := vzF
  cases hr : ingF (mkG gZ) [] 1 0 1 4 [⟨2, [120]⟩] with
  | error e => rw [hr] at h; cases h
  | ok z =>
    obtain ⟨S, L, n, r⟩ := z
    obtain ⟨G, root, hV, _, e1, e2, e3, _, _, _, g⟩ := ingF_ok Vok_z hr
    subst e3
    refine ⟨S, L, n, G, root, rfl, hV, e1, ?_⟩
    rw [g 2 (by decide)]
    rfl
theorem bldPut (n : Int) (s : Bytes) (w : World) : (Instr.build 178 #[(0, I n), (1, Str s)]).run Try.prog w = .ok (.agg (encP ⟨n, s⟩).toArray) w := by
  simp [Instr.build, Try.zeroValue178, Try.runUnderlying178, Try.sizeOf3, Try.sizeOf9, Instr.fill, cells_agg, encP, show ∀ k : Int, (I k).cells = #[I k] from fun _ => rfl, show (Str s).cells = #[Str s] from rfl]

-- counterfoil/counterfoilref.SameTexts is not in this seat
-- counterfoil/counterfoiltop.fill is not in this seat
-- counterfoil/counterfoiltop.filled is not in this seat
-- counterfoil/counterfoiltop.blocks is not in this seat
-- counterfoil/counterfoiltop.vaulted is not in this seat
end Go.Proofs.Ythdjckbjjfiopaa
