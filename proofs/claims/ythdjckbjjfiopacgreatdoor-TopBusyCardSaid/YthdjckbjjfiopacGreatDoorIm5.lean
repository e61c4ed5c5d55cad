/- The walk through image.Parse. No condition but the library's tables. -/
import Derived.Test.YthdjckbjjfiopacGreatDoorIm4
set_option linter.unusedSimpArgs false
set_option linter.unusedVariables false
namespace Go.Proofs.YthdjckbjjfiopacGreatDoor
open _root_.Go.Proofs.Tryz
open Go.Sl Go.Proofs
theorem bldV1 (x:Nat)(w:World):(Instr.build 47 #[(0,ptr x 0)]).run Tryz.prog w= .ok (.agg #[ptr x 0,sl none 0 0,I 0]) w:=by
  simp[Instr.build,zeroValue47,runUnderlying47,sizeOf44,Instr.fill,qV,show (ptr x 0).cells=#[ptr x 0] from rfl,sl]
theorem zpW {l:List ChangeM}{i:Nat}{c pc:ChangeM}(h:0<i→l[i - 1]? =some pc):badK (pvK l i) c=(decide ((0:Int)<(i:Int)) && (Op.bytesLess c.key pc.key || decide (c.key=pc.key))):=by
  cases i with
  | zero=>rw[pvK_0];rfl
  | succ i=>
    have h1:l[i]? =some pc:=h (by omega);rw[pvK_s h1];have e:decide ((0:Int)<((i+1:Nat):Int))=true:=decide_eq_true (by omega);rw[e,Bool.true_and]
    rfl
theorem zhH (l:List ChangeM)(s:Option Addr)(cap:Nat)(hl:l.length≤1000000)(hll:∀c∈l,c.key.length≤9223372036854775807∧c.val.length≤9223372036854775807)(F:List HProp):Ct Tryz.prog 22 [sl s l.length cap] ([zan,roL 3 s (chR l)]++F) (zuS l 89 (zan::roL 3 s (chR l)::F)):=by
  show Ct Tryz.prog 22 [sl s l.length cap] (zan::roL 3 s (chR l)::F) _;refine Ct.of func22 rR 47 ntmps22 (by simp) fun w0=>?_;refine gS (gA rR (gA rR (qb (gS ?_))));refine g_l (qi (Pre:=[]) call58 rR (zfB)) rR ?_;rintro _ _ ⟨x,rfl,rfl⟩;refine g_v (qO rR (bldV1 x)) rR ?_;refine g_l (wQ #[ptr x 0,sl none ps0.L.length 0,I ps0.n] rfl rR) rR ?_;rintro _ _ ⟨b9,rfl,rfl⟩;refine gA rR (qb ?_);refine zag x ⟨fun _=>none,fun _=>none⟩ ?_;intro p r;refine zca p (fun _=>none) ?_;intro r2;refine zfR r (tb yP 999 ps0.N) (by show (tb yP 24 (fun _=>none)).Perm (tb yP 999 (fun _=>none));rw[zcF,zcF]) ?_;refine zfR r2 (tb encB 999 ps0.B) (by show (tb encB 40 (fun _=>none)).Perm (tb encB 999 (fun _=>none));rw[zcF,zcF]) ?_;refine yK 55 4 (ptR ps0.L) rR ?_;refine zeg b9 x p r r2 none 0 ps0 ?_;refine qf (gS (gM rR (g_v (yq underlying33 rR) rR (gM rR (qb (qk ?_))))));refine qF (α:=Nat×PS) (fun z=>z.1≤l.length∧zbd none ps0 (l.take z.1)=some z.2∧Pok z.2∧z.2.L.length≤z.1) (fun z=>U [(0,sl s l.length cap),(4,ptr b9 0),(10,sl s l.length cap),(11,I l.length),(12,I z.1)]) (fun z=>zan::roL 3 s (chR l)::pvl b9 z.2::F) (fun z=>l.length - z.1) (0,ps0) ⟨by simp,by simp[zbd],Pok_0,by simp[ps0]⟩ [0,4,10,11,12] rfl rR ?_;rintro ⟨i,st⟩ ⟨hi,hpr,hP,hL⟩;simp only[] at hi hpr hP hL ⊢;refine gS (g_v (qN rR rR) rR (qb (qf ?_)));refine qg rR (fun h13=>?_) (fun h13=>?_)
  · simp at h13;have hin:i<l.length:=(by omega);obtain ⟨c,hc⟩:∃c,l[i]? =some c:=⟨_,List.getElem?_eq_getElem hin⟩;obtain ⟨pc,hpc⟩:∃pc:ChangeM,0<i→l[i - 1]? =some pc:=⟨(l[i - 1]?).getD c,fun h=>by rw[List.getElem?_eq_getElem (show i - 1<l.length by omega)];rfl⟩;refine qh (qf (qk (gS (gM rR (g_v (qC i underlying33 sizeOf58 rR rR rR hin (by rw[qQ];exact hin)) rR (g_v (yn (row:=yp c) isAgg58 sizeOf58 rR (za9 hc) rR) rR ?_))))));refine g_l (qy #[Str [],Str [],Bo false] zeroValue58) rR ?_;rintro _ _ ⟨b6,rfl,rfl⟩;refine gA rR ?_;refine yr (qr (cs:=#[Str [],Str [],Bo false]) (vs:=yp c) (yp c).toArray sizeOf58 rR rR rR rR (by simp) (qv rR)) ?_;rintro _ _ rfl;refine qb (qf ?_);refine yv (Lf:=[pt b6 (.cells (yp c).toArray 58 (0,0)),roL 3 s (chR l)]) [(0,false),(1,false),(2,false),(3,false),(4,false),(5,false),(6,false),(7,false),(8,false),(9,false),(10,false),(11,false),(12,false),(13,false),(14,false),(15,false),(16,false),(17,false),(18,false),(19,false),(20,true),(21,false),(22,false)] (by kernel_rfl) (by kernel_rfl) rR (by kernel_rfl) ?_;refine dM rR rR rR (d_v rR (yw rR rR) rR (dM rR rR rR (zbV rR rR rR (fun hg=>qa 0 underlying58 rR rR sizeOf9 (by decide) rR) rR rR (zbV rR rR rR (fun hg=>qe (v:=Str c.key) isAgg9 rR rR) rR rR (zbV rR rR rR (fun hg=>qn rR) rR rR (zbV rR rR rR (fun hg=>qn rR) rR rR (zbV rR rR rR (fun hg=>zce rR rR (w64 (by simp at hg;omega))) rR rR (zbV rR rR rR (fun hg=>qC (i - 1) underlying33 sizeOf58 rR rR (by simp at hg;omega) (by simp at hg;omega) (by rw[qQ];simp at hg;omega)) rR rR (zbV rR rR rR (fun hg=>yH (j:=i - 1) 0 underlying58 rR rR sizeOf9 (by decide) rR (by rw[qQ];simp at hg;omega)) rR rR (zbV rR rR rR (fun hg=>zav (v:=Str pc.key) isAgg9 rR (za9 (hpc (by simp at hg;omega))) rR) rR rR (zbV rR rR rR (fun hg=>zwV rR rR) rR rR (d_v rR (zao rR rR) rR (dM rR rR rR (zbV rR rR rR (fun hg=>qa 2 underlying58 rR rR sizeOf4 (by decide) rR) rR rR (zbV rR rR rR (fun hg=>qe (v:=Bo c.gone) isAgg4 rR rR) rR rR (d_v rR (zar rR rR) rR (dM rR rR rR ?_)))))))))))))))));rcases hbd:((decide ((0:Int)<(i:Int)) && (Op.bytesLess c.key pc.key || decide (c.key=pc.key))) || c.gone) with _ | _
    · refine qP rR rR rR rR (qn rR) rR ?_;rcases hrr:zdX st c with _ | st'
      · refine qP rR rR rR rR (qH (vs:=yp c) isAgg58 sizeOf58 rR rR qR) rR ?_;refine d_gl rR rR rR rR (qi (Pre:=[zan,pvl b9 st]) call59 rR (zfF b9 st c (by omega) (hll c (List.mem_of_getElem? hc)).1 (hll c (List.mem_of_getElem? hc)).2)) rR ?_;rintro _ _ hrv;unfold zv1 at hrv;rw[hrr] at hrv;obtain ⟨rfl,rfl⟩:=hrv;refine qP rR rR rR rR (wn rR) rR (d_v rR (zaF rR rR rR) rR ?_);refine yg ?_;refine qg rR (fun h39=>?_) (fun h39=>?_)
        · refine gS (g_v (qA underlying89 rR rR) rR (gA rR (gA rR (qb ?_))));exact zok rfl (fun st' h'=>by rw[zku hpr hc (.inr hrr)] at h';cases h') rfl rfl
        · cases h39
      · refine qP rR rR rR rR (qH (vs:=yp c) isAgg58 sizeOf58 rR rR qR) rR ?_;refine d_gl rR rR rR rR (qi (Pre:=[zan,pvl b9 st]) call59 rR (zfF b9 st c (by omega) (hll c (List.mem_of_getElem? hc)).1 (hll c (List.mem_of_getElem? hc)).2)) rR ?_;rintro _ _ hrv;unfold zv1 at hrv;rw[hrr] at hrv;obtain ⟨rfl,rfl⟩:=hrv;refine qP rR rR rR rR (wn rR) rR (d_v rR (zaF rR rR rR) rR ?_);refine yg ?_;refine qg rR (fun h39=>?_) (fun h39=>?_)
        · cases h39
        · refine qh (qG (qp (g_v (qu rR rR (w64 (by omega))) rR (gM rR (qb ?_)))));exact qo (i+1,st') ⟨by simp only[];omega,zpO hpr hc (by rw[zpW hpc];simpa using hbd) hrr,zua hP hrr,by have:=zxt hrr;simp only[];omega⟩ (by simp only[];omega) [0,4,10,11,12] rfl rfl
    · refine qT rR rR rR rR rR (qT rR rR rR rR rR ?_);refine d_noL rR rR rR rR rR ?_;refine qT rR rR rR rR rR (d_v rR (zbm rR rR rR) rR ?_);refine yg ?_;refine qg rR (fun h39=>?_) (fun h39=>?_)
      · refine gS (g_v (qA underlying89 rR rR) rR (gA rR (gA rR (qb ?_))));exact zok rfl (fun st' h'=>by rw[zku hpr hc (.inl (by rw[zpW hpc];simpa using hbd))] at h';cases h') rfl rfl
      · cases h39
  · simp at h13;obtain rfl:i=l.length:=(by omega);rw[List.take_length] at hpr;refine qz rR ?_;refine qf (gS (gM rR ?_));refine g_l (qi (Pre:=[pvl b9 st]) call60 rR (zhL b9 st hP (by omega))) rR ?_;rintro _ _ (⟨rfl,hw,rfl⟩ | ⟨rfl,hw,rfl⟩)
    · refine g_v (wn rR) rR (qb ?_);refine qg rR (fun h44=>?_) (fun h44=>?_)
      · cases h44
      · refine qh (gS (gM rR (gA rR (gA rR (qb ?_)))));exact ztC rfl hpr hw rfl rfl
    · refine g_v (wn rR) rR (qb ?_);refine qg rR (fun h44=>?_) (fun h44=>?_)
      · refine gS (g_v (qA underlying89 rR rR) rR (gA rR (gA rR (qb ?_))));exact zok rfl (fun st' h'=>by rw[hpr] at h';injection h' with h';rw[←h'];exact hw) rfl rfl
      · cases h44
end Go.Proofs.YthdjckbjjfiopacGreatDoor
