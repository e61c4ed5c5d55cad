/- Walks through package vdisk: new disks, what is found, what is marked, writing. No condition. -/
import Derived.Test.YthdjckbjjfiopacGreatDoorVd
set_option linter.unusedSimpArgs false
set_option linter.unusedVariables false
namespace Go.Proofs.YthdjckbjjfiopacGreatDoor
open _root_.Go.Proofs.Tryz
open Go.Sl Go.Proofs
def zhM (n:Int):VdM:=⟨n,fun _=>[],fun _=>false,0,1,[]⟩
def zug (ok:Prop)(Ev:Int→Value)(A:Nat→HProp)(F:List HProp):Value→List HProp→Prop:=fun v L'=>(¬ok∧v= .tuple #[.pointer none,Ev 1]∧L'=F)∨(ok∧∃b,v= .tuple #[ptr b 0,Ev 0]∧L'=A b::F)
section
variable {c:Cx}{E:Env}{L:List HProp}{K:List KI}
theorem znG {Ev:Int→Value}{ok:Prop}{A:Nat→HProp}{F:List HProp}{vs:List Value}(hR:c.R=zug ok Ev A F)(hr:zbe E c.fn.results.toList=some vs)(hn:¬ok)(hv:tup vs= .tuple #[.pointer none,Ev 1])[S:Sub L F](hds:c.n.ds=[]:=by rfl):G c (.code .ret::K) E L:=
  fun a w hE hS=>wp_ret (ye (qw (hds:=hds) hr hE (S.sat hS) (by rw[hR];exact .inl ⟨hn,hv,rfl⟩)))
theorem znH {Ev:Int→Value}{ok:Prop}{A:Nat→HProp}{F:List HProp}{vs:List Value}(b:Nat)(hR:c.R=zug ok Ev A F)(hr:zbe E c.fn.results.toList=some vs)(hn:ok)(hv:tup vs= .tuple #[ptr b 0,Ev 0])[S:Sub L (A b::F)](hds:c.n.ds=[]:=by rfl):G c (.code .ret::K) E L:=
  fun a w hE hS=>wp_ret (ye (qw (hds:=hds) hr hE (S.sat hS) (by rw[hR];exact .inr ⟨hn,b,hv,rfl⟩)))
end
def znC (l:List SnapM)(id:Int):Nat:=l.findIdx fun s=>decide (s.id=id)
def zcP (l:List SnapM)(id:Int):Int:=if znC l id<l.length then (znC l id:Int) else -1
theorem zoq {l:List SnapM}{id:Int}{k:Nat}{s:SnapM}(hno:∀j,j<k→∀t,l[j]? =some t→t.id≠id)(hs:l[k]? =some s)(he:s.id=id):zcP l id=k:=by
  obtain ⟨hk,hk2⟩:=List.getElem?_eq_some_iff.1 hs;have e:znC l id=k:=by
    unfold znC;rw[List.findIdx_eq hk];refine ⟨by rw[hk2];simpa using he,fun j hj=>?_⟩;simpa using hno j hj _ (List.getElem?_eq_getElem (by omega))
  unfold zcP;rw[e,if_pos hk]
theorem znS {l:List SnapM}{id:Int}(hno:∀j,j<l.length→∀t,l[j]? =some t→t.id≠id):zcP l id= -1:=by
  unfold zcP;rw[if_neg];intro h;have:=List.findIdx_getElem (w:=h);simp at this;exact hno _ h _ (List.getElem?_eq_getElem h) this
theorem zkh {l:List SnapM}{id:Int}(h:¬zcP l id<0):∃i s,zcP l id=((i:Nat):Int)∧l[i]? =some s∧s.id=id∧i<l.length:=by
  unfold zcP at h ⊢;split at h
  · rename_i hl;refine ⟨znC l id,l[znC l id],by rw[if_pos hl],List.getElem?_eq_getElem hl,?_,hl⟩;have:=List.findIdx_getElem (w:=hl);simp only[decide_eq_true_eq] at this;exact this
  · omega
theorem zwd {gl:List (SnapM×Loc)}{l:List SnapM}(h:gl.map Prod.fst=l){i:Nat}{s:SnapM}(hs:l[i]? =some s):∃q,gl[i]? =some (s,q):=by
  subst h;simp only[List.getElem?_map,Option.map_eq_some_iff] at hs;obtain ⟨⟨y,q⟩,h1,rfl⟩:=hs;exact ⟨q,h1⟩
theorem znq {gl:List (SnapM×Loc)}{l:List SnapM}(h:gl.map Prod.fst=l):gl.length=l.length:=by subst h;simp
def zlm (m:Nat→Bool)(fr mn:Int):Nat→Bool:=fun p=>m p || decide (fr≤(p:Int)∧(p:Int)<fr+mn)
theorem zse (m:Nat→Bool)(fr mn:Int):ofM (orM (mk (ofM m)) (mk [⟨fr,mn⟩]))=ofM (zlm m fr mn):=zpy fun p hp=>by
  unfold orM zlm;rw[zsY m hp];simp[mk]
def markD (D:VdM)(fr mn:Int):VdM:=if 0<mn then ⟨D.size,D.blocks,zlm D.dirty fr mn,D.time,D.next,D.snaps⟩ else D
def ztb (s:Bytes):Int:=if 6<s.length then 2 else 0
def wrE (D:VdM)(n:Int)(s:Bytes):Int:=if n<0∨D.size≤n then 1 else ztb s
def wrD (D:VdM)(n:Int)(s:Bytes):VdM:=if wrE D n s=0 then ⟨D.size,upd D.blocks n.toNat s,zlm D.dirty n 1,D.time,D.next,D.snaps⟩ else D
theorem zkk (n:Int)(F:List HProp):Ct Tryz.prog 62 [I n] ([]++F) (zug (1≤n∧n≤16) yE (fun b=>vdk b (zhM n)) F):=by
  show Ct Tryz.prog 62 [I n] (F) _;refine Ct.of func62 rR 14 ntmps62 (by simp) fun w0=>?_;refine gS (gA rR (gA rR (qb (qf (gS (gM rR (g_v (qN rR rR) rR (gM rR (qI rR rR (fun hg=>qn rR) rR rR (qI rR rR (fun hg=>yw rR rR) rR rR (g_v (zar rR rR) rR (qb ?_))))))))))));refine qg rR (fun h9=>?_) (fun h9=>?_)
  · simp at h9;refine gS (g_v (qA underlying89 rR rR) rR (gA rR (gA rR (qb ?_))));exact znG rfl rfl (by omega) rfl
  · simp at h9;refine qh (gS (gM rR (g_v (qO rR (zn2 _ rR _ rR)) rR ?_)));refine g_l (wQ (vdC n (fun _=>[]) (sl none 0 0) 0 1 (sl none 0 0)) rR rR) rR ?_;rintro _ _ ⟨b13,rfl,rfl⟩;refine gA rR (gA rR (qb ?_));refine zlA 2 (qL (ofM fun _=>false)) rR ?_;refine yK 169 20 (wR []) rR ?_;refine zsJ ?_;refine zas (vdC n (fun _=>[]) (sl none 0 0) 0 1 (sl none 0 0)) (qL (ofM fun _=>false)) (wR []) none 0 none 0 ([]) b13 ((zhM n)) rR rR rR rR ?_;exact znH b13 rfl rfl (by omega) rfl
-- (*counterfoil/vdisk.Disk).Size is not in this seat
-- (*counterfoil/vdisk.Disk).Forget is not in this seat
theorem zhQ (s:Bytes)(F:List HProp):Ct Tryz.prog 94 [Str s] ([]++F) (R1 (yE (ztb s)) F):=by
  show Ct Tryz.prog 94 [Str s] (F) _;refine Ct.of func94 rR 7 ntmps94 (by simp) fun w0=>?_;refine gS (gA rR (qb (qf (gS (gM rR (g_v (we underlying9 rR) rR (g_v (yw rR rR) rR (qb ?_))))))));refine qg rR (fun h5=>?_) (fun h5=>?_)
  · simp at h5;refine gS (g_v (qA underlying89 rR rR) rR (gA rR (qb ?_)));refine qm rR rR ?_;show _=yE _;rw[show ztb s=2 by unfold ztb;rw[if_pos (by omega)]]
    rfl
  · simp at h5;refine qh (gS (gA rR (qb ?_)));refine qm rR rR ?_;show _=yE _;rw[show ztb s=0 by unfold ztb;rw[if_neg (by omega)]]
    rfl
theorem zhP (x:SnapM×Loc)(q:Nat)(id:Int)(F:List HProp):Ct Tryz.prog 218 [.agg (zmw x).toArray,ptr q 0] ([pt q (.cells #[I id] 3 (0,0))]++F) (R1 (Bo (decide (x.1.id=id))) (pt q (.cells #[I id] 3 (0,0))::F)):=by
  show Ct Tryz.prog 218 [.agg (zmw x).toArray,ptr q 0] (pt q (.cells #[I id] 3 (0,0))::F) _;refine Ct.of func218 rR 8 ntmps218 (by simp) fun w0=>?_;refine gS ?_;refine g_l (wQ (zmw x).toArray rR rR) rR ?_;rintro _ _ ⟨b2,rfl,rfl⟩;refine gA rR (qb (gS (g_v (qa 0 underlying169 rR rR sizeOf3 (by decide) rR) rR (g_v (qe (v:=I x.1.id) isAgg3 rR rR) rR (g_v (qe (v:=I id) isAgg3 rR rR) rR (g_v (yR rR rR) rR (gA rR (qb ?_))))))));refine qm rR rR ?_;exact rfl
theorem zfj (gl:List (SnapM×Loc))(ss:Option Addr)(cs q:Nat)(id:Int)(hgl:gl.length≤1000000)(F:List HProp):Ct Tryz.prog 217 [sl ss gl.length cs, .func (.func 218) #[] #[ptr q 0]] ([owL 169 20 ss cs (wR gl),pt q (.cells #[I id] 3 (0,0))]++F) (R1 (I (zcP (gl.map Prod.fst) id)) (owL 169 20 ss cs (wR gl)::pt q (.cells #[I id] 3 (0,0))::F)):=by
  show Ct Tryz.prog 217 [sl ss gl.length cs, .func (.func 218) #[] #[ptr q 0]] (owL 169 20 ss cs (wR gl)::pt q (.cells #[I id] 3 (0,0))::F) _;refine Ct.of func217 rR 19 ntmps217 (by simp) fun w0=>?_;refine gS (gA rR (qb (qf (gS (gM rR (g_v (yq underlying163 rR) rR (gM rR (qb (qk ?_)))))))));refine qF (α:=Nat) (fun k=>k≤gl.length∧∀j,j<k→∀t,(gl.map Prod.fst)[j]? =some t→t.id≠id) (fun k=>U [(0,sl ss gl.length cs),(1, .func (.func 218) #[] #[ptr q 0]),(7,I gl.length),(8,I k)]) (fun _=>owL 169 20 ss cs (wR gl)::pt q (.cells #[I id] 3 (0,0))::F) (fun k=>gl.length - k) 0 ⟨by simp,fun j hj=>absurd hj (by omega)⟩ [0,1,7,8] rfl rR ?_;rintro k ⟨hk,hno⟩;refine gS (g_v (qN rR rR) rR (qb (qf ?_)));refine qg rR (fun h9=>?_) (fun h9=>?_)
  · simp at h9;have hkn:k<gl.length:=(by omega);obtain ⟨x,hx⟩:∃x,gl[k]? =some x:=⟨_,List.getElem?_eq_getElem hkn⟩;have hkr:k<(wR gl).length:=(by rw[zes];exact hkn);have hx2:(gl.map Prod.fst)[k]? =some x.1:=(by simp[hx]);refine qh (qf (qk (gS (gM rR (gA rR (qb (gS (gM rR (gM rR (gM rR (g_v (qC k underlying163 sizeOf169 rR rR rR hkn hkr) rR (g_v (yn (row:=zmw x) isAgg169 sizeOf169 rR (ziD hx) rR) rR ?_))))))))))));refine g_l (zam (fi:=[]) (cap:=[ptr q 0]) (Pre:=[pt q (.cells #[I id] 3 (0,0))]) call218 rR rR (zhP x q id)) rR ?_;rintro _ _ ⟨rfl,rfl⟩;refine qb ?_;refine qg rR (fun h16=>?_) (fun h16=>?_)
    · simp at h16;refine gS (gM rR (gA rR (qb ?_)));refine qm rR rR ?_;show I _=I _;rw[zoq hno hx2 h16]
    · simp at h16;refine qh (qG (qp (g_v (qu rR rR (w64 (by omega))) rR (gM rR (qb ?_)))));exact qo (k+1) ⟨by omega,fun j hj t ht=>by
          rcases Nat.lt_or_ge j k with h | h
          · exact hno j h t ht
          · obtain rfl:j=k:=(by omega);rw[hx2] at ht;injection ht with ht;rw[←ht];exact h16⟩ (by omega) [0,1,7,8] rfl rfl
  · simp at h9;obtain rfl:k=gl.length:=(by omega);refine qz rR ?_;refine gS (gA rR (qb ?_));refine qm rR rR ?_;show I _=I _;rw[znS (by simpa using hno)]
theorem zeC (b:Nat)(D:VdM)(id:Int)(hs:D.snaps.length≤1000000)(F:List HProp):Ct Tryz.prog 187 [ptr b 0,I id] ([vdk b (D)]++F) (R1 (I (zcP D.snaps id)) (vdk b (D)::F)):=by
  show Ct Tryz.prog 187 [ptr b 0,I id] (vdk b (D)::F) _;refine Ct.of func187 rR 11 ntmps187 (by simp) fun w0=>?_;refine zdz b (D) ?_;intro sd cd ss cs gl hgl;have hln:=znq hgl;refine gS ?_;refine g_l (wQ #[I id] rfl rR) rR ?_;rintro _ _ ⟨b3,rfl,rfl⟩;refine gA rR (qb (gS (gM rR (g_v (qc rR) rR (g_v (qa 20 underlying165 rR rR sizeOf163 (by decide) rR) rR (g_v (qe (v:=sl ss gl.length cs) isAgg163 rR rR) rR (g_v (wN rR rR) rR ?_)))))));refine g_l (qi (Pre:=[owL 169 20 ss cs (wR gl),pt b3 (.cells #[I id] 3 (0,0))]) call217 rR (zfj gl ss cs b3 id (by omega))) rR ?_;rintro _ _ ⟨rfl,rfl⟩;rw[hgl];refine gA rR (qb ?_);refine zas (vdC ((D).size) ((D).blocks) (sl sd (ofM (D).dirty).length cd) ((D).time) ((D).next) (sl ss gl.length cs)) (qL (ofM (D).dirty)) (wR gl) sd cd ss cs (gl) b ((D)) rR rR rR hgl ?_;exact qm rfl rfl rfl
theorem ziE (b:Nat)(D:VdM)(fr mn:Int)(h0:0≤fr)(h1:fr+mn≤16)(F:List HProp):Ct Tryz.prog 95 [ptr b 0,I fr,I mn] ([vdk b (D)]++F) (R1 (.tuple #[]) (vdk b (markD D fr mn)::F)):=by
  show Ct Tryz.prog 95 [ptr b 0,I fr,I mn] (vdk b (D)::F) _;refine Ct.of func95 rR 20 ntmps95 (by simp) fun w0=>?_;refine zdz b (D) ?_;intro sd cd ss cs gl hgl;refine gS (gM rR (g_v (yw rR rR) rR (qb ?_)));refine qg rR (fun h7=>?_) (fun h7=>?_)
  · simp at h7;refine qp (gM rR (gM rR (g_v (qc rR) rR (g_v (qa 17 underlying165 rR rR sizeOf162 (by decide) rR) rR (g_v (qe (v:=sl sd (ofM D.dirty).length cd) isAgg162 rR rR) rR (gM rR (gM rR (g_v (qO rR (zie _ rR _ rR)) rR ?_))))))));refine g_l (qs (qL [⟨fr,mn⟩]) underlying162 sizeOf172 zeroValue172 rR rR rR (by simp[qL,zuL]) (by decide) (by decide)) rR ?_;rintro _ _ ⟨b16,rfl,rfl⟩;refine yM (some ⟨b16,0,none⟩) ?_;refine g_l (qi (Pre:=[roL 2 sd (qL (ofM D.dirty)),roL 2 (some ⟨b16,0,none⟩) (qL [⟨fr,mn⟩])]) call144 rR (zjy (ofM D.dirty) [⟨fr,mn⟩] sd (some ⟨b16,0,none⟩) cd 1 (zlw _) (by simp) (zlD _) (by simp[okV];omega))) rR ?_;rintro _ _ ⟨s17,c17,rfl,rfl⟩;rw[zse];refine yM s17 ?_;refine g_v (qc rR) rR (g_v (qa 17 underlying165 rR rR sizeOf162 (by decide) rR) rR ?_);refine yr (qK (vdC ((D).size) ((D).blocks) (sl s17 (ofM (zlm D.dirty fr mn)).length c17) ((D).time) ((D).next) (sl ss gl.length cs)) sizeOf162 rR rR rR (by rw[zhi];decide) (zkI _ _ _ _ _ _ _)) ?_;rintro _ _ rfl;refine qb ?_;refine zas (vdC ((D).size) ((D).blocks) (sl s17 (ofM (zlm D.dirty fr mn)).length c17) ((D).time) ((D).next) (sl ss gl.length cs)) (qL (ofM (zlm D.dirty fr mn))) (wR gl) s17 c17 ss cs (gl) b ((markD D fr mn)) (by unfold markD;rw[if_pos h7]) (by unfold markD;rw[if_pos h7]) rR (by unfold markD;rw[if_pos h7];exact hgl) ?_;exact zcW rfl rfl rfl
  · simp at h7;refine qh ?_;refine zas (vdC ((D).size) ((D).blocks) (sl sd (ofM (D).dirty).length cd) ((D).time) ((D).next) (sl ss gl.length cs)) (qL (ofM (D).dirty)) (wR gl) sd cd ss cs (gl) b ((D)) rR rR rR hgl ?_;rw[show vdk b D=vdk b (markD D fr mn) by unfold markD;rw[if_neg (by omega)]];exact zcW rfl rfl rfl
theorem zhN (b:Nat)(D:VdM)(n:Int)(s:Bytes)(hz:D.size≤16)(F:List HProp):Ct Tryz.prog 63 [ptr b 0,I n,Str s] ([vdk b (D)]++F) (R1 (yE (wrE D n s)) (vdk b (wrD D n s)::F)):=by
  show Ct Tryz.prog 63 [ptr b 0,I n,Str s] (vdk b (D)::F) _;refine Ct.of func63 rR 33 ntmps63 (by simp) fun w0=>?_;refine zdz b (D) ?_;intro sd cd ss cs gl hgl;refine gS (gA rR (qb (qf (gS (gM rR (g_v (qN rR rR) rR (gM rR (qI rR rR (fun hg=>qn rR) rR rR (qI rR rR (fun hg=>qn rR) rR rR (qI rR rR (fun hg=>qc rR) rR rR (qI rR rR (fun hg=>qa 0 underlying165 rR rR sizeOf3 (by decide) rR) rR rR (qI rR rR (fun hg=>qe (v:=I D.size) isAgg3 rR rR) rR rR (qI rR rR (fun hg=>zhG rR rR) rR rR (g_v (zar rR rR) rR (qb ?_)))))))))))))));refine qg rR (fun h17=>?_) (fun h17=>?_)
  · simp at h17;have hw:wrE D n s=1:=(by unfold wrE;rw[if_pos (by omega)]);refine gS (g_v (qA underlying89 rR rR) rR (gA rR (qb ?_)));refine zas (vdC ((D).size) ((D).blocks) (sl sd (ofM (D).dirty).length cd) ((D).time) ((D).next) (sl ss gl.length cs)) (qL (ofM (D).dirty)) (wR gl) sd cd ss cs (gl) b ((D)) rR rR rR hgl ?_;rw[show vdk b D=vdk b (wrD D n s) by unfold wrD;rw[if_neg (by omega)]];exact qm rfl rfl (by rw[hw];rfl)
  · simp at h17;have hw:wrE D n s=ztb s:=(by unfold wrE;rw[if_neg (by omega)]);refine qh (gS (gM rR ?_));refine g_l (qi (Pre:=[]) call94 rR (zhQ s)) rR ?_;rintro _ _ ⟨rfl,rfl⟩;refine gA rR (qb (qf (gS (gM rR (g_v (wE underlying29 rR) rR (qb ?_))))));refine qg rR (fun h22=>?_) (fun h22=>?_)
    · simp at h22;refine gS (gM rR (gM rR (gM rR (g_v (qc rR) rR (g_v (qa 1 underlying165 rR rR sizeOf161 (by decide) rR) rR (g_v (zcu n.toNat underlying161 sizeOf9 rR rR (by omega) (by omega)) rR ?_))))));refine yr (qK (vdC ((D).size) (upd D.blocks n.toNat s) (sl sd (ofM (D).dirty).length cd) ((D).time) ((D).next) (sl ss gl.length cs)) sizeOf9 rR rR rR (by rw[zhi];omega) (zt1 _ _ _ _ _ _ _ _ (by omega))) ?_;rintro _ _ rfl;refine qb ?_;refine zas (vdC ((D).size) (upd D.blocks n.toNat s) (sl sd (ofM (D).dirty).length cd) ((D).time) ((D).next) (sl ss gl.length cs)) (qL (ofM D.dirty)) (wR gl) sd cd ss cs (gl) b ((⟨D.size,upd D.blocks n.toNat s,D.dirty,D.time,D.next,D.snaps⟩)) rR rR rR hgl ?_;refine qp (gM rR (gM rR ?_));refine g_l (qi (Pre:=[vdk b (⟨D.size,upd D.blocks n.toNat s,D.dirty,D.time,D.next,D.snaps⟩)]) call95 rR (ziE b ⟨D.size,upd D.blocks n.toNat s,D.dirty,D.time,D.next,D.snaps⟩ n 1 (by omega) (by omega))) rR ?_;rintro _ _ ⟨rfl,rfl⟩;refine qb (gS (gM rR (gA rR (qb ?_))));rw[show markD ⟨D.size,upd D.blocks n.toNat s,D.dirty,D.time,D.next,D.snaps⟩ n 1=wrD D n s by unfold markD wrD;rw[if_pos (by decide),if_pos (by omega)]];exact qm rfl rfl (by rw[hw];rfl)
    · simp at h22;refine qh (gS (gM rR (gA rR (qb ?_))));refine zas (vdC ((D).size) ((D).blocks) (sl sd (ofM (D).dirty).length cd) ((D).time) ((D).next) (sl ss gl.length cs)) (qL (ofM (D).dirty)) (wR gl) sd cd ss cs (gl) b ((D)) rR rR rR hgl ?_;rw[show vdk b D=vdk b (wrD D n s) by unfold wrD;rw[if_neg (by omega)]];exact qm rfl rfl (by rw[hw];rfl)
end Go.Proofs.YthdjckbjjfiopacGreatDoor
