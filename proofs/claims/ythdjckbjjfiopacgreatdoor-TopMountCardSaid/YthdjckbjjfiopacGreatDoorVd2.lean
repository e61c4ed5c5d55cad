/- Walks through package vdisk: new disks, what is found, what is marked, writing. No condition. -/
import Derived.Test.YthdjckbjjfiopacGreatDoorVd
set_option linter.unusedSimpArgs false
set_option linter.unusedVariables false
namespace Go.Proofs.YthdjckbjjfiopacGreatDoor
open _root_.Go.Proofs.Tryz
open Go.Sl Go.Proofs
def zhH (n:Int):VdM:=⟨n,fun _=>[],fun _=>false,0,1,[]⟩
def zvo (ok:Prop)(Ev:Int→Value)(A:Nat→HProp)(F:List HProp):Value→List HProp→Prop:=fun v L'=>(¬ok∧v= .tuple #[.pointer none,Ev 1]∧L'=F)∨(ok∧∃b,v= .tuple #[ptr b 0,Ev 0]∧L'=A b::F)
section
variable {c:Cx}{E:Env}{L:List HProp}{K:List KI}
theorem zod {Ev:Int→Value}{ok:Prop}{A:Nat→HProp}{F:List HProp}{vs:List Value}(hR:c.R=zvo ok Ev A F)(hr:zbd E c.fn.results.toList=some vs)(hn:¬ok)(hv:tup vs= .tuple #[.pointer none,Ev 1])[S:Sub L F](hds:c.n.ds=[]:=by rfl):G c (.code .ret::K) E L:=
  fun a w hE hS=>wp_ret (yc (qw (hds:=hds) hr hE (S.sat hS) (by rw[hR];exact .inl ⟨hn,hv,rfl⟩)))
theorem zol {Ev:Int→Value}{ok:Prop}{A:Nat→HProp}{F:List HProp}{vs:List Value}(b:Nat)(hR:c.R=zvo ok Ev A F)(hr:zbd E c.fn.results.toList=some vs)(hn:ok)(hv:tup vs= .tuple #[ptr b 0,Ev 0])[S:Sub L (A b::F)](hds:c.n.ds=[]:=by rfl):G c (.code .ret::K) E L:=
  fun a w hE hS=>wp_ret (yc (qw (hds:=hds) hr hE (S.sat hS) (by rw[hR];exact .inr ⟨hn,b,hv,rfl⟩)))
end
def znY (l:List SnapM)(id:Int):Nat:=l.findIdx fun s=>decide (s.id=id)
def zcL (l:List SnapM)(id:Int):Int:=if znY l id<l.length then (znY l id:Int) else -1
theorem zp6 {l:List SnapM}{id:Int}{k:Nat}{s:SnapM}(hno:∀j,j<k→∀t,l[j]? =some t→t.id≠id)(hs:l[k]? =some s)(he:s.id=id):zcL l id=k:=by
  obtain ⟨hk,hk2⟩:=List.getElem?_eq_some_iff.1 hs;have e:znY l id=k:=by
    unfold znY;rw[List.findIdx_eq hk];refine ⟨by rw[hk2];simpa using he,fun j hj=>?_⟩;simpa using hno j hj _ (List.getElem?_eq_getElem (by omega))
  unfold zcL;rw[e,if_pos hk]
theorem zok {l:List SnapM}{id:Int}(hno:∀j,j<l.length→∀t,l[j]? =some t→t.id≠id):zcL l id= -1:=by
  unfold zcL;rw[if_neg];intro h;have:=List.findIdx_getElem (w:=h);simp at this;exact hno _ h _ (List.getElem?_eq_getElem h) this
theorem zkk {l:List SnapM}{id:Int}(h:¬zcL l id<0):∃i s,zcL l id=((i:Nat):Int)∧l[i]? =some s∧s.id=id∧i<l.length:=by
  unfold zcL at h ⊢;split at h
  · rename_i hl;refine ⟨znY l id,l[znY l id],by rw[if_pos hl],List.getElem?_eq_getElem hl,?_,hl⟩;have:=List.findIdx_getElem (w:=hl);simp only[decide_eq_true_eq] at this;exact this
  · omega
theorem zxm {gl:List (SnapM×Loc)}{l:List SnapM}(h:gl.map Prod.fst=l){i:Nat}{s:SnapM}(hs:l[i]? =some s):∃q,gl[i]? =some (s,q):=by
  subst h;simp only[List.getElem?_map,Option.map_eq_some_iff] at hs;obtain ⟨⟨y,q⟩,h1,rfl⟩:=hs;exact ⟨q,h1⟩
theorem zmv {gl:List (SnapM×Loc)}{l:List SnapM}(h:gl.map Prod.fst=l):gl.length=l.length:=by subst h;simp
def zk7 (m:Nat→Bool)(fr mn:Int):Nat→Bool:=fun p=>m p || decide (fr≤(p:Int)∧(p:Int)<fr+mn)
theorem zsp (m:Nat→Bool)(fr mn:Int):ofM (orM (mk (ofM m)) (mk [⟨fr,mn⟩]))=ofM (zk7 m fr mn):=zqp fun p hp=>by
  unfold orM zk7;rw[ztl m hp];simp[mk]
def markD (D:VdM)(fr mn:Int):VdM:=if 0<mn then ⟨D.size,D.blocks,zk7 D.dirty fr mn,D.time,D.next,D.snaps⟩ else D
def ztu (s:Bytes):Int:=if 6<s.length then 2 else 0
def wrE (D:VdM)(n:Int)(s:Bytes):Int:=if n<0∨D.size≤n then 1 else ztu s
def wrD (D:VdM)(n:Int)(s:Bytes):VdM:=if wrE D n s=0 then ⟨D.size,upd D.blocks n.toNat s,zk7 D.dirty n 1,D.time,D.next,D.snaps⟩ else D
theorem zj1 (n:Int)(F:List HProp):Ct Tryz.prog 62 [I n] ([]++F) (zvo (1≤n∧n≤16) yy (fun b=>vdk b (zhH n)) F):=by
  show Ct Tryz.prog 62 [I n] (F) _;refine Ct.of func62 rR 14 ntmps62 (by simp) fun w0=>?_;refine gS (gA rR (gA rR (qb (qf (gS (gM rR (g_v (qP rR rR) rR (gM rR (qG rR rR (fun hg=>qn rR) rR rR (qG rR rR (fun hg=>yr rR rR) rR rR (g_v (zaq rR rR) rR (qb ?_))))))))))));refine qg rR (fun h9=>?_) (fun h9=>?_)
  · simp at h9;refine gS (g_v (qA underlying89 rR rR) rR (gA rR (gA rR (qb ?_))));exact zod rfl rfl (by omega) rfl
  · simp at h9;refine qh (gS (gM rR (g_v (qR rR (znQ _ rR _ rR)) rR ?_)));refine g_l (wT (vdC n (fun _=>[]) (sl none 0 0) 0 1 (sl none 0 0)) rR rR) rR ?_;rintro _ _ ⟨b13,rfl,rfl⟩;refine gA rR (gA rR (qb ?_));refine zla 2 (qN (ofM fun _=>false)) rR ?_;refine yK 169 20 (wS []) rR ?_;refine zrN ?_;refine zat (vdC n (fun _=>[]) (sl none 0 0) 0 1 (sl none 0 0)) (qN (ofM fun _=>false)) (wS []) none 0 none 0 ([]) b13 ((zhH n)) rR rR rR rR ?_;exact zol b13 rfl rfl (by omega) rfl
-- (*counterfoil/vdisk.Disk).Size is not in this seat
-- (*counterfoil/vdisk.Disk).Forget is not in this seat
theorem zhM (s:Bytes)(F:List HProp):Ct Tryz.prog 94 [Str s] ([]++F) (R1 (yy (ztu s)) F):=by
  show Ct Tryz.prog 94 [Str s] (F) _;refine Ct.of func94 rR 7 ntmps94 (by simp) fun w0=>?_;refine gS (gA rR (qb (qf (gS (gM rR (g_v (yU underlying9 rR) rR (g_v (yr rR rR) rR (qb ?_))))))));refine qg rR (fun h5=>?_) (fun h5=>?_)
  · simp at h5;refine gS (g_v (qA underlying89 rR rR) rR (gA rR (qb ?_)));refine qm rR rR ?_;show _=yy _;rw[show ztu s=2 by unfold ztu;rw[if_pos (by omega)]]
    rfl
  · simp at h5;refine qh (gS (gA rR (qb ?_)));refine qm rR rR ?_;show _=yy _;rw[show ztu s=0 by unfold ztu;rw[if_neg (by omega)]]
    rfl
theorem zhK (x:SnapM×Loc)(q:Nat)(id:Int)(F:List HProp):Ct Tryz.prog 218 [.agg (zmP x).toArray,ptr q 0] ([pt q (.cells #[I id] 3 (0,0))]++F) (R1 (Bo (decide (x.1.id=id))) (pt q (.cells #[I id] 3 (0,0))::F)):=by
  show Ct Tryz.prog 218 [.agg (zmP x).toArray,ptr q 0] (pt q (.cells #[I id] 3 (0,0))::F) _;refine Ct.of func218 rR 8 ntmps218 (by simp) fun w0=>?_;refine gS ?_;refine g_l (wT (zmP x).toArray rR rR) rR ?_;rintro _ _ ⟨b2,rfl,rfl⟩;refine gA rR (qb (gS (g_v (qa 0 underlying169 rR rR sizeOf3 (by decide) rR) rR (g_v (qe (v:=I x.1.id) isAgg3 rR rR) rR (g_v (qe (v:=I id) isAgg3 rR rR) rR (g_v (wg rR rR) rR (gA rR (qb ?_))))))));refine qm rR rR ?_;exact rfl
theorem zfe (gl:List (SnapM×Loc))(ss:Option Addr)(cs q:Nat)(id:Int)(hgl:gl.length≤1000000)(F:List HProp):Ct Tryz.prog 217 [sl ss gl.length cs, .func (.func 218) #[] #[ptr q 0]] ([owL 169 20 ss cs (wS gl),pt q (.cells #[I id] 3 (0,0))]++F) (R1 (I (zcL (gl.map Prod.fst) id)) (owL 169 20 ss cs (wS gl)::pt q (.cells #[I id] 3 (0,0))::F)):=by
  show Ct Tryz.prog 217 [sl ss gl.length cs, .func (.func 218) #[] #[ptr q 0]] (owL 169 20 ss cs (wS gl)::pt q (.cells #[I id] 3 (0,0))::F) _;refine Ct.of func217 rR 19 ntmps217 (by simp) fun w0=>?_;refine gS (gA rR (qb (qf (gS (gM rR (g_v (ym underlying163 rR) rR (gM rR (qb (qk ?_)))))))));refine qF (α:=Nat) (fun k=>k≤gl.length∧∀j,j<k→∀t,(gl.map Prod.fst)[j]? =some t→t.id≠id) (fun k=>U [(0,sl ss gl.length cs),(1, .func (.func 218) #[] #[ptr q 0]),(7,I gl.length),(8,I k)]) (fun _=>owL 169 20 ss cs (wS gl)::pt q (.cells #[I id] 3 (0,0))::F) (fun k=>gl.length - k) 0 ⟨by simp,fun j hj=>absurd hj (by omega)⟩ [0,1,7,8] rfl rR ?_;rintro k ⟨hk,hno⟩;refine gS (g_v (qP rR rR) rR (qb (qf ?_)));refine qg rR (fun h9=>?_) (fun h9=>?_)
  · simp at h9;have hkn:k<gl.length:=(by omega);obtain ⟨x,hx⟩:∃x,gl[k]? =some x:=⟨_,List.getElem?_eq_getElem hkn⟩;have hkr:k<(wS gl).length:=(by rw[zeI];exact hkn);have hx2:(gl.map Prod.fst)[k]? =some x.1:=(by simp[hx]);refine qh (qf (qk (gS (gM rR (gA rR (qb (gS (gM rR (gM rR (gM rR (g_v (qC k underlying163 sizeOf169 rR rR rR hkn hkr) rR (g_v (ye (row:=zmP x) isAgg169 sizeOf169 rR (ziX hx) rR) rR ?_))))))))))));refine g_l (zap (fi:=[]) (cap:=[ptr q 0]) (Pre:=[pt q (.cells #[I id] 3 (0,0))]) call218 rR rR (zhK x q id)) rR ?_;rintro _ _ ⟨rfl,rfl⟩;refine qb ?_;refine qg rR (fun h16=>?_) (fun h16=>?_)
    · simp at h16;refine gS (gM rR (gA rR (qb ?_)));refine qm rR rR ?_;show I _=I _;rw[zp6 hno hx2 h16]
    · simp at h16;refine qh (qH (qp (g_v (qu rR rR (w64 (by omega))) rR (gM rR (qb ?_)))));exact qo (k+1) ⟨by omega,fun j hj t ht=>by
          rcases Nat.lt_or_ge j k with h | h
          · exact hno j h t ht
          · obtain rfl:j=k:=(by omega);rw[hx2] at ht;injection ht with ht;rw[←ht];exact h16⟩ (by omega) [0,1,7,8] rfl rfl
  · simp at h9;obtain rfl:k=gl.length:=(by omega);refine qz rR ?_;refine gS (gA rR (qb ?_));refine qm rR rR ?_;show I _=I _;rw[zok (by simpa using hno)]
theorem zem (b:Nat)(D:VdM)(id:Int)(hs:D.snaps.length≤1000000)(F:List HProp):Ct Tryz.prog 187 [ptr b 0,I id] ([vdk b (D)]++F) (R1 (I (zcL D.snaps id)) (vdk b (D)::F)):=by
  show Ct Tryz.prog 187 [ptr b 0,I id] (vdk b (D)::F) _;refine Ct.of func187 rR 11 ntmps187 (by simp) fun w0=>?_;refine zdq b (D) ?_;intro sd cd ss cs gl hgl;have hln:=zmv hgl;refine gS ?_;refine g_l (wT #[I id] rfl rR) rR ?_;rintro _ _ ⟨b3,rfl,rfl⟩;refine gA rR (qb (gS (gM rR (g_v (qc rR) rR (g_v (qa 20 underlying165 rR rR sizeOf163 (by decide) rR) rR (g_v (qe (v:=sl ss gl.length cs) isAgg163 rR rR) rR (g_v (wP rR rR) rR ?_)))))));refine g_l (qi (Pre:=[owL 169 20 ss cs (wS gl),pt b3 (.cells #[I id] 3 (0,0))]) call217 rR (zfe gl ss cs b3 id (by omega))) rR ?_;rintro _ _ ⟨rfl,rfl⟩;rw[hgl];refine gA rR (qb ?_);refine zat (vdC ((D).size) ((D).blocks) (sl sd (ofM (D).dirty).length cd) ((D).time) ((D).next) (sl ss gl.length cs)) (qN (ofM (D).dirty)) (wS gl) sd cd ss cs (gl) b ((D)) rR rR rR hgl ?_;exact qm rfl rfl rfl
theorem ziY (b:Nat)(D:VdM)(fr mn:Int)(h0:0≤fr)(h1:fr+mn≤16)(F:List HProp):Ct Tryz.prog 95 [ptr b 0,I fr,I mn] ([vdk b (D)]++F) (R1 (.tuple #[]) (vdk b (markD D fr mn)::F)):=by
  show Ct Tryz.prog 95 [ptr b 0,I fr,I mn] (vdk b (D)::F) _;refine Ct.of func95 rR 20 ntmps95 (by simp) fun w0=>?_;refine zdq b (D) ?_;intro sd cd ss cs gl hgl;refine gS (gM rR (g_v (yr rR rR) rR (qb ?_)));refine qg rR (fun h7=>?_) (fun h7=>?_)
  · simp at h7;refine qp (gM rR (gM rR (g_v (qc rR) rR (g_v (qa 17 underlying165 rR rR sizeOf162 (by decide) rR) rR (g_v (qe (v:=sl sd (ofM D.dirty).length cd) isAgg162 rR rR) rR (gM rR (gM rR (g_v (qR rR (zil _ rR _ rR)) rR ?_))))))));refine g_l (qs (qN [⟨fr,mn⟩]) underlying162 sizeOf172 zeroValue172 rR rR rR (by simp[qN,zup]) (by decide) (by decide)) rR ?_;rintro _ _ ⟨b16,rfl,rfl⟩;refine yF (some ⟨b16,0,none⟩) ?_;refine g_l (qi (Pre:=[roL 2 sd (qN (ofM D.dirty)),roL 2 (some ⟨b16,0,none⟩) (qN [⟨fr,mn⟩])]) call144 rR (ziF (ofM D.dirty) [⟨fr,mn⟩] sd (some ⟨b16,0,none⟩) cd 1 (zlh _) (by simp) (zl6 _) (by simp[okV];omega))) rR ?_;rintro _ _ ⟨s17,c17,rfl,rfl⟩;rw[zsp];refine yF s17 ?_;refine g_v (qc rR) rR (g_v (qa 17 underlying165 rR rR sizeOf162 (by decide) rR) rR ?_);refine yp (qK (vdC ((D).size) ((D).blocks) (sl s17 (ofM (zk7 D.dirty fr mn)).length c17) ((D).time) ((D).next) (sl ss gl.length cs)) sizeOf162 rR rR rR (by rw[zgE];decide) (zka _ _ _ _ _ _ _)) ?_;rintro _ _ rfl;refine qb ?_;refine zat (vdC ((D).size) ((D).blocks) (sl s17 (ofM (zk7 D.dirty fr mn)).length c17) ((D).time) ((D).next) (sl ss gl.length cs)) (qN (ofM (zk7 D.dirty fr mn))) (wS gl) s17 c17 ss cs (gl) b ((markD D fr mn)) (by unfold markD;rw[if_pos h7]) (by unfold markD;rw[if_pos h7]) rR (by unfold markD;rw[if_pos h7];exact hgl) ?_;exact zcZ rfl rfl rfl
  · simp at h7;refine qh ?_;refine zat (vdC ((D).size) ((D).blocks) (sl sd (ofM (D).dirty).length cd) ((D).time) ((D).next) (sl ss gl.length cs)) (qN (ofM (D).dirty)) (wS gl) sd cd ss cs (gl) b ((D)) rR rR rR hgl ?_;rw[show vdk b D=vdk b (markD D fr mn) by unfold markD;rw[if_neg (by omega)]];exact zcZ rfl rfl rfl
theorem zhG (b:Nat)(D:VdM)(n:Int)(s:Bytes)(hz:D.size≤16)(F:List HProp):Ct Tryz.prog 63 [ptr b 0,I n,Str s] ([vdk b (D)]++F) (R1 (yy (wrE D n s)) (vdk b (wrD D n s)::F)):=by
  show Ct Tryz.prog 63 [ptr b 0,I n,Str s] (vdk b (D)::F) _;refine Ct.of func63 rR 33 ntmps63 (by simp) fun w0=>?_;refine zdq b (D) ?_;intro sd cd ss cs gl hgl;refine gS (gA rR (qb (qf (gS (gM rR (g_v (qP rR rR) rR (gM rR (qG rR rR (fun hg=>qn rR) rR rR (qG rR rR (fun hg=>qn rR) rR rR (qG rR rR (fun hg=>qc rR) rR rR (qG rR rR (fun hg=>qa 0 underlying165 rR rR sizeOf3 (by decide) rR) rR rR (qG rR rR (fun hg=>qe (v:=I D.size) isAgg3 rR rR) rR rR (qG rR rR (fun hg=>zhB rR rR) rR rR (g_v (zaq rR rR) rR (qb ?_)))))))))))))));refine qg rR (fun h17=>?_) (fun h17=>?_)
  · simp at h17;have hw:wrE D n s=1:=(by unfold wrE;rw[if_pos (by omega)]);refine gS (g_v (qA underlying89 rR rR) rR (gA rR (qb ?_)));refine zat (vdC ((D).size) ((D).blocks) (sl sd (ofM (D).dirty).length cd) ((D).time) ((D).next) (sl ss gl.length cs)) (qN (ofM (D).dirty)) (wS gl) sd cd ss cs (gl) b ((D)) rR rR rR hgl ?_;rw[show vdk b D=vdk b (wrD D n s) by unfold wrD;rw[if_neg (by omega)]];exact qm rfl rfl (by rw[hw];rfl)
  · simp at h17;have hw:wrE D n s=ztu s:=(by unfold wrE;rw[if_neg (by omega)]);refine qh (gS (gM rR ?_));refine g_l (qi (Pre:=[]) call94 rR (zhM s)) rR ?_;rintro _ _ ⟨rfl,rfl⟩;refine gA rR (qb (qf (gS (gM rR (g_v (wx underlying29 rR) rR (qb ?_))))));refine qg rR (fun h22=>?_) (fun h22=>?_)
    · simp at h22;refine gS (gM rR (gM rR (gM rR (g_v (qc rR) rR (g_v (qa 1 underlying165 rR rR sizeOf161 (by decide) rR) rR (g_v (zcm n.toNat underlying161 sizeOf9 rR rR (by omega) (by omega)) rR ?_))))));refine yp (qK (vdC ((D).size) (upd D.blocks n.toNat s) (sl sd (ofM (D).dirty).length cd) ((D).time) ((D).next) (sl ss gl.length cs)) sizeOf9 rR rR rR (by rw[zgE];omega) (ztV _ _ _ _ _ _ _ _ (by omega))) ?_;rintro _ _ rfl;refine qb ?_;refine zat (vdC ((D).size) (upd D.blocks n.toNat s) (sl sd (ofM (D).dirty).length cd) ((D).time) ((D).next) (sl ss gl.length cs)) (qN (ofM D.dirty)) (wS gl) sd cd ss cs (gl) b ((⟨D.size,upd D.blocks n.toNat s,D.dirty,D.time,D.next,D.snaps⟩)) rR rR rR hgl ?_;refine qp (gM rR (gM rR ?_));refine g_l (qi (Pre:=[vdk b (⟨D.size,upd D.blocks n.toNat s,D.dirty,D.time,D.next,D.snaps⟩)]) call95 rR (ziY b ⟨D.size,upd D.blocks n.toNat s,D.dirty,D.time,D.next,D.snaps⟩ n 1 (by omega) (by omega))) rR ?_;rintro _ _ ⟨rfl,rfl⟩;refine qb (gS (gM rR (gA rR (qb ?_))));rw[show markD ⟨D.size,upd D.blocks n.toNat s,D.dirty,D.time,D.next,D.snaps⟩ n 1=wrD D n s by unfold markD wrD;rw[if_pos (by decide),if_pos (by omega)]];exact qm rfl rfl (by rw[hw];rfl)
    · simp at h22;refine qh (gS (gM rR (gA rR (qb ?_))));refine zat (vdC ((D).size) ((D).blocks) (sl sd (ofM (D).dirty).length cd) ((D).time) ((D).next) (sl ss gl.length cs)) (qN (ofM (D).dirty)) (wS gl) sd cd ss cs (gl) b ((D)) rR rR rR hgl ?_;rw[show vdk b D=vdk b (wrD D n s) by unfold wrD;rw[if_neg (by omega)]];exact qm rfl rfl (by rw[hw];rfl)
end Go.Proofs.YthdjckbjjfiopacGreatDoor
