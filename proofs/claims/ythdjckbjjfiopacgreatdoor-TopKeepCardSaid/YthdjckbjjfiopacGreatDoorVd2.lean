/- Walks through package vdisk: new disks, what is found, what is marked, writing. No condition. -/
import Derived.Test.YthdjckbjjfiopacGreatDoorVd
set_option linter.unusedSimpArgs false
set_option linter.unusedVariables false
namespace Go.Proofs.YthdjckbjjfiopacGreatDoor
open _root_.Tryz
open Go.Sl Go.Proofs
def zhE (n:Int):VdM:=⟨n,fun _=>[],fun _=>false,0,1,[]⟩
def zuZ (ok:Prop)(Ev:Int→Value)(A:Nat→HProp)(F:List HProp):Value→List HProp→Prop:=fun v L'=>(¬ok∧v= .tuple #[.pointer none,Ev 1]∧L'=F)∨(ok∧∃b,v= .tuple #[ptr b 0,Ev 0]∧L'=A b::F)
section
variable {c:Cx}{E:Env}{L:List HProp}{K:List KI}
theorem zn6 {Ev:Int→Value}{ok:Prop}{A:Nat→HProp}{F:List HProp}{vs:List Value}(hR:c.R=zuZ ok Ev A F)(hr:za6 E c.fn.results.toList=some vs)(hn:¬ok)(hv:tup vs= .tuple #[.pointer none,Ev 1])[S:Sub L F](hds:c.n.ds=[]:=by rfl):G c (.code .ret::K) E L:=
  fun a w hE hS=>wp_ret (yb (qx (hds:=hds) hr hE (S.sat hS) (by rw[hR];exact .inl ⟨hn,hv,rfl⟩)))
theorem zn1 {Ev:Int→Value}{ok:Prop}{A:Nat→HProp}{F:List HProp}{vs:List Value}(b:Nat)(hR:c.R=zuZ ok Ev A F)(hr:za6 E c.fn.results.toList=some vs)(hn:ok)(hv:tup vs= .tuple #[ptr b 0,Ev 0])[S:Sub L (A b::F)](hds:c.n.ds=[]:=by rfl):G c (.code .ret::K) E L:=
  fun a w hE hS=>wp_ret (yb (qx (hds:=hds) hr hE (S.sat hS) (by rw[hR];exact .inr ⟨hn,b,hv,rfl⟩)))
end
def znD (l:List SnapM)(id:Int):Nat:=l.findIdx fun s=>decide (s.id=id)
def zcN (l:List SnapM)(id:Int):Int:=if znD l id<l.length then (znD l id:Int) else -1
theorem zpV {l:List SnapM}{id:Int}{k:Nat}{s:SnapM}(hno:∀j,j<k→∀t,l[j]?=some t→t.id≠id)(hs:l[k]?=some s)(he:s.id=id):zcN l id=k:=by
  obtain ⟨hk,hk2⟩:=List.getElem?_eq_some_iff.1 hs;have e:znD l id=k:=by
    unfold znD;rw[List.findIdx_eq hk];refine ⟨by rw[hk2];simpa using he,fun j hj=>?_⟩;simpa using hno j hj _ (List.getElem?_eq_getElem (by omega))
  unfold zcN;rw[e,if_pos hk]
theorem znA {l:List SnapM}{id:Int}(hno:∀j,j<l.length→∀t,l[j]?=some t→t.id≠id):zcN l id= -1:=by
  unfold zcN;rw[if_neg];intro h;have:=List.findIdx_getElem (w:=h);simp at this;exact hno _ h _ (List.getElem?_eq_getElem h) this
theorem zjS {l:List SnapM}{id:Int}(h:¬zcN l id<0):∃i s,zcN l id=((i:Nat):Int)∧l[i]?=some s∧s.id=id∧i<l.length:=by
  unfold zcN at h ⊢;split at h
  · rename_i hl;refine ⟨znD l id,l[znD l id],by rw[if_pos hl],List.getElem?_eq_getElem hl,?_,hl⟩;have:=List.findIdx_getElem (w:=hl);simp only[decide_eq_true_eq] at this;exact this
  · omega
theorem zwT {gl:List (SnapM×Loc)}{l:List SnapM}(h:gl.map Prod.fst=l){i:Nat}{s:SnapM}(hs:l[i]?=some s):∃q,gl[i]?=some (s,q):=by
  subst h;simp only[List.getElem?_map,Option.map_eq_some_iff] at hs;obtain ⟨⟨y,q⟩,h1,rfl⟩:=hs;exact ⟨q,h1⟩
theorem zmg {gl:List (SnapM×Loc)}{l:List SnapM}(h:gl.map Prod.fst=l):gl.length=l.length:=by subst h;simp
def zk0 (m:Nat→Bool)(fr mn:Int):Nat→Bool:=fun p=>m p || decide (fr≤(p:Int)∧(p:Int)<fr+mn)
theorem zr7 (m:Nat→Bool)(fr mn:Int):ofM (orM (mk (ofM m)) (mk [⟨fr,mn⟩]))=ofM (zk0 m fr mn):=zq6 fun p hp=>by
  unfold orM zk0;rw[ztt m hp];simp[mk]
def markD (D:VdM)(fr mn:Int):VdM:=if 0<mn then ⟨D.size,D.blocks,zk0 D.dirty fr mn,D.time,D.next,D.snaps⟩ else D
def ztq (s:Bytes):Int:=if 6<s.length then 2 else 0
def wrE (D:VdM)(n:Int)(s:Bytes):Int:=if n<0∨D.size≤n then 1 else ztq s
def wrD (D:VdM)(n:Int)(s:Bytes):VdM:=if wrE D n s=0 then ⟨D.size,upd D.blocks n.toNat s,zk0 D.dirty n 1,D.time,D.next,D.snaps⟩ else D
theorem zjT (n:Int)(F:List HProp):Ct Tryz.prog 62 [I n] ([]++F) (zuZ (1≤n∧n≤16) yH (fun b=>vdk b (zhE n)) F):=by
  show Ct Tryz.prog 62 [I n] (F) _;refine Ct.of Tryz.func62 rR 14 Tryz.ntmps62 (by simp) fun w0=>?_
  refine gS (gA rR (gA rR (qb (qf (gS (gM rR (g_v (qL rR rR) rR (gM rR (qI rR rR (fun hg=>qg rR) rR rR (qI rR rR (fun hg=>yv rR rR) rR rR (g_v (zal rR rR) rR ?_)))))))))));refine qb ?_;refine qh rR (fun h9=>?_) (fun h9=>?_)
  · simp at h9;refine gS (g_v (qA underlying89 rR rR) rR (gA rR (gA rR (qb ?_))));exact zn6 rfl rfl (by omega) rfl
  · simp at h9;refine qi (gS (gM rR (g_v (qO rR (znZ _ rR _ rR)) rR ?_)));refine g_l (wR (vdC n (fun _=>[]) (sl none 0 0) 0 1 (sl none 0 0)) rR rR) rR ?_;rintro _ _ ⟨b13,rfl,rfl⟩;refine gA rR (gA rR (qb ?_));refine zlZ 2 (qM (ofM fun _=>false)) rR ?_;refine yJ 169 20 (wQ []) rR ?_;refine zr2 ?_;refine zar (vdC n (fun _=>[]) (sl none 0 0) 0 1 (sl none 0 0)) (qM (ofM fun _=>false)) (wQ []) none 0 none 0 ([]) b13 ((zhE n)) rR rR rR rR ?_;exact zn1 b13 rfl rfl (by omega) rfl
-- (*counterfoil/vdisk.Disk).Size is not in this seat
-- (*counterfoil/vdisk.Disk).Forget is not in this seat
theorem zhV (s:Bytes)(F:List HProp):Ct Tryz.prog 94 [Str s] ([]++F) (R1 (yH (ztq s)) F):=by
  show Ct Tryz.prog 94 [Str s] (F) _;refine Ct.of Tryz.func94 rR 7 Tryz.ntmps94 (by simp) fun w0=>?_
  refine gS (gA rR (qb (qf (gS (gM rR (g_v (wc underlying9 rR) rR (g_v (yv rR rR) rR (qb ?_))))))));refine qh rR (fun h5=>?_) (fun h5=>?_)
  · simp at h5;refine gS (g_v (qA underlying89 rR rR) rR (gA rR (qb ?_)));refine qn rR rR ?_;show _=yH _;rw[show ztq s=2 by unfold ztq;rw[if_pos (by omega)]]
    rfl
  · simp at h5;refine qi (gS (gA rR (qb ?_)));refine qn rR rR ?_;show _=yH _;rw[show ztq s=0 by unfold ztq;rw[if_neg (by omega)]]
    rfl
theorem zhX (x:SnapM×Loc)(q:Nat)(id:Int)(F:List HProp):Ct Tryz.prog 218 [.agg (znp x).toArray,ptr q 0] ([pt q (.cells #[I id] 3 (0,0))]++F) (R1 (Bo (decide (x.1.id=id))) (pt q (.cells #[I id] 3 (0,0))::F)):=by
  show Ct Tryz.prog 218 [.agg (znp x).toArray,ptr q 0] (pt q (.cells #[I id] 3 (0,0))::F) _;refine Ct.of Tryz.func218 rR 8 Tryz.ntmps218 (by simp) fun w0=>?_
  refine gS ?_;refine g_l (wR (znp x).toArray rR rR) rR ?_;rintro _ _ ⟨b2,rfl,rfl⟩;refine gA rR (qb (gS (g_v (qa 0 underlying169 rR rR sizeOf3 (by decide) rR) rR (g_v (qe (v:=I x.1.id) isAgg3 rR rR) rR (g_v (qe (v:=I id) isAgg3 rR rR) rR (g_v (yY rR rR) rR (gA rR (qb ?_))))))));refine qn rR rR ?_;exact rfl
theorem ze5 (gl:List (SnapM×Loc))(ss:Option Addr)(cs q:Nat)(id:Int)(hgl:gl.length≤1000000)(F:List HProp):Ct Tryz.prog 217 [sl ss gl.length cs, .func (.func 218) #[] #[ptr q 0]] ([owL 169 20 ss cs (wQ gl),pt q (.cells #[I id] 3 (0,0))]++F) (R1 (I (zcN (gl.map Prod.fst) id)) (owL 169 20 ss cs (wQ gl)::pt q (.cells #[I id] 3 (0,0))::F)):=by
  show Ct Tryz.prog 217 [sl ss gl.length cs, .func (.func 218) #[] #[ptr q 0]] (owL 169 20 ss cs (wQ gl)::pt q (.cells #[I id] 3 (0,0))::F) _;refine Ct.of Tryz.func217 rR 19 Tryz.ntmps217 (by simp) fun w0=>?_
  refine gS (gA rR (qb (qf (gS (gM rR (g_v (yk underlying163 rR) rR (gM rR (qb (ql ?_)))))))));refine qF (α:=Nat) (fun k=>k≤gl.length∧∀j,j<k→∀t,(gl.map Prod.fst)[j]?=some t→t.id≠id) (fun k=>U [(0,sl ss gl.length cs),(1, .func (.func 218) #[] #[ptr q 0]),(7,I gl.length),(8,I k)]) (fun _=>owL 169 20 ss cs (wQ gl)::pt q (.cells #[I id] 3 (0,0))::F) (fun k=>gl.length - k) 0 ⟨by simp,fun j hj=>absurd hj (by omega)⟩ [0,1,7,8] rR rR ?_;rintro k ⟨hk,hno⟩;refine gS (g_v (qL rR rR) rR (qb (qf ?_)));refine qh rR (fun h9=>?_) (fun h9=>?_)
  · simp at h9;have hkn:k<gl.length:=by omega
    obtain ⟨x,hx⟩:∃x,gl[k]?=some x:=⟨_,List.getElem?_eq_getElem hkn⟩;have hkr:k<(wQ gl).length:=by rw[zeV];exact hkn
    have hx2:(gl.map Prod.fst)[k]?=some x.1:=by simp[hx]
    refine qi (qf (ql (gS (gM rR (gA rR (qb (gS (gM rR (gM rR (gM rR (g_v (qB k underlying163 sizeOf169 rR rR rR hkn hkr) rR ?_)))))))))));refine g_v (yd (row:=znp x) isAgg169 sizeOf169 rR (zjp hx) rR) rR ?_;refine g_l (zak (fi:=[]) (cap:=[ptr q 0]) (Pre:=[pt q (.cells #[I id] 3 (0,0))]) call218 rR rR (zhX x q id)) rR ?_;rintro _ _ ⟨rfl,rfl⟩;refine qb ?_;refine qh rR (fun h16=>?_) (fun h16=>?_)
    · simp at h16;refine gS (gM rR (gA rR (qb ?_)));refine qn rR rR ?_;show I _=I _;rw[zpV hno hx2 h16]
    · simp at h16;refine qi (qG (qp (g_v (qu rR rR (w64 (by omega))) rR (gM rR (qb ?_)))));exact qo (k+1) ⟨by omega,fun j hj t ht=>by
          rcases Nat.lt_or_ge j k with h | h
          · exact hno j h t ht
          · obtain rfl:j=k:=by omega
            rw[hx2] at ht;injection ht with ht;rw[←ht];exact h16⟩ (by omega) [0,1,7,8] rfl rfl
  · simp at h9;obtain rfl:k=gl.length:=by omega
    refine qy rR ?_;refine gS (gA rR (qb ?_));refine qn rR rR ?_;show I _=I _;rw[znA (by simpa using hno)]
theorem zey (b:Nat)(D:VdM)(id:Int)(hs:D.snaps.length≤1000000)(F:List HProp):Ct Tryz.prog 187 [ptr b 0,I id] ([vdk b (D)]++F) (R1 (I (zcN D.snaps id)) (vdk b (D)::F)):=by
  show Ct Tryz.prog 187 [ptr b 0,I id] (vdk b (D)::F) _;refine Ct.of Tryz.func187 rR 11 Tryz.ntmps187 (by simp) fun w0=>?_
  refine zdE b (D) ?_;intro sd cd ss cs gl hgl;have hln:=zmg hgl;refine gS ?_;refine g_l (wR #[I id] rR rR) rR ?_;rintro _ _ ⟨b3,rfl,rfl⟩;refine gA rR (qb (gS (gM rR (g_v (qc rR) rR (g_v (qa 20 underlying165 rR rR sizeOf163 (by decide) rR) rR (g_v (qe (v:=sl ss gl.length cs) isAgg163 rR rR) rR (g_v (wO rR rR) rR ?_)))))));refine g_l (qj (Pre:=[owL 169 20 ss cs (wQ gl),pt b3 (.cells #[I id] 3 (0,0))]) call217 rR (ze5 gl ss cs b3 id (by omega))) rR ?_;rintro _ _ ⟨rfl,rfl⟩;rw[hgl];refine gA rR (qb ?_);refine zar (vdC ((D).size) ((D).blocks) (sl sd (ofM (D).dirty).length cd) ((D).time) ((D).next) (sl ss gl.length cs)) (qM (ofM (D).dirty)) (wQ gl) sd cd ss cs (gl) b ((D)) rR rR rR hgl ?_;exact qn rfl rfl rfl
theorem zjh (b:Nat)(D:VdM)(fr mn:Int)(h0:0≤fr)(h1:fr+mn≤16)(F:List HProp):Ct Tryz.prog 95 [ptr b 0,I fr,I mn] ([vdk b (D)]++F) (R1 (.tuple #[]) (vdk b (markD D fr mn)::F)):=by
  show Ct Tryz.prog 95 [ptr b 0,I fr,I mn] (vdk b (D)::F) _;refine Ct.of Tryz.func95 rR 20 Tryz.ntmps95 (by simp) fun w0=>?_
  refine zdE b (D) ?_;intro sd cd ss cs gl hgl;refine gS (gM rR (g_v (yv rR rR) rR (qb ?_)));refine qh rR (fun h7=>?_) (fun h7=>?_)
  · simp at h7;refine qp (gM rR (gM rR (g_v (qc rR) rR (g_v (qa 17 underlying165 rR rR sizeOf162 (by decide) rR) rR (g_v (qe (v:=sl sd (ofM D.dirty).length cd) isAgg162 rR rR) rR (gM rR (gM rR (g_v (qO rR (zh6 _ rR _ rR)) rR ?_))))))));refine g_l (qs (qM [⟨fr,mn⟩]) underlying162 sizeOf172 zeroValue172 rR rR rR (by simp[qM,zva]) (by decide) (by decide)) rR ?_;rintro _ _ ⟨b16,rfl,rfl⟩;refine yM (some ⟨b16,0,none⟩) ?_;refine g_l (qj (Pre:=[roL 2 sd (qM (ofM D.dirty)),roL 2 (some ⟨b16,0,none⟩) (qM [⟨fr,mn⟩])]) call144 rR (ziL (ofM D.dirty) [⟨fr,mn⟩] sd (some ⟨b16,0,none⟩) cd 1 (zlz _) (by simp) (zlT _) (by simp[okV];omega))) rR ?_;rintro _ _ ⟨s17,c17,rfl,rfl⟩;rw[zr7];refine yM s17 ?_;refine g_v (qc rR) rR (g_v (qa 17 underlying165 rR rR sizeOf162 (by decide) rR) rR ?_);refine yp (qJ (vdC ((D).size) ((D).blocks) (sl s17 (ofM (zk0 D.dirty fr mn)).length c17) ((D).time) ((D).next) (sl ss gl.length cs)) sizeOf162 rR rR rR (by rw[zgN];decide) (zkF _ _ _ _ _ _ _)) ?_;rintro _ _ rfl;refine qb ?_;refine zar (vdC ((D).size) ((D).blocks) (sl s17 (ofM (zk0 D.dirty fr mn)).length c17) ((D).time) ((D).next) (sl ss gl.length cs)) (qM (ofM (zk0 D.dirty fr mn))) (wQ gl) s17 c17 ss cs (gl) b ((markD D fr mn)) (by unfold markD;rw[if_pos h7]) (by unfold markD;rw[if_pos h7]) rR (by unfold markD;rw[if_pos h7];exact hgl) ?_;exact zdo rfl rfl rfl
  · simp at h7;refine qi ?_;refine zar (vdC ((D).size) ((D).blocks) (sl sd (ofM (D).dirty).length cd) ((D).time) ((D).next) (sl ss gl.length cs)) (qM (ofM (D).dirty)) (wQ gl) sd cd ss cs (gl) b ((D)) rR rR rR hgl ?_;rw[show vdk b D=vdk b (markD D fr mn) by unfold markD;rw[if_neg (by omega)]];exact zdo rfl rfl rfl
theorem zhH (b:Nat)(D:VdM)(n:Int)(s:Bytes)(hz:D.size≤16)(F:List HProp):Ct Tryz.prog 63 [ptr b 0,I n,Str s] ([vdk b (D)]++F) (R1 (yH (wrE D n s)) (vdk b (wrD D n s)::F)):=by
  show Ct Tryz.prog 63 [ptr b 0,I n,Str s] (vdk b (D)::F) _;refine Ct.of Tryz.func63 rR 33 Tryz.ntmps63 (by simp) fun w0=>?_
  refine zdE b (D) ?_;intro sd cd ss cs gl hgl;refine gS (gA rR (qb (qf (gS (gM rR (g_v (qL rR rR) rR (gM rR (qI rR rR (fun hg=>qg rR) rR rR (qI rR rR (fun hg=>qg rR) rR rR (qI rR rR (fun hg=>qc rR) rR rR (qI rR rR (fun hg=>qa 0 underlying165 rR rR sizeOf3 (by decide) rR) rR rR ?_)))))))))));refine qI rR rR (fun hg=>qe (v:=I D.size) isAgg3 rR rR) rR rR (qI rR rR (fun hg=>zgw rR rR) rR rR (g_v (zal rR rR) rR (qb ?_)));refine qh rR (fun h17=>?_) (fun h17=>?_)
  · simp at h17;have hw:wrE D n s=1:=by unfold wrE;rw[if_pos (by omega)]
    refine gS (g_v (qA underlying89 rR rR) rR (gA rR (qb ?_)));refine zar (vdC ((D).size) ((D).blocks) (sl sd (ofM (D).dirty).length cd) ((D).time) ((D).next) (sl ss gl.length cs)) (qM (ofM (D).dirty)) (wQ gl) sd cd ss cs (gl) b ((D)) rR rR rR hgl ?_;rw[show vdk b D=vdk b (wrD D n s) by unfold wrD;rw[if_neg (by omega)]];exact qn rfl rfl (by rw[hw];rfl)
  · simp at h17;have hw:wrE D n s=ztq s:=by unfold wrE;rw[if_neg (by omega)]
    refine qi (gS (gM rR ?_));refine g_l (qj (Pre:=[]) call94 rR (zhV s)) rR ?_;rintro _ _ ⟨rfl,rfl⟩;refine gA rR (qb (qf (gS (gM rR (g_v (wW underlying29 rR) rR (qb ?_))))));refine qh rR (fun h22=>?_) (fun h22=>?_)
    · simp at h22;refine gS (gM rR (gM rR (gM rR (g_v (qc rR) rR (g_v (qa 1 underlying165 rR rR sizeOf161 (by decide) rR) rR (g_v (zcm n.toNat underlying161 sizeOf9 rR rR (by omega) (by omega)) rR ?_))))));refine yp (qJ (vdC ((D).size) (upd D.blocks n.toNat s) (sl sd (ofM (D).dirty).length cd) ((D).time) ((D).next) (sl ss gl.length cs)) sizeOf9 rR rR rR (by rw[zgN];omega) (zvB _ _ _ _ _ _ _ _ (by omega))) ?_;rintro _ _ rfl;refine qb ?_;refine zar (vdC ((D).size) (upd D.blocks n.toNat s) (sl sd (ofM (D).dirty).length cd) ((D).time) ((D).next) (sl ss gl.length cs)) (qM (ofM D.dirty)) (wQ gl) sd cd ss cs (gl) b ((⟨D.size,upd D.blocks n.toNat s,D.dirty,D.time,D.next,D.snaps⟩)) rR rR rR hgl ?_;refine qp (gM rR (gM rR ?_));refine g_l (qj (Pre:=[vdk b (⟨D.size,upd D.blocks n.toNat s,D.dirty,D.time,D.next,D.snaps⟩)]) call95 rR (zjh b ⟨D.size,upd D.blocks n.toNat s,D.dirty,D.time,D.next,D.snaps⟩ n 1 (by omega) (by omega))) rR ?_;rintro _ _ ⟨rfl,rfl⟩;refine qb (gS (gM rR (gA rR (qb ?_))));rw[show markD ⟨D.size,upd D.blocks n.toNat s,D.dirty,D.time,D.next,D.snaps⟩ n 1=wrD D n s by unfold markD wrD;rw[if_pos (by decide),if_pos (by omega)]];exact qn rfl rfl (by rw[hw];rfl)
    · simp at h22;refine qi (gS (gM rR (gA rR (qb ?_))));refine zar (vdC ((D).size) ((D).blocks) (sl sd (ofM (D).dirty).length cd) ((D).time) ((D).next) (sl ss gl.length cs)) (qM (ofM (D).dirty)) (wQ gl) sd cd ss cs (gl) b ((D)) rR rR rR hgl ?_;rw[show vdk b D=vdk b (wrD D n s) by unfold wrD;rw[if_neg (by omega)]];exact qn rfl rfl (by rw[hw];rfl)
end Go.Proofs.YthdjckbjjfiopacGreatDoor
