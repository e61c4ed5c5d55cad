/- Walks through package vdisk: new disks, what is found, what is marked, writing. No condition. -/
import Derived.Test.YthdjckbjjfiopacGreatDoorVd
set_option linter.unusedSimpArgs false
set_option linter.unusedVariables false
namespace Go.Proofs.YthdjckbjjfiopacGreatDoor
open _root_.Go.Proofs.Tryz
open Go.Sl Go.Proofs
def zhU (n:Int):VdM:=⟨n,fun _=>[],fun _=>false,0,1,[]⟩
def zt6 (ok:Prop)(Ev:Int→Value)(A:Nat→HProp)(F:List HProp):Value→List HProp→Prop:=fun v L'=>(¬ok∧v= .tuple #[.pointer none,Ev 1]∧L'=F)∨(ok∧∃b,v= .tuple #[ptr b 0,Ev 0]∧L'=A b::F)
section
variable {c:Cx}{E:Env}{L:List HProp}{K:List KI}
theorem znO {Ev:Int→Value}{ok:Prop}{A:Nat→HProp}{F:List HProp}{vs:List Value}(hR:c.R=zt6 ok Ev A F)(hr:zbb E c.fn.results.toList=some vs)(hn:¬ok)(hv:tup vs= .tuple #[.pointer none,Ev 1])[S:Sub L F](hds:c.n.ds=[]:=by rfl):G c (.code .ret::K) E L:=
  fun a w hE hS=>wp_ret (yc (qx (hds:=hds) hr hE (S.sat hS) (by rw[hR];exact .inl ⟨hn,hv,rfl⟩)))
theorem znG {Ev:Int→Value}{ok:Prop}{A:Nat→HProp}{F:List HProp}{vs:List Value}(b:Nat)(hR:c.R=zt6 ok Ev A F)(hr:zbb E c.fn.results.toList=some vs)(hn:ok)(hv:tup vs= .tuple #[ptr b 0,Ev 0])[S:Sub L (A b::F)](hds:c.n.ds=[]:=by rfl):G c (.code .ret::K) E L:=
  fun a w hE hS=>wp_ret (yc (qx (hds:=hds) hr hE (S.sat hS) (by rw[hR];exact .inr ⟨hn,b,hv,rfl⟩)))
end
def znX (l:List SnapM)(id:Int):Nat:=l.findIdx fun s=>decide (s.id=id)
def zcO (l:List SnapM)(id:Int):Int:=if znX l id<l.length then (znX l id:Int) else -1
theorem zoB {l:List SnapM}{id:Int}{k:Nat}{s:SnapM}(hno:∀j,j<k→∀t,l[j]? =some t→t.id≠id)(hs:l[k]? =some s)(he:s.id=id):zcO l id=k:=by
  obtain ⟨hk,hk2⟩:=List.getElem?_eq_some_iff.1 hs;have e:znX l id=k:=by
    unfold znX;rw[List.findIdx_eq hk];refine ⟨by rw[hk2];simpa using he,fun j hj=>?_⟩;simpa using hno j hj _ (List.getElem?_eq_getElem (by omega))
  unfold zcO;rw[e,if_pos hk]
theorem znV {l:List SnapM}{id:Int}(hno:∀j,j<l.length→∀t,l[j]? =some t→t.id≠id):zcO l id= -1:=by
  unfold zcO;rw[if_neg];intro h;have:=List.findIdx_getElem (w:=h);simp at this;exact hno _ h _ (List.getElem?_eq_getElem h) this
theorem zj8 {l:List SnapM}{id:Int}(h:¬zcO l id<0):∃i s,zcO l id=((i:Nat):Int)∧l[i]? =some s∧s.id=id∧i<l.length:=by
  unfold zcO at h ⊢;split at h
  · rename_i hl;refine ⟨znX l id,l[znX l id],by rw[if_pos hl],List.getElem?_eq_getElem hl,?_,hl⟩;have:=List.findIdx_getElem (w:=hl);simp only[decide_eq_true_eq] at this;exact this
  · omega
theorem zwd {gl:List (SnapM×Loc)}{l:List SnapM}(h:gl.map Prod.fst=l){i:Nat}{s:SnapM}(hs:l[i]? =some s):∃q,gl[i]? =some (s,q):=by
  subst h;simp only[List.getElem?_map,Option.map_eq_some_iff] at hs;obtain ⟨⟨y,q⟩,h1,rfl⟩:=hs;exact ⟨q,h1⟩
theorem zm3 {gl:List (SnapM×Loc)}{l:List SnapM}(h:gl.map Prod.fst=l):gl.length=l.length:=by subst h;simp
def zlC (m:Nat→Bool)(fr mn:Int):Nat→Bool:=fun p=>m p || decide (fr≤(p:Int)∧(p:Int)<fr+mn)
theorem zsE (m:Nat→Bool)(fr mn:Int):ofM (orM (mk (ofM m)) (mk [⟨fr,mn⟩]))=ofM (zlC m fr mn):=zqj fun p hp=>by
  unfold orM zlC;rw[ztt m hp];simp[mk]
def markD (D:VdM)(fr mn:Int):VdM:=if 0<mn then ⟨D.size,D.blocks,zlC D.dirty fr mn,D.time,D.next,D.snaps⟩ else D
def ztu (s:Bytes):Int:=if 6<s.length then 2 else 0
def wrE (D:VdM)(n:Int)(s:Bytes):Int:=if n<0∨D.size≤n then 1 else ztu s
def wrD (D:VdM)(n:Int)(s:Bytes):VdM:=if wrE D n s=0 then ⟨D.size,upd D.blocks n.toNat s,zlC D.dirty n 1,D.time,D.next,D.snaps⟩ else D
theorem zjW (n:Int)(F:List HProp):Ct Tryz.prog 62 [I n] ([]++F) (zt6 (1≤n∧n≤16) yH (fun b=>vdk b (zhU n)) F):=by
  show Ct Tryz.prog 62 [I n] (F) _;refine Ct.of func62 rR 14 ntmps62 (by simp) fun w0=>?_;refine gS (gA rR (gA rR (qb (qf (gS (gM rR (g_v (qJ rR rR) rR (gM rR (qI rR rR (fun hg=>qm rR) rR rR (qI rR rR (fun hg=>yv rR rR) rR rR (g_v (zal rR rR) rR (qb ?_))))))))))));refine qg rR (fun h9=>?_) (fun h9=>?_)
  · simp at h9;refine gS (g_v (qA underlying89 rR rR) rR (gA rR (gA rR (qb ?_))));exact znO rfl rfl (by omega) rfl
  · simp at h9;refine qh (gS (gM rR (g_v (qQ rR (znF _ rR _ rR)) rR ?_)));refine g_l (wQ (vdC n (fun _=>[]) (sl none 0 0) 0 1 (sl none 0 0)) rR rR) rR ?_;rintro _ _ ⟨b13,rfl,rfl⟩;refine gA rR (gA rR (qb ?_));refine zlk 2 (qL (ofM fun _=>false)) rR ?_;refine yJ 169 20 (wP []) rR ?_;refine zsj ?_;refine zar (vdC n (fun _=>[]) (sl none 0 0) 0 1 (sl none 0 0)) (qL (ofM fun _=>false)) (wP []) none 0 none 0 ([]) b13 ((zhU n)) rR rR rR rR ?_;exact znG b13 rfl rfl (by omega) rfl
-- (*counterfoil/vdisk.Disk).Size is not in this seat
-- (*counterfoil/vdisk.Disk).Forget is not in this seat
theorem zhL (s:Bytes)(F:List HProp):Ct Tryz.prog 94 [Str s] ([]++F) (R1 (yH (ztu s)) F):=by
  show Ct Tryz.prog 94 [Str s] (F) _;refine Ct.of func94 rR 7 ntmps94 (by simp) fun w0=>?_;refine gS (gA rR (qb (qf (gS (gM rR (g_v (wc underlying9 rR) rR (g_v (yv rR rR) rR (qb ?_))))))));refine qg rR (fun h5=>?_) (fun h5=>?_)
  · simp at h5;refine gS (g_v (qA underlying89 rR rR) rR (gA rR (qb ?_)));refine qn rR rR ?_;show _=yH _;rw[show ztu s=2 by unfold ztu;rw[if_pos (by omega)]]
    rfl
  · simp at h5;refine qh (gS (gA rR (qb ?_)));refine qn rR rR ?_;show _=yH _;rw[show ztu s=0 by unfold ztu;rw[if_neg (by omega)]]
    rfl
theorem zhH (x:SnapM×Loc)(q:Nat)(id:Int)(F:List HProp):Ct Tryz.prog 218 [.agg (zmJ x).toArray,ptr q 0] ([pt q (.cells #[I id] 3 (0,0))]++F) (R1 (Bo (decide (x.1.id=id))) (pt q (.cells #[I id] 3 (0,0))::F)):=by
  show Ct Tryz.prog 218 [.agg (zmJ x).toArray,ptr q 0] (pt q (.cells #[I id] 3 (0,0))::F) _;refine Ct.of func218 rR 8 ntmps218 (by simp) fun w0=>?_;refine gS ?_;refine g_l (wQ (zmJ x).toArray rR rR) rR ?_;rintro _ _ ⟨b2,rfl,rfl⟩;refine gA rR (qb (gS (g_v (qa 0 underlying169 rR rR sizeOf3 (by decide) rR) rR (g_v (qe (v:=I x.1.id) isAgg3 rR rR) rR (g_v (qe (v:=I id) isAgg3 rR rR) rR (g_v (yX rR rR) rR (gA rR (qb ?_))))))));refine qn rR rR ?_;exact rfl
theorem zfp (gl:List (SnapM×Loc))(ss:Option Addr)(cs q:Nat)(id:Int)(hgl:gl.length≤1000000)(F:List HProp):Ct Tryz.prog 217 [sl ss gl.length cs, .func (.func 218) #[] #[ptr q 0]] ([owL 169 20 ss cs (wP gl),pt q (.cells #[I id] 3 (0,0))]++F) (R1 (I (zcO (gl.map Prod.fst) id)) (owL 169 20 ss cs (wP gl)::pt q (.cells #[I id] 3 (0,0))::F)):=by
  show Ct Tryz.prog 217 [sl ss gl.length cs, .func (.func 218) #[] #[ptr q 0]] (owL 169 20 ss cs (wP gl)::pt q (.cells #[I id] 3 (0,0))::F) _;refine Ct.of func217 rR 19 ntmps217 (by simp) fun w0=>?_;refine gS (gA rR (qb (qf (gS (gM rR (g_v (yk underlying163 rR) rR (gM rR (qb (qk ?_)))))))));refine qF (α:=Nat) (fun k=>k≤gl.length∧∀j,j<k→∀t,(gl.map Prod.fst)[j]? =some t→t.id≠id) (fun k=>U [(0,sl ss gl.length cs),(1, .func (.func 218) #[] #[ptr q 0]),(7,I gl.length),(8,I k)]) (fun _=>owL 169 20 ss cs (wP gl)::pt q (.cells #[I id] 3 (0,0))::F) (fun k=>gl.length - k) 0 ⟨by simp,fun j hj=>absurd hj (by omega)⟩ [0,1,7,8] rfl rR ?_;rintro k ⟨hk,hno⟩;refine gS (g_v (qJ rR rR) rR (qb (qf ?_)));refine qg rR (fun h9=>?_) (fun h9=>?_)
  · simp at h9;have hkn:k<gl.length:=(by omega);obtain ⟨x,hx⟩:∃x,gl[k]? =some x:=⟨_,List.getElem?_eq_getElem hkn⟩;have hkr:k<(wP gl).length:=(by rw[zex];exact hkn);have hx2:(gl.map Prod.fst)[k]? =some x.1:=(by simp[hx]);refine qh (qf (qk (gS (gM rR (gA rR (qb (gS (gM rR (gM rR (gM rR (g_v (qB k underlying163 sizeOf169 rR rR rR hkn hkr) rR (g_v (ye (row:=zmJ x) isAgg169 sizeOf169 rR (ziA hx) rR) rR ?_))))))))))));refine g_l (zak (fi:=[]) (cap:=[ptr q 0]) (Pre:=[pt q (.cells #[I id] 3 (0,0))]) call218 rR rR (zhH x q id)) rR ?_;rintro _ _ ⟨rfl,rfl⟩;refine qb ?_;refine qg rR (fun h16=>?_) (fun h16=>?_)
    · simp at h16;refine gS (gM rR (gA rR (qb ?_)));refine qn rR rR ?_;show I _=I _;rw[zoB hno hx2 h16]
    · simp at h16;refine qh (qG (qp (g_v (qu rR rR (w64 (by omega))) rR (gM rR (qb ?_)))));exact qo (k+1) ⟨by omega,fun j hj t ht=>by
          rcases Nat.lt_or_ge j k with h | h
          · exact hno j h t ht
          · obtain rfl:j=k:=(by omega);rw[hx2] at ht;injection ht with ht;rw[←ht];exact h16⟩ (by omega) [0,1,7,8] rfl rfl
  · simp at h9;obtain rfl:k=gl.length:=(by omega);refine qy rR ?_;refine gS (gA rR (qb ?_));refine qn rR rR ?_;show I _=I _;rw[znV (by simpa using hno)]
theorem zes (b:Nat)(D:VdM)(id:Int)(hs:D.snaps.length≤1000000)(F:List HProp):Ct Tryz.prog 187 [ptr b 0,I id] ([vdk b (D)]++F) (R1 (I (zcO D.snaps id)) (vdk b (D)::F)):=by
  show Ct Tryz.prog 187 [ptr b 0,I id] (vdk b (D)::F) _;refine Ct.of func187 rR 11 ntmps187 (by simp) fun w0=>?_;refine zdt b (D) ?_;intro sd cd ss cs gl hgl;have hln:=zm3 hgl;refine gS ?_;refine g_l (wQ #[I id] rfl rR) rR ?_;rintro _ _ ⟨b3,rfl,rfl⟩;refine gA rR (qb (gS (gM rR (g_v (qc rR) rR (g_v (qa 20 underlying165 rR rR sizeOf163 (by decide) rR) rR (g_v (qe (v:=sl ss gl.length cs) isAgg163 rR rR) rR (g_v (wM rR rR) rR ?_)))))));refine g_l (qi (Pre:=[owL 169 20 ss cs (wP gl),pt b3 (.cells #[I id] 3 (0,0))]) call217 rR (zfp gl ss cs b3 id (by omega))) rR ?_;rintro _ _ ⟨rfl,rfl⟩;rw[hgl];refine gA rR (qb ?_);refine zar (vdC ((D).size) ((D).blocks) (sl sd (ofM (D).dirty).length cd) ((D).time) ((D).next) (sl ss gl.length cs)) (qL (ofM (D).dirty)) (wP gl) sd cd ss cs (gl) b ((D)) rR rR rR hgl ?_;exact qn rfl rfl rfl
theorem zi9 (b:Nat)(D:VdM)(fr mn:Int)(h0:0≤fr)(h1:fr+mn≤16)(F:List HProp):Ct Tryz.prog 95 [ptr b 0,I fr,I mn] ([vdk b (D)]++F) (R1 (.tuple #[]) (vdk b (markD D fr mn)::F)):=by
  show Ct Tryz.prog 95 [ptr b 0,I fr,I mn] (vdk b (D)::F) _;refine Ct.of func95 rR 20 ntmps95 (by simp) fun w0=>?_;refine zdt b (D) ?_;intro sd cd ss cs gl hgl;refine gS (gM rR (g_v (yv rR rR) rR (qb ?_)));refine qg rR (fun h7=>?_) (fun h7=>?_)
  · simp at h7;refine qp (gM rR (gM rR (g_v (qc rR) rR (g_v (qa 17 underlying165 rR rR sizeOf162 (by decide) rR) rR (g_v (qe (v:=sl sd (ofM D.dirty).length cd) isAgg162 rR rR) rR (gM rR (gM rR (g_v (qQ rR (zh0 _ rR _ rR)) rR ?_))))))));refine g_l (qs (qL [⟨fr,mn⟩]) underlying162 sizeOf172 zeroValue172 rR rR rR (by simp[qL,zuk]) (by decide) (by decide)) rR ?_;rintro _ _ ⟨b16,rfl,rfl⟩;refine yM (some ⟨b16,0,none⟩) ?_;refine g_l (qi (Pre:=[roL 2 sd (qL (ofM D.dirty)),roL 2 (some ⟨b16,0,none⟩) (qL [⟨fr,mn⟩])]) call144 rR (zjz (ofM D.dirty) [⟨fr,mn⟩] sd (some ⟨b16,0,none⟩) cd 1 (zlN _) (by simp) (zls _) (by simp[okV];omega))) rR ?_;rintro _ _ ⟨s17,c17,rfl,rfl⟩;rw[zsE];refine yM s17 ?_;refine g_v (qc rR) rR (g_v (qa 17 underlying165 rR rR sizeOf162 (by decide) rR) rR ?_);refine yp (qM (vdC ((D).size) ((D).blocks) (sl s17 (ofM (zlC D.dirty fr mn)).length c17) ((D).time) ((D).next) (sl ss gl.length cs)) sizeOf162 rR rR rR (by rw[zhz];decide) (zkJ _ _ _ _ _ _ _)) ?_;rintro _ _ rfl;refine qb ?_;refine zar (vdC ((D).size) ((D).blocks) (sl s17 (ofM (zlC D.dirty fr mn)).length c17) ((D).time) ((D).next) (sl ss gl.length cs)) (qL (ofM (zlC D.dirty fr mn))) (wP gl) s17 c17 ss cs (gl) b ((markD D fr mn)) (by unfold markD;rw[if_pos h7]) (by unfold markD;rw[if_pos h7]) rR (by unfold markD;rw[if_pos h7];exact hgl) ?_;exact zcZ rfl rfl rfl
  · simp at h7;refine qh ?_;refine zar (vdC ((D).size) ((D).blocks) (sl sd (ofM (D).dirty).length cd) ((D).time) ((D).next) (sl ss gl.length cs)) (qL (ofM (D).dirty)) (wP gl) sd cd ss cs (gl) b ((D)) rR rR rR hgl ?_;rw[show vdk b D=vdk b (markD D fr mn) by unfold markD;rw[if_neg (by omega)]];exact zcZ rfl rfl rfl
theorem zhV (b:Nat)(D:VdM)(n:Int)(s:Bytes)(hz:D.size≤16)(F:List HProp):Ct Tryz.prog 63 [ptr b 0,I n,Str s] ([vdk b (D)]++F) (R1 (yH (wrE D n s)) (vdk b (wrD D n s)::F)):=by
  show Ct Tryz.prog 63 [ptr b 0,I n,Str s] (vdk b (D)::F) _;refine Ct.of func63 rR 33 ntmps63 (by simp) fun w0=>?_;refine zdt b (D) ?_;intro sd cd ss cs gl hgl;refine gS (gA rR (qb (qf (gS (gM rR (g_v (qJ rR rR) rR (gM rR (qI rR rR (fun hg=>qm rR) rR rR (qI rR rR (fun hg=>qm rR) rR rR (qI rR rR (fun hg=>qc rR) rR rR (qI rR rR (fun hg=>qa 0 underlying165 rR rR sizeOf3 (by decide) rR) rR rR (qI rR rR (fun hg=>qe (v:=I D.size) isAgg3 rR rR) rR rR (qI rR rR (fun hg=>zg1 rR rR) rR rR (g_v (zal rR rR) rR (qb ?_)))))))))))))));refine qg rR (fun h17=>?_) (fun h17=>?_)
  · simp at h17;have hw:wrE D n s=1:=(by unfold wrE;rw[if_pos (by omega)]);refine gS (g_v (qA underlying89 rR rR) rR (gA rR (qb ?_)));refine zar (vdC ((D).size) ((D).blocks) (sl sd (ofM (D).dirty).length cd) ((D).time) ((D).next) (sl ss gl.length cs)) (qL (ofM (D).dirty)) (wP gl) sd cd ss cs (gl) b ((D)) rR rR rR hgl ?_;rw[show vdk b D=vdk b (wrD D n s) by unfold wrD;rw[if_neg (by omega)]];exact qn rfl rfl (by rw[hw];rfl)
  · simp at h17;have hw:wrE D n s=ztu s:=(by unfold wrE;rw[if_neg (by omega)]);refine qh (gS (gM rR ?_));refine g_l (qi (Pre:=[]) call94 rR (zhL s)) rR ?_;rintro _ _ ⟨rfl,rfl⟩;refine gA rR (qb (qf (gS (gM rR (g_v (zac underlying29 rR) rR (qb ?_))))));refine qg rR (fun h22=>?_) (fun h22=>?_)
    · simp at h22;refine gS (gM rR (gM rR (gM rR (g_v (qc rR) rR (g_v (qa 1 underlying165 rR rR sizeOf161 (by decide) rR) rR (g_v (zcr n.toNat underlying161 sizeOf9 rR rR (by omega) (by omega)) rR ?_))))));refine yp (qM (vdC ((D).size) (upd D.blocks n.toNat s) (sl sd (ofM (D).dirty).length cd) ((D).time) ((D).next) (sl ss gl.length cs)) sizeOf9 rR rR rR (by rw[zhz];omega) (zuV _ _ _ _ _ _ _ _ (by omega))) ?_;rintro _ _ rfl;refine qb ?_;refine zar (vdC ((D).size) (upd D.blocks n.toNat s) (sl sd (ofM (D).dirty).length cd) ((D).time) ((D).next) (sl ss gl.length cs)) (qL (ofM D.dirty)) (wP gl) sd cd ss cs (gl) b ((⟨D.size,upd D.blocks n.toNat s,D.dirty,D.time,D.next,D.snaps⟩)) rR rR rR hgl ?_;refine qp (gM rR (gM rR ?_));refine g_l (qi (Pre:=[vdk b (⟨D.size,upd D.blocks n.toNat s,D.dirty,D.time,D.next,D.snaps⟩)]) call95 rR (zi9 b ⟨D.size,upd D.blocks n.toNat s,D.dirty,D.time,D.next,D.snaps⟩ n 1 (by omega) (by omega))) rR ?_;rintro _ _ ⟨rfl,rfl⟩;refine qb (gS (gM rR (gA rR (qb ?_))));rw[show markD ⟨D.size,upd D.blocks n.toNat s,D.dirty,D.time,D.next,D.snaps⟩ n 1=wrD D n s by unfold markD wrD;rw[if_pos (by decide),if_pos (by omega)]];exact qn rfl rfl (by rw[hw];rfl)
    · simp at h22;refine qh (gS (gM rR (gA rR (qb ?_))));refine zar (vdC ((D).size) ((D).blocks) (sl sd (ofM (D).dirty).length cd) ((D).time) ((D).next) (sl ss gl.length cs)) (qL (ofM (D).dirty)) (wP gl) sd cd ss cs (gl) b ((D)) rR rR rR hgl ?_;rw[show vdk b D=vdk b (wrD D n s) by unfold wrD;rw[if_neg (by omega)]];exact qn rfl rfl (by rw[hw];rfl)
end Go.Proofs.YthdjckbjjfiopacGreatDoor
