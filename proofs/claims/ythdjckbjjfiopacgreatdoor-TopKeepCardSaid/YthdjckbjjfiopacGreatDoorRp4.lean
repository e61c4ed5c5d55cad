/- Walks through package repo: Put and Finish, Keep, Save. No condition but the library's tables. -/
import Derived.Test.YthdjckbjjfiopacGreatDoorRp3
set_option linter.unusedSimpArgs false
set_option linter.unusedVariables false
namespace Go.Proofs.YthdjckbjjfiopacGreatDoor
open _root_.Tryz
open Go.Sl Go.Proofs
def zw1 (l:List PutM)(id:Int):Option PutM:=l.find? fun p=>decide (p.at_=id)
def zto (l:List PutM)(id:Int):Nat:=l.findIdx fun p=>decide (p.at_=id)
def puI (l:List PutM)(id:Int):Int:=if zto l id<l.length then (zto l id:Int) else -1
theorem zus {l:List PutM}{id:Int}{k:Nat}{s:PutM}(hno:∀j,j<k→∀t,l[j]?=some t→t.at_≠id)(hs:l[k]?=some s)(he:s.at_=id):puI l id=k:=by
  obtain ⟨hk,hk2⟩:=List.getElem?_eq_some_iff.1 hs;have e:zto l id=k:=by
    unfold zto;rw[List.findIdx_eq hk];refine ⟨by rw[hk2];simpa using he,fun j hj=>?_⟩;have:=hno j hj l[j] (List.getElem?_eq_getElem (by omega));simpa using this
  unfold puI;rw[if_pos (by omega),e]
theorem zmR {l:List PutM}{id:Int}(hno:∀j,j<l.length→∀t,l[j]?=some t→t.at_≠id):puI l id= -1:=by
  unfold puI;rw[if_neg];intro h;have:=List.findIdx_getElem (w:=h);simp at this;exact hno _ h _ (List.getElem?_eq_getElem h) this
theorem zt5 {l:List PutM}{id:Int}(h:¬puI l id<0):∃i s,puI l id=((i:Nat):Int)∧l[i]?=some s∧s.at_=id∧i<l.length∧zw1 l id=some s∧∀j,j<i→∀t,l[j]?=some t→t.at_≠id:=by
  unfold puI at h ⊢;split at h
  · rename_i hl;have hid:l[zto l id].at_=id:=of_decide_eq_true (List.findIdx_getElem (p:=fun p:PutM=>decide (p.at_=id)) (w:=hl));have hno:∀j,j<zto l id→∀t,l[j]?=some t→t.at_≠id:=fun j hj t ht=>by
      have h1:=List.not_of_lt_findIdx hj;obtain ⟨hj',e⟩:=List.getElem?_eq_some_iff.1 ht;subst e;simpa using h1
    refine ⟨zto l id,l[zto l id],by rw[if_pos hl],List.getElem?_eq_getElem hl,hid,hl,?_,hno⟩;unfold zw1;rw[List.find?_eq_some_iff_getElem];refine ⟨decide_eq_true hid,_,hl,rfl,fun j hj=>?_⟩;have:=hno j hj l[j] (List.getElem?_eq_getElem (by omega));simpa using this
  · omega
structure DlU (l R:List PutM) (id:Int) (w j:Nat):Prop where
  len:R.length=l.length
  lj:j≤l.length
  lw:w≤j
  pre:R.take w=(l.take j).filter fun x=>!decide (x.at_=id)
  suf:R.drop j=l.drop j
theorem zs5 {l R:List PutM}{id:Int}{w j:Nat}(h:DlU l R id w j){x:PutM}(hx:R[j]?=some x):l[j]?=some x:=by
  have h1:(R.drop j)[0]?=some x:=by simpa using hx
  rw[h.suf] at h1;simpa using h1
theorem zsK {l R:List PutM}{id:Int}{w j:Nat}(h:DlU l R id w j){x:PutM}(hx:R[j]?=some x)(hid:x.at_=id):DlU l R id w (j+1):=by
  have hl:=zs5 h hx;have hj:=(List.getElem?_eq_some_iff.1 hl).1;refine ⟨h.len,hj,by have:=h.lw;omega,?_,?_⟩
  · rw[List.take_add_one,hl,List.filter_append,h.pre];simp[hid]
  · rw[←List.drop_drop,←List.drop_drop,h.suf]
theorem zsP {l R:List PutM}{id:Int}{w j:Nat}(h:DlU l R id w j)(hwj:w<j){x:PutM}(hx:R[j]?=some x)(hid:x.at_≠id):DlU l (R.set w x) id (w+1) (j+1):=by
  have hl:=zs5 h hx;have hj:=(List.getElem?_eq_some_iff.1 hl).1;have hlen:=h.len;refine ⟨by simp[hlen],hj,by omega,?_,?_⟩
  · rw[List.take_add_one (l:=l),hl,List.filter_append,←h.pre,List.take_add_one,List.take_set_of_le (Nat.le_refl _),List.getElem?_set_self (by omega)];simp[hid]
  · rw[List.drop_set_of_lt (by omega),←List.drop_drop,←List.drop_drop,h.suf]
theorem zoT {l R:List PutM}{id:Int}{w:Nat}(h:DlU l R id w l.length):R.take w=l.filter fun x=>!decide (x.at_=id):=by rw[h.pre,List.take_length]
theorem zkr {l:List PutM}{id:Int}(hno:∀j,j<l.length→∀t,l[j]?=some t→t.at_≠id):l.filter (fun x=>!decide (x.at_=id))=l:=List.filter_eq_self.2 fun a ha=>by
  obtain ⟨j,hj,rfl⟩:=List.mem_iff_getElem.1 ha;have:=hno j hj l[j] (List.getElem?_eq_getElem hj);simpa using this
theorem zpt {l:List PutM}{id:Int}(h:puI l id<0):∀j,j<l.length→∀t,l[j]?=some t→t.at_≠id:=fun j hj t ht he=>by
  unfold puI at h;split at h
  · omega
  · rename_i hl;exact hl (List.findIdx_lt_length_of_exists ⟨t,List.mem_of_getElem? ht,by simpa using he⟩)
theorem zrz {l:List PutM}{id:Int}(h:puI l id<0):puI l id= -1:=zmR (zpt h)
theorem zvs (l:List PutM)(id:Int){i:Nat}(hno:∀j,j<i→∀t,l[j]?=some t→t.at_≠id){s:PutM}(hs:l[i]?=some s)(he:s.at_=id):(l.take (i+1)).filter (fun x=>!decide (x.at_=id))=l.take i:=by
  have hi:=(List.getElem?_eq_some_iff.1 hs).1;rw[List.take_add_one,hs,List.filter_append];have h1:(l.take i).filter (fun x=>!decide (x.at_=id))=l.take i:=List.filter_eq_self.2 fun a ha=>by
    obtain ⟨j,hj,rfl⟩:=List.mem_iff_getElem.1 ha;have:=hno j (by simp at hj;omega) (l.take i)[j] (by simp at hj ⊢);simpa using this
  rw[h1];simp[he]
theorem zoO {l:List PutM}{id:Int}{i:Nat}(hno:∀j,j<i→∀t,l[j]?=some t→t.at_≠id){s:PutM}(hs:l[i]?=some s)(he:s.at_=id):DlU l l id i (i+1):=
  ⟨rfl,(List.getElem?_eq_some_iff.1 hs).1,by omega,(zvs l id hno hs he).symm,rfl⟩
theorem zrJ (l:List PutM)(w:Nat)(x:PutM):(zbo l).set w (zfp x)=zbo (l.set w x):=by simp[zbo,List.map_set]
theorem zoA (l:List PutM)(w:Nat):(zbo l).take w=zbo (l.take w):=by simp[zbo,List.map_take]
theorem ztF (n:Int)(s:Bytes)(w:World):(Instr.build 81 #[(0,I n),(1,Str s)]).run Tryz.prog w= .ok (.agg (zfp ⟨n,s⟩).toArray) w:=by
  simp[Instr.build,zeroValue81,runUnderlying81,sizeOf3,sizeOf9,Instr.fill,qV,zfp,show ∀k:Int,(I k).cells=#[I k] from fun _=>rfl,show (Str s).cells=#[Str s] from rfl]
def zbO (z:RpM)(id at_:Int)(d:Bytes):Int:=match fSe z.ses id with
  | none=>5
  | some e=>if at_<0∨e.size≤at_ then 1 else if 6<d.length then 2 else 0
def zhN (l:List PutM)(at_:Int)(d:Bytes):List PutM:=l.filter (fun x=>!decide (x.at_=at_))++ [⟨at_,d⟩]
def RpM.putted (z:RpM)(id at_:Int)(d:Bytes)(so:Option Addr)(co:Nat):RpM:=match fSe z.ses id with
  | none=>z
  | some e=>z.sess (z.ses.set (sIx z.ses id) ⟨e.key,e.a,so,co,e.base,e.disk,e.size,zhN e.puts at_ d⟩)
def zrc (D:DiskM)(z:RpM)(id n e:Int)(D2:DiskM)(z2:RpM):Prop:=match fSe z.ses id with
  | none=>n=0∧e=5∧D2=D∧z2=z
  | some s=>match zhR z.S z.L z.n s.base s.disk s.size s.puts with
    | .error f=>n=0∧e=f∧D2=D∧z2=z
    | .ok (S',L',n',r)=>∃y,zra D z S' L' n' e D2 y∧n=(if e=0 then r else 0)∧z2=if e=0 then y.sess (dSe y.ses id) else y
theorem zfz (x:PutM)(q:Nat)(id:Int)(F:List HProp):Ct Tryz.prog 192 [.agg (zfp x).toArray,ptr q 0] ([pt q (.cells #[I id] 3 (0,0))]++F) (R1 (Bo (decide (x.at_=id))) (pt q (.cells #[I id] 3 (0,0))::F)):=by
  show Ct Tryz.prog 192 [.agg (zfp x).toArray,ptr q 0] (pt q (.cells #[I id] 3 (0,0))::F) _;refine Ct.of Tryz.func192 rR 8 Tryz.ntmps192 (by simp) fun w0=>?_
  refine gS ?_;refine g_l (wR (zfp x).toArray rR rR) rR ?_;rintro _ _ ⟨b2,rfl,rfl⟩;refine gA rR (qb (gS (g_v (qa 0 underlying81 rR rR sizeOf3 (by decide) rR) rR (g_v (qe (v:=I x.at_) isAgg3 rR rR) rR (g_v (qe (v:=I id) isAgg3 rR rR) rR (g_v (yY rR rR) rR (gA rR (qb ?_))))))));refine qn rR rR ?_;exact rfl
theorem zfT (l:List PutM)(s:Option Addr)(c q:Nat)(id:Int)(hl:l.length≤1000000)(F:List HProp):Ct Tryz.prog 219 [sl s l.length c, .func (.func 192) #[] #[ptr q 0]] ([owL 81 2 s c (zbo (l)),pt q (.cells #[I id] 3 (0,0))]++F) (R1 (I (puI l id)) (owL 81 2 s c (zbo (l))::pt q (.cells #[I id] 3 (0,0))::F)):=by
  show Ct Tryz.prog 219 [sl s l.length c, .func (.func 192) #[] #[ptr q 0]] (owL 81 2 s c (zbo (l))::pt q (.cells #[I id] 3 (0,0))::F) _;refine Ct.of Tryz.func219 rR 19 Tryz.ntmps219 (by simp) fun w0=>?_
  refine gS (gA rR (qb (qf (gS (gM rR (g_v (yk underlying82 rR) rR (gM rR (qb (ql ?_)))))))));refine qF (α:=Nat) (fun k=>k≤l.length∧∀j,j<k→∀t,l[j]?=some t→t.at_≠id) (fun k=>U [(0,sl s l.length c),(1, .func (.func 192) #[] #[ptr q 0]),(7,I l.length),(8,I k)]) (fun _=>owL 81 2 s c (zbo (l))::pt q (.cells #[I id] 3 (0,0))::F) (fun k=>l.length - k) 0 ⟨by simp,fun j hj=>absurd hj (by omega)⟩ [0,1,7,8] rR rR ?_;rintro k ⟨hk,hno⟩;refine gS (g_v (qL rR rR) rR (qb (qf ?_)));refine qh rR (fun h9=>?_) (fun h9=>?_)
  · simp at h9;have hkn:k<l.length:=by omega
    obtain ⟨x,hx⟩:∃x,l[k]?=some x:=⟨_,List.getElem?_eq_getElem hkn⟩;refine qi (qf (ql (gS (gM rR (gA rR (qb (gS (gM rR (gM rR (gM rR (g_v (qB (k) underlying82 sizeOf81 rR rR rR hkn (by rw[zbu];exact hkn)) rR ?_)))))))))));refine g_v (yd (row:=zfp x) isAgg81 sizeOf81 rR (ziV hx) rR) rR ?_;refine g_l (zak (fi:=[]) (cap:=[ptr q 0]) (Pre:=[pt q (.cells #[I id] 3 (0,0))]) call192 rR rR (zfz x q id)) rR ?_;rintro _ _ ⟨rfl,rfl⟩;refine qb ?_;refine qh rR (fun h16=>?_) (fun h16=>?_)
    · simp at h16;refine gS (gM rR (gA rR (qb ?_)));refine qn rR rR ?_;show I _=I _;rw[zus hno hx h16]
    · simp at h16;refine qi (qG (qp (g_v (qu rR rR (w64 (by omega))) rR (gM rR (qb ?_)))));exact qo (k+1) ⟨by omega,fun j hj t ht=>by
          rcases Nat.lt_or_ge j k with h | h
          · exact hno j h t ht
          · obtain rfl:j=k:=by omega
            rw[hx] at ht;injection ht with ht;rw[←ht];exact h16⟩ (by omega) [0,1,7,8] rfl rfl
  · simp at h9;obtain rfl:k=l.length:=by omega
    refine qy rR ?_;refine gS (gA rR (qb ?_));refine qn rR rR ?_;show I _=I _;rw[zmR hno]
theorem ze0 (L:List PutM)(s:Option Addr)(c q:Nat)(id:Int)(hl:L.length≤1000000)(F:List HProp):Ct Tryz.prog 191 [sl s L.length c, .func (.func 192) #[] #[ptr q 0]] ([owL 81 2 s c (zbo (L)),pt q (.cells #[I id] 3 (0,0))]++F) (R1 (sl s (L.filter fun x=>!decide (x.at_=id)).length c) (owL 81 2 s c (zbo ((L.filter fun x=>!decide (x.at_=id))))::pt q (.cells #[I id] 3 (0,0))::F)):=by
  show Ct Tryz.prog 191 [sl s L.length c, .func (.func 192) #[] #[ptr q 0]] (owL 81 2 s c (zbo (L))::pt q (.cells #[I id] 3 (0,0))::F) _;refine Ct.of Tryz.func191 rR 42 Tryz.ntmps191 (by simp) fun w0=>?_
  refine zlR s (fun hcap=>?_);rw[zbu] at hcap;refine gS (gA rR (qb (gS (gM rR (gM rR ?_)))));refine g_l (qj (Pre:=[owL 81 2 s c (zbo (L)),pt q (.cells #[I id] 3 (0,0))]) call219 rR (zfT L s c q id hl)) rR ?_;rintro _ _ ⟨rfl,rfl⟩;refine gA rR (qb (qf (gS (gM rR (g_v (yY rR rR) rR (qb ?_))))));refine qh rR (fun h12=>?_) (fun h12=>?_)
  · simp at h12;rw[show (L.filter fun x=>!decide (x.at_=id))=L from zkr (zpt (by omega))];refine gS (gM rR (gA rR (qb ?_)));exact qn rfl rfl rfl
  · simp at h12;obtain ⟨i,p,hi,hp,hid,hil,hf,hno⟩:=zt5 (l:=L) (id:=id) (fun h=>h12 (zrz h));rw[hi];refine qi (qf (gS (gM rR (g_v (qu rR rR (w64 (by omega))) rR (gA rR (qb ?_))))));rw[show ((i:Nat):Int)+1=((i+1:Nat):Int) by omega];refine ql ?_;refine qF (α:=Nat×Nat×List PutM) (fun z=>DlU L z.2.2 id z.2.1 z.1∧z.2.1<z.1) (fun z=>U [(0,sl s L.length c),(1, .func (.func 192) #[] #[ptr q 0]),(5,I z.2.1),(6,I z.1)]) (fun z=>owL 81 2 s c (zbo z.2.2)::pt q (.cells #[I id] 3 (0,0))::F) (fun z=>L.length - z.1) (i+1,i,L) ⟨zoO hno hp hid,by simp only[];omega⟩ [0,1,5,6] rR rR ?_;rintro ⟨j,w,R⟩ ⟨hD,hwj⟩;simp only[] at hD hwj ⊢;have hjl0:=hD.lj;refine qf (gS (gM rR (gM rR (g_v (yk underlying82 rR) rR (g_v (qL rR rR) rR (qb ?_))))));refine qh rR (fun h19=>?_) (fun h19=>?_)
    · simp at h19;have hjl:j<L.length:=by omega
      have hwl:w<L.length:=by omega
      obtain ⟨x,hx⟩:∃x,R[j]?=some x:=⟨_,List.getElem?_eq_getElem (by rw[hD.len];exact hjl)⟩;refine qi (qf (ql (gS (gM rR (gM rR (g_v (qB (j) underlying82 sizeOf81 rR rR rR hjl (by rw[zbu,hD.len];exact hjl)) rR (g_v (yd (row:=zfp x) isAgg81 sizeOf81 rR (ziV hx) rR) rR ?_)))))));refine g_l (qz #[I 0,Str []] zeroValue81) rR ?_;rintro _ _ ⟨b7,rfl,rfl⟩;refine yp (qr (cs:=#[I 0,Str []]) (vs:=zfp (x)) (zfp (x)).toArray sizeOf81 rR rR rR rR (by simp[zfp]) (qv rR)) ?_;rintro _ _ rfl;refine qb (gS (gM rR (g_v (qH (vs:=zfp x) isAgg81 sizeOf81 rR rR qR) rR ?_)));refine g_l (zak (fi:=[]) (cap:=[ptr q 0]) (Pre:=[pt q (.cells #[I id] 3 (0,0))]) call192 rR rR (zfz x q id)) rR ?_;rintro _ _ ⟨rfl,rfl⟩;refine g_v (ww rR) rR (qb ?_);refine qh rR (fun h29=>?_) (fun h29=>?_)
      · simp at h29;refine gS (gM rR (gM rR (g_v (qH (vs:=zfp x) isAgg81 sizeOf81 rR rR qR) rR (g_v (qB (w) underlying82 sizeOf81 rR rR rR hwl (by rw[zbu,hD.len];exact hwl)) rR ?_))));refine yp (zgz (j:=w) (vs:=zfp x) sizeOf81 rR rR rR rR (by rw[zbu,hD.len];omega) (by decide)) ?_;rintro _ _ rfl;rw[zrJ];refine qb (qp (gM rR (g_v (qu rR rR (w64 (by omega))) rR (gA rR (qb (qG (qp (gM rR (g_v (qu rR rR (w64 (by omega))) rR (gA rR (qb ?_)))))))))));exact qo (j+1,w+1,R.set w x) ⟨zsP hD hwj hx h29,by simp only[];omega⟩ (by simp only[];omega) [0,1,5,6] rfl rfl
      · simp at h29;refine qi (qG (qp (gM rR (g_v (qu rR rR (w64 (by omega))) rR (gA rR (qb ?_))))));exact qo (j+1,w,R) ⟨zsK hD hx h29,by simp only[];omega⟩ (by simp only[];omega) [0,1,5,6] rfl rfl
    · simp at h19;obtain rfl:j=L.length:=by omega
      refine qy rR ?_;refine qf ?_;refine zgB s w ?_;rw[zoA,zoT hD];have hfl:(L.filter fun x=>!decide (x.at_=id)).length=w:=by rw[←zoT hD,List.length_take];have:=hD.len;omega
      refine qp (gM rR (gM rR (g_v (zbW (l:=w) underlying82 sizeOf81 rR rR rR (by omega)) rR ?_)));refine yp (zei (sz:=2) (l:=w) s underlying82 zeroValue81 rR rR rR (by unfold At;split;exact .inr (.inr (by omega));exact .inr (.inl rR)) (by rw[zbu];omega) (by omega)) ?_;rintro _ _ ⟨rfl,rfl⟩;refine qb (gS (gM rR (gM rR (g_v (zgP (h:=w) underlying82 sizeOf81 rR rR rR (by omega)) rR (gA rR (qb ?_))))));exact qn rfl rfl (by rw[hfl];rfl)
theorem zcS (b:Nat)(S:SI)(L:List Pt)(n:Int)(base disk size:Int)(puts:List PutM)(sp:Option Addr)(cp:Nat)(G0:Gh)(hV:Vok S L n G0)(hpl:puts.length≤1000000)(hpd:∀p∈puts,p.data.length≤9223372036854775807)(F:List HProp):Ct Tryz.prog 42 [ptr b 0,I base,I disk,I size,sl sp puts.length cp] ([vlt b S L n,owL 81 2 sp cp (zbo puts)]++F) (vR vlt (zbR 89) b (owL 81 2 sp cp (zbo puts)::F) (zhR S L n base disk size puts)):=by
  show Ct Tryz.prog 42 [ptr b 0,I base,I disk,I size,sl sp puts.length cp] (vlt b S L n::owL 81 2 sp cp (zbo puts)::F) _;have hok:=zfF hV;have hll:=hV.len;have hn1:=hV.n1;have hrl:(L.map (·.root)).length≤8:=by simp;omega
  refine Ct.of Tryz.func42 rR 102 Tryz.ntmps42 (by simp) fun w0=>?_
  refine gS (gA rR (gA rR (qb (qf (gS (gM rR (g_v (qL rR rR) rR (gM rR (qI rR rR (fun hg=>qg rR) rR rR (qI rR rR (fun hg=>yv rR rR) rR rR (g_v (zal rR rR) rR ?_)))))))))));refine gM rR (qI rR rR (fun hg=>qg rR) rR rR (qI rR rR (fun hg=>qL rR rR) rR rR (g_v (zal rR rR) rR (gM rR (qI rR rR (fun hg=>qg rR) rR rR (qI rR rR (fun hg=>yv rR rR) rR rR (g_v (zal rR rR) rR (qb ?_))))))));refine qh rR (fun h31=>?_) (fun h31=>?_)
  · simp at h31;have hbd:disk<1∨999<disk∨size<1∨16<size:=by omega
    refine gS (g_v (qA underlying89 rR rR) rR (gA rR (gA rR (qb ?_))));exact zcb rfl (by unfold zhR;rw[if_pos hbd]) rfl rfl
  · simp at h31;have hbd:¬(disk<1∨999<disk∨size<1∨16<size):=by omega
    refine qi (gS (gM rR (gM rR (gM rR (gM rR ?_)))));refine g_l (qj (Pre:=[vlt b S L n]) call76 rR (zd4 b S L n base disk size G0 hV (by omega))) rR ?_;rintro v L' hv;unfold vR zlj at hv;rcases hb:zc5 S L base disk size with e0 | ⟨z1,z2⟩ <;> rw[hb] at hv <;> obtain ⟨rfl,rfl⟩:=hv
    · have he0:=zkR hb;refine gM rR (g_v (qd (v:=I 0) rR rR) rR (g_v (qd (v:=zbR 89 e0) rR rR) rR (gA rR (gA rR (qb (qf (gS (gM rR (g_v (yf underlying29 rR) rR (qb ?_))))))))));refine qh rR (fun h42=>?_) (fun h42=>?_)
      · skip;refine gS (gM rR (gA rR (gA rR (qb ?_))));exact zcb rfl (by unfold zhR;rw[if_neg hbd,hb]) rfl rfl
      · simp at h42;omega
    · obtain ⟨G2,hz,hR2,_,_⟩:=zjd hV (by omega) hb;simp only at hz hR2;subst hz;refine zau b (mkG G2) L n ?_;intro x s c;refine gM rR (g_v (qd (v:=I z2) rR rR) rR (g_v (qd (v:=zbR 89 0) rR rR) rR (gA rR (gA rR (qb (qf (gS (gM rR (g_v (yf underlying29 rR) rR (qb ?_))))))))));refine qh rR (fun h42=>?_) (fun h42=>?_)
      · simp at h42
      · skip;refine qi (qf (gS (gM rR (g_v (yk underlying82 rR) rR (gM rR (qb (ql ?_)))))));refine qF (α:=Nat×Gh×Int) (fun z=>z.1≤puts.length∧Rt z.2.1 (z.2.2::L.map (·.root))∧zbK size (mkG z.2.1,z.2.2) (puts.drop z.1)=zbK size (mkG G2,z2) puts) (fun z=>U [(0,ptr b 0),(2,I disk),(3,I size),(12,I z.2.2),(44,sl sp puts.length cp),(45,I puts.length),(46,I z.1)]) (fun z=>pt b (.cells #[ptr x 0,sl s (L).length c,I (n)] 47 (0,0))::ixl x (mkG z.2.1)::owL 55 4 s c (ptR (L))::owL 81 2 sp cp (zbo puts)::F) (fun z=>puts.length - z.1) (0,G2,z2) ⟨by simp,hR2,by simp⟩ [0,2,3,12,44,45,46] rR rR ?_;rintro ⟨k,G,root⟩ ⟨hk,hR,hput⟩;simp only[] at hk hR hput ⊢;have hokG:=RtOk hR (m:=200) (by simp;omega);refine gS (g_v (qL rR rR) rR (qb (qf ?_)));refine qh rR (fun h47=>?_) (fun h47=>?_)
        · simp at h47;have hkn:k<puts.length:=by omega
          obtain ⟨p,hp⟩:∃p,puts[k]?=some p:=⟨_,List.getElem?_eq_getElem hkn⟩;have hpd1:=hpd p (List.mem_of_getElem? hp);refine qi (qf (ql (gS (g_v (qB k underlying82 sizeOf81 rR rR rR hkn (by rw[zbu];exact hkn)) rR (g_v (yd (row:=zfp p) isAgg81 sizeOf81 rR (ziV hp) rR) rR ?_)))));refine g_l (qz #[I 0,Str []] zeroValue81) rR ?_;rintro _ _ ⟨b15,rfl,rfl⟩;refine yp (qr (cs:=#[I 0,Str []]) (vs:=zfp p) (zfp p).toArray sizeOf81 rR rR rR rR (by simp[zfp]) (qv rR)) ?_;rintro _ _ rfl;refine qb (qf (gS (g_v (qa 0 underlying81 rR rR sizeOf3 (by decide) rR) rR (g_v (qe (v:=I p.at_) isAgg3 rR rR) rR (g_v (qL rR rR) rR (gM rR (qI rR rR (fun hg=>qa 0 underlying81 rR rR sizeOf3 (by decide) rR) rR rR (qI rR rR (fun hg=>qe (v:=I p.at_) isAgg3 rR rR) rR rR (qI rR rR (fun hg=>qg rR) rR rR (qI rR rR (fun hg=>zgw rR rR) rR rR (g_v (zal rR rR) rR (qb ?_))))))))))));refine qh rR (fun h58=>?_) (fun h58=>?_)
          · simp at h58;refine gS (g_v (qA underlying89 rR rR) rR (gA rR (gA rR (qb ?_))));exact zcb rfl (by
              unfold zhR;rw[if_neg hbd,hb];simp only;rw[←hput,zem hp];simp only[zbK];rw[if_pos (by omega)]) rfl rfl
          · simp at h58;have han:(p.at_.toNat:Int)=p.at_:=by omega
            refine qi (qf (qf ?_));refine yr (Lf:=[pt b (.cells #[ptr x 0,sl s (L).length c,I (n)] 47 (0,0)),pt b15 (.cells (zfp p).toArray 81 (0,0))]) [(0,false),(1,false),(2,false),(3,false),(4,false),(5,false),(6,false),(8,false),(9,false),(7,true),(10,false)] (by kernel_rfl) (by kernel_rfl) rR (by kernel_rfl) ?_;refine d_v rR (qg rR) rR (d_v rR (qc rR) rR (d_v rR (qa 0 underlying47 rR rR sizeOf44 (by decide) rR) rR (d_v rR (qe (v:=ptr x 0) isAgg44 rR rR) rR (d_v rR (qg rR) rR (d_v rR (qa 0 underlying81 rR rR sizeOf3 (by decide) rR) rR (d_v rR (qe (v:=I (p.at_.toNat:Int)) isAgg3 rR (by rw[han];rR)) rR (d_v rR (qa 1 underlying81 rR rR sizeOf9 (by decide) rR) rR (d_v rR (qe (v:=Str p.data) isAgg9 rR rR) rR ?_))))))));refine d_l rR (qj (Pre:=[ixl x (mkG G)]) call68 rR (zaM x (mkG G) root p.at_.toNat 200 hokG (by decide) (by omega))) rR ?_;rintro _ _ ⟨rfl,rfl⟩;refine d_v rR (zaz rR rR) rR ?_;refine qZ ?_;refine qh rR (fun h70=>?_) (fun h70=>?_)
            · simp at h70;refine qy rR ?_;refine qp (g_v (qu rR rR (w64 (by omega))) rR (gM rR (qb ?_)));exact qo (k+1,G,root) ⟨by simp only[];omega,hR,by
                rw[←hput,zem hp];simp only[zbK];rw[if_neg (by omega),if_pos h70]⟩ (by simp only[];omega) [0,2,3,12,44,45,46] rfl rfl
            · simp at h70;refine qi (qf ?_);refine yr (Lf:=[pt b (.cells #[ptr x 0,sl s (L).length c,I (n)] 47 (0,0)),pt b15 (.cells (zfp p).toArray 81 (0,0))]) [(0,false),(1,false),(2,false),(3,false),(4,false),(5,false),(6,false),(7,false),(8,false),(9,true),(10,false),(11,false),(12,false),(13,false),(14,false)] (by kernel_rfl) (by kernel_rfl) rR (by kernel_rfl) ?_;refine d_v rR (qg rR) rR (d_v rR (qc rR) rR (d_v rR (qa 0 underlying47 rR rR sizeOf44 (by decide) rR) rR (d_v rR (qe (v:=ptr x 0) isAgg44 rR rR) rR (d_v rR (qg rR) rR (d_v rR (qa 0 underlying81 rR rR sizeOf3 (by decide) rR) rR (d_v rR (qe (v:=I (p.at_.toNat:Int)) isAgg3 rR (by rw[han];rR)) rR (d_v rR (qa 1 underlying81 rR rR sizeOf9 (by decide) rR) rR (d_v rR (qe (v:=Str p.data) isAgg9 rR rR) rR ?_))))))));refine d_l rR (qj (Pre:=[ixl x (mkG G)]) call77 rR (zbU x (mkG G) root p.at_.toNat p.data 200 hokG (by decide) (by omega) hpd1 (zpI hR.V (zl4 hR (by simp))))) rR ?_;rintro _ _ ⟨rfl,rfl⟩;refine d_v rR (qg rR) rR (d_v rR (qd (v:=I (zcT (mkG G) root p.at_.toNat p.data).1) rR rR) rR (d_v rR (qd (v:=zbR 89 (zcT (mkG G) root p.at_.toNat p.data).2) rR rR) rR (d_v rR (qw rR) rR (d_v rR (qw rR) rR ?_))));refine qZ ?_;refine qf (gS (gM rR (g_v (yf underlying29 rR) rR (qb ?_))));refine qh rR (fun h85=>?_) (fun h85=>?_)
              · simp at h85;refine gS (gM rR (gA rR (gA rR (qb ?_))));exact zcb rfl (by
                  unfold zhR;rw[if_neg hbd,hb];simp only;rw[←hput,zem hp];simp only[zbK,put1];rw[if_neg (by omega),if_neg h70,if_neg h85]) rfl rfl
              · simp at h85;obtain ⟨G1,G3,hu1,o1,r1,v1,hu2,hR3,_,_⟩:=zhc hR hrl (by omega) h85;rw[hu1];refine qi (gS (gM rR (g_v (qc rR) rR (g_v (qa 0 underlying47 rR rR sizeOf44 (by decide) rR) rR (g_v (qe (v:=ptr x 0) isAgg44 rR rR) rR (gM rR ?_))))));refine g_l (qj (Pre:=[ixl x (mkG G1)]) call50 rR (zat x (mkG G1) root 200 o1 (by decide))) rR ?_;rintro _ _ ⟨rfl,rfl⟩;rw[hu2];refine qb (qp (gM rR (gA rR (qb (qG (qp (g_v (qu rR rR (w64 (by omega))) rR (gM rR (qb ?_)))))))));exact qo (k+1,G3,(zcT (mkG G) root p.at_.toNat p.data).1) ⟨by simp only[];omega,hR3,by
                  rw[←hput,zem hp];simp only[zbK,put1];rw[if_neg (by omega),if_neg h70,if_pos h85,hu1,hu2]⟩ (by simp only[];omega) [0,2,3,12,44,45,46] rfl rfl
        · simp at h47;obtain rfl:k=puts.length:=by omega
          rw[List.drop_length] at hput;refine qy rR ?_;refine qf ?_;refine yn b x s c (mkG G) (L) (n) ?_;refine qp (gM rR (gM rR (gM rR (gM rR ?_))));refine g_l (qj (Pre:=[vlt b (mkG G) L n]) call46 rR (zbX b (mkG G) L n disk size root (by omega) (by omega))) rR ?_;rintro _ _ ⟨rfl,rfl⟩;refine g_v (qd (v:=I (zlE L n)) rR rR) rR (g_v (qd (v:=zbR 89 (zck L n)) rR rR) rR (gA rR (gA rR (qb ?_))));by_cases ha:zck L n=0
          · rw[show zlE L n=n by unfold zlE;rw[if_pos ha],show ziB L n disk size root=L++ [⟨n,disk,size,root⟩] by unfold ziB;rw[if_pos ha],show zrT L n=n+1 by unfold zrT;rw[if_pos ha],ha];exact ziN (S:=mkG G) (P:=L++ [⟨n,disk,size,root⟩]) (n:=n+1) rfl (by
              unfold zhR;rw[if_neg hbd,hb];simp only;rw[←hput];simp only[zbK];rw[if_neg (by omega)]) rfl rfl
          · rw[show zlE L n=0 by unfold zlE;rw[if_neg ha]];exact zcb rfl (by
              unfold zhR;rw[if_neg hbd,hb];simp only;rw[←hput];simp only[zbK];rw[if_pos ha]) rfl rfl
theorem zcI (b bd:Nat)(z:RpM)(id at_:Int)(d:Bytes)(hR:Rok z)(hdl:d.length≤9223372036854775807)(F:List HProp):Ct Tryz.prog 149 [ptr b 0,I id,I at_,Str d] ([rpl b bd z]++F) (fun v L'=>(zbO z id at_ d≠0∧v=yH (zbO z id at_ d)∧L'=rpl b bd z::F)∨(zbO z id at_ d=0∧∃so co,v=yH 0∧L'=rpl b bd (z.putted id at_ d so co)::F)):=by
  show Ct Tryz.prog 149 [ptr b 0,I id,I at_,Str d] (rpl b bd z::F) _;refine Ct.of Tryz.func149 rR 58 Tryz.ntmps149 (by simp) fun w0=>?_
  refine wZ b bd z ?_;intro bs bl so co bv rs rm;refine gS ?_;refine g_l (wR #[I at_] rR rR) rR ?_;rintro _ _ ⟨b6,rfl,rfl⟩;refine gA rfl (qb (gS (gM rfl (g_v (qc rfl) rfl (g_v (qa 2 underlying125 rfl rfl sizeOf122 (by decide) rfl) rfl (g_v (qe (v:= .map (some rs)) isAgg122 rfl rfl) rfl (gM rfl (g_v (yC (v:= .pointer ((fSe z.ses id).map fun e=>⟨e.a,0,none⟩)) underlying122 underlying3 zeroValue137 rfl rfl (by rw[znu];cases fSe z.ses id <;> rfl)) rfl (gA rfl (qb (qf (ql ?_))))))))))));refine gS (gM rR (g_v (zgp underlying137 rR) rR (gA rR (qb ?_))));refine qh rR (fun h16=>?_) (fun h16=>?_)
  · have hno:fSe z.ses id=none:=by simpa using h16
    refine gS (g_v (qA underlying89 rR rR) rR (gA rR (qb ?_)));refine yi b bd (z) bs bl so co bv rs rm ?_;exact qm (rpl b bd (z)::F) rfl (have ho:zbO z id at_ d=5:=by unfold zbO;rw[hno]
      .inl ⟨by rw[ho];decide,by rw[ho];rfl,rfl⟩)
  · obtain ⟨e,hfe⟩:∃e,fSe z.ses id=some e:=Option.isSome_iff_exists.1 (by cases hq:fSe z.ses id with
      | none=>rw[hq] at h16;cases h16
      | some _=>rfl)
    obtain ⟨he,hek,hi⟩:=zj4 hfe;rw[hfe];refine qf ?_;refine ztz z.ses _ he ?_;refine yr (Lf:=[pt e.a (.cells #[I e.base,I e.disk,I e.size,sl e.so (e.puts.length) e.co] 139 (0,0)),pt b6 (.cells #[I at_] 3 (0,0))]) [(0,false),(1,false),(2,false),(3,false),(4,false),(5,false),(6,false),(7,false),(8,false),(9,false),(10,false)] (by kernel_rfl) (by kernel_rfl) rR (by kernel_rfl) ?_;refine d_v rR (qe (v:=I at_) isAgg3 rR rR) rR (d_v rR (qL rR rR) rR (d_v rR (qg rR) rR (zap rR rR rR (fun hg=>qe (v:=I at_) isAgg3 rR rR) rR rR (zap rR rR rR (fun hg=>qg rR) rR rR (zap rR rR rR (fun hg=>qc rR) rR rR (zap rR rR rR (fun hg=>qa 2 underlying139 rR rR sizeOf3 (by decide) rR) rR rR (zap rR rR rR (fun hg=>qe (v:=I e.size) isAgg3 rR rR) rR rR (zap rR rR rR (fun hg=>zgw rR rR) rR rR (d_v rR (zal rR rR) rR (d_v rR (qw rR) rR ?_))))))))));refine qZ ?_;refine qh rR (fun h20=>?_) (fun h20=>?_)
    · have hbd:at_<0∨e.size≤at_:=by simp at h20;omega
      refine gS (g_v (qA underlying89 rR rR) rR (gA rR (qb ?_)));refine zab (f:=seA) z.ses (sIx z.ses id) e [pt e.a (.cells #[I e.base,I e.disk,I e.size,sl e.so e.puts.length e.co] 139 (0,0)),owL 81 2 e.so e.co (zbo e.puts)] rR hi ?_;rw[zbw he];refine yi b bd (z) bs bl so co bv rs rm ?_;have ho:zbO z id at_ d=1:=by unfold zbO;rw[hfe];simp only;rw[if_pos hbd]
      exact qm (rpl b bd z::F) rfl (.inl ⟨by rw[ho];decide,by rw[ho];rfl,rfl⟩)
    · have hbd:¬(at_<0∨e.size≤at_):=by simp at h20;omega
      refine gS (gM rR (g_v (wc underlying9 rR) rR (g_v (yv rR rR) rR (gA rR (qb ?_)))));refine qh rR (fun h32=>?_) (fun h32=>?_)
      · have h6:6<d.length:=by simp at h32;omega
        refine gS (g_v (qA underlying89 rR rR) rR (gA rR (qb ?_)));refine zab (f:=seA) z.ses (sIx z.ses id) e [pt e.a (.cells #[I e.base,I e.disk,I e.size,sl e.so e.puts.length e.co] 139 (0,0)),owL 81 2 e.so e.co (zbo e.puts)] rR hi ?_;rw[zbw he];refine yi b bd (z) bs bl so co bv rs rm ?_;have ho:zbO z id at_ d=2:=by unfold zbO;rw[hfe];simp only;rw[if_neg hbd,if_pos h6]
        exact qm (rpl b bd z::F) rfl (.inl ⟨by rw[ho];decide,by rw[ho];rfl,rfl⟩)
      · have h6:¬6<d.length:=by simp at h32;omega
        have hps:=(hR.putS e (List.mem_of_getElem? he)).1;have hfl:=List.length_filter_le (fun x:PutM=>!decide (x.at_=at_)) e.puts;refine qi (qG (gS (gM rR (gM rR (g_v (qc rR) rR (g_v (qa 3 underlying139 rR rR sizeOf82 (by decide) rR) rR (g_v (qe (v:=sl e.so e.puts.length e.co) isAgg82 rR rR) rR (g_v (wO rR rR) rR ?_))))))));refine g_l (qj (Pre:=[owL 81 2 e.so e.co (zbo (e.puts)),pt b6 (.cells #[I at_] 3 (0,0))]) call191 rR (ze0 e.puts e.so e.co b6 at_ (by omega))) rR ?_;rintro _ _ ⟨rfl,rfl⟩;refine g_v (qc rR) rR (g_v (qa 3 underlying139 rR rR sizeOf82 (by decide) rR) rR ?_);refine yp (qJ #[I e.base,I e.disk,I e.size,sl e.so (e.puts.filter fun x=>!decide (x.at_=at_)).length e.co] sizeOf82 rR rR rR (by simp) rR) ?_;rintro _ _ rfl;refine qb (qf ?_);refine zda (Lf:=[pt e.a (.cells #[I e.base,I e.disk,I e.size,sl e.so ((e.puts.filter fun x=>!decide (x.at_=at_)).length) e.co] 139 (0,0)),pt b6 (.cells #[I at_] 3 (0,0))]) [(0,false),(1,false),(2,false),(3,false),(4,false),(5,false),(6,false),(7,false),(8,true),(9,true),(10,false),(11,false)] 12 rR (by kernel_rfl) (by kernel_rfl) rR (by kernel_rfl) (by kernel_rfl) ?_;refine d_v rR (qg rR) rR (d_v rR (qg rR) rR (d_v rR (qc rR) rR (d_v rR (qa 3 underlying139 rR rR sizeOf82 (by decide) rR) rR (d_v rR (qe (v:=sl e.so (e.puts.filter fun x=>!decide (x.at_=at_)).length e.co) isAgg82 rR rR) rR (d_v rR (qe (v:=I at_) isAgg3 rR rR) rR (d_v rR (qg rR) rR (d_v rR (qO rR (ztF at_ d)) rR ?_)))))));refine d_l rR (qs (zbo [⟨at_,d⟩]) underlying82 sizeOf81 zeroValue81 rR rR rR (by simp[zbo,zfp]) (by decide) (by decide)) rR ?_;rintro _ _ ⟨b54,rfl,rfl⟩;refine d_l rR (yD underlying82 sizeOf81 zeroValue81 rR Tryz.typeInfo81 (by decide) rR rR (zbu _) rR (by simp[zbo,zfp]) (by simp[zbo,zfp,Go.Sl.ones,Go.Sl.one]) ⟨by omega,by decide,by decide⟩) rR ?_;rintro _ _ ⟨s55,c55,rfl,rfl⟩;refine d_v rR (qc rR) rR (d_v rR (qa 3 underlying139 rR rR sizeOf82 (by decide) rR) rR ?_);refine qZ ?_;refine yp (qJ #[I e.base,I e.disk,I e.size,sl s55 ((e.puts.filter fun x=>!decide (x.at_=at_)).length+1) c55] sizeOf82 rR rR rR (by simp) rR) ?_;rintro _ _ rfl;refine qb (gS (gA rR (qb ?_)));rw[show zbo (e.puts.filter fun x=>!decide (x.at_=at_))++zbo [⟨at_,d⟩]=zbo (zhN e.puts at_ d) by simp[zbo,zhN],show (e.puts.filter fun x=>!decide (x.at_=at_)).length+1=(zhN e.puts at_ d).length by simp[zhN]];refine zab (f:=seA) z.ses (sIx z.ses id) (⟨e.key,e.a,s55,c55,e.base,e.disk,e.size,zhN e.puts at_ d⟩:SeE) [pt e.a (.cells #[I e.base,I e.disk,I e.size,sl s55 (zhN e.puts at_ d).length c55] 139 (0,0)),owL 81 2 s55 c55 (zbo (zhN e.puts at_ d))] rR hi ?_;rw[←zsh (e':=(⟨e.key,e.a,s55,c55,e.base,e.disk,e.size,zhN e.puts at_ d⟩:SeE)) he rfl rfl]
        refine yi b bd (⟨z.h,z.used,z.rows,z.S,z.L,z.n,z.ses.set (sIx z.ses id) ⟨e.key,e.a,s55,c55,e.base,e.disk,e.size,zhN e.puts at_ d⟩,z.mou,z.next⟩) bs bl so co bv rs rm ?_;exact qm (rpl b bd ⟨z.h,z.used,z.rows,z.S,z.L,z.n,z.ses.set (sIx z.ses id) ⟨e.key,e.a,s55,c55,e.base,e.disk,e.size,zhN e.puts at_ d⟩,z.mou,z.next⟩::F) rfl (.inr ⟨by unfold zbO;rw[hfe];simp only;rw[if_neg hbd,if_neg h6],s55,c55,rfl,by unfold RpM.putted RpM.sess;rw[hfe]⟩)
end Go.Proofs.YthdjckbjjfiopacGreatDoor
