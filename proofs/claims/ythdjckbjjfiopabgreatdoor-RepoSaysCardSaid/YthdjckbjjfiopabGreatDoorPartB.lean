/- Several texts in one: walks and rules used by them. No condition. -/
import Derived.Test.YthdjckbjjfiopabGreatDoorPartA
import Derived.Laws.Externs
import Derived.Lib.Overlaps
import Derived.Maps.RangeRun
import Derived.Lib.UnsafeStr
import Derived.RangeFuncRecord
import Derived.RangeFuncIn
import Derived.TacticsIn
import Derived.OrdersIn
set_option linter.unusedSimpArgs false
set_option linter.unusedVariables false
set_option linter.defProp false
set_option maxHeartbeats 800000
namespace Go.Sl
section
variable {c:Cx}{g:Option (Nat×Bool)}{E:ap}{L L':List aa}{d:Option Tmp}{ty:TypeId}{pos:String}{af:Array Edge}{gu:Option (Nat×Bool)}
variable {x y z y3:Operand}{t u e:TypeId}{k:IntKind}{v:Value}{s:Option Addr}{b o i j n sz cap off:Nat}
theorem SlR.part {F:List aa}{s2 S:Option Addr}{p m:Nat}{D:List (List Value)}(Y:SlR F s2 sz D)(R:At S s2 p sz m)(O:p+m<=D.length):SlR F S sz ((D.drop p).take m):=⟨λw0 w h=>by
 by_cases J:m=0
 ·left;subst J;rfl
 ·rcases Y.out w0 w h with h | ⟨b,off,o,rfl,X,V⟩
  ·subst h;simp at O;omega
  ·exact .inr ⟨b,off+p*sz,o,R.addr (by omega),X,V.part⟩⟩
def kH {K:List KI}{T:Nat}{rows:List (List Value)}{F:List aa}(s:Option Addr)[R:OwR L s T sz cap rows F](h:rows.length<=cap->G c K E L):G c K E L:=λa w V J=>h (by
 rcases wa (R.sat J) with ⟨_,D,O,_⟩ | ⟨b,cs,D,O,S,_⟩
 ·rw[D];simp
 ·exact S) a w V J
end
end Go.Sl
namespace Go.Sl
section
variable {c:Cx}{E:ap}{L:List aa}{K:List KI}{t:TypeId}{b o sz:Nat}
def H6 {a:Act}{w:World}{r q:Nat}{X:Obj}{vs:List Value}{v2:Value}{ay:List aa}(hf:c.fn.results.toList=[.cell r t, .tmp q])(hx:look none E r=some (ptr b o))(hq:look none E q=some v2)(ha:∀w,(isAgg t).run c.P w= .ok true w)(hz:∀w,(sizeOf t).run c.P w= .ok sz w)[h:Has L b X](hl:vs.length=sz)
  (hv:∀k v,vs[k]? =some v->yd X (o+k)=some v) (O:EOk c.n E a) (V:Sat c.w0 w L) [S:Sub L ay] (hR:c.R (.tuple #[.agg vs.toArray,v2]) ay) (hds:c.n.ds=[]:=by rfl):(a.defers=[]/\∃v,(results c.fn a.tmps).run c.P w= .ok v w/\∃L,Sat c.w0 w L/\c.R v L)\/∃D w',a.defers=[i6 D]/\(Instr.takeDeferred D).run c.P w= .ok [] w'/\∃v,(results c.fn a.tmps).run c.P w'= .ok v w'/\∃L,Sat c.w0 w' L/\c.R v L:=by
 have hh:=h.out _ _ V;have J:=ls (P:=c.P) (w:=w) b sz 0 o #[] vs hl (λk v hk=>by simpa using ge hh (hv k v hk));have Y:=O.look (yM a) hx;have Z:=O.look (yM a) hq;refine .inl ⟨O.defers.trans hds, .tuple #[.agg vs.toArray,v2],?_,ay,S.sat V,hR⟩;rw[rI,RH,hf];simp[mv,Rn,Y,Z,asAddr,loadVar,ha,hz,loadCells,J]
def kI {r q:Nat}{D:Obj}{v2:Value}{ay:List aa}(vs:List Value)(O:c.R=R1 (.tuple #[.agg vs.toArray,v2]) ay)(Y:c.fn.results.toList=[.cell r t, .tmp q])(hx:look none E r=some (ptr b o))(hq:look none E q=some v2)(X:∀w,(isAgg t).run c.P w= .ok true w)(hz:∀w,(sizeOf t).run c.P w= .ok sz w)[h:Has L b D](Z:vs.length=sz)
  (hv:∀k v,vs[k]? =some v->yd D (o+k)=some v) [S:Sub L ay] (hds:c.n.ds=[]:=by rfl):G c (.code .ret::K) E L:=
 λa w J V=>wp_ret (yu (H6 (hds:=hds) (h:=h) (S:=S) Y hx hq X hz Z hv J V (by rw[O];exact ⟨rfl,rfl⟩)))
def qQ {T:TypeId}{f:Nat×Nat}{vs:List Value}:∀k v,vs[k]? =some v->yd (.cells vs.toArray T f) (0+k)=some v:=λk v h=>by simpa [yd] using h
end
end Go.Sl
namespace Go.Sl
section
variable {c:Cx}{g:Option (Nat×Bool)}{E:ap}{L L':List aa}{d:Option Tmp}{ty:TypeId}{pos:String}{af:Array Edge}{gu:Option (Nat×Bool)}{K:List KI}
variable {x y z:Operand}{t u e:TypeId}{k:IntKind}{v v1 v2:Value}{s:Option Addr}{b o i j n sz cap off:Nat}
def Br {f:FuncId}{J:List Operand}{vs:List Value}{ats:Array TypeId}(h:∀w,(callFunc f vs.toArray).run c.P w= .ok (.value v) w)(hx:evs g E J=some vs):
  OpL c g E L ⟨d, .call {callee:= .value (.func f),args:=J.toArray,argTypes:=ats},ty,pos,af,gu⟩ λV L'=>V=v/\L'=L:=
 .of_run λa w O S R=>by
  have D:=h w;rw[<-O.evs S hx] at D;exact ⟨v,w,L,by simp[execOp,resolve,Act.eval,Deferred.ofValue,invoke,D],R,rfl,rfl⟩
def H7 {s2 xa ya:Option Addr}{l p q m cx cy:Nat}{T:Nat}{rows D:List (List Value)}{F:List aa}(hu:c.P.underlying t=some (.slice T))(hz:∀w,(sizeOf T).run c.P w= .ok sz w)(h0:0<sz)
  (hx:ev g E x=some (sl xa q cx)) (hy:ev g E y=some (sl ya m cy)) [R:OwR L s T sz cap rows F] [Y:SlR L s2 sz D] (hxa:At xa s l sz q) (hya:At ya s2 p sz m) (hk:l+Nat.min m q<=rows.length) (hm:p+Nat.min m q<=D.length)
  (hnl:∀r∈(D.drop p).take (Nat.min m q),r.length=sz) (h1:∀r∈(D.drop p).take (Nat.min m q),ones r=true):
  OpL c g E L ⟨d, .call {callee:= .builtin .copy,args:=#[x,y],argTypes:=#[t,u]},ty,pos,af,gu⟩ λv L'=>v=I (Nat.min m q)/\L'=ai T sz s cap (rows.take l++((D.drop p).take (Nat.min m q))++rows.drop (l+Nat.min m q))::F:=
 .of_run λa w hE hg hS=>by
  have hS1:=R.sat hS;have hY:=Y.out _ _ hS;have e1:=hE.ev hg hx;have e2:=hE.ev hg hy;generalize hr:Nat.min m q=r at*;have hr1:r<=m:=(by rw[<-hr];exact Sz _ _);have hr2:r<=q:=(by rw[<-hr];exact SA _ _);have J:∀x∈(D.drop p).take r,x.length=sz:=hnl;have O:((D.drop p).take r).length=r:=(by simp;omega);have X:ones ((D.drop p).take r).flatten=true:=jw λv hv=>by
   obtain ⟨x,hx,hv⟩:=Sd.1 hv;exact jv (h1 x hx) v hv
  have V:(Builtin.firstCells sz r (sl ya m cy)).run c.P w= .ok ((D.drop p).take r).flatten.toArray w:=by
   refine rV h0 J O ?_;by_cases Z:r=0
   ·left;rw[Z];rfl
   ·right;rcases hY with h | ⟨b,off,o,rfl,hh,hR⟩
    ·subst h;simp at hm;omega
    ·exact ⟨b,off+p*sz,o,hya.addr (by omega),hh,hR.part⟩
  have hlo:(Builtin.lenOf (Value.slice ya m cy)).run c.P w= .ok m w:=my;have hfi:(Builtin.firstCells sz r (Value.slice ya m cy)).run c.P w= .ok ((D.drop p).take r).flatten.toArray w:=V;by_cases Z:r=0
  ·subst Z;refine ⟨I ((0:Nat):Int),w,ai T sz s cap rows::F,?_,hS1,rfl,by simp⟩;refine (rU (r:= .ok (I ((0:Nat):Int)) w) e1 e2 ?_).trans rfl;cases xa <;> simp[Builtin.copy_,underlying,program,Sem.run,hu,hz,sl,goInt,storeCells,hlo,hr,hfi]
  ·rcases wa hS1 with ⟨rfl,rfl,rfl,hF⟩ | ⟨b,cs,rfl,a1,a2,a3,a4,hP⟩
   ·simp at hk;omega
   ·obtain ⟨hle,S⟩:=uW (T:=T) (l:=l) (news:=(D.drop p).take r) h0 a1 a2 (by rw[O];omega) a3 J a4;have hst:=yQ (P:=c.P) b (l*sz) T ((D.drop p).take r).flatten w cs 0 hP.at_ (by omega) X;have hxa':=hxa.addr (by omega);subst hxa';refine ⟨I (r:Int),cL w b (.cells (yY cs (l*sz) ((D.drop p).take r).flatten) T (0,0)),_,(rU (r:= .ok (I (r:Int)) _) e1 e2 ?_).trans rfl,?_,rfl,rfl⟩
    ·simp[Builtin.copy_,underlying,program,Sem.run,hu,hz,sl,goInt,hlo,hr,hfi,hst]
    ·rw[O] at S;refine fK (hP.set (o':= .cells (yY cs (l*sz) ((D.drop p).take r).flatten) T (0,0)) rR) (by rw[jx,a1]) (by simp;omega) ?_ S;intro x hx;rcases Sc.1 hx with hx | hx
     ·rcases Sc.1 hx with hx | hx
      ·exact a3 x (SD hx)
      ·exact J x hx
     ·exact a3 x (SB hx)
def H8 (h:Array Value)(n:Nat)(D:0<h.size):Builtin.zeroCells h n=(List.replicate n h.toList).flatten.toArray:=by
 have R:∀r∈List.replicate n h.toList,r.length=h.size:=λr S=>(by obtain ⟨_,rfl⟩:=Sq.1 S;simp);apply RS;intro k;rw[show (List.replicate n h.toList).flatten.toArray[k]? =(List.replicate n h.toList).flatten[k]? by simp,mx D _ R];unfold Builtin.zeroCells;rw[Sj];have O:=SU k D;by_cases J:k<n*h.size
 ·have hd:k / h.size<n:=(by rw[Tc D];exact J);rw[Sk,RI J,Si,RI hd];simp only[Option.map_some,Td];rw[getElem!_pos h _ O];simp[O]
 ·have hd:¬k / h.size<n:=(by rw[Tc D];exact J);rw[Sk,RJ J,Si,RJ hd]
  rfl
def H9 {m:Nat}{m':Int}{zv:Value}{J:TypeInfo}{T:Nat}{rows:List (List Value)}(hu:c.P.underlying t=some (.slice T))(hu2:c.P.underlying u=some (.int .i64))(hz:∀w,(sizeOf T).run c.P w= .ok sz w)(hzv:∀w,(zeroValue T).run c.P w= .ok zv w)(hzs:zv.cells.size=sz)(hti:∀w,(typeInfo T).run c.P w= .ok J w)(h0:0<sz)
  (hx:ev g E x=some (sl s i cap)) (hy:ev g E y=some (I m')) (hm:m'=(m:Int)) [Y:SlR L s sz rows] (hi:i<=rows.length) (hnl:∀r∈rows,r.length=sz) (hgr:cap<i+m) (hm1:0<m)
  (hb:i+m<=1048576/\0<J.bytes/\J.bytes<=4096):
  OpL c g E L ⟨d, .call {callee:= .builtin .append,args:=#[x,y],argTypes:=#[t,u]},ty,pos,af,gu⟩ λv L'=>∃b' S,v=sl (some ⟨b',0,none⟩) (i+m) S/\L'=ai T sz (some ⟨b',0,none⟩) S (rows.take i++List.replicate m zv.cells.toList)::L:=
 .of_run λa w hE hg hS=>by
  subst hm hzs;have e1:=hE.ev hg hx;have e2:=hE.ev hg hy;have hw:IntKind.i64.wrap (m:Int)=m:=ao (by omega);have O:∀r∈rows.take i,r.length=zv.cells.size:=λr hr=>hnl r (SD hr);have X:∀r∈List.replicate m zv.cells.toList,r.length=zv.cells.size:=λr hr=>(by obtain ⟨_,rfl⟩:=Sq.1 hr;simp);have V:(rows.take i).length=i:=(by simp;omega);have hfo:∀w':World,w'.heap=w.heap->(Builtin.firstCells zv.cells.size i (sl s i cap)).run c.P w'= .ok (rows.take i).flatten.toArray w':=λw' hw'=>by
   refine nI h0 O V ?_;rcases Y.out _ _ hS with h | ⟨b,off,o,h1,h2,h3⟩
   ·left;rw[h];simp
   ·exact .inr ⟨b,off,o,h1,by rw[hw'];exact h2,h3.take i⟩
  have hfo':(Builtin.firstCells zv.cells.size i (.slice s i cap)).run c.P w.drew= .ok (rows.take i).flatten.toArray w.drew:=hfo w.drew rfl;have c1:¬i+m<=cap:=(by omega);have c3:¬(Builtin.nextslicecap (i+m) cap*J.bytes > 2 ^ 48):=by
   have h1:=uO (i+m) cap hgr;have h2:Builtin.nextslicecap (i+m) cap*J.bytes<=(2*1048576+192)*4096:=R8 (by omega) hb.2.2;omega
  have h48:¬((m:Int)*(J.bytes:Int) > 2 ^ 48):=by
   have h1:m*J.bytes<=1048576*4096:=R8 (by omega) hb.2.2;have h2:((m*J.bytes:Nat):Int)=(m:Int)*J.bytes:=(by simp);rw[<-h2];omega
  have hmx:¬((i+m:Nat):Int) > IntKind.i64.max:=(by simp[IntKind.max,IntKind.signed,IntKind.bits];omega);have hask:=λ(w:World) (k:Nat)=>rN (P:=c.P) (w:=w) k;have hm0:0<m\/m=0:=(by omega);obtain ⟨D,hc,hrun⟩:∃D,i+m<=D/\(Builtin.append_ #[t,u] ty #[.slice s i cap,I (m:Int)]).run c.P w= .ok (.slice (some ⟨w.heap.size,0,none⟩) (i+m) D) (w.drew.alloc (.cells ((rows.take i).flatten.toArray++Builtin.zeroCells zv.cells m++Builtin.zeroCells zv.cells (D - (i+m))) T (0,0))):=by
   refine ⟨(Question.appendCap (i+m) cap T).cut (w.tape w.drawn (.appendCap (i+m) cap T)),by simp[Question.cut],?_⟩;have e0:J.bytes≠0:=(by omega);have hmn:¬((m:Int)<0):=(by omega);have R:¬(m*zv.cells.size=0)\/m=0:=by
    rcases hm0 with h | h
    ·left;have:=So h h0;omega
    ·exact .inr h
   unfold Builtin.append_;rcases R with R | R
   ·simp[underlying,program,Sem.run,hu,hu2,hz,c1,hti,choose,Question.forced,asInt,asIntOf,hw,h48,hmn];rw[RJ (by omega),RJ (by omega),RJ (by simpa using c3)];simp[hask,hfo',hzv,newRow,newObj,Sem.run,Question.cut,R]
   ·subst R;exact absurd hm1 (by omega)
  refine ⟨_,_,_,(rO (d:=d) (ty:=ty) (pos:=pos) (af:=af) (gu:=gu) (t:=t) (u:=u) (r:= .ok _ _) (P:=c.P) (w:=w) e1 e2 hrun).trans rfl,?_,w.heap.size,D,rfl,rfl⟩;have Z:Sat c.w0 (w.drew.alloc (.cells ((rows.take i).flatten.toArray++Builtin.zeroCells zv.cells m++Builtin.zeroCells zv.cells (D - (i+m))) T (0,0))) _:=(hS.drew (w.drawn+1)).alloc _;rw[H8 _ m h0] at Z ⊢;refine fK Z ?_ (by rw[Sx,V,Te];exact hc) ?_ (uR h0 O X)
  ·simp only[Se,RN,wi _ O,wi _ X,rP,V,Te];rw[<-RV,<-RV];congr 1;omega
  ·intro r hr;rcases Sc.1 hr with h | h
   ·exact O r h
   ·exact X r h
def Ia {T:Nat}{rows:List (List Value)}{F:List aa}(s:Option Addr)[R:OwR L s T sz cap rows F](X:rows.length<cap)(h:∀r:List Value,r.length=sz->G c K E (ai T sz s cap (rows++ [r])::F)):G c K E L:=λa w Z hS=>by
 have O:=R.sat hS;rcases wa O with ⟨rfl,rfl,rfl,hF⟩ | ⟨b,cs,rfl,Y,a2,a3,a4,hP⟩
 ·omega
 ·have hsz:rows.length*sz+sz<=cs.size:=by
   rw[Y];have:(rows.length+1)*sz<=cap*sz:=R9 _ X;rw[RV,RW] at this;exact this
  refine h ((cs.toList.drop (rows.length*sz)).take sz) (by simp;omega) a w Z (fK hP Y (by simp;omega) (λr J=>?_) (Rows.app a4 λq row D f v S=>?_))
  ·rcases Sc.1 J with J | J
   ·exact a3 r J
   ·simp at J;subst J;simp;omega
  ·match q,D with
   | 0,D=>
    injection D with D;subst D;have V:f<sz:=(by have:=(Re.1 S).1;simp at this;omega);rw[Ss V,Sy] at S;simp only[yd,Sa,Nat.zero_mul];rw[<-Tf];exact S
   | q+1,D=>simp at D
end
end Go.Sl
namespace Go.Sl
section
variable {c:Cx}{g:Option (Nat×Bool)}{E:ap}{L L':List aa}{d:Option Tmp}{ty:TypeId}{pos:String}{af:Array Edge}{gu:Option (Nat×Bool)}{K:List KI}
variable {x y z:Operand}{t u e:TypeId}{k:IntKind}{v v1 v2:Value}{s:Option Addr}{b o i j n sz cap off:Nat}
theorem Sat.ne {w0 w:World}{b D:Nat}{o o':Obj}(h:Sat w0 w (pt b o::pt D o'::L)):b≠D:=by
 obtain ⟨_,_,_,_,f,J,hd⟩:=h;have O:f 0 b=some (o,false):=(J 0 _ rfl).1;have R:f 1 D=some (o',false):=(J 1 _ rfl).1;intro e;subst e;have:=(hd 0 1 (by simp) (by simp) (by decide) b _ _ O R).1;cases this
def Ib {T:Nat}{rows:List (List Value)}{F:List aa}(s:Option Addr)[R:OwR L s T sz cap rows F](J:0<rows.length)(h:∀b,s=some ⟨b,0,none⟩->G c K E L):G c K E L:=λa w S O=>by
 rcases wa (R.sat O) with ⟨_,D,_⟩ | ⟨b,cs,D,_⟩
 ·rw[D] at J;simp at J
 ·exact h b D a w S O
def Ic {f:FuncId}{O:List Operand}{vs:List Value}{ats:Array TypeId}(h:∀w,Sat c.w0 w L->(callFunc f vs.toArray).run c.P w= .ok (.value v) w)(hx:evs g E O=some vs):
  OpL c g E L ⟨d, .call {callee:= .value (.func f),args:=O.toArray,argTypes:=ats},ty,pos,af,gu⟩ λV L'=>V=v/\L'=L:=
 .of_run λa w R S D=>by
  have J:=h w D;rw[<-R.evs S hx] at J;exact ⟨v,w,L,by simp[execOp,resolve,Act.eval,Deferred.ofValue,invoke,J],D,rfl,rfl⟩
def Bs {w:World}{b o:Nat}{cs:Array Value}{T:TypeId}(h:w.heap[b]? =some (.cells cs T (0,0))):w.frozen? ⟨b,o,none⟩=false:=by
 simp[World.frozen?,h]
def Ie {P:Program}{w0 w:World}{F:List aa}{T tR c1 c2 l1 l2 n1 n2:Nat}{b1 R p:Nat}{r1 r2:List (List Value)}(ht:P.underlying t=some (.slice T))(hz:∀w,(sizeOf T).run P w= .ok sz w)(h0:0<sz)(hc2:0<r2.length)
  (hS:Sat w0 w (ai T sz (some ⟨b1,0,none⟩) c1 r1::ai T sz (some ⟨R,0,none⟩) c2 r2::F)):
  (Extern.SlicesOverlaps.overlaps #[t,t] #[tR] #[.slice (some ⟨b1,0,none⟩) l1 n1, .slice (some ⟨R,p,none⟩) l2 n2]).run P w= .ok (.bool false) w:=by
 rcases wa hS with ⟨h,_⟩ | ⟨b,cs,h,a1,a2,a3,a4,Y⟩
 ·cases h
 ·injection h with h;injection h with h;subst h;have S:Sat w0 w (ai T sz (some ⟨R,0,none⟩) c2 r2::pt b1 (.cells cs T (0,0))::F):=(Y.front (i:=1) rfl);rcases wa S with ⟨h,_⟩ | ⟨b,J,h,Z,e2,e3,e4,O⟩
  ·cases h
  ·injection h with h;injection h with h;subst h;have X:=Sat.ne O;have D:=Y.at_;have V:=O.at_;have hk:J.size≠0:=by
    rw[Z];have:=So (show 0<c2 by omega) h0;omega
   exact Lib.run_overlaps_apart w t tR T ht sz hz ⟨b1,0,none⟩ ⟨R,p,none⟩ l1 n1 l2 n2 (λh=>X h.symm) T T cs.size J.size (by simp[World.shape?,D]) (by simp[World.shape?,V]) hk (Bs D) (Bs D)
end
end Go.Sl
namespace Go.Sl
section
variable {c:Cx}{E:ap}{L:List aa}{d:Nat}{ty:TypeId}{pos:String}{af:Array Edge}{K:List KI}{all:List Oper}{op:Op}{N:Value->List aa->Prop}{Lf:List aa}{pl:List (Nat×Bool)}
def qO {i j s:Nat}{vs:Value}{h:Bool}(V:all[i]? =some ⟨some d,op,ty,pos,af,some (j,h)⟩)(X:(all[j]?).bind (·.dst)=some s)(Y:look none E s=some vs)(O:iv vs h=true)[R:Sub L Lf](hd:bf c.n d E=true)
  (k:G c (.plan all (λw=>Sat c.w0 w Lf) pl::K) ((d,none,undef)::E) L):G c (.plan all (λw=>Sat c.w0 w Lf) ((i,false)::pl)::K) E L:=λa w D J=>by
 have S:=D.look (yM a) Y;have Z:yielded all.toArray a.tmps j≠some h:=by
  cases vs <;> simp[yielded,X,S,iv] at O ⊢
  all_goals (rename_i b;cases b <;> cases h <;> simp at O ⊢)
 exact ⟨R.sat J,_,undef,by simpa using V, .inr ⟨by simp[Region.wanted,Z],rfl⟩,k _ w (D.put1 hd) J⟩
end
section
variable {c:Cx}{g:Option (Nat×Bool)}{E:ap}{L L':List aa}{d:Option Tmp}{ty:TypeId}{pos:String}{af:Array Edge}{gu:Option (Nat×Bool)}
variable {x y z:Operand}{t u e:TypeId}{k:IntKind}{v:Value}{s:Option Addr}{b o i j n sz cap off:Nat}
def va {rows:List (List Value)}{vs:List Value}{T:Nat}{F:List aa}(hz:∀w,(sizeOf t).run c.P w= .ok sz w)(hx:ev g E x=some (fe s (j*sz)))(hy:ev g E y=some (.agg vs.toArray))(S:vs.length=sz)(h1:ones vs=true)[R:OwR L s T sz cap rows F](hj:j<rows.length)(h0:0<sz):
  OpL c g E L ⟨d, .store t x y,ty,pos,af,gu⟩ λ_ L'=>L'=ai T sz s cap (rows.set j vs)::F:=
 .of_skip λa w Z hg hS=>by
  rcases wa (R.sat hS) with ⟨rfl,rfl,rfl,_⟩ | ⟨b,cs,rfl,Y,a2,a3,a4,hP⟩
  ·simp at hj
  ·obtain ⟨V,D⟩:=uW (T:=T) (l:=j) (news:=[vs]) h0 Y a2 (by simp;omega) a3 (by simpa using S) a4;have J:rows.take j++ [vs]++rows.drop (j+ [vs].length)=rows.set j vs:=by
    rw[List.set_eq_take_append_cons_drop,RI hj];simp
   rw[J] at D;have O:[vs].flatten=vs:=(by simp);rw[O] at V D;have X:=yQ (P:=c.P) b (j*sz) T vs w cs 0 hP.at_ (by omega) h1;have e1:a.eval x=ptr b (j*sz):=by
    rw[Z.ev hg hx];simp[fe,ez,ptr]
   refine ⟨_,_,?_,fK (hP.set (o':= .cells (yY cs (j*sz) vs) T (0,0)) rfl) (by rw[jx,Y]) (by simp;exact a2) (λr X=>?_) D,rfl⟩
   ·simp only[execOp,e1,Z.ev hg hy,Instr.storeAt,Instr.sureAddr,storeVar];simp[hz,S,Value.cells,X,ptr,cL,Sem.run]
   ·rcases Sf X with h | h
    ·exact a3 r h
    ·rw[h];exact S
end
end Go.Sl
namespace Go.Sl
abbrev MM:=List (Int×Value)
structure MOk (es:Array MapEntry) (clk:Nat) (M:MM):Prop where
 perm:(es.toList.map λe=>(e.key,e.val)).Perm (M.map λp=>(I p.1,p.2))
 nodup:(M.map (·.1)).Nodup
 born:∀e∈es.toList,e.born<clk
 bnd:(es.toList.map (·.born)).Nodup
def mp (r:Nat)(M:MM):aa:=ll λp:Array MapEntry×Nat=>λm=>MOk p.1 p.2 M/\m r=some (.map p.1 p.2,false)
def cz (r:Nat)(es:Array MapEntry)(clk:Nat)(M:MM):aa:=λm=>MOk es clk M/\m r=some (.map es clk,false)
def lk:MM->Int->Option Value
 | [],_=>none
 | (k,v)::M,q=>if k=q then some v else lk M q
def dw (M:MM)(q:Int)(v:Value):MM:=if (lk M q).isSome then M.map λp=>if p.1=q then (q,v) else p else M++ [(q,v)]
def eV (M:MM)(q:Int):MM:=M.filter λp=>!decide (p.1=q)
def lk_none {M:MM}{q:Int}:lk M q=none ↔ ∀p∈M,p.1≠q:=by
 induction M with
 | nil=>simp[lk]
 | cons p M D=>
  obtain ⟨k,v⟩:=p;simp only[lk];split
  ·rename_i h;simp[h]
  ·rename_i h;simp[D,h]
def sf {M:MM}(h:(M.map (·.1)).Nodup){q:Int}{v:Value}:lk M q=some v ↔ (q,v)∈M:=by
 induction M with
 | nil=>simp[lk]
 | cons p M O=>
  obtain ⟨k,u⟩:=p;simp only[Rv,Tg] at h;simp only[lk];split
  ·rename_i J;subst J;constructor
   ·intro e;injection e with e;subst e;simp
   ·intro D;rcases RR.1 D with e | D
    ·injection e with _ e;rw[e]
    ·exact absurd (SR.2 ⟨_,D,rfl⟩) h.1
  ·rename_i J;rw[O h.2];constructor
   ·intro D;exact Th _ D
   ·intro D;rcases RR.1 D with e | D
    ·injection e with e _;exact absurd e.symm J
    ·exact D
def Bt {M:MM}(h:(M.map (·.1)).Nodup):M.Nodup:=by
 induction M with
 | nil=>exact List.Pairwise.nil
 | cons p M J=>
  simp only[Rv,Tg] at h;exact Tg.2 ⟨λD=>h.1 (SR.2 ⟨_,D,rfl⟩),J h.2⟩
def vb {M D:MM}(h:(M.map (·.1)).Nodup)(J:(D.map (·.1)).Nodup)(O:∀q,lk M q=lk D q):M.Perm D:=by
 refine (List.perm_ext_iff_of_nodup (Bt h) (Bt J)).2 λ⟨q,v⟩=>?_;rw[<-sf h,<-sf J,O]
theorem MOk.perm_ {es:Array MapEntry}{clk:Nat}{M D:MM}(h:MOk es clk M)(J:M.Perm D):MOk es clk D:=⟨h.perm.trans (J.map _),(J.map (·.1)).nodup_iff.1 h.nodup,h.born,h.bnd⟩
def sg (M:MM)(q:Int)(v:Value)(h:(M.map (·.1)).Nodup):((dw M q v).map (·.1)).Nodup:=by
 unfold dw;split
 ·have:(M.map λp=>if p.1=q then (q,v) else p).map (·.1)=M.map (·.1):=by
   rw[RB];apply Ti;intro p _;simp only[Function.comp_apply];split <;> simp_all
  rw[this];exact h
 ·rename_i D;simp only[Tj] at D;rw[lk_none] at D;rw[RA,Tk];refine ⟨h,by simp,λa O b J=>?_⟩;simp at J;subst J;obtain ⟨p,R,rfl⟩:=SR.1 O;exact D p R
def Ig (M N:MM)(q:Int):lk (M++N) q=(lk M q).or (lk N q):=by
 induction M with
 | nil=>simp[lk]
 | cons p M h=>obtain ⟨k,v⟩:=p;simp only[SM,lk];split <;> simp[h]
def vc (M:MM)(q:Int)(v:Value)(k:Int):lk (dw M q v) k=if q=k then some v else lk M k:=by
 unfold dw;split
 ·rename_i h;have key:∀N:MM,(∀D,D=q->(lk N D).isSome->lk (N.map λp=>if p.1=q then (q,v) else p) D=some v)/\(∀D,D≠q->lk (N.map λp=>if p.1=q then (q,v) else p) D=lk N D):=by
   intro N
   induction N with
   | nil=>exact ⟨λD _ h=>by simp[lk] at h,λD _=>rfl⟩
   | cons p N O=>
    obtain ⟨a,u⟩:=p;refine ⟨λD e S=>?_,λD e=>?_⟩
    ·subst e;by_cases J:a=D
     ·simp[lk,J]
     ·simp[lk,J] at S ⊢;exact O.1 D rfl S
    ·by_cases J:a=q
     ·subst J;have:a≠D:=λe'=>e e'.symm;simp[lk,this,O.2 D e]
     ·by_cases R:a=D
      ·subst R;simp[lk,e]
      ·simp[lk,J,R,O.2 D e]
  split
  ·rename_i e;exact (key M).1 k e.symm (e ▸ h)
  ·rename_i e;exact (key M).2 k λe'=>e e'.symm
 ·rename_i h;rw[Ig];simp only[Tj] at h;split
  ·rename_i e;subst e;simp[h,lk]
  ·rename_i e;simp[lk,e]
def vd (M:MM)(q:Int)(h:(M.map (·.1)).Nodup):((eV M q).map (·.1)).Nodup:=Rw (Tl _ Tm) h
def ve (M:MM)(q k:Int):lk (eV M q) k=if q=k then none else lk M k:=by
 induction M with
 | nil=>simp[eV,lk]
 | cons p M J=>
  obtain ⟨a,u⟩:=p;unfold eV at J ⊢;by_cases D:a=q
  ·subst D;rw[Tn (by simp),J];by_cases h:a=k <;> simp[lk,h]
  ·rw[To (by simp[D])];simp only[lk,J];by_cases h:q=k
   ·subst h;simp[D]
   ·simp[h]
theorem MOk.key {es:Array MapEntry}{clk:Nat}{M:MM}(h:MOk es clk M){e:MapEntry}(D:e∈es.toList):∃p∈M,e.key=I p.1/\e.val=p.2:=by
 have:(e.key,e.val)∈M.map λp=>(I p.1,p.2):=h.perm.mem_iff.1 (SR.2 ⟨e,D,rfl⟩);obtain ⟨p,R,D⟩:=SR.1 this;injection D with J O;exact ⟨p,R,J.symm,O.symm⟩
def n0 {a b:Int}(h:I a=I b):a=b:=by injection h
def Bu (O:IntKind)(q:Int):∀(l:List MapEntry) (i:Nat),(∀e∈l,∃k,e.key=I k)->
  (∃j e,l[j]? =some e/\e.key=I q/\Instr.findNow (.int O) (I q) l i=some (some (i+j,e.val)))\/((∀e∈l,e.key≠I q)/\Instr.findNow (.int O) (I q) l i=some none)
 | [],i,_=> .inr ⟨by simp,rfl⟩
 | e::l,i,h=>by
  obtain ⟨k,J⟩:=h e (by simp);by_cases V:k=q
  ·subst V;exact .inl ⟨0,e,rfl,J,by simp[Instr.findNow,J,Instr.sameNow,I]⟩
  ·have X:Instr.sameNow (.int O) (I q) e.key=some false:=(by rw[J];simp[Instr.sameNow,I,Ne.symm V]);rcases Bu O q l (i+1) (λe Z=>h e (by simp[Z])) with ⟨j,e',R,S,Y⟩ | ⟨R,S⟩
   ·exact .inl ⟨j+1,e',by simpa using R,S,by simp only[Instr.findNow,X,Y];congr 3;omega⟩
   ·refine .inr ⟨λe' D=>?_,by simp only[Instr.findNow,X,S]⟩;rcases RR.1 D with rfl | D
    ·rw[J];exact λe=>V (n0 e)
    ·exact R e' D
theorem MOk.find {es:Array MapEntry}{clk:Nat}{M:MM}(h:MOk es clk M)(V:IntKind)(q:Int):
  (∃j e,es.toList[j]? =some e/\e.key=I q/\lk M q=some e.val/\Instr.findNow (.int V) (I q) es.toList 0=some (some (j,e.val)))\/
  (lk M q=none/\(∀e∈es.toList,e.key≠I q)/\Instr.findNow (.int V) (I q) es.toList 0=some none):=by
 rcases Bu V q es.toList 0 (λe R=>let ⟨p,_,h,_⟩:=h.key R;⟨p.1,h⟩) with ⟨j,e,J,O,Y⟩ | ⟨J,O⟩
 ·obtain ⟨p,S,D,X⟩:=h.key (R5 J);refine .inl ⟨j,e,J,O,?_,by simpa using Y⟩;rw[sf h.nodup];have:p.1=q:=n0 (D.symm.trans O);rw[<-this,X];exact S
 ·refine .inr ⟨?_,J,O⟩;rw[lk_none];intro p S Z;have:(I p.1,p.2)∈es.toList.map λe=>(e.key,e.val):=h.perm.mem_iff.2 (SR.2 ⟨p,S,rfl⟩);obtain ⟨e,R,D⟩:=SR.1 this;injection D with D _;exact J e R (by rw[D,Z])
def kJ {P:Program}{w:World}{t:TypeId}{D:IntKind}{q:Int}(b:Bool)(h:P.underlying t=some (.int D)):(Instr.checkKey b 10000 t (I q)).run P w= .ok () w:=by
 have key:∀n,(Instr.checkKey b (n+1) t (I q)).run P w= .ok () w:=λn=>by
  unfold Instr.checkKey;simp[underlying,program,Sem.run,h,I]
 exact key 9999
def kK {P:Program}{w:World}{t:TypeId}{D:IntKind}{q:Int}{es:List MapEntry}{r:Option (Nat×Value)}(J:P.underlying t=some (.int D))(h:Instr.findNow (.int D) (I q) es 0=some r):(Instr.findKey t (I q) es).run P w= .ok r w:=by
 simp[Instr.findKey,underlying,program,Sem.run,J,h]
class HasM (L:List aa) (r:Nat) (M:outParam MM):Prop where
 out:∀w0 w,Sat w0 w L->∃es clk,MOk es clk M/\w.heap[r]? =some (.map es clk)
instance (priority:=high) HasM.head {r:Nat}{M:MM}{L:List aa}:HasM (mp r M::L) r M:=⟨λw0 w h=>by
 obtain ⟨⟨es,clk⟩,h⟩:=h.ex;obtain ⟨_,_,_,_,f,hf,_⟩:=h;have:=hf 0 _ rfl;exact ⟨es,clk,this.1.1,this.2 r _ this.1.2⟩⟩
instance (priority:=high) HasM.headE {r:Nat}{es:Array MapEntry}{clk:Nat}{M:MM}{L:List aa}:HasM (cz r es clk M::L) r M:=⟨λw0 w h=>by
 obtain ⟨_,_,_,_,f,hf,_⟩:=h;have:=hf 0 _ rfl;exact ⟨es,clk,this.1.1,this.2 r _ this.1.2⟩⟩
instance (priority:=low) HasM.tail {A:aa}{r:Nat}{M:MM}{L:List aa}[h:HasM L r M]:HasM (A::L) r M:=⟨λw0 w hS=>h.out w0 w hS.tail⟩
class RemM (L:List aa) (r:Nat) (M:outParam MM) (F:outParam (List aa)):Prop where
 out:∃i,L[i]? =some (mp r M)/\F=L.eraseIdx i
instance (priority:=high) RemM.head {r:Nat}{M:MM}{L:List aa}:RemM (mp r M::L) r M L:=⟨0,rfl,rfl⟩
instance (priority:=low) RemM.tail {A:aa}{r:Nat}{M:MM}{L F:List aa}[h:RemM L r M F]:RemM (A::L) r M (A::F):=⟨let ⟨i,h1,h2⟩:=h.out;⟨i+1,by simpa using h1,by simp[h2]⟩⟩
theorem RemM.sat {w0 w:World}{r:Nat}{M:MM}{L F:List aa}(R:RemM L r M F)(h:Sat w0 w L):∃es clk,MOk es clk M/\Sat w0 w (pt r (.map es clk)::F):=by
 obtain ⟨i,D,rfl⟩:=R.out;obtain ⟨⟨es,clk⟩,h⟩:=(h.front D).ex;have hok:MOk es clk M:=by
  obtain ⟨_,_,_,_,f,J,_⟩:=h;exact (J 0 _ rfl).1.1
 exact ⟨es,clk,hok,h.weak λm O=>O.2⟩
def mD {w0 w:World}{r clk:Nat}{es:Array MapEntry}{M:MM}{F:List aa}(h:Sat w0 w (pt r (.map es clk)::F))(hok:MOk es clk M):Sat w0 w (mp r M::F):=Sat.ex_mk (A:=λp:Array MapEntry×Nat=>λm=>MOk p.1 p.2 M/\m r=some (.map p.1 p.2,false)) (es,clk) (h.weak λm D=>⟨hok,D⟩)
section
variable {c:Cx}{g:Option (Nat×Bool)}{E:ap}{L L' F:List aa}{d:Option Tmp}{ty:TypeId}{pos:String}{af:Array Edge}{gu:Option (Nat×Bool)}{K:List KI}
variable {x y z:Operand}{t u e:TypeId}{k:IntKind}{v zv:Value}{r b n:Nat}{q:Int}{M:MM}
def gO (S:c.P.underlying t=some (.map u e))(hx:ev g E x=some (.map (some r)))[h:HasM L r M]:OpV c g E L ⟨d, .call {callee:= .builtin .len,args:=#[x],argTypes:=#[t]},ty,pos,af,gu⟩ (I M.length):= .mk λa w D O J=>by
 obtain ⟨es,clk,hok,V⟩:=h.out _ _ J;have R:es.size=M.length:=(by simpa using hok.perm.length_eq);simp[execOp,resolve,invoke,builtin,Builtin.len_,underlying,program,getObj,Sem.run,S,D.ev O hx,goInt,V,R]
def yE (X:c.P.underlying t=some (.map u e))(O:c.P.underlying u=some (.int .i64))(S:∀w,(zeroValue e).run c.P w= .ok zv w)(hx:ev g E x=some (.map (some r)))(Z:ev g E y=some (I q))(hv:(lk M q).getD zv=v)[h:HasM L r M]:
  OpV c g E L ⟨d, .lookup t x y false,ty,pos,af,gu⟩ v:= .mk λa w D J hS=>by
 subst hv;obtain ⟨es,clk,hok,Y⟩:=h.out _ _ hS;rcases hok.find .i64 q with ⟨j,en,V,h2,R,h4⟩ | ⟨V,h2,R⟩
 ·simp[execOp,D.ev J hx,D.ev J Z,Instr.lookup,underlying,program,getObj,Sem.run,Sem.run_bind,X,Y,kJ _ O,kK O h4,R]
 ·simp[execOp,D.ev J hx,D.ev J Z,Instr.lookup,underlying,program,getObj,Sem.run,Sem.run_bind,X,Y,kJ _ O,kK O R,V,S]
def ws {bb:Bool}(X:c.P.underlying t=some (.map u e))(O:c.P.underlying u=some (.int .i64))(S:∀w,(zeroValue e).run c.P w= .ok zv w)(hx:ev g E x=some (.map (some r)))(Z:ev g E y=some (I q))(hv:(lk M q).getD zv=v)(hb:(lk M q).isSome=bb)[h:HasM L r M]:
  OpV c g E L ⟨d, .lookup t x y true,ty,pos,af,gu⟩ (.tuple #[v, .bool bb]):= .mk λa w D J hS=>by
 subst hv hb;obtain ⟨es,clk,hok,Y⟩:=h.out _ _ hS;rcases hok.find .i64 q with ⟨j,en,V,h2,R,h4⟩ | ⟨V,h2,R⟩
 ·simp[execOp,D.ev J hx,D.ev J Z,Instr.lookup,underlying,program,getObj,Sem.run,Sem.run_bind,X,Y,kJ _ O,kK O h4,R]
 ·simp[execOp,D.ev J hx,D.ev J Z,Instr.lookup,underlying,program,getObj,Sem.run,Sem.run_bind,X,Y,kJ _ O,kK O R,V,S]
theorem MOk.nil:MOk #[] 0 []:=⟨by simp,by simp,by simp,by simp⟩
def gW:OpL c g E L ⟨d, .makeMap t none,ty,pos,af,gu⟩ λv L'=>∃b,v= .map (some b)/\L'=mp b []::L:=
 .of_run λa w D J h=>⟨.map (some w.heap.size),_,_,by simp[execOp,Instr.makeMap,newObj,Sem.run],mD (h.alloc (.map #[] 0)) MOk.nil,_,rfl,rfl⟩
open Classical in
theorem MOk.upd {es:Array MapEntry}{clk j:Nat}{R:MapEntry}(h:MOk es clk M)(V:es.toList[j]? =some R)(X:R.key=I q)(h3:lk M q=some R.val)(v:Value):MOk (es.modify j λe=>{e with key:=I q,val:=v}) clk (dw M q v):=by
 have hj:j<es.toList.length:=(Re.1 V).1;have hb:(es.modify j λe=>{e with key:=I q,val:=v}).toList.map (·.born)=es.toList.map (·.born):=by
  apply S9;intro i;simp only[Rc,Tf,RT];split
  ·cases es[i]? <;> rfl
  ·rfl
 refine ⟨?_,sg M q v h.nodup,λe he=>?_,by rw[hb];exact h.bnd⟩
 ·have e1:(es.modify j λe=>{e with key:=I q,val:=v}).toList.map (λe=>(e.key,e.val))=(es.toList.map λe=>(e.key,e.val)).map λp=>if p.1=I q then (I q,v) else p:=by
   apply S9;intro i;simp only[Rc,Tf,RT,Option.map_map];by_cases D:j=i
   ·subst D;have:es[j]? =some R:=(by simpa using V);simp[this,X]
   ·simp only[D,if_false];cases hi:es[i]? with
    | none=>rfl
    | some e'=>
     simp only[Option.map_some,Function.comp_apply];rw[RJ];intro hk;have hnd:(es.toList.map (·.key)).Nodup:=by
      have:(es.toList.map (·.key)).Perm ((M.map (·.1)).map I):=by
       have:=h.perm.map (·.1);simpa [RB,Function.comp_def] using this
      rw[this.nodup_iff];exact Tp I (λa b Y e=>Y (n0 e)) h.nodup
     have S:es.toList[i]? =some e':=(by simpa using hi);have il:i<es.toList.length:=(Re.1 S).1;have O:=Rf.1 hnd;have g1:es.toList[j]=R:=(Re.1 V).2;have g2:es.toList[i]=e':=(Re.1 S).2;rcases Rg D with J | J
     ·refine O j i (by simpa using hj) (by simpa using il) J ?_;rw[Tq,Tq,g1,g2,X,hk]
     ·refine O i j (by simpa using il) (by simpa using hj) J ?_;rw[Tq,Tq,g1,g2,X,hk]
  rw[e1];refine (h.perm.map _).trans (List.Perm.of_eq ?_);unfold dw;rw[RI (by simp[h3]),RB,RB];apply Ti;intro p _;simp only[Function.comp_apply];by_cases O:p.1=q
  ·simp[O]
  ·have:I p.1≠I q:=λe=>O (n0 e);simp[O,this]
 ·have:e.born∈es.toList.map (·.born):=(by rw[<-hb];exact SR.2 ⟨e,he,rfl⟩);obtain ⟨e',Z,e2⟩:=SR.1 this;rw[<-e2];exact h.born e' Z
theorem MOk.add {es:Array MapEntry}{clk:Nat}(h:MOk es clk M)(O:lk M q=none)(v:Value):MOk (es.push {key:=I q,val:=v,born:=clk}) (clk+1) (dw M q v):=by
 refine ⟨?_,sg M q v h.nodup,λe D=>?_,?_⟩
 ·unfold dw;rw[RJ (by simp[O])];simp only[Ts,RA,Rv,RC];exact h.perm.append_right _
 ·simp at D;rcases D with D | rfl
  ·have:=h.born e (by simpa using D);omega
  ·simp
 ·simp only[Ts,RA,Rv,RC];rw[Tk];refine ⟨h.bnd,by simp,λa R b J=>?_⟩;simp at J;subst J;obtain ⟨e,D,rfl⟩:=SR.1 R;exact Nat.ne_of_lt (h.born e D)
def Ih {P:Program}{w:World}(q:Int):(Instr.keyThatStays (I q) (I q)).run P w= .ok (I q) w:=by
 simp[Instr.keyThatStays,Instr.sameBits,I,Sem.run_pure]
def si {P:Program}{w:World}{es:Array MapEntry}{clk:Nat}{o':Obj}(h:w.heap[r]? =some (.map es clk)):(setObj r o').run P w= .ok () (cL w r o'):=by
 simp[setObj,Sem.run,h,cL]
def yk (hu:c.P.underlying t=some (.map u e))(S:c.P.underlying u=some (.int .i64))(hx:ev g E x=some (.map (some r)))(hy:ev g E y=some (I q))(hz:ev g E z=some v)[R:RemM L r M F]:
  OpL c g E L ⟨d, .mapUpdate t x y z,ty,pos,af,gu⟩ λ_ X=>X=mp r (dw M q v)::F:=
 .of_skip λa w h D J=>by
  obtain ⟨es,clk,hok,J⟩:=R.sat J;have V:=J.at_;rcases hok.find .i64 q with ⟨j,en,O,Z,h3,h4⟩ | ⟨O,Z,h3⟩
  ·have Y:es[j]? =some en:=(by simpa using O);refine ⟨cL w r (.map (es.modify j λe=>{e with key:=I q,val:=v}) clk),_,?_,mD (J.set rfl) (hok.upd O Z h3 v),rfl⟩;simp[execOp,h.ev D hx,h.ev D hy,h.ev D hz,Instr.mapUpdate,underlying,program,getObj,Sem.run,Sem.run_bind,hu,V,kJ _ S,kK S h4,Y,Z,Ih,si V]
  ·refine ⟨cL w r (.map (es.push {key:=I q,val:=v,born:=clk}) (clk+1)),_,?_,mD (J.set rfl) (hok.add O v),rfl⟩;simp[execOp,h.ev D hx,h.ev D hy,h.ev D hz,Instr.mapUpdate,underlying,program,getObj,Sem.run,Sem.run_bind,hu,V,kJ _ S,kK S h3,si V]
def gY (r:Nat)(J:MM)[R:RemM L r M F](h:M.Perm J)(k:G c K E (mp r J::F)):G c K E L:=λa w O D=>by
 obtain ⟨es,clk,hok,D⟩:=R.sat D;exact k a w O (mD D (hok.perm_ h))
def jZ (r:Nat)[R:HasM L r M](k:(M.map (·.1)).Nodup->G c K E L):G c K E L:=λa w D h=>by
 obtain ⟨es,clk,hok,_⟩:=R.out _ _ h;exact k hok.nodup a w D h
end
end Go.Sl
namespace Go.Sl
def dx (b r:Nat)(es:Array MapEntry)(clk:Nat)(rest:MM)(cur:Option (Int×Value)):aa:=λm=>∃(seen:Array Nat) (c0:Nat),m b=some (.mapIter (some r) clk seen c0,false)/\clk<=c0/\
 ((leftOf es seen).toList.map λe=>(e.key,e.val)).Perm (rest.map λp=>(I p.1,p.2))/\∀p,cur=some p->c0=clk/\∃(s0:Array Nat) (e:MapEntry),e∈es.toList/\seen=s0.push e.born/\e.key=I p.1/\e.val=p.2
class HasE (L:List aa) (r:Nat) (es:outParam (Array MapEntry)) (clk:outParam Nat) (M:outParam MM):Prop where
 out:∀w0 w,Sat w0 w L->MOk es clk M/\w.heap[r]? =some (.map es clk)
instance (priority:=high) HasE.head {r:Nat}{es:Array MapEntry}{clk:Nat}{M:MM}{L:List aa}:HasE (cz r es clk M::L) r es clk M:=⟨λw0 w h=>by
 obtain ⟨_,_,_,_,f,hf,_⟩:=h;have:=hf 0 _ rfl;exact ⟨this.1.1,this.2 r _ this.1.2⟩⟩
instance (priority:=low) HasE.tail {A:aa}{r:Nat}{es:Array MapEntry}{clk:Nat}{M:MM}{L:List aa}[h:HasE L r es clk M]:HasE (A::L) r es clk M:=⟨λw0 w hS=>h.out w0 w hS.tail⟩
class RemE (L:List aa) (r:Nat) (es:outParam (Array MapEntry)) (clk:outParam Nat) (M:outParam MM) (F:outParam (List aa)):Prop where
 out:∃i,L[i]? =some (cz r es clk M)/\F=L.eraseIdx i
instance (priority:=high) RemE.head {r:Nat}{es:Array MapEntry}{clk:Nat}{M:MM}{L:List aa}:RemE (cz r es clk M::L) r es clk M L:=⟨0,rfl,rfl⟩
instance (priority:=low) RemE.tail {A:aa}{r:Nat}{es:Array MapEntry}{clk:Nat}{M:MM}{L F:List aa}[h:RemE L r es clk M F]:RemE (A::L) r es clk M (A::F):=⟨let ⟨i,h1,h2⟩:=h.out;⟨i+1,by simpa using h1,by simp[h2]⟩⟩
class RemI (L:List aa) (b:Nat) (r:outParam Nat) (es:outParam (Array MapEntry)) (clk:outParam Nat) (rest:outParam MM) (cur:outParam (Option (Int×Value))) (F:outParam (List aa)):Prop where
 out:∃i,L[i]? =some (dx b r es clk rest cur)/\F=L.eraseIdx i
instance (priority:=high) RemI.head {b r:Nat}{es:Array MapEntry}{clk:Nat}{rest:MM}{cur:Option (Int×Value)}{L:List aa}:RemI (dx b r es clk rest cur::L) b r es clk rest cur L:=⟨0,rfl,rfl⟩
instance (priority:=low) RemI.tail {A:aa}{b r:Nat}{es:Array MapEntry}{clk:Nat}{rest:MM}{cur:Option (Int×Value)}{L F:List aa}[h:RemI L b r es clk rest cur F]:RemI (A::L) b r es clk rest cur (A::F):=⟨let ⟨i,h1,h2⟩:=h.out;⟨i+1,by simpa using h1,by simp[h2]⟩⟩
def Bv {w0 w:World}{b r clk:Nat}{es:Array MapEntry}{rest:MM}{cur:Option (Int×Value)}{F:List aa}(h:Sat w0 w (dx b r es clk rest cur::F)):∃(D:Array Nat) (c0:Nat),clk<=c0/\((leftOf es D).toList.map λe=>(e.key,e.val)).Perm (rest.map λp=>(I p.1,p.2))/\
  (∀p,cur=some p->c0=clk/\∃(O:Array Nat) (e:MapEntry),e∈es.toList/\D=O.push e.born/\e.key=I p.1/\e.val=p.2)/\Sat w0 w (pt b (.mapIter (some r) clk D c0)::F):=by
 have S:Sat w0 w (ll (λs:Array Nat×Nat=>λm=>m b=some (.mapIter (some r) clk s.1 s.2,false)/\clk<=s.2/\
  ((leftOf es s.1).toList.map λe=>(e.key,e.val)).Perm (rest.map λp=>(I p.1,p.2))/\∀p,cur=some p->s.2=clk/\∃(O:Array Nat) (e:MapEntry),e∈es.toList/\s.1=O.push e.born/\e.key=I p.1/\e.val=p.2)::F):=h.weak λm ⟨s,c,R⟩=>⟨(s,c),R⟩
 obtain ⟨⟨s,c⟩,h⟩:=S.ex;have J:clk<=c/\((leftOf es s).toList.map λe=>(e.key,e.val)).Perm (rest.map λp=>(I p.1,p.2))/\∀p,cur=some p->c=clk/\∃(O:Array Nat) (e:MapEntry),e∈es.toList/\s=O.push e.born/\e.key=I p.1/\e.val=p.2:=by
  obtain ⟨_,_,_,_,f,J,_⟩:=h;exact (J 0 _ rfl).1.2
 exact ⟨s,c,J.1,J.2.1,J.2.2,h.weak λm R=>R.1⟩
def vf {w0 w:World}{b r clk c0:Nat}{D:Array Nat}{es:Array MapEntry}{rest:MM}{cur:Option (Int×Value)}{F:List aa}(h:Sat w0 w (pt b (.mapIter (some r) clk D c0)::F))(J:clk<=c0)
 (O:((leftOf es D).toList.map λe=>(e.key,e.val)).Perm (rest.map λp=>(I p.1,p.2))) (R:∀p,cur=some p->c0=clk/\∃(V:Array Nat) (e:MapEntry),e∈es.toList/\D=V.push e.born/\e.key=I p.1/\e.val=p.2):
 Sat w0 w (dx b r es clk rest cur::F):=h.weak λm S=>⟨D,c0,S,J,O,R⟩
def Ii (es:Array MapEntry):leftOf es #[]=es:=by simp[leftOf]
def Bw:∀{l:List MapEntry} {e:MapEntry},e∈l->(l.map (·.born)).Nodup->l.Perm (e::l.filter λx=>!decide (x.born=e.born))
 | [],e,h,_=>by simp at h
 | a::l,e,h,D=>by
  simp only[Rv,Tg] at D;rcases RR.1 h with rfl | h
  ·rw[Tn (by simp)];refine List.Perm.cons _ (List.Perm.of_eq ?_)
   symm
   rw[Tt];intro x hx;have:x.born≠e.born:=λe'=>D.1 (SR.2 ⟨x,hx,e'⟩);simp[this]
  ·have J:a.born≠e.born:=λe'=>D.1 (SR.2 ⟨e,h,e'.symm⟩);rw[To (by simp[J])];exact ((Bw h D.2).cons a).trans (List.Perm.swap _ _ _)
def Ij (es:Array MapEntry)(D:Array Nat)(b:Nat):(leftOf es (D.push b)).toList=(leftOf es D).toList.filter λx=>!decide (x.born=b):=by
 simp only[leftOf,Tu,Tv];congr 1
 funext x
 simp only[Array.contains_push];cases h:D.contains x.born <;> simp[h,Bool.beq_eq_decide_eq]
section
variable {c:Cx}{g:Option (Nat×Bool)}{E:ap}{L L' F:List aa}{d:Option Tmp}{ty:TypeId}{pos:String}{af:Array Edge}{gu:Option (Nat×Bool)}{K:List KI}
variable {x y z:Operand}{t u e:TypeId}{k:IntKind}{v zv:Value}{r b n clk:Nat}{q:Int}{M rest:MM}{es:Array MapEntry}{cur:Option (Int×Value)}
def wY (r:Nat)[R:RemM L r M F](k:∀es clk,G c K E (cz r es clk M::F)):G c K E L:=λa w D h=>by
 obtain ⟨es,clk,hok,h⟩:=R.sat h;exact k es clk a w D (h.weak λm J=>⟨hok,J⟩)
def qT (r:Nat)[R:RemE L r es clk M F](k:G c K E (mp r M::F)):G c K E L:=λa w J O=>by
 obtain ⟨i,D,rfl⟩:=R.out;have h:=O.front D;exact k a w J (Sat.ex_mk (A:=λp:Array MapEntry×Nat=>λm=>MOk p.1 p.2 M/\m r=some (.map p.1 p.2,false)) (es,clk) h)
def fV (S:c.P.underlying t=some (.map u e))(hx:ev g E x=some (.map (some r)))[h:HasE L r es clk M]:
  OpL c g E L ⟨d, .range t x,ty,pos,af,gu⟩ λv L'=>∃b,v=ptr b 0/\L'=dx b r es clk M none::L:=
 .of_run λa w J O D=>by
  obtain ⟨hok,V⟩:=h.out _ _ D;refine ⟨ptr w.heap.size 0,_,_,?_,vf (D.alloc (.mapIter (some r) clk #[] clk)) (Ra _) (by rw[Ii];exact hok.perm) (λp R=>by cases R),_,rfl,rfl⟩;simp[execOp,J.ev O hx,Instr.range,underlying,program,getObj,newObj,Sem.run,Sem.run_bind,S,V]
def fW (hx:ev g E x=some (ptr b 0))[R:RemI L b r es clk rest cur F][h:HasE F r es clk M]:
  OpL c g E L ⟨d, .next x false,ty,pos,af,gu⟩ λv L'=>(rest=[]/\v= .tuple #[.bool false]/\L'=dx b r es clk [] none::F)\/
   ∃p V,rest.Perm (p::V)/\v= .tuple #[.bool true,I p.1,p.2]/\L'=dx b r es clk V (some p)::F:=
 .of_run λa w hE hg X=>by
  obtain ⟨i,h1,rfl⟩:=R.out;obtain ⟨D,c0,hc,hp,hcur,X⟩:=Bv (X.front h1);obtain ⟨hok,hw⟩:=h.out _ _ X.tail;have hr:=X.at_;rcases run_next_at (P:=c.P) w ty b r clk c0 D es clk hr hw hok.born hc with ⟨h0,S⟩ | ⟨J,Y,w1,hal,S⟩
  ·have h0':(leftOf es D).toList=[]:=by
    apply Tw;simpa using h0
   have hr0:rest=[]:=by
    have:=hp.length_eq;rw[h0'] at this;exact Tw (by simpa using this.symm)
   subst hr0;exact ⟨_,w,_,by simp[execOp,hE.ev hg hx,ptr,S],vf X hc hp (λp hp=>by cases hp), .inl ⟨rfl,rfl,rfl⟩⟩
  ·have hS1:Sat c.w0 w1 (pt b (.mapIter (some r) clk D c0)::L.eraseIdx i):=by
    rcases hal with rfl | rfl
    ·exact X
    ·exact X.drew _
   have hm:(J.key,J.val)∈rest.map λp=>(I p.1,p.2):=hp.mem_iff.1 (SR.2 ⟨J,Y,rfl⟩);obtain ⟨p,hpm,hpe⟩:=SR.1 hm;injection hpe with e1 e2;obtain ⟨s,t',hst⟩:=Tx hpm;have O:rest.Perm (p::(s++t')):=(by rw[hst];exact Ty);have hes:J∈es.toList:=by
    have:=Y;simp only[leftOf,Tu,Tz] at this;exact this.1
   have hnd:((leftOf es D).toList.map (·.born)).Nodup:=by
    simp only[leftOf,Tu];exact Rw (Tl _ Tm) hok.bnd
   have hl:=Bw Y hnd;have hrun':(Instr.next (.pointer (some ⟨b,0,none⟩)) false ty).run c.P w= .ok (.tuple #[.bool true,J.key,J.val]) (cL w1 b (.mapIter (some r) clk (D.push J.born) clk)):=S;refine ⟨.tuple #[.bool true,J.key,J.val],cL w1 b (.mapIter (some r) clk (D.push J.born) clk),_,by simp[execOp,hE.ev hg hx,ptr,hrun'],vf (rest:=s++t') (cur:=some p) (hS1.set rfl) (Ra _) ?_ ?_, .inr ⟨p,s++t',O,by rw[e1,e2],rfl⟩⟩
   ·rw[Ij];have h2:=((hl.map λe=>(e.key,e.val)).symm.trans (hp.trans (O.map λp=>(I p.1,p.2))));simp only[Rv,e1,e2] at h2;exact h2.cons_inv
   ·intro p' Z;injection Z with Z;subst Z;exact ⟨rfl,D,J,hes,rfl,e1.symm,e2.symm⟩
def fX {p:Int×Value}(hx:ev g E x=some (ptr b 0))[R:RemI L b r es clk rest (some p) F][h:HasE F r es clk M]:OpV c g E L ⟨d, .entry x,ty,pos,af,gu⟩ (.tuple #[I p.1,p.2]):= .mk λa w hE hg O=>by
 obtain ⟨i,h1,rfl⟩:=R.out;obtain ⟨V,c0,hc,hp,J,O⟩:=Bv (O.front h1);obtain ⟨hok,hw⟩:=h.out _ _ O.tail;obtain ⟨rfl,s0,Z,S,rfl,X,Y⟩:=J p rfl;have D:=run_entry_at (P:=c.P) w b r c0 s0 es c0 Z O.at_ hw S hok.bnd;rw[X,Y] at D;simp[execOp,hE.ev hg hx,ptr,D]
def Bx {α:Type}:∀{l:List α} {j:Nat} {e:α},l[j]? =some e->l.Perm (e::l.eraseIdx j)
 | [],j,e,h=>by simp at h
 | a::l,0,e,h=>by simp at h;subst h;exact .refl _
 | a::l,j+1,e,h=>((Bx (l:=l) (j:=j) (by simpa using h)).cons a).trans (List.Perm.swap _ _ _)
theorem MOk.del {j:Nat}{D:MapEntry}(h:MOk es clk M)(R:es.toList[j]? =some D)(h2:D.key=I q):MOk (es.eraseIdxIfInBounds j) clk (eV M q):=by
 have hj:j<es.toList.length:=(Re.1 R).1;have ej:es.toList[j]=D:=(Re.1 R).2;have X:(es.eraseIdxIfInBounds j).toList=es.toList.eraseIdx j:=by
  have:j<es.size:=(by simpa using hj);simp[Array.eraseIdxIfInBounds,this]
 have hp:es.toList.Perm (D::es.toList.eraseIdx j):=Bx R;have hk:(es.toList.map (·.key)).Perm ((M.map (·.1)).map I):=by
  have:=h.perm.map (·.1);simpa [RB,Function.comp_def] using this
 refine ⟨?_,vd M q h.nodup,λe he=>h.born e ?_,?_⟩
 ·rw[X];have h3:((D.key,D.val)::(es.toList.eraseIdx j).map λe=>(e.key,e.val)).Perm (M.map λp=>(I p.1,p.2)):=((hp.map λe:MapEntry=>(e.key,e.val)).symm).trans h.perm;obtain ⟨p,Y,Z,e2⟩:=h.key (R5 R);have S:p.1=q:=n0 (Z.symm.trans h2);obtain ⟨s,t',O⟩:=Tx Y;have J:=h.nodup;rw[O,RA,Rv] at J;rw[Tk] at J;obtain ⟨n1,n2,n3⟩:=J;rw[Tg] at n2;have hd:eV M q=s++t':=by
   unfold eV;rw[O,TA,Tn (by simp[S])];congr 1
   ·rw[Tt];intro a V;have:a.1≠p.1:=n3 a.1 (SR.2 ⟨a,V,rfl⟩) p.1 (by simp);simp[<-S,this]
   ·rw[Tt];intro a V;have:a.1≠p.1:=λe=>n2.1 (e ▸ SR.2 ⟨a,V,rfl⟩);simp[<-S,this]
  rw[hd];have h4:(M.map λp=>(I p.1,p.2)).Perm ((D.key,D.val)::(s++t').map λp=>(I p.1,p.2)):=by
   rw[O,Z,e2];exact (List.perm_middle.map λp:Int×Value=>(I p.1,p.2))
  exact (h3.trans h4).cons_inv
 ·rw[X] at he;exact List.mem_of_mem_eraseIdx he
 ·rw[X];exact Rw (Tl _ (Rx _ _)) h.bnd
def iz {ut:TypeId}(hu:c.P.underlying t=some (.map u e))(O:c.P.underlying u=some (.int .i64))(hx:ev g E x=some (.map (some r)))(hy:ev g E y=some (I q))[R:RemM L r M F]:
  OpL c g E L ⟨d, .call {callee:= .builtin .delete,args:=#[x,y],argTypes:=#[t,ut]},ty,pos,af,gu⟩ λv V=>v= .tuple #[]/\V=mp r (eV M q)::F:=
 .of_run λa w D J h=>by
  obtain ⟨es,clk,hok,h⟩:=R.sat h;have S:=h.at_;rcases hok.find .i64 q with ⟨j,en,X,Y,Z,h4⟩ | ⟨X,Y,Z⟩
  ·refine ⟨_,cL w r (.map (es.eraseIdxIfInBounds j) clk),_,?_,mD (h.set rfl) (hok.del X Y),rfl,rfl⟩;simp[execOp,resolve,invoke,builtin,Builtin.delete_,D.ev J hx,D.ev J hy,underlying,program,getObj,Sem.run,Sem.run_bind,hu,S,kJ _ O,kK O h4,si S]
  ·have hd:eV M q=M:=by
    unfold eV;rw[Tt];intro p hp;have:=lk_none.1 X p hp;simp[this]
   refine ⟨_,cL w r (.map es clk),_,?_,mD (h.set rfl) (hd.symm ▸ hok),rfl,rfl⟩;simp[execOp,resolve,invoke,builtin,Builtin.delete_,D.ev J hx,D.ev J hy,underlying,program,getObj,Sem.run,Sem.run_bind,hu,S,kJ _ O,kK O Z,si S]
end
end Go.Sl
namespace Go.Sl
section
variable {ρ:Type}
def iA (enc:ρ->Value)(l:List Nat)(B:Int->Option ρ):MM:=l.filterMap λk:Nat=>(B (k:Int)).map λx=>((k:Int),enc x)
def tb (enc:ρ->Value)(n:Nat)(B:Int->Option ρ):MM:=iA enc (List.range' 1 n) B
def qy (B:Int->Option ρ)(k:Int)(x:Option ρ):Int->Option ρ:=λq=>if q=k then x else B q
def aj (n:Nat)(B:Int->Option ρ):List Int:=((List.range' 1 n).filter λk:Nat=>(B (k:Int)).isSome).map λk:Nat=>(k:Int)
def wK (n:Nat)(B:Int->Option ρ):Option Nat:=(List.range' 1 n).find? λk:Nat=>(B (k:Int)).isNone
def bh (n:Nat)(B:Int->Option ρ):Prop:=∀q x,B q=some x->1<=q/\q<=n
def Ik (enc:ρ->Value)(l:List Nat)(B:Int->Option ρ):(iA enc l B).map (·.1)=(l.filter λk:Nat=>(B (k:Int)).isSome).map λk:Nat=>(k:Int):=by
 induction l with
 | nil=>rfl
 | cons k l D=>
  unfold iA at D ⊢;cases h:B (k:Int) with
  | none=>simp[h,D]
  | some x=>simp[h,D]
def kL (enc:ρ->Value)(n:Nat)(B:Int->Option ρ):(tb enc n B).map (·.1)=aj n B:=Ik enc _ B
def ids_nodup (n:Nat)(B:Int->Option ρ):(aj n B).Nodup:=by
 unfold aj;refine Tp _ (λa b (h:a≠b) e=>h (by omega)) (Rw Tm (TB (step:=1)))
def j2 (enc:ρ->Value)(n:Nat)(B:Int->Option ρ):((tb enc n B).map (·.1)).Nodup:=by rw[kL];exact ids_nodup n B
def eC (enc:ρ->Value)(n:Nat)(B:Int->Option ρ):(tb enc n B).length=(aj n B).length:=by rw[<-kL enc,TD]
def vg (n:Nat)(B:Int->Option ρ):(aj n B).Pairwise (· <·):=by
 unfold aj;refine Tp _ (λa b (h:a<b)=>by omega) (TE Tm (List.pairwise_lt_range' (s:=1) (n:=n) 1))
def mem_ids {n:Nat}{B:Int->Option ρ}{q:Int}:q∈aj n B ↔ (1<=q/\q<=n)/\(B q).isSome=true:=by
 unfold aj;constructor
 ·intro h;obtain ⟨k,D,rfl⟩:=SR.1 h;rw[Tz,TF] at D;exact ⟨by omega,D.2⟩
 ·rintro ⟨⟨O,R⟩,J⟩;refine SR.2 ⟨q.toNat,Tz.2 ⟨by rw[TF];omega,?_⟩,by omega⟩;rw[show ((q.toNat:Nat):Int)=q by omega];exact J
def wh (n:Nat)(B:Int->Option ρ):(aj n B).length<=n:=by
 unfold aj;rw[TD];exact Rh (TG _ _) (by simp)
def Bz (enc:ρ->Value)(B:Int->Option ρ)(q:Int):∀(l:List Nat),lk (iA enc l B) q=if 0<=q/\q.toNat∈l then (B q).map enc else none
 | []=>by simp[iA,lk]
 | k::l=>by
  have J:=Bz enc B q l;unfold iA at J ⊢;by_cases R:(k:Int)=q
  ·subst R;cases h:B (k:Int) with
   | none=>simp[h,J]
   | some x=>simp[h,lk]
  ·have S:q.toNat≠k\/¬0<=q:=(by omega);have e:(0<=q/\q.toNat∈k::l) ↔ (0<=q/\q.toNat∈l):=by
    constructor
    ·rintro ⟨O,D⟩;rcases RR.1 D with D | D
     ·omega
     ·exact ⟨O,D⟩
    ·rintro ⟨O,D⟩;exact ⟨O,Th _ D⟩
   simp only[e];cases h:B (k:Int) with
   | none=>simp[h,J]
   | some x=>simp[h,lk,R,J]
def kM (enc:ρ->Value)(n:Nat)(B:Int->Option ρ)(q:Int):lk (tb enc n B) q=if 1<=q/\q<=n then (B q).map enc else none:=by
 unfold tb;rw[Bz];have:(0<=q/\q.toNat∈List.range' 1 n) ↔ (1<=q/\q<=n):=(by rw[TF];omega);simp only[this]
def vh (enc:ρ->Value){n:Nat}{B:Int->Option ρ}(h:bh n B)(q:Int):lk (tb enc n B) q=(B q).map enc:=by
 rw[kM];split
 ·rfl
 ·rename_i D;cases e:B q with
  | none=>rfl
  | some x=>exact absurd (h q x e) D
def ja (enc:ρ->Value){n:Nat}{B:Int->Option ρ}{k:Int}{x:ρ}(D:1<=k/\k<=n):(dw (tb enc n B) k (enc x)).Perm (tb enc n (qy B k (some x))):=by
 refine vb (sg _ _ _ (j2 enc n B)) (j2 enc n _) λq=>?_;rw[vc,kM,kM];by_cases h:k=q
 ·subst h;simp[D,qy]
 ·simp[h,qy,Ne.symm h]
def Il (enc:ρ->Value){n:Nat}{B:Int->Option ρ}{k:Int}:(eV (tb enc n B) k).Perm (tb enc n (qy B k none)):=by
 refine vb (vd _ _ (j2 enc n B)) (j2 enc n _) λq=>?_;rw[ve,kM,kM];by_cases h:k=q
 ·subst h;simp[qy]
 ·simp[h,qy,Ne.symm h]
def ly (enc:ρ->Value)(n:Nat):tb enc n (λ_=>none)=[]:=by
 unfold tb iA
 induction List.range' 1 n with
 | nil=>rfl
 | cons k l h=>simp
def iB {n:Nat}{B:Int->Option ρ}{k:Int}{x:Option ρ}(h:bh n B)(D:x.isSome=true->1<=k/\k<=n):bh n (qy B k x):=λq y e=>by
 unfold qy at e;split at e
 ·rename_i J;subst J;exact D (by simp[e])
 ·exact h q y e
def n4 (n:Nat):bh n (λ_=>(none:Option ρ)):=λq x e=>by cases e
def full_iff {n:Nat}{B:Int->Option ρ}:(aj n B).length=n ↔ wK n B=none:=by
 unfold aj wK;rw[TD,<-TH,TI];have:=List.countP_eq_length (p:=λk:Nat=>(B (k:Int)).isSome) (l:=List.range' 1 n);rw[List.length_range'] at this;rw[this];constructor
 ·intro h x hx;have:=h x hx;cases e:B (x:Int) <;> simp[e] at this ⊢
 ·intro h x hx;have:=h x hx;cases e:B (x:Int) <;> simp[e] at this ⊢
def g9 {n k:Nat}{B:Int->Option ρ}(h:wK n B=some k):(1<=k/\k<=n)/\B k=none/\∀j:Nat,1<=j->j<k->(B j).isSome=true:=by
 unfold wK at h;rw[TJ] at h;obtain ⟨D,J,O⟩:=h;rw[TF] at J;refine ⟨by omega,by simpa using D,λj R S=>?_⟩;have:=O j R S;cases e:B (j:Int) <;> simp[e] at this ⊢
def BA {n k:Nat}{B:Int->Option ρ}(R:1<=k/\k<=n)(h:B k=none)(D:∀j:Nat,1<=j->j<k->(B j).isSome=true):wK n B=some k:=by
 unfold wK;rw[TJ];refine ⟨by simp[h],by rw[TF];omega,λj J O=>?_⟩;have:=D j J O;cases e:B (j:Int) <;> simp[e] at this ⊢
def BB {n:Nat}{B:Int->Option ρ}(h:(aj n B).length≠n):∃k,wK n B=some k:=by
 cases e:wK n B with
 | none=>exact absurd (full_iff.2 e) h
 | some k=>exact ⟨k,rfl⟩
def sj {n:Nat}{B:Int->Option ρ}{l:List Int}(h:l.Perm (aj n B)):l.mergeSort (λx y=>decide (x<=y))=aj n B:=by
 refine List.Perm.eq_of_pairwise (le:=λa b:Int=>a<=b) (λa b _ _ D J=>by omega) ?_ ?_ ((List.mergeSort_perm _ _).trans h)
 ·have:=List.pairwise_mergeSort (le:=λx y:Int=>decide (x<=y)) (λa b c D J=>by simp at*;omega) (λa b=>by simp;omega) l;exact this.imp λh=>by simpa using h
 ·exact (vg n B).imp λh=>by omega
def mE {enc:ρ->Value}{n:Nat}{B:Int->Option ρ}{p:Int×Value}(h:p∈tb enc n B):∃x,B p.1=some x/\p.2=enc x/\1<=p.1/\p.1<=n:=by
 obtain ⟨q,v⟩:=p;rw[<-sf (j2 enc n B),kM] at h;split at h
 ·rename_i D;cases e:B q with
  | none=>simp[e] at h
  | some x=>simp[e] at h;exact ⟨x,rfl,h.symm,D.1,D.2⟩
 ·cases h
end
end Go.Sl
namespace Go.Sl
section
variable {c:Cx}{g:Option (Nat×Bool)}{E:ap}{L:List aa}{d:Option Tmp}{ty:TypeId}{pos:String}{af:Array Edge}{gu:Option (Nat×Bool)}
variable {x y z:Operand}{t u e:TypeId}{k:IntKind}{v:Value}{s:Option Addr}{b o i j n sz cap off:Nat}
def sn {h:Array Field}{f:Field}{cs:Array Value}(vs:List Value)(S:c.P.underlying t=some (.struct h))(O:h[i]? =some f)(J:∀w,(isAgg f.type).run c.P w= .ok true w)(X:∀w,(sizeOf f.type).run c.P w= .ok sz w)(hx:ev g E x=some (.agg cs))(V:cs.extract f.offset (f.offset+sz)=vs.toArray):
  OpV c g E L ⟨d, .field t x i,ty,pos,af,gu⟩ (.agg vs.toArray):= .mk λa w D R Y=>by
 simp[execOp,D.ev R hx,Instr.field,underlying,program,Sem.run,S,O,asAgg,part,J,X,V]
end
def BC {ρ:Type}(enc:ρ->Value){n:Nat}{B:Int->Option ρ}{k:Int}{v:Value}:(eV (dw (tb enc n B) k v) k).Perm (tb enc n (qy B k none)):=by
 refine vb (vd _ _ (sg _ _ _ (j2 enc n B))) (j2 enc n _) λq=>?_;rw[ve,vc,kM,kM];by_cases h:k=q
 ·subst h;simp[qy]
 ·simp[h,qy,Ne.symm h]
def qs {cs:Array Value}{vs:List Value}(h:cs.size=vs.length):yY cs 0 vs=vs.toArray:=by
 apply RS;intro i;rw[jy cs 0 vs (by omega)];by_cases D:i<vs.length
 ·rw[RI (by omega)];simp
 ·rw[RJ (by omega),Rr (by omega),Rr (by simp;omega)]
def Im (l:List Value)(i:Nat)(v:Value):l.toArray.setIfInBounds i v=(l.set i v).toArray:=by rw[TK]
end Go.Sl
namespace Go.Sl
inductive PT where
 | nil
 | q (i:Nat) (t:PT)
 | l (i:Nat) (t:PT)
 | alt (s t:PT)
 | c (t:PT)
def PT.heads:PT->List Nat
 | .l i _=>[i]
 | .alt s t=>s.heads++t.heads
 | _=>[]
section
variable {P:Program}{ops:Array Oper}{Q:ay}
def PT.ok (ops:Array Oper):PT->Bool->Nat->Array Bool->Bool
 | .nil,top,n,listed=>top && Nat.beq n 0 && (Region.ready .any ops listed).isEmpty
 | .q i t,top,n,listed=>top && (match n with | 0=>false | m+1=>(Region.ready .any ops listed).contains i && Region.free .any ops listed i && t.ok ops true m (listed.setIfInBounds i true))
 | .l i t,top,n,listed=>(!top || Region.ready .any ops listed==[i]) && (match n with | 0=>false | m+1=>t.ok ops true m (listed.setIfInBounds i true))
 | .alt s t,top,n,listed=>(!top || (!(Region.ready .any ops listed).isEmpty && (Region.ready .any ops listed).all λj=>(s.heads++t.heads).contains j)) && s.ok ops false n listed && t.ok ops false n listed
 | .c t,top,n,listed=>top && t.ok ops true n listed
def jc (P:Program)(ops:Array Oper)(Q:ay):PT->(World->Prop)->Act->World->Prop
 | .nil,C,a,w=>C w/\Q .normal a w
 | .q i t,C,a,w=>C w/\∃o v,ops[i]? =some o/\YieldsC P ops C o v a/\jc P ops Q t C (a.put o.dst v) w
 | .l i t,C,a,w=>C w/\wpOp P ops Q i (jc P ops Q t C) a w
 | .alt s t,C,a,w=>jc P ops Q s C a w/\jc P ops Q t C a w
 | .c t,C,a,w=>∃C':World->Prop,(∀w,C' w->C w)/\jc P ops Q t C' a w
def BD {C J:World->Prop}(h:∀w,J w->C w):∀(fuel:Nat) (D:Array Bool) (a:Act) (w:World),wpAnyC P ops J Q fuel D a w->wpAnyC P ops C Q fuel D a w
 | 0,_,_,_,H=>⟨h _ H.1,H.2⟩
 | fuel+1,_,_,_,H=>⟨h _ H.1,H.2.1,λi O=>wpOp_mono (λa w=>BD h fuel _ a w) (H.2.2 i O)⟩
def lz (X:Region.noSelect ops=true)(V:∀c a d v w,Q (.panic c) (a.put d v) w->Q (.panic c) a w):∀(t:PT),
  (∀(C:World->Prop) n D a w,t.ok ops true n D=true->jc P ops Q t C a w->wpAnyC P ops C Q n D a w)/\
  (∀(C:World->Prop) n D a w i,t.ok ops false n D=true->jc P ops Q t C a w->i∈t.heads->∃m,n=m+1/\C w/\wpOp P ops Q i (wpAnyC P ops C Q m (D.setIfInBounds i true)) a w)
 | .nil=>⟨λC n D a w J h=>by
   simp only[PT.ok,Ru,TM] at J;have:=Rm J.1;subst this;exact ⟨h.1,by simpa using J.2,h.2⟩,λC n D a w i J=>by simp[PT.ok] at J⟩
 | .q i t=>⟨λC n D a w J h=>by
   cases n with
   | zero=>simp[PT.ok] at J
   | succ m=>
    simp only[PT.ok,Ru,TM] at J;obtain ⟨⟨Y,hf⟩,hp'⟩:=J;obtain ⟨hw,o,v,O,hy,h⟩:=h;exact AN O (Region.noSelect_spec X) (λc a w=>V c a _ _ w) m D a w (Region.free_spec O hf) (by simpa using Y) hy hw
     ((lz X V t).1 C m _ _ _ hp' h),λC n D a w i J=>by simp[PT.ok] at J⟩
 | .l i t=>⟨λC n D a w J h=>by
   cases n with
   | zero=>simp[PT.ok] at J
   | succ m=>
    simp only[PT.ok,Ru,Bool.not_true,TN,beq_iff_eq] at J;refine ⟨h.1,λZ=>(by rw[J.1] at Z;cases Z),λj R=>?_⟩;rw[J.1] at R;have:j=i:=(by simpa using R);subst this;exact wpOp_mono (λa w=>(lz X V t).1 C m _ a w J.2) h.2,
   λC n D a w j J h R=>by
    cases n with
    | zero=>simp[PT.ok] at J
    | succ m=>
     simp only[PT.ok,Ru,Bool.not_false,Bool.true_or,true_and] at J;have:j=i:=(by simpa [PT.heads] using R);subst this;exact ⟨m,rfl,h.1,wpOp_mono (λa w=>(lz X V t).1 C m _ a w J) h.2⟩⟩
 | .alt s t=>by
   have h2:∀(C:World->Prop) n D a w i,s.ok ops false n D=true->t.ok ops false n D=true->jc P ops Q (.alt s t) C a w->i∈s.heads++t.heads->∃m,n=m+1/\C w/\wpOp P ops Q i (wpAnyC P ops C Q m (D.setIfInBounds i true)) a w:=by
    intro C n D a w i h1 h2 h O;rcases Sc.1 O with O | O
    ·exact (lz X V s).2 C n D a w i h1 h.1 O
    ·exact (lz X V t).2 C n D a w i h2 h.2 O
   refine ⟨λC n D a w J h=>?_,λC n D a w i J h O=>?_⟩
   ·simp only[PT.ok,Ru,Bool.not_true,TN] at J;obtain ⟨⟨⟨hne,S⟩,hs1⟩,ht1⟩:=J;cases Y:Region.ready .any ops D with
    | nil=>rw[Y] at hne;simp at hne
    | cons i0 rest=>
     rw[Y] at S;have hin:∀j∈i0::rest,j∈s.heads++t.heads:=λj R=>by
      have:=SQ.1 S j R;simpa using this
     obtain ⟨m,rfl,hC,_⟩:=h2 C n D a w i0 hs1 ht1 h (hin i0 (by simp));refine ⟨hC,λZ=>(by rw[Y] at Z;cases Z),λj R=>?_⟩;rw[Y] at R;obtain ⟨m',he,_,hw⟩:=h2 C (m+1) D a w j hs1 ht1 h (hin j R);have:m'=m:=(by omega);subst this;exact hw
   ·simp only[PT.ok,Ru,Bool.not_false,Bool.true_or,true_and] at J;exact h2 C n D a w i J.1 J.2 h (by simpa [PT.heads] using O)
 | .c t=>⟨λC n D a w J h=>by
   simp only[PT.ok,TM] at J;obtain ⟨C',hC,h⟩:=h;exact BD hC _ _ _ _ ((lz X V t).1 C' n D a w J h),λC n D a w i J=>by simp[PT.ok] at J⟩
def Io {C:World->Prop}{id:Nat}{a:Act}{w:World}{t:PT}(J:P.follows .mixedOrders=true)(R:Region.noSelect ops=true)
  (D:∀c a d v w,Q (.panic c) (a.put d v) w->Q (.panic c) a w) (O:t.ok ops true ops.size (Array.replicate ops.size false)=true)
  (h:jc P ops Q t C a {w with drawn:=w.drawn+1}):(Code.region id ops true).wp P Q a w:=
 wp_region_any J (rG _ _ _ _ ((lz R D t).1 C _ _ a _ O h))
end
def KT (c:Cx)(all:List Oper)(Lf:List aa)(t:PT)(K:List KI):List KI:= .fin (λa w=>jc c.P all.toArray (kq c.P c.Q K) t (λw=>Sat c.w0 w Lf) a w)::K
section
variable {c:Cx}{E:ap}{L Lf Lf':List aa}{d:Nat}{ty:TypeId}{pos:String}{af:Array Edge}{K:List KI}{all:List Oper}{op:Op}{v:Value}{N:Value->List aa->Prop}{t s:PT}
def mF {id:Nat}{l:List Oper}{Lf:List aa}(t:PT)(O:c.P.follows .mixedOrders=true)(V:Region.noSelect l.toArray=true)(R:t.ok l.toArray true l.length (Array.replicate l.length false)=true)
  (h:G c (KT c l Lf t K) E L):G c (.code (.region id l.toArray true)::K) E L:=λa w D J=>
 Io (t:=t) O V (λX a d v w S=>absurd S i7) (by simpa using R) (h a _ D (J.drew _))
def eE [J:Sub L Lf](h:G c K E L):G c (KT c all Lf .nil K) E L:=λa w O D=>⟨J.sat D,h a w O D⟩
def ar {i:Nat}(S:all[i]? =some ⟨some d,op,ty,pos,af,none⟩)[R:Sub L Lf](h:OpV c none E Lf ⟨some d,op,ty,pos,af,none⟩ v)(hd:bf c.n d E=true)
  (k:G c (KT c all Lf t K) ((d,none,v)::E) L):G c (KT c all Lf (.q i t) K) E L:=λa w J O=>
 ⟨R.sat O,_,v,by simpa using S, .inl ⟨by simp[Region.wanted],λw' D=> .inl (h.out a w' J (yM a) D)⟩,k _ w (J.put1 hd) O⟩
def be {i:Nat}(V:all[i]? =some ⟨some d,op,ty,pos,af,none⟩)[R:Sub L Lf](h:OpL c none E L ⟨some d,op,ty,pos,af,none⟩ N)(hd:bf c.n d E=true)
  (k:∀v L',N v L'->G c (KT c all Lf t K) ((d,none,v)::E) L'):G c (KT c all Lf (.l i t) K) E L:=λa w J O=>by
 refine ⟨R.sat O,?_⟩;unfold wpOp;simp only[RK,V];rw[RI (by simp[Region.wanted])];exact .inl (h.out a w J (yM a) O _ _ λv w' L' D S=>k v L' S _ w' (J.put1 hd) D)
def lA {i:Nat}(V:all[i]? =some ⟨none,op,ty,pos,af,none⟩)[R:Sub L Lf](h:OpL c none E L ⟨none,op,ty,pos,af,none⟩ N)
  (k:∀v L',N v L'->G c (KT c all Lf t K) E L'):G c (KT c all Lf (.l i t) K) E L:=λa w J O=>by
 refine ⟨R.sat O,?_⟩;unfold wpOp;simp only[RK,V];rw[RI (by simp[Region.wanted])];exact .inl (h.out a w J (yM a) O _ _ λv w' L' D S=>k v L' S _ w' J D)
def gh (J:G c (KT c all Lf s K) E L)(O:G c (KT c all Lf t K) E L):G c (KT c all Lf (.alt s t) K) E L:=λa w h D=>⟨J a w h D,O a w h D⟩
def fo (Lf':List aa)[D:Sub Lf' Lf](h:G c (KT c all Lf' t K) E L):G c (KT c all Lf (.c t) K) E L:=λa w J O=>⟨λw=>Sat c.w0 w Lf',λw R=>D.sat R,h a w J O⟩
end
end Go.Sl
namespace Go.Sl
section
variable {c:Cx}{g:Option (Nat×Bool)}{E:ap}{L L':List aa}{d:Option Tmp}{ty:TypeId}{pos:String}{af:Array Edge}{gu:Option (Nat×Bool)}{K:List KI}
variable {x y z:Operand}{t u e:TypeId}{k:IntKind}{v v1 v2:Value}{s:Option Addr}{b o i j n sz cap off:Nat}
def vi (m q r:Nat)(hx:ev g E x=some (I (m:Int)))(X:ev g E y=some (I ((2 ^ q*r:Nat):Int)))(V:m<2 ^ q)(Z:m+2 ^ q*r<9223372036854775808):OpV c g E L ⟨d, .binOp .or t x y u,ty,pos,af,gu⟩ (I ((m+2 ^ q*r:Nat):Int)):= .mk λa w D J Y=>by
 have S:IntKind.i64.wrap (((BitVec.ofInt IntKind.i64.bits (m:Int) ||| BitVec.ofInt IntKind.i64.bits ((2 ^ q*r:Nat):Int)).toNat:Nat):Int)=((m+2 ^ q*r:Nat):Int):=by
  have O:(BitVec.ofInt IntKind.i64.bits (m:Int)).toNat=m:=by
   show (BitVec.ofInt 64 (m:Int)).toNat=m;rw[BitVec.toNat_ofInt];omega
  have R:(BitVec.ofInt IntKind.i64.bits ((2 ^ q*r:Nat):Int)).toNat=2 ^ q*r:=by
   show (BitVec.ofInt 64 _).toNat=_;rw[BitVec.toNat_ofInt];omega
  rw[BitVec.toNat_or,O,R,Nat.or_comm,<-Nat.two_pow_add_eq_or_of_lt V,Nat.add_comm];show IntKind.wrap .i64 _=_;exact ao (by omega)
 have h:(Op.intBits .or .i64 (m:Int) ((2 ^ q*r:Nat):Int)).run c.P w= .ok (I ((m+2 ^ q*r:Nat):Int)) w:=by
  show (Sem.pure (Value.int .i64 _)).run c.P w=_;rw[S];rfl
 simp only[execOp,D.ev J hx,D.ev J X,eqGuard,binOp];generalize ((2 ^ q*r:Nat):Int)=A at*;generalize ((m+2 ^ q*r:Nat):Int)=B at*;simp[h]
def Ip (p:List UInt8):(Array.mk p).map (λb=>Value.int .u8 b.toNat)=(qq p).flatten.toArray:=by
 apply TO;simp[rX,Function.comp_def]
def Iq {P:Program}{w:World}{a:Addr}:∃w',(markStringish a).run P w= .ok () w'/\w'.os=w.os/\w'.tape=w.tape/\w'.output=w.output/\w'.heap.size=w.heap.size/\(∀c,c≠a.block->w'.heap[c]? =w.heap[c]?)/\
  ∀cs T f,w.heap[a.block]? =some (.cells cs T f)->∃O,w'.heap[a.block]? =some (.cells cs T O):=by
 unfold markStringish;cases D:w.shape? a.block with
 | none=>
  refine ⟨w,by simp[D],rfl,rfl,rfl,rfl,λ_ _=>rfl,λcs T f h=>⟨f,h⟩⟩
 | some J=>
  obtain ⟨e,n⟩:=J;refine ⟨w.freeze {block:=a.block,off:=n} 1,by simp[D],?_⟩;unfold World.freeze;rw[RJ (by decide)];refine ⟨rfl,rfl,rfl,by simp,λc R=>?_,λcs T f h=>?_⟩
  ·simp only[RT];rw[RJ (by omega)]
  ·obtain ⟨V,S⟩:=f;refine ⟨_,by simp only[RT];rw[RI trivial,h];rfl⟩
def Ir {p:List UInt8}(hu:c.P.underlying t=some .string)(hu2:c.P.underlying u=some (.slice e))(he:c.P.underlying e=some (.int .u8))(hx:ev g E x=some (ac p)):
  OpL c g E L ⟨d, .convert t u x,ty,pos,af,gu⟩ λv L'=>∃b cap,v=sl (some ⟨b,0,none⟩) p.length cap/\p.length<=cap/\L'=roL 1 (some ⟨b,0,none⟩) (qq p)::L:=
 .of_run λa w hE hg hS=>by
  obtain ⟨cap,hcap⟩:∃q,(Question.appendCap p.length 0 e).cut (w.tape w.drawn (.appendCap p.length 0 e))=q:=⟨_,rfl⟩;have hle:p.length<=cap:=(by rw[<-hcap];simp[Question.cut]);obtain ⟨w1,hw1⟩:∃w1,w.drew.alloc (.cells ((qq p).flatten.toArray++Array.replicate (cap - p.length) (By 0)) e (0,0))=w1:=⟨_,rfl⟩;have hS1:Sat c.w0 w1 (pt w.heap.size (.cells ((qq p).flatten.toArray++Array.replicate (cap - p.length) (By 0)) e (0,0))::L):=(by rw[<-hw1];exact (hS.drew (w.drawn+1)).alloc _);obtain ⟨w2,hm,m1,m2,m3,m4,m5,m6⟩:=Iq (P:=c.P) (w:=w1) (a:=⟨w.heap.size,0,none⟩);obtain ⟨f',hf'⟩:=m6 _ _ _ hS1.at_;refine ⟨sl (some ⟨w.heap.size,0,none⟩) p.length cap,w2,_,?_,?_,w.heap.size,cap,rfl,hle,rfl⟩
  ·have hsz:ByteArray.size ⟨⟨p⟩⟩=p.length:=rfl;have hrun:(Conv.stringToBytes e ⟨⟨p⟩⟩).run c.P w= .ok (sl (some ⟨w.heap.size,0,none⟩) p.length cap) w2:=by
    unfold Conv.stringToBytes;rw[hsz];simp only[Sem.run_bind,choose,Sem.run,Result.andThen_ok,Question.forced];rw[hcap,Ip];simp only[newRow,newObj,Sem.run_bind,Sem.run_map,Sem.run,Result.andThen_ok];change ((markStringish ⟨w.heap.size,0,none⟩).run c.P (w.drew.alloc (.cells ((qq p).flatten.toArray++Array.replicate (cap - p.length) (By 0)) e (0,0)))).andThen (λ_ w'=> .ok (sl (some ⟨w.heap.size,0,none⟩) p.length cap) w')=_;rw[hw1,hm]
    rfl
   simp only[execOp,hE.ev hg hx,convert];simp[underlying,program,Sem.run,hu,hu2,he,hrun]
  ·have h3:=hS1.head (w':=w2) (L1:=[roL 1 (some ⟨w.heap.size,0,none⟩) (qq p)]) m1 m2 m3 (by omega) (λm hA hf=>by
    refine ⟨λ_=>Res.one w.heap.size (.cells ((qq p).flatten.toArray++Array.replicate (cap - p.length) (By 0)) e f',true),OkL.one (.inr ⟨w.heap.size,0,_,rfl,Res.one_self,?_⟩) λc' x hx=>?_,λn hn hdj=>⟨λc' x hx=>?_,λi _ c' x y hx hy=>?_⟩⟩
    ·intro j row hj f v hf';have hr:∀r∈qq p,r.length=1:=(by intro r hr;simp[qq] at hr;obtain ⟨_,_,rfl⟩:=hr;rfl);have hR:Rows (.cells ((qq p).flatten.toArray++Array.replicate (cap - p.length) (By 0)) e (0,0)) 0 1 (qq p):=Rows.of_flat (by decide) hr λk v hk=>by
      have hlt:=(Re.1 hk).1;rw[Sa,RL (by simpa using hlt)];simpa using hk
     exact hR j row hj f v hf'
    ·obtain ⟨rfl,rfl⟩:=Res.one_eq hx;exact hf'
    ·have hne:c'≠w.heap.size:=by
      rintro rfl;have:=(hdj _ x _ hx hA).2;cases this
     rw[m5 c' hne];exact hn c' x hx
    ·obtain ⟨rfl,rfl⟩:=Res.one_eq hx;have:=(hdj _ y _ hy hA).2;cases this)
   exact h3
def BE {P:Program}{w:World}(p:List UInt8):(Builtin.firstCells 1 p.length (ac p)).run P w= .ok (qq p).flatten.toArray w:=by
 have:=Lib.run_firstCells_string (P:=P) w 1 ⟨⟨p⟩⟩;rw[show (ByteArray.mk ⟨p⟩).size=p.length from rfl] at this;rw[this];congr 1;apply TO;simp[Lib.strCells,rX,Function.comp_def]
def BF {P:Program}{w:World}(p:List UInt8):(Builtin.lenOf (ac p)).run P w= .ok p.length w:=by simp[Builtin.lenOf,Sem.run_pure];rfl
def BG {P:Program}{w w':World}{base:Option Addr}{p:List UInt8}(S:P.underlying t=some (.slice e))(D:P.underlying u=some .string)(V:∀w,(sizeOf e).run P w= .ok 1 w)(h:n+p.length<=cap)
  (J:(match base with | some a=>storeCells (a.add (n*1)) (qq p).flatten | none=>(pure ():Sem Unit)).run P w= .ok () w'):(Builtin.append_ #[t,u] ty #[.slice base n cap,ac p]).run P w= .ok (.slice base (n+p.length) cap) w':=by
 have O:=BE (P:=P) (w:=w) p;have R:=BF (P:=P) (w:=w) p;unfold Builtin.append_;cases base with
 | none=>
  have e:w=w':=(by injection J);subst e;simp[underlying,program,Sem.run,S,D,V,R,O,h]
 | some a=>simp only[TP] at J;simp[underlying,program,Sem.run,S,D,V,R,O,h,J]
def Is {P:Program}{w:World}{base:Option Addr}{zv:Value}{p:List UInt8}{old:Array Value}{h:TypeInfo}(hu:P.underlying t=some (.slice e))(S:P.underlying u=some .string)(hz:∀w,(sizeOf e).run P w= .ok 1 w)(V:∀w,(zeroValue e).run P w= .ok zv w)(R:∀w,(typeInfo e).run P w= .ok h w)
  (ho:(Builtin.firstCells 1 n (.slice base n cap)).run P w.drew= .ok old w.drew) (O:cap<n+p.length) (X:n+p.length<=1073741824/\0<h.bytes/\h.bytes<=4096):
  ∃D,n+p.length<=D/\(Builtin.append_ #[t,u] ty #[.slice base n cap,ac p]).run P w= .ok (.slice (some ⟨w.heap.size,0,none⟩) (n+p.length) D) (w.drew.alloc (.cells (old++(qq p).flatten.toArray++Builtin.zeroCells zv.cells (D - (n+p.length))) e (0,0))):=by
 have Y:=BE (P:=P) (w:=w.drew) p;have Z:=BF (P:=P) (w:=w) p;have c1:¬n+p.length<=cap:=(by omega);have c3:¬(Builtin.nextslicecap (n+p.length) cap*h.bytes > 2 ^ 48):=by
  have h1:=uO (n+p.length) cap O;have h2:Builtin.nextslicecap (n+p.length) cap*h.bytes<=(2*1073741824+192)*4096:=R8 (by omega) X.2.2;omega
 have J:=λ(w:World) (k:Nat)=>rN (P:=P) (w:=w) k;refine ⟨(Question.appendCap (n+p.length) cap e).cut (w.tape w.drawn (.appendCap (n+p.length) cap e)),by simp[Question.cut],?_⟩;have e0:h.bytes≠0:=(by omega);unfold Builtin.append_;simp[underlying,program,Sem.run,hu,S,hz,Z,c1,R,choose,Question.forced];rw[RJ (by omega),RJ (by simpa using c3)];simp[J,Y,ho,V,newRow,newObj,Sem.run,Question.cut]
def jd:∀(p:List UInt8),∀r∈qq p,r.length=1:=λp r h=>by simp[qq] at h;obtain ⟨_,_,rfl⟩:=h;rfl
def It (p q:List UInt8):qq (p++q)=qq p++qq q:=by simp[qq]
def Iu {zv:Value}{S:TypeInfo}{T:Nat}{l p:List UInt8}{F:List aa}(hu:c.P.underlying t=some (.slice T))(Y:c.P.underlying u=some .string)(hz:∀w,(sizeOf T).run c.P w= .ok 1 w)(hzv:∀w,(zeroValue T).run c.P w= .ok zv w)(hzs:zv.cells.size=1)(hti:∀w,(typeInfo T).run c.P w= .ok S w)
  (hx:ev g E x=some (sl s n cap)) (hy:ev g E y=some (ac p)) [R:OwR L s T 1 cap (qq l) F] (hn:l.length=n) (hb:n+p.length<=1073741824/\0<S.bytes/\S.bytes<=4096):
  OpL c g E L ⟨d, .call {callee:= .builtin .append,args:=#[x,y],argTypes:=#[t,u]},ty,pos,af,gu⟩ λv L'=>∃s' X,v=sl s' (l++p).length X/\(p≠ []->s'≠none)/\L'=ai T 1 s' X (qq (l++p))::F:=
 .of_run λa w hE hg hS=>by
  subst hn;rw[It,Sx];have V:=R.sat hS;have fl1:ones (qq p).flatten=true:=jw λv hv=>by
   rw[rX] at hv;simp at hv;obtain ⟨_,_,rfl⟩:=hv
   rfl
  have ex:=λw' v h=>rO (d:=d) (ty:=ty) (pos:=pos) (af:=af) (gu:=gu) (t:=t) (u:=u) (r:= .ok v w') (P:=c.P) (w:=w) (hE.ev hg hx) (hE.ev hg hy) h;by_cases D:l.length+p.length<=cap
  ·rcases wa V with ⟨rfl,hl0,rfl,hF⟩ | ⟨b,cs,rfl,a1,a2,a3,a4,hP⟩
   ·have hl:l.length=0:=(by omega);have hp0:p=[]:=RP.1 (by omega);subst hp0;refine ⟨sl none (l.length+0) 0,w,_,ex w _ ?_,V,none,0,rfl,λh=>absurd rfl h,by simp[qq]⟩;exact BG (base:=none) hu Y hz D rfl
   ·obtain ⟨hle,O⟩:=uQ (T:=T) (news:=qq p) (by decide) a1 (by rw[i8,i8];exact D) a3 (jd p) a4;rw[i8] at hle O a2;have hst:=yQ (P:=c.P) b (l.length*1) T (qq p).flatten w cs 0 hP.at_ (by omega) fl1;refine ⟨sl (some ⟨b,0,none⟩) (l.length+p.length) cap,cL w b (.cells (yY cs (l.length*1) (qq p).flatten) T (0,0)),_,ex _ _ ?_,?_,some ⟨b,0,none⟩,cap,rfl,(λ_ h=>by cases h),rfl⟩
    ·exact BG (base:=some ⟨b,0,none⟩) hu Y hz D (by simpa [ez] using hst)
    ·refine fK (hP.set (o':= .cells (yY cs (l.length*1) (qq p).flatten) T (0,0)) rR) (by rw[jx,a1]) (by simpa [i8] using D) ?_ O;intro r hr;rcases Sc.1 hr with h | h
     ·exact jd l r h
     ·exact jd p r h
  ·have Z:qq l=[]\/∃b off o,s=some ⟨b,off,none⟩/\w.heap[b]? =some o/\Rows o off 1 (qq l):=by
    rcases wa V with ⟨rfl,h0,rfl,hF⟩ | ⟨b,cs,rfl,a1,a2,a3,a4,hP⟩
    ·exact .inl h0
    ·exact .inr ⟨b,0,_,rfl,hP.at_,a4⟩
   have hfo:(Builtin.firstCells 1 l.length (sl s l.length cap)).run c.P w.drew= .ok (qq l).flatten.toArray w.drew:=nI (by decide) (jd l) (i8 l) Z;obtain ⟨J,hc,hrun⟩:=Is (ty:=ty) (t:=t) (u:=u) (cap:=cap) (n:=l.length) (p:=p) hu Y hz hzv hti hfo (by omega) hb;refine ⟨_,_,_,ex _ _ hrun,?_,some ⟨w.heap.size,0,none⟩,J,rfl,(λ_ h=>by cases h),rfl⟩;have hS2:Sat c.w0 (w.drew.alloc (.cells ((qq l).flatten.toArray++(qq p).flatten.toArray++Builtin.zeroCells zv.cells (J - (l.length+p.length))) T (0,0))) _:=(V.tail.drew (w.drawn+1)).alloc _;refine fK hS2 ?_ (by simpa [i8] using hc) ?_ (uR (by decide) (jd l) (jd p))
   ·simp only[Se,RN,wi _ (jd l),wi _ (jd p),rP,hzs,i8];omega
   ·intro r hr;rcases Sc.1 hr with h | h
    ·exact jd l r h
    ·exact jd p r h
def n5 {T:Nat}{l:List UInt8}{F:List aa}(hx:ev g E x=some (sl s n cap))[R:OwR L s T 1 cap (qq l) F](S:l≠ []\/s=none):
  OpL c g E L ⟨d, .call {callee:= .builtin .unsafeSliceData,args:=#[x],argTypes:=#[t]},ty,pos,af,gu⟩ λv L'=>v= .pointer s/\L'=L:=
 .of_run λa w V X J=>by
  refine ⟨.pointer s,w,L,?_,J,rfl,rfl⟩;have D:(Builtin.unsafeSliceData_ #[t] ty #[sl s n cap]).run c.P w= .ok (.pointer s) w:=by
   cases s with
   | none=>rfl
   | some O=>
    refine Lib.run_unsafeSliceData_row w _ _ O n cap ?_;rcases wa (R.sat J) with ⟨h,_⟩ | ⟨b,cs,_,Y,a2,_⟩
    ·cases h
    ·rcases S with h | h
     ·rw[i8] at a2;have:l.length≠0:=λe=>h (RP.1 e);omega
     ·cases h
  simp[execOp,resolve,invoke,builtin,V.ev X hx,D]
def Iv {T:Nat}{l:List UInt8}{F:List aa}{it:TypeId}(hp:c.P.underlying t=some (.pointer T))(hc:c.P.cellsOf T=1)(hx:ev g E x=some (.pointer s))(hy:ev g E y=some (I (n:Int)))[R:OwR L s T 1 cap (qq l) F](hn:l.length=n)(h0:l≠ []\/s=none)(h63:l.length<=9223372036854775807):
  OpL c g E L ⟨d, .call {callee:= .builtin .unsafeString,args:=#[x,y],argTypes:=#[t,it]},ty,pos,af,gu⟩ λv L'=>v=ac l/\L'=F:=
 .of_run λa w hE hg hS=>by
  subst hn;have hS1:=R.sat hS;have ex:=λw' v (h:(Builtin.unsafeString_ #[t,it] ty #[.pointer s,I (l.length:Int)]).run c.P w= .ok v w')=>show (execOp a.eval ⟨d, .call {callee:= .builtin .unsafeString,args:=#[x,y],argTypes:=#[t,it]},ty,pos,af,gu⟩).run c.P w= .ok (.value v) w' by
   simp[execOp,resolve,invoke,builtin,hE.ev hg hx,hE.ev hg hy,h]
  rcases wa hS1 with ⟨rfl,hl0,rfl,hF⟩ | ⟨b,cs,rfl,a1,a2,a3,a4,hP⟩
  ·have:l=[]:=(by simpa [qq] using hl0);subst this;exact ⟨ac [],w,F,ex w _ (Lib.run_unsafeString_none w t it ty none),hF,rfl,rfl⟩
  ·have hne:l≠ []:=(by rcases h0 with h | h;exact h;cases h);have hh:=hP.at_;have hsh:w.shape? b=some (T,cs.size):=(by unfold World.shape?;rw[hh]);have hcell:∀j x,l[j]? =some x->w.cell? ((⟨b,0,none⟩:Addr).add j)=some (.int .u8 x.toNat):=λj x hj=>by
    have:=a4 j [By x.toNat] (by simp[qq,hj]) 0 _ rfl;rw[ez];exact ge hh (by simpa using this)
   have hrun:=Lib.run_unsafeString_row (P:=c.P) w t it ty T hp hc b cs.size hsh l hne (by rw[a1];rw[i8] at a2;omega) h63 hcell;refine ⟨ac l,w.freeze ⟨b,0,none⟩ l.length,F,ex _ _ hrun,?_,rfl,rfl⟩;have hlt:l.length≠0:=λe=>hne (RP.1 e);have h3:=hP.head (w':=w.freeze ⟨b,0,none⟩ l.length) (L1:=[]) (by unfold World.freeze;rw[RJ hlt]) (by unfold World.freeze;rw[RJ hlt]) (by unfold World.freeze;rw[RJ hlt]) (by unfold World.freeze;rw[RJ hlt];simp) (λm hA hf=>by
    refine ⟨λ_=>m,⟨λi A h=>by simp at h,λi j h=>by simp at h⟩,λn hn hdj=>⟨λc' x hx=>?_,λi h=>by simp at h⟩⟩;have hne':b≠c':=by
     rintro rfl;have:=(hdj _ x _ hx hA).2;cases this
    have:=hn c' x hx;unfold World.freeze;rw[RJ hlt];simp only[RT];rw[RJ hne'];exact this)
   exact h3
def Iw {cs:Array Value}{T:TypeId}{f:Nat×Nat}(S:c.P.underlying t=some (.pointer e))(D:c.P.underlying u=some .unsafePointer)(hz:∀w,(sizeOf e).run c.P w= .ok sz w)(h0:0<sz)(hx:ev g E x=some (ptr b 0))[hh:Has L b (.cells cs T f)](hs:0<cs.size):
  OpV c g E L ⟨d, .convert t u x,ty,pos,af,gu⟩ (ptr b 0):= .mk λa w X Z Y=>by
 have V:=hh.out _ _ Y;have O:w.shape? b=some (T,cs.size):=(by unfold World.shape?;rw[V]);have R:sz≠0:=(by omega);have J:¬cs.size=0:=(by omega);have h:(Conv.unsafePointer t u (ptr b 0)).run c.P w= .ok (ptr b 0) w:=by
  unfold Conv.unsafePointer;simp[underlying,program,Sem.run,S,D,Conv.seenAt,viewAt,cellsIn,O,hz,R,J]
 simp[execOp,X.ev Z hx,convert,underlying,program,Sem.run,S,D,h]
def Ix {P:Program}{e:TypeId}{h:Nat}(J:P.cellsOf e=h)(D:0<h):liesAt P P.depth e (h / h) 0 e 1=true:=by
 have hd:P.depth=(2*(P.types.size+Made.depth)+1)+1:=rfl;rw[hd];simp only[liesAt,SN];left;rw[hd];simp[rowAt,J,sameLayout,Nat.div_self D];omega
def BH {P:Program}{w:World}(h:(sizeOf e).run P w= .ok sz w):P.cellsOf e=sz:=by
 unfold Program.cellsOf;cases D:P.info? e with
 | none=>simp[sizeOf,typeInfo,program,Sem.run,D] at h
 | some i=>simp[sizeOf,typeInfo,program,Sem.run,D] at h;simpa using h
def Iy {cs:Array Value}{f:Nat×Nat}(R:c.P.underlying t=some .unsafePointer)(D:c.P.underlying u=some (.pointer e))(S:∀w,(sizeOf e).run c.P w= .ok sz w)(V:0<sz)(hx:ev g E x=some (ptr b 0))[hh:Has L b (.cells cs e f)](hs:cs.size=sz):
  OpV c g E L ⟨d, .convert t u x,ty,pos,af,gu⟩ (ptr b 0):= .mk λa w Y hg Z=>by
 have X:=hh.out _ _ Z;have J:w.shape? b=some (e,cs.size):=(by unfold World.shape?;rw[X]);have O:=BH (S w);have hl:=Ix O V;have hsz:sz≠0:=(by omega);have h:(Conv.unsafePointer t u (ptr b 0)).run c.P w= .ok (ptr b 0) w:=by
  unfold Conv.unsafePointer;simp[underlying,program,Sem.run,R,D,Conv.seenAt,viewAt,J,variablesAt,hs,O,hl,S]
 simp[execOp,Y.ev hg hx,convert,underlying,program,Sem.run,R,D,h]
def Iz {p:Addr}(O:c.P.underlying t=some (.pointer e))(S:∀w,(sizeOf e).run c.P w= .ok sz w)(hx:ev g E x=some (.pointer (some p)))(R:ev g E y=some (.pointer (some p))):OpV c g E L ⟨d, .binOp .neq t x y u,ty,pos,af,gu⟩ (Bo false):= .mk λa w D J V=>by
 have h:(Op.equal t (.pointer (some p)) (.pointer (some p))).run c.P w= .ok true w:=by
  show (Op.equalIn (9999+1) _ _ _).run _ _=_;unfold Op.equalIn;simp[underlying,program,Sem.run,O,S,samePointer,sameAddr]
 simp only[execOp,D.ev J hx,D.ev J R,eqGuard,binOp] at h ⊢;simp[h,Sem.run]
def IA {p:Option Addr}(R:c.P.underlying t=some (.pointer e))(hx:ev g E x=some (.pointer p)):OpV c g E L ⟨d, .binOp .neq t x (.const (.pointer none)) u,ty,pos,af,gu⟩ (Bo (!p.isNone)):= .mk λa w J O S=>by
 have D:a.eval (.const (.pointer none))= .pointer none:=rfl;have h:=Bi (P:=c.P) (w:=w) (p:=p) R;simp only[execOp,J.ev O hx,D,eqGuard,binOp] at h ⊢;simp[h,Sem.run]
end
end Go.Sl
namespace Go.Sl
abbrev FW:=Fence.wide
section
variable {P:Program}{l:Nat}{Q Q':ay}{ops:Array Oper}
def j3:List Oper->Bool
 | []=>true
 | o::r=>(match o.op with | .defer _=>false | _=>true) && j3 r
def vj:∀{r:List Oper} {o:Oper},j3 r=true->o∈r->∀c,o.op≠ .defer c
 | [],o,_,D,_=>by cases D
 | x::r,o,h,D,c=>by
  simp only[j3,Ru] at h;rcases RR.1 D with rfl | D
  ·intro e;rw[e] at h;exact absurd h.1 (by simp)
  ·exact vj h.2 D c
def Closed (Q:ay):Prop:=(∀ch a w,¬Q (.panic ch) a w)/\∀a w,¬Q .outgrown a w
theorem Closed.lets (h:Closed Q'):¬LetsOut Q':=λ⟨a,w,D⟩=>h.2 a w D
def BI {o:Oper}{a:Act}{w:World}{S:Act->World->Prop}(R:∀c,o.op≠ .defer c)(O:Closed Q')(h:o.wp P a w S Q'):o.wpIn (FW.inRound l) 0 P a w S Q:=by
 refine ⟨λ_ _=>trivial,?_⟩;rw[show (FW.inRound l).round=some l from rfl,Oper.semAt_some l a.eval o R];unfold Oper.wp at h;generalize (execOp a.eval o).run P w=r at*;cases r with
 | ok x w'=>
  cases x with
  | value v=>exact h
  | skip=>exact h
  | defer d=>exact h
  | enter f args=>
   refine ⟨(λh=>by cases h),?_⟩;have V:Calls P f args w' λe D=>match e with
    | .returned v=>S (a.put o.dst v) D
    | .panicked mB=>Q (.panic mB) a D
    | .outgrown=>LetsOut Q:=Calls.mono h λe D J=>by
     cases e with
     | returned v=>exact J
     | panicked ch=>exact absurd J (O.1 _ _ _)
     | outgrown=>exact absurd J O.lets
   have X:=(callsIn_wide (n:=0)).2 V;exact CallsIn.mono (F:=FW.inRound l) (n:=0 - 1) X λe D J=>by cases e <;> exact J
  | row row args=>
   refine ⟨(λh=>by cases h),λc cs _=>?_⟩;obtain ⟨v,D,Y,Z⟩:=h c cs;exact ⟨v,D,Y,stepsIn_wide.2 Z⟩
  | _=>exact False.elim h
 | halt x w'=>
  cases x with
  | panic v=>exact absurd h (O.1 _ _ _)
  | _=>exact False.elim h
def vk (J:Closed Q')(O:∀a w,Q' .normal a w->Q .normal a w):∀(r:List Oper) (a:Act) (w:World),j3 r=true->wpList P ops Q' r a w->wpListIn (FW.inRound l) 0 P ops Q r a w
 | [],a,w,_,h=>O a w h
 | o::r,a,w,hd,h=>by
  have hd1:=vj hd (TQ ..);have D:j3 r=true:=(by simp only[j3,Ru] at hd;exact hd.2);unfold wpList at h;unfold wpListIn;split
  ·rename_i R;rw[RI R] at h;rcases h with h | ⟨_,h⟩
   ·exact Oper.wpIn_mono (λa w S=>vk J O r a w D S) (BI hd1 J h)
   ·exact absurd h J.lets
  ·rename_i R;rw[RJ R] at h;exact ⟨λ_ _=>trivial,vk J O r _ w D h⟩
def sq (O:Closed Q')(R:∀a w,Q' .normal a w->Q .normal a w)(hd:j3 ops.toList=true):∀(fuel:Nat) (D:Array Bool) (a:Act) (w:World),wpAny P .any ops Q' fuel D a w->wpAnyIn (FW.inRound l) 0 P .any ops Q fuel D a w
 | 0,D,a,w,h=>⟨h.1,R a w h.2⟩
 | fuel+1,D,a,w,h=>by
  refine ⟨λX=>R a w (h.1 X),λi Z=>?_⟩;have J:=h.2 i Z;unfold wpOp at J;unfold wpOpIn;cases S:ops[i]? with
  | none=>rw[S] at J;exact sq O R hd fuel _ a w J
  | some o=>
   rw[S] at J;simp only at J ⊢;have hd1:=vj hd (o:=o) (SS.2 (Array.mem_of_getElem? S));split
   ·rename_i V;rw[RI V] at J;rcases J with J | ⟨_,J⟩
    ·exact Oper.wpIn_mono (λa w Y=>sq O R hd fuel _ a w Y) (BI hd1 O J)
    ·exact absurd J O.lets
   ·rename_i V;rw[RJ V] at J;exact ⟨λ_ _=>trivial,sq O R hd fuel _ _ w J⟩
end
def kr (P:Program)(l:Nat)(Q:ay):List KI->ay
 | [],e,a,w=>Q e a w
 | .code c::K,e,a,w=>match e with
  | .normal=>c.wpIn (FW.inRound l) 0 P (kr P l Q K) a w
  | e=>kr P l Q K e a w
 | .blk id::K,e,a,w=>Exit.inBlock id (kr P l Q K) e a w
 | _::K,e,a,w=>kr P l Q K e a w
@[reducible] def Cx.rd (c : Cx) : Cx := { c with n := ⟨c.n.n, []⟩ }
def H (c:Cx)(l:Nat)(Q:ay)(K:List KI)(E:ap)(L:List aa):Prop:=∀a w,EOk c.rd.n E a->Sat c.w0 w L->kr c.P l Q K .normal a w
section
variable {c:Cx}{l:Nat}{Q:ay}{K:List KI}{E:ap}{L:List aa}{x y:Code}
def BJ {c:Cx}{J:Act->World->Prop}:Closed (kq c.P c.Q [.fin J]):=⟨λD a w h=>i7 (c:=c) (K:=[.fin J]) h,λa w h=>h.elim (λh=>h) (λh=>h)⟩
def sr (h:H c l Q (.code x:: .code y::K) E L):H c l Q (.code (.seq x y)::K) E L:=λa w D J=>by
 refine wpIn_seq (wpIn_mono (h a w D J) λe a w O=>?_);cases e <;> exact O
def IB (h:H c l Q K E L):H c l Q (.code .skip::K) E L:=λa w D J=>wpIn_skip (h a w D J)
def IC {id:Nat}(h:H c l Q (.code x:: .blk id::K) E L):H c l Q (.code (.block id x)::K) E L:=λa w D J=>wpIn_block (wpIn_mono (h a w D J) λe a w O=>O)
def n7 {id:Nat}(h:H c l Q K E L):H c l Q (.blk id::K) E L:=λa w D J=>h a w D J
def ID {t:Operand}{b:Bool}(R:ev none E t=some (.bool b))(J:b=true->H c l Q (.code x::K) E L)(O:b=false->H c l Q (.code y::K) E L):H c l Q (.code (.cond t x y)::K) E L:=
 λa w h D=>wpIn_cond_split (h.ev (yM a) R) (λe=>J e a w h D) (λe=>O e a w h D)
def mG {P:Program}{a:Act}{w:World}(h:Q .ret a w):∀{K:List KI},kr P l Q K .ret a w
 | []=>h
 | .code c::K=>mG h (K:=K)
 | .blk _::K=>mG h (K:=K)
 | .ops _ _::K=>mG h (K:=K)
 | .plan _ _ _::K=>mG h (K:=K)
 | .fin _::K=>mG h (K:=K)
def vl {α:Type}{id:Nat}{ops:List Oper}(φ:α->Prop)(J:α->ap)(O:α->List aa)(hd:j3 ops=true)(R:G c.rd (.ops ops ops:: [.fin (mw c.rd φ J O)]) E L)(S:∀z,φ z->H c l Q K (J z) (O z)):H c l Q (.code (.region id ops.toArray false)::K) E L:=λa w h D=>
 wpIn_region_lit (vk (BJ (c:=c.rd)) (λa w V=>by obtain ⟨z,X,h,D⟩:=V;exact S z X a w h D) ops a w hd (R a w h D))
def IE {α:Type}{id:Nat}{ops:List Oper}{Lf:List aa}(pl:List (Nat×Bool))(φ:α->Prop)(h:α->ap)(D:α->List aa)(hm:c.P.follows .mixedOrders=true)(hs:Region.noSelect ops.toArray=true)(Z:pl.length=ops.length)(hp:eS ops.toArray pl (Array.replicate ops.length false)=true)(hd:j3 ops=true)
  (X:G c.rd (.plan ops (λw=>Sat c.w0 w Lf) pl:: [.fin (mw c.rd φ h D)]) E L) (Y:∀z,φ z->H c l Q K (h z) (D z)):H c l Q (.code (.region id ops.toArray true)::K) E L:=λa w J O=>by
 have R:=X a _ J (O.drew (w.drawn+1));have V:=rH (Q:=kq c.rd.P c.rd.Q [.fin (mw c.rd φ h D)]) hs (λch a d v w S=>absurd S i7) pl (Array.replicate ops.length false) a _ hp R;refine wpIn_region_any hm (sq (l:=l) (Q':=kq c.rd.P c.rd.Q [.fin (mw c.rd φ h D)]) (Q:=kr c.P l Q K) (BJ (c:=c.rd)) (λa w S=>by obtain ⟨z,hz,J,O⟩:=S;exact Y z hz a w J O) (by simpa using hd) _ _ a _ (rG (C:=λw=>Sat c.w0 w Lf) _ _ _ _ ?_));rw[Z] at V;rw[RN];exact V
def IF {φ:Prop}(O:φ)(h:H c l Q K E (gE φ::L)):H c l Q K E L:=λa w D J=>h a w D (J.pure_mk O)
def IG {φ:Prop}{F:List aa}{c:Cx}{K:List KI}{E:ap}{L:List aa}[R:Rem L (gE φ) F](h:φ->G c K E F):G c K E L:=λa w J O=>by
 have D:=(R.sat O).pure_;exact h D.1 a w J D.2
def IH {b m n:Nat}{t:List UInt8}{F:List aa}[R:Rem L (roL 1 (some ⟨b,0,none⟩) (qq t)) F](h:H c l Q K E (roL 1 (some ⟨b,m,none⟩) (qq ((t.drop m).take n))::roL 1 (some ⟨b,0,none⟩) (qq t)::F)):H c l Q K E L:=λa w hE hS=>by
 refine h a w hE (((R.sat hS).dup (Pers.roL 1 _ _)).weak λm' S=>?_);rcases S with S | ⟨b',off,o,J,Y,Z⟩
 ·left;have:t=[]:=(by simpa [qq] using S);subst this;simp[qq]
 ·right;injection J with J;injection J with V X e3;subst V X;refine ⟨b,m,o,rfl,Y,λj row D f v hf=>?_⟩;have O:(qq t)[m+j]? =some row:=by
   simp only[qq,TR,List.map_drop] at D;rw[TS] at D;split at D
   ·rw[Sy] at D;exact D
   ·cases D
  have:=Z (m+j) row O f v hf;rw[show m+(j*1+f)=0+((m+j)*1+f) by omega];exact this
def ss (c:Cx)(L1 L2:List aa):ay:=λe a w=>match e with
 | .normal=>Sat c.w0 w L1
 | .ret=>Sat c.w0 w L2
 | _=>False
def n8 {L1 L2:List aa}[S:Sub L L1]:H c l (ss c L1 L2) [] E L:=λa w D h=>S.sat h
def n9 {L1 L2:List aa}[S:Sub L L2]:H c l (ss c L1 L2) (.code .ret::K) E L:=λa w D h=>wpIn_ret (mG (S.sat h))
end
def vm (P:Program)(l:Nat)(v:Value)(w0:World)(L L1 L2:List aa):Prop:=∀w,Sat w0 w L->∃fn tmps assign body,(Instr.yield l #[v]).run P w= .ok (.round l fn tmps assign body) w/\
 RoundIn FW 0 P l fn tmps assign body w λe w'=>(e= .returned (.bool true)/\Sat w0 w' L1)\/(e= .returned (.bool false)/\Sat w0 w' L2)
def KY (c:Cx)(all rest:List Oper)(K:List KI):List KI:= .fin (λa w=>wpListIn FW 0 c.P all.toArray (kq c.P c.Q K) rest a w)::K
section
variable {c:Cx}{E:ap}{L L1 L2:List aa}{d:Nat}{ty:TypeId}{pos:String}{af:Array Edge}{K:List KI}{all rest:List Oper}{op:Op}{v:Value}{l:Nat}{x f:Operand}{ats:Array TypeId}
def II {id:Nat}{ops:List Oper}(h:G c (KY c ops ops K) E L):G c (.code (.region id ops.toArray false)::K) E L:=λa w D J=>(wpIn_wide (n:=0)).1 (wpIn_region_lit (h a w D J))
def BK (h:G c K E L):G c (KY c all [] K) E L:=λa w D J=>h a w D J
def hG (h:OpV c none E L ⟨some d,op,ty,pos,af,none⟩ v)(hd:bf c.n d E=true)(k:G c (KY c all rest K) ((d,none,v)::E) L):G c (KY c all (⟨some d,op,ty,pos,af,none⟩::rest) K) E L:=λa w D J=>by
 show wpListIn FW 0 c.P all.toArray (kq c.P c.Q K) (⟨some d,op,ty,pos,af,none⟩::rest) a w;unfold wpListIn;rw[RI (by simp[Region.wanted])];refine ⟨λ_ _=>trivial,?_⟩;rw[show FW.round=none from rfl,Oper.semAt_none,h.out a w D (yM a) J];exact k _ w (D.put1 hd) J
def IJ (hf:ev none E f=some (.func (.yield l) #[] #[]))(hx:ev none E x=some v)(hr:vm c.P l v c.w0 L L1 L2)(hd:bf c.n d E=true)(k1:G c (KY c all rest K) ((d,none, .bool true)::E) L1)(k2:G c (KY c all rest K) ((d,none, .bool false)::E) L2):
  G c (KY c all (⟨some d, .call {callee:= .value f,args:=#[x],argTypes:=ats},ty,pos,af,none⟩::rest) K) E L:=λa w hE hS=>by
 show wpListIn FW 0 c.P all.toArray (kq c.P c.Q K) (⟨some d, .call {callee:= .value f,args:=#[x],argTypes:=ats},ty,pos,af,none⟩::rest) a w;obtain ⟨fn,tmps,assign,body,hy,hround⟩:=hr w hS;unfold wpListIn;rw[RI (by simp[Region.wanted])];refine ⟨λ_ _=>trivial,?_⟩;have hrun:(execOp a.eval ⟨some d, .call {callee:= .value f,args:=#[x],argTypes:=ats},ty,pos,af,none⟩).run c.P w= .ok (.round l fn tmps assign body) w:=by
  have h1:=hE.ev (yM a) hf;have h2:=hE.ev (yM a) hx;simp[execOp,resolve,h1,h2,Deferred.ofValue,invoke,hy]
 rw[show FW.round=none from rfl,Oper.semAt_none,hrun];refine ⟨(λh=>by cases h),RoundIn.mono hround λe w' he=>?_⟩;rcases he with ⟨rfl,hS'⟩ | ⟨rfl,hS'⟩
 ·exact k1 _ w' (hE.put1 hd) hS'
 ·exact k2 _ w' (hE.put1 hd) hS'
end
def IK {P:Program}{f:FuncId}{fn:Func}{cd:Code}{args:List Value}{L:List aa}{R:Value->List aa->Prop}(hf:P.funcs[f]? =some fn)(S:fn.body=some cd)(n:Nat)(hn:fn.ntmps=n)(hle:args.length<=n)
  {w0:World} (h:G ⟨P,fn,w0,R,⟨n,[]⟩⟩ [.code cd] (kA 0 args) L):∀w,Sat w0 w L->Calls P f args.toArray w λe w'=>match e with
  | .returned v=>∃L',Sat w0 w' L'/\R v L'
  | _=>False:=λw Y=>by
 refine callsIn_wide.1 (callsIn_of_wp_marks (n:=0) hf S trivial (wpIn_wide.2 (wp_mono (h _ w ?_ Y) λe a w J=>?_)));rotate_left
 ·cases e with
  | normal | ret=>
   rcases J with ⟨hd,v,X,O⟩ | ⟨D,w',hd,ht,v,X,O⟩
   ·show LeavesInM _ _ _ _ _ _ _ _ _;rw[hd];exact ⟨v,X,O⟩
   ·show LeavesInM _ _ _ _ _ _ _ _ _;rw[hd];exact ⟨(λh=>by cases h), .inl ⟨D,w',rfl,ht,v,X,O⟩⟩
  | panic ch=>exact absurd J (λh=>h.elim (λh=>h.2) (λh=>h))
  | exit id=>exact J.elim (λh=>h.elim) (λh=>h.elim)
  | goto l=>exact J.elim (λh=>h.elim) (λh=>h.elim)
  | outgrown=>exact J.elim (λh=>h.elim) (λh=>h.elim)
 refine ⟨rfl,by simp[hn];omega,?_⟩;have key:∀(l:List Value) (i:Nat) (t:Nat) (g:Option (Nat×Bool)) (v:Value),gc (kA i l) t=some (g,v)->i<=t/\l[t - i]? =some v:=by
  intro l
  induction l with
  | nil=>intro i t g v h;cases h
  | cons u l ih=>
   intro i t g v h;simp only[kA] at h;unfold gc at h;split at h
   ·rename_i S;have:=Rm S;subst this;injection h with h;injection h with _ h;subst h;simp
   ·have:=ih (i+1) t g v h;refine ⟨by omega,?_⟩;have e:t - i=(t - (i+1))+1:=(by omega);rw[e];simpa using this.2
 intro t g v Z _;have:=(key args 0 t g v Z).2;simp only[Nat.sub_zero] at this;have V:=(Re.1 this).1;rw[RL (by simpa using V)];simpa using this
theorem Sat.swap {w0 w:World}{x y:aa}{R:List aa}:∀{X:List aa},Sat w0 w (X++y::x::R)->Sat w0 w (X++x::y::R):=fun {X} h=>by
 obtain ⟨Z,h2,h3,h4,f,hf,hd⟩:=h;obtain ⟨σ,Y⟩:∃σ:Nat->Nat,σ=λi=>if i=X.length then X.length+1 else if i=X.length+1 then X.length else i:=⟨_,rfl⟩
 have O:∀i,(X++x::y::R)[i]? =(X++y::x::R)[σ i]? :=λi=>by
  rw[Y];simp only;split
  ·rename_i h;subst h;rw[Rj (by omega),Rj (by omega)];simp
  ·split
   ·rename_i h;subst h;rw[Rj (by omega),Rj (by omega)];simp
   ·rename_i h5 h6;by_cases J:i<X.length
    ·rw[Ri J,Ri J]
    ·rw[Rj (by omega),Rj (by omega)];obtain ⟨j,rfl⟩:∃j,i=X.length+2+j:=⟨i - X.length - 2,by omega⟩;rw[show X.length+2+j - X.length=j+2 by omega];simp
 have S:(X++x::y::R).length=(X++y::x::R).length:=(by simp);have hl2:(X++y::x::R).length=X.length+R.length+2:=(by simp;omega);have D:∀i,i<(X++x::y::R).length->σ i<(X++y::x::R).length:=λi J=>by
  rw[S] at J;rw[Y];simp only;split
  ·omega
  ·split
   ·omega
   ·exact J
 refine ⟨Z,h2,h3,h4,λi=>f (σ i),λi A hA=>hf (σ i) A (by rw[<-O];exact hA),λi j J hj V=>hd _ _ (D i J) (D j hj) λe=>V ?_⟩;rw[Y] at e;simp only at e;split at e <;> split at e <;> (try split at e) <;> (try split at e) <;> omega
theorem Sat.perm {w0 w:World}{L L':List aa}(O:L.Perm L'):∀X:List aa,Sat w0 w (X++L)->Sat w0 w (X++L'):=by
 induction O with
 | nil=>intro X h;exact h
 | cons x _ R=>
  intro X h;have:=R (X++ [x]) (by simpa using h);simpa using this
 | swap x y l=>intro X h;exact Sat.swap h
 | trans _ _ D J=>intro X h;exact J X (D X h)
theorem Sat.perm0 {w0 w:World}{L L':List aa}(D:L.Perm L')(h:Sat w0 w L):Sat w0 w L':=by simpa using Sat.perm D [] (by simpa using h)
abbrev dO:Obj:= .deferred (some [])
section
variable {c:Cx}{E:ap}{L:List aa}{K:List KI}
def vn {n:Nd}{P:Program}{l id p q:Nat}{ty:TypeId}{pos:String}{af:Array Edge}{v:Value}{E:ap}{a:Act}{w:World}(J:EOk n ((p,none,v)::E) a)(S:bf n q ((p,none,v)::E)=true):
  (Code.region id #[⟨some q, .assign (.tmp p),ty,pos,af,none⟩] false).wpIn (FW.inRound l) 0 P (Exit.then (λO w'=>w'=w/\EOk n ((q,none,v)::(p,none,v)::E) O) (λ_ _ _=>False)) a w:=by
 refine wpIn_region_lit (l:=[_]) (wpListIn_plain rR λK R=>?_);refine ⟨λ_ _=>trivial,?_⟩;have hx:a.eval (.tmp p)=v:=J.ev (yM a) (by simp[ev,look,gc,Nat.beq_refl]);rw[show (FW.inRound l).round=some l from rfl,Oper.semAt_some l a.eval _ (λc h=>by cases h)];have D:(execOp a.eval ⟨some q, .assign (.tmp p),ty,pos,af,none⟩).run P w= .ok (.value v) w:=(by simp[execOp,hx]);rw[D];exact R _ _ (wpListIn_nil ⟨rfl,J.put1 S⟩)
def IL {gop:Operand}{p:Tmp}{assign body:Code}{gf:FuncId}{cap:List Value}{Pre:List aa}{A:Nat->List aa}{B:List aa}{N:Nat}{v:Nat->Value}{E1:Nat->ap}
  (hd0:c.n.ds=[]) (hp:bf c.n p E=true) (hg:ev none E gop=some (.func (.func gf) #[] cap.toArray)) (hcall:∀args w,(callFunc gf args).run c.P w= .ok (.enter gf args) w)
  (hseq:∀(l:Nat) (A':Nat->List aa) (B':List aa),(∀k,k<N->vm c.P l (v k) c.w0 (Pre++A' k) (Pre++A' (k+1)) (Pre++B'))->∀w,Sat c.w0 w (Pre++A' 0)->Calls c.P gf (.func (.yield l) #[] #[]::cap).toArray w λe w'=>match e with
   | .returned _=>Sat c.w0 w' (Pre++A' N)\/Sat c.w0 w' (Pre++B')
   | _=>False)
  (hL:L=Pre++A 0)
  (has:∀l k a w,EOk c.rd.n ((p,none,v k)::E) a->assign.wpIn (FW.inRound l) 0 c.P (Exit.then (λa' w'=>w'=w/\EOk c.rd.n (E1 k) a') (λ_ _ _=>False)) a w)
  (hbody:∀(l D:Nat) (O:Obj) k,k<N->H c l (ss c (Pre++pt l O::pt D dO::A (k+1)) (Pre++pt l O::pt D dO::B)) [.code body] (E1 k) (Pre++pt l O::pt D dO::A k))
  (done:∀D,G {c with n:=⟨c.n.n,[i6 D]⟩} K E (pt D dO::(Pre++A N)))
  (ret:∀D,G {c with n:=⟨c.n.n,[i6 D]⟩} (.code .ret::K) E (pt D dO::(Pre++B))):G c (.code (.rangeFunc gop #[p] assign body)::K) E L:=λa w hE hS=>by
 have hS0:Sat c.w0 w (Pre++A 0):=hL ▸ hS;refine (wpIn_wide (n:=0)).1 (wpIn_rangeFunc λfn _=>?_);obtain ⟨rec,hrec⟩:∃rec:LoopState->Option Code->Loop,rec=λst pe=>{state:=st,pending:=pe,fn,tmps:=a.tmps,params:=#[p],assign,body,defers:=w.heap.size}:=⟨_,rfl⟩;obtain ⟨W1,hW1⟩:∃W1,(w.alloc dO).alloc (.loop (rec .ready none))=W1:=⟨_,rfl⟩;have hS1:Sat c.w0 W1 (pt (w.heap.size+1) (.loop (rec .ready none))::pt w.heap.size dO::(Pre++A 0)):=by
  have e:(w.alloc dO).heap.size=w.heap.size+1:=World.size_alloc ..;rw[<-hW1,<-e];exact (hS0.alloc dO).alloc _
 -- the lists' two orders
 have fwd:∀{w:World} {X:List aa} {O:Obj},Sat c.w0 w (pt (w.heap.size+0) O:: [])->True:=λ_=>trivial;have toF:∀{W:World} {O:Obj} {X:List aa},Sat c.w0 W (Pre++pt (w.heap.size+1) O::pt w.heap.size dO::X)->Sat c.w0 W (pt (w.heap.size+1) O::pt w.heap.size dO::(Pre++X)):=λh=>
  h.perm0 (List.perm_middle.trans (List.Perm.cons _ Ty))
 have toP:∀{W:World} {O:Obj} {X:List aa},Sat c.w0 W (pt (w.heap.size+1) O::pt w.heap.size dO::(Pre++X))->Sat c.w0 W (Pre++pt (w.heap.size+1) O::pt w.heap.size dO::X):=λh=>
  h.perm0 (List.perm_middle.trans (List.Perm.cons _ Ty)).symm
 have yz:∀{W:World} {O O':Obj} {X:List aa},Sat c.w0 W (Pre++pt (w.heap.size+1) O::pt w.heap.size dO::X)->Sat c.w0 (W.putObj (w.heap.size+1) O') (Pre++pt (w.heap.size+1) O'::pt w.heap.size dO::X):=λh=>
  toP ((toF h).set rfl)
 have hcd:EOk c.n E a:=hE;have hE2:∀D,EOk (⟨c.n.n,[i6 D]⟩:Nd) E {a with defers:=[i6 D]++a.defers}:=λD=>⟨by rw[hE.defers,hd0];rfl,hE.size,λt h u he hk=>hE.at_ t h u he hk⟩;refine ⟨w.heap.size+1,[i6 w.heap.size],W1,{target:= .fn (.func gf) cap.toArray,args:=#[.func (.yield (w.heap.size+1)) #[] #[]]},W1,gf,(.func (.yield (w.heap.size+1)) #[] #[]::cap).toArray,W1,?_,?_,λ_ _=>trivial,?_,(λh=>by cases h),callsIn_wide.2 ?_⟩
 ·rw[<-hW1,hrec];exact run_enterLoop_outer _ _ _ _ _
 ·have h1:=hE.ev (yM a) hg;simp only[resolve,h1];simp[go_sem]
 ·have:(#[Value.func (.yield (w.heap.size+1)) #[] #[]]++cap.toArray)=(Value.func (.yield (w.heap.size+1)) #[] #[]::cap).toArray:=(by simp);simp only[invoke,this,hcall]
 ·refine Calls.mono (hseq (w.heap.size+1) (λk=>pt (w.heap.size+1) (.loop (rec .ready none))::pt w.heap.size dO::A k) (pt (w.heap.size+1) (.loop (rec .done (some .ret)))::pt w.heap.size dO::B) (λk hk W hSW=>?_) W1 (toP hS1)) λe W2 he=>?_
  ·have hl:W.heap[w.heap.size+1]? =some (.loop (rec .ready none)):=(toF hSW).at_;have hy:=run_yield (P:=c.P) (args:=#[v k]) hl (by rw[hrec];rfl);rw[hrec] at hy;refine ⟨fn,_,assign,body,hy,?_⟩;have hEr:EOk c.rd.n ((p,none,v k)::E) ({tmps:=a.tmps.setIfInBounds p (v k),defers:=[]}:Act):=by
    have h0:EOk c.rd.n E ({tmps:=a.tmps,defers:=[]}:Act):=⟨rfl,hE.size,λt h u he hk=>hE.at_ t h u he hk⟩;have hp':bf c.rd.n p E=true:=by
     have:∀(E:ap),bf c.rd.n p E=bf c.n p E:=by
      intro E
      induction E with
      | nil=>rfl
      | cons x E ih=>obtain ⟨s,g,u⟩:=x;cases g with
       | none=>exact ih
       | some jb=>obtain ⟨j,b⟩:=jb;simp only[bf,ih]
     rw[this];exact hp
    exact h0.put1 hp'
   have hfold:((#[p]:Array Tmp).zip #[v k]).foldl (λtmps (t,u)=>tmps.setIfInBounds t u) a.tmps=a.tmps.setIfInBounds p (v k):=(by simp);refine roundIn_of_wpIn trivial (wpIn_mono (has (w.heap.size+1) k _ W (by rw[hfold];exact hEr)) λe a1 w1 hq=>?_);cases e with
   | normal=>
    obtain ⟨rfl,hE1⟩:=hq;refine ⟨_,run_beginRound hl (by rw[hrec]),?_⟩;have hb:=hbody (w.heap.size+1) w.heap.size (.loop {rec .ready none with state:= .busy}) k hk a1 _ hE1 (yz hSW);refine wpIn_mono hb λe a3 W3 hp3=>?_;cases e with
    | normal=>
     have hl3:=(toF hp3).at_;have hr:=run_endRound (P:=c.P) none hl3;refine ⟨_,_,hr, .inl ⟨rfl,?_⟩⟩;have:=yz (O':= .loop {({rec .ready none with state:= .busy}:Loop) with state:=if (none:Option Code).isNone then .ready else .done,pending:=none}) hp3;rw[hrec] at this ⊢;exact this
    | ret=>
     have hl3:=(toF hp3).at_;have hr:=run_endRound (P:=c.P) (some .ret) hl3;refine ⟨_,_,hr, .inr ⟨rfl,?_⟩⟩;have:=yz (O':= .loop {({rec .ready none with state:= .busy}:Loop) with state:=if (some Code.ret).isNone then .ready else .done,pending:=some .ret}) hp3;rw[hrec] at this ⊢;exact this
    | exit id=>exact hp3.elim
    | goto t=>exact hp3.elim
    | panic ch=>exact hp3.elim
    | outgrown=>exact hp3.elim
   | exit id=>exact hq.elim
   | goto t=>exact hq.elim
   | ret=>exact hq.elim
   | panic ch=>exact hq.elim
   | outgrown=>exact hq.elim
  ·cases e with
   | returned u=>
    rcases he with he | he
    ·have hl2:=(toF he).at_;refine ⟨_,_,run_endLoop (P:=c.P) hl2 (by rw[hrec];simp),?_⟩;rw[show (rec .ready none).pending=none by rw[hrec]];exact done w.heap.size _ _ (hE2 _) (toF (yz he)).tail
    ·have hl2:=(toF he).at_;refine ⟨_,_,run_endLoop (P:=c.P) hl2 (by rw[hrec];simp),?_⟩;rw[show (rec .done (some .ret)).pending=some .ret by rw[hrec]];exact (wpIn_wide (n:=0)).2 (ret w.heap.size _ _ (hE2 _) (toF (yz he)).tail)
   | panicked ch=>exact he.elim
   | outgrown=>exact he.elim
def vo {D b o r:Nat}{t:TypeId}{v:Value}{Z:Obj}{L' Lf:List aa}(hds:c.n.ds=[i6 D])[U:Upd L D dO (.deferred none) L'](hf:c.fn.results.toList=[.cell r t])(hx:look none E r=some (ptr b o))(ha:∀w,(isAgg t).run c.P w= .ok false w)[h:Has L' b Z](hv:yd Z o=some v)[S:Sub L' Lf](hR:c.R v Lf):G c (.code .ret::K) E L:=λa w X hS=>by
 refine wp_ret (yu (.inr ?_));have O:=U.sat hS;refine ⟨D,w.putObj D (.deferred none),X.defers.trans hds,run_takeDeferred O.2,v,?_,Lf,S.sat O.1,hR⟩;have h1:=X.look (yM a) hx;have V:=ge (h.out _ _ O.1) hv;have Y:=AW (P:=c.P) V;have J:cL w D (.deferred none)=w.putObj D (.deferred none):=rfl;rw[J] at Y V;rw[rI,RH,hf];simp[mv,Rn,h1,asAddr,loadVar,ha,Y,V]
end
end Go.Sl
namespace Go.Sl
section
variable {c:Cx}{g:Option (Nat×Bool)}{E:ap}{L L':List aa}{d:Option Tmp}{ty:TypeId}{pos:String}{af:Array Edge}{gu:Option (Nat×Bool)}{K:List KI}
variable {x y z:Operand}{t u e:TypeId}{k:IntKind}{v:Value}{s:Option Addr}{b o i j n m sz cap off:Nat}
def oa {X:Array (String×TypeId)}{T:Nat}{p:Value}(V:c.P.underlying t=some (.interface X))(hx:ev g E x=some (.iface T p)):OpV c g E L ⟨d, .binOp .neq t x (.const .nilIface) u,ty,pos,af,gu⟩ (Bo true):= .mk λa w R S Y=>by
 have h:(Op.equal t (.iface T p) .nilIface).run c.P w= .ok false w:=by
  show (Op.equalIn (9999+1) _ _ _).run _ _=_;unfold Op.equalIn;simp[underlying,program,Sem.run,V]
 have D:(eqGuard .neq t x (.const .nilIface) (.iface T p) .nilIface).run c.P w= .ok () w:=(by simp[eqGuard]);have J:a.eval (.const .nilIface)= .nilIface:=rfl;have O:binOp .neq t (.iface T p) .nilIface=(do pure (.bool (!(<-Op.equal t (.iface T p) .nilIface)))):=(by simp[binOp]);simp[execOp,R.ev S hx,J,D,O,h]
def IP (O:c.P.underlying t=some (.array n e))(hx:ev g E x=some (sl s m cap))(h:n<=m):OpV c g E L ⟨d, .sliceToArrayPointer t x,ty,pos,af,gu⟩ (.pointer s):= .mk λa w D J R=>by
 simp only[execOp,Instr.arrayAt,D.ev J hx,sl];simp[underlying,program,Sem.run,O,show ¬m<n by omega]
def IQ {q:Int}{l:Nat}(O:c.P.underlying t=some (.slice e))(S:∀w,(sizeOf e).run c.P w= .ok sz w)(hx:ev g E x=some (sl s n cap))(R:ev g E y=some (I q))(J:q=l)(D:l<=n)(V:l<cap):
  OpV c g E L ⟨d, .slice t x (some y) none none,ty,pos,af,gu⟩ (sl (s.map (·.add (l*sz))) (n - l) (cap - l)):=by
 have h:=fN (c:=c) (g:=g) (L:=L) (d:=d) (ty:=ty) (pos:=pos) (af:=af) (gu:=gu) O S hx R J D;rw[RJ (show ¬cap=l by omega)] at h;exact h
def IR {rows:List (List Value)}{vs:List Value}(j:Nat)(X:∀w,(isAgg t).run c.P w= .ok true w)(hz:∀w,(sizeOf t).run c.P w= .ok sz w)(hx:ev g E x=some (.pointer (s.map (·.add (j*1)))))[h:SlR L s 1 rows](D:vs.length=sz)(h0:0<sz)(J:∀k v,vs[k]? =some v->rows[j+k]? =some [v]):
  OpV c g E L ⟨d, .load t x,ty,pos,af,gu⟩ (.agg vs.toArray):= .mk λa w R Y V=>by
 rcases h.out _ _ V with h | ⟨b,o,ob,rfl,Z,S⟩
 ·subst h
  match vs,D with
  | [],D=>simp at D;omega
  | v::vs,D=>have:=J 0 v rfl;simp at this
 ·have:=ls (P:=c.P) (w:=w) b sz 0 (o+j) #[] vs D (λk v hk=>by
   have:=ge Z (S (j+k) [v] (J k v hk) 0 v rfl);simpa [RO] using this)
  have O:(if j=0 then ({block:=b,off:=o}:Addr) else {block:=b,off:=o+j})={block:=b,off:=o+j}:=(by split <;> simp[*]);simp[execOp,R.ev Y hx,Instr.loadAt,Instr.sureAddr,loadVar,X,hz,loadCells,ez,Addr.add,O,this]
end
section
variable {c:Cx}{E:ap}{L:List aa}{d:Nat}{ty:TypeId}{pos:String}{af:Array Edge}{K:List KI}{all:List Oper}{op:Op}{N:Value->List aa->Prop}{Lf:List aa}{pl:List (Nat×Bool)}
def oc {i j s:Nat}{vs:Value}{h:Bool}(V:all[i]? =some ⟨some d,op,ty,pos,af,some (j,h)⟩)(X:(all[j]?).bind (·.dst)=some s)(Y:look none E s=some vs)(O:iv vs h=true)[R:Sub L Lf](hd:bf c.n d E=true)
  (k:G c (.plan all (λw=>Sat c.w0 w Lf) pl::K) ((d,none,undef)::E) L):G c (.plan all (λw=>Sat c.w0 w Lf) ((i,true)::pl)::K) E L:=λa w D J=>by
 have S:=D.look (yM a) Y;have Z:yielded all.toArray a.tmps j≠some h:=by
  cases vs <;> simp[yielded,X,S,iv] at O ⊢
  all_goals (rename_i b;cases b <;> cases h <;> simp at O ⊢)
 refine ⟨R.sat J,?_⟩;unfold wpOp;simp only[RK,V];rw[RJ (by simp[Region.wanted,Z])];exact k _ w (D.put1 hd) J
end
abbrev IM:=List (Int×Int)
def mi (F:IM):MM:=F.map λp=>(p.1,I p.2)
def li:IM->Int->Option Int
 | [],_=>none
 | p::F,q=>if p.1=q then some p.2 else li F q
def gi (F:IM)(q v:Int):IM:=if (li F q).isSome then F.map (λp=>if p.1=q then (q,v) else p) else F++ [(q,v)]
def dy (F:IM)(q:Int):IM:=F.filter λp=>!decide (p.1=q)
def mH (F:IM)(q:Int):lk (mi F) q=(li F q).map I:=by
 induction F with
 | nil=>rfl
 | cons p F h=>
  show (if p.1=q then some (I p.2) else lk (mi F) q)=_;simp only[li];split
  ·rfl
  ·exact h
def od (F:IM)(q d:Int):(lk (mi F) q).getD (I d)=I ((li F q).getD d):=by
 rw[mH];cases li F q <;> rfl
def IU (F:IM)(q:Int):(lk (mi F) q).isSome=(li F q).isSome:=by
 rw[mH];cases li F q <;> rfl
def lB (F:IM)(q v:Int):dw (mi F) q (I v)=mi (gi F q v):=by
 unfold dw gi;rw[IU];split
 ·simp only[mi,RB];apply Ti;intro p _;simp only[Function.comp];split <;> rfl
 ·simp[mi]
def vp (F:IM)(q:Int):eV (mi F) q=mi (dy F q):=by
 unfold eV dy mi;rw[TU]
 rfl
def oe (F:IM):(mi F).map (·.1)=F.map (·.1):=by simp[mi]
def BL {a b:Option Int}(h:a.map I=b.map I):a=b:=by
 cases a <;> cases b <;> simp at h ⊢;exact h
def mI (F:IM)(q v k:Int):li (gi F q v) k=if q=k then some v else li F k:=by
 have h:=vc (mi F) q (I v) k;rw[lB,mH,mH] at h;apply BL;rw[h];split <;> rfl
def BM (F:IM)(q k:Int):li (dy F q) k=if q=k then none else li F k:=by
 have h:=ve (mi F) q k;rw[vp,mH,mH] at h;apply BL;rw[h];split <;> rfl
def su {F:IM}{q:Int}:(li F q).isSome=true ↔ q∈F.map (·.1):=by
 induction F with
 | nil=>simp[li]
 | cons p F D=>
  simp only[li,Rv,RR];split
  ·rename_i h;simp[h]
  ·rename_i h;rw[D];simp[Ne.symm h]
def og:∀{l m:List Int},l.Nodup->(∀q∈l,q∈m)->l.length<=m.length
 | [],_,_,_=>by simp
 | a::l,m,D,h=>by
  rw[Tg] at D;have J:a∈m:=h a (by simp);have R:=og (m:=m.erase a) D.2 λq O=>(TV (λe:q=a=>D.1 (by rw[<-e];exact O))).2 (h q (by simp[O]));rw[TW J] at R;have:0<m.length:=TX J;simp only[RX];omega
def BN {l m:List Int}(J:l.Nodup)(R:m.Nodup)(h:∀q∈l,q∈m):l.length=m.length ↔ ∀q∈m,q∈l:=by
 constructor
 ·intro e q V;refine Decidable.byContradiction λS=>?_;have:=og (l:=q::l) (m:=m) (Tg.2 ⟨S,J⟩) λp D=>by
   rcases RR.1 D with rfl | D
   ·exact V
   ·exact h p D
  simp at this;omega
 ·intro O;exact Nat.le_antisymm (og J h) (og R O)
def eF (f:Int×Value->Int):MM->Int
 | []=>0
 | p::M=>f p+eF f M
def BO {f:Int×Value->Int}{M D:MM}(h:M.Perm D):eF f M=eF f D:=by
 induction h with
 | nil=>rfl
 | cons x _ R=>simp only[eF];rw[R]
 | swap x y l=>simp only[eF];omega
 | trans _ _ J O=>rw[J,O]
end Go.Sl
namespace Go.Sl
section
variable {c:Cx}{E:ap}{L Lf:List aa}{d:Nat}{ty:TypeId}{pos:String}{af:Array Edge}{K:List KI}{all:List Oper}{op:Op}{v:Value}{N:Value->List aa->Prop}{t:PT}
end
def big {α:Type}(f:α->List aa)(l:List α):aa:=lu (l.flatMap f)
theorem Sat.big {w0 w:World}{α:Type}{f:α->List aa}{l:List α}{F:List aa}(h:Sat w0 w (Go.Sl.big f l::F)):Sat w0 w (l.flatMap f++F):=h.list
theorem Sat.big_mk {w0 w:World}{α:Type}{f:α->List aa}{l:List α}{F:List aa}(h:Sat w0 w (l.flatMap f++F)):Sat w0 w (Go.Sl.big f l::F):=h.list_mk
theorem Sat.big_perm {w0 w:World}{α:Type}{f:α->List aa}{l l':List α}{F:List aa}(D:l.Perm l')(h:Sat w0 w (Go.Sl.big f l::F)):Sat w0 w (Go.Sl.big f l'::F):=
 (Sat.perm0 ((D.flatMap_right f).append_right F) h.big).big_mk
theorem Sat.big_out {w0 w:World}{α:Type}{f:α->List aa}{l:List α}{e:α}{F:List aa}(h:Sat w0 w (Go.Sl.big f (e::l)::F)):Sat w0 w (f e++Go.Sl.big f l::F):=by
 have D:=h.big;rw[TY,Sr] at D;have J:Sat w0 w (l.flatMap f++(f e++F)):=Sat.perm0 (by rw[<-Sr,<-Sr];exact List.perm_append_comm.append_right F) D;exact Sat.perm0 List.perm_middle.symm J.big_mk
theorem Sat.big_in {w0 w:World}{α:Type}{f:α->List aa}{l:List α}{e:α}{F:List aa}(h:Sat w0 w (f e++Go.Sl.big f l::F)):Sat w0 w (Go.Sl.big f (e::l)::F):=by
 have D:Sat w0 w (Go.Sl.big f l::(f e++F)):=Sat.perm0 Ty h;have J:=D.big;refine Sat.big_mk ?_;rw[TY];exact Sat.perm0 (by rw[<-Sr];exact List.perm_append_comm.append_right F) J
def sv {α:Type}:∀{l:List α} {i:Nat} {e:α},l[i]? =some e->l.Perm (e::l.eraseIdx i)
 | [],i,e,h=>by simp at h
 | a::l,0,e,h=>by
  simp at h;subst h;exact List.Perm.refl _
 | a::l,i+1,e,h=>by
  rw[TZ];exact ((sv (l:=l) (by simpa using h)).cons a).trans (List.Perm.swap e a _)
def BP {α:Type}:∀{l:List α} {i:Nat} (e:α),i<l.length->(l.set i e).Perm (e::l.eraseIdx i)
 | [],i,e,h=>by simp at h
 | a::l,0,e,h=>List.Perm.refl _
 | a::l,i+1,e,h=>by
  rw[TZ,List.set_cons_succ];exact ((BP (l:=l) e (by simpa using h)).cons a).trans (List.Perm.swap e a _)
section
variable {c:Cx}{E:ap}{L F F':List aa}{K:List KI}{α:Type}{f:α->List aa}
def sw (f:α->List aa)(k:G c K E (big f []::L)):G c K E L:=λa w h D=>k a w h (Sat.big_mk (by simpa using D))
def sx (l:List α)(i:Nat){e:α}(J:l[i]? =some e)(Pre:List aa)(O:f e=Pre)[R:Rem L (big f l) F](k:G c K E (Pre++big f (l.eraseIdx i)::F)):G c K E L:=λa w h D=>by
 subst O;exact k a w h (Sat.big_out (Sat.big_perm (sv J) (R.sat D)))
def yK (l:List α)(i:Nat)(e:α)(Pre:List aa)(V:f e=Pre)(X:i<l.length)[S:Split L Pre F][R:Rem F (big f (l.eraseIdx i)) F'](k:G c K E (big f (l.set i e)::F')):G c K E L:=λa w J O=>by
 subst V;have h:=S.sat O;have D:Sat c.w0 w (f e++big f (l.eraseIdx i)::F'):=by
  obtain ⟨j,Y,rfl⟩:=R.out;have Z:F.Perm (big f (l.eraseIdx i)::F.eraseIdx j):=sv Y;exact Sat.perm0 (Z.append_left (f e)) h
 exact k a w J (Sat.big_perm (BP e X).symm D.big_in)
def sy (l:List α)(e:α)(Pre:List aa)(V:f e=Pre)[S:Split L Pre F][R:Rem F (big f l) F'](k:G c K E (big f (l++ [e])::F')):G c K E L:=λa w J O=>by
 subst V;have h:=S.sat O;have D:Sat c.w0 w (f e++big f l::F'):=by
  obtain ⟨j,X,rfl⟩:=R.out;have Y:F.Perm (big f l::F.eraseIdx j):=sv X;exact Sat.perm0 (Y.append_left (f e)) h
 exact k a w J (Sat.big_perm (T0 (l₁:=[e]) (l₂:=l)) D.big_in)
def mJ (l l':List α)(h:l'.Sublist l)[R:Rem L (big f l) F](k:G c K E (big f l'::F)):G c K E L:=λa w J O=>by
 obtain ⟨m,S⟩:=h.exists_perm_append;have D:=(Sat.big_perm (S.trans T0) (R.sat O)).big;rw[List.flatMap_append,Sr] at D;exact k a w J (Sat.big_mk (Sat.dropAll D))
end
end Go.Sl
namespace Go.Proofs.YthdjckbjjfiopabGreatDoor
open _root_.Go.Proofs.Tryz
open Go.Sl Go.Proofs
structure DiskM where
 kept:List ab
 now:List ab
 wait:List (Nat×ab)
 fuse:Int
 down:Bool
def cH (l:List (Nat×ab)):List (List Value):=l.map λt=>[I t.1,ac t.2]
def IV (l:List (Nat×ab)):(cH l).length=l.length:=by simp[cH]
def ff (T TT b:Nat)(D:DiskM)(z:(Option Addr×Nat)×(Option Addr×Nat)×(Option Addr×Nat)):List aa:=
 [pt b (.cells #[sl z.1.1 D.kept.length z.1.2,sl z.2.1.1 D.now.length z.2.1.2,sl z.2.2.1 D.wait.length z.2.2.2,I D.fuse,Bo D.down] T (0,0)),ai 9 1 z.1.1 z.1.2 (aJ D.kept),ai 9 1 z.2.1.1 z.2.1.2 (aJ D.now),ai TT 2 z.2.2.1 z.2.2.2 (cH D.wait)]
def al (T TT b:Nat)(D:DiskM):aa:=hx (ff T TT b D)
def wv (D:DiskM):Int:=if D.down=true\/D.fuse=0 then 9 else 0
def wy (D:DiskM):DiskM:=if D.down=true then D else if D.fuse=0 then ⟨D.kept,D.now,D.wait, -1,true⟩ else ⟨D.kept,D.now,D.wait,if D.fuse - 1< -1 then -1 else D.fuse - 1,D.down⟩
def iC (D:DiskM)(n:Int):ab×Int:=if D.down=true then ([],9) else if n<0\/(D.now.length:Int)<=n then ([],1) else ((D.now[n.toNat]?).getD [],0)
def IW {D:DiskM}{n:Int}(h:D.down=true):iC D n=([],9):=by unfold iC;rw[RI h]
def IX {D:DiskM}{n:Int}(h:D.down=false)(J:n<0\/(D.now.length:Int)<=n):iC D n=([],1):=by unfold iC;rw[RJ (by simp[h]),RI J]
def sC {D:DiskM}{n:Int}{x:ab}(h:D.down=false)(J:¬(n<0\/(D.now.length:Int)<=n))(hx:D.now[n.toNat]? =some x):iC D n=(x,0):=by unfold iC;rw[RJ (by simp[h]),RJ J,hx];rfl
def vq {l:List ab}{k:Nat}{x:ab}(h:l[k]? =some x):(aJ l)[k]? =some [ac x]:=by simp[aJ,h]
def d8 (D:DiskM)(n:Int)(s:ab):Prop:=n<0\/(D.now.length:Int)<=n\/80<s.length
instance (D:DiskM)(n:Int)(s:ab):Decidable (d8 D n s):=by unfold d8;infer_instance
def wc (D:DiskM)(n:Int)(s:ab):Int:=if d8 D n s then 1 else wv D
def wP (D:DiskM)(n:Int)(s:ab):DiskM:=⟨D.kept,D.now.set n.toNat (yx s),D.wait++ [(n.toNat,yx s)],D.fuse,D.down⟩
def yH (D:DiskM)(n:Int)(s:ab):DiskM:=if d8 D n s then D else if wv D=0 then wP (wy D) n s else wy D
def wV (D:DiskM):(wy D).now=D.now:=by unfold wy;split;rfl;split <;> rfl
def wq (D:DiskM):(wy D).kept=D.kept:=by unfold wy;split;rfl;split <;> rfl
def wM (D:DiskM):(wy D).wait=D.wait:=by unfold wy;split;rfl;split <;> rfl
def IY (l:List ab)(j:Nat)(x y:ab):(aJ l).set j ([ac x].set 0 (ac y))=aJ (l.set j y):=by simp[aJ,T1]
def IZ (l:List (Nat×ab)){n:Int}(h:0<=n)(x:ab):cH l++ [[I n,ac x]]=cH (l++ [(n.toNat,x)]):=by simp[cH,SJ h]
def BQ (b:Nat)(D:DiskM)(X: -1<=D.fuse/\D.fuse<=9223372036854775807)(F:List aa):Ct Tryz.prog 238 [ptr b 0] (al 179 319 b (D)::F) (R1 (wm (wv D)) (al 179 319 b (wy D)::F)):=by
 refine Ct.of func238 rR 35 ntmps238 (by simp) λw0=>?_;refine fP (al 179 319 b (D)) rR ?_;rintro ⟨⟨J,c1⟩,⟨s2,c2⟩,⟨O,c3⟩⟩;show G _ _ _ (pt b (.cells #[sl J (D.kept).length c1,sl s2 (D.now).length c2,sl O (D.wait).length c3,I (D.fuse),Bo (D.down)] 179 (0,0))::ai 9 1 J c1 (aJ (D.kept))::ai 9 1 s2 c2 (aJ (D.now))::ai 319 2 O c3 (cH (D.wait))::F);refine gS (gQ rR (qb (gS (gM rR (gV (qa rR) (gF 4 PD rR Pv rR (gV (qu PO rR rR) (gV (wb rR) (gM rR (gK rR rR (qn rR) (gK rR rR (qa rR) (gK rR rR (qm 3 PD rR rR OH (by decide) rR) (gK rR rR (qu OI rR rR) (gK rR rR (yD rR rR) (gV (bT rR rR) (qc ?_))))))))))))))));refine qd rfl ?_ ?_ <;> intro R
 ·simp at R;obtain ⟨V,S⟩:=R;refine qo (gM rR (gM rR (gV (qa rR) (gF 4 PD rR Pv rR (gU (qG #[sl J (D.kept).length c1,sl s2 (D.now).length c2,sl O (D.wait).length c3,I (D.fuse),Bo (true)] Pv rR rR rR (by simp) rR) (gV (qa rR) (gF 3 PD rR OH rR (gU (qG #[sl J (D.kept).length c1,sl s2 (D.now).length c2,sl O (D.wait).length c3,I (-1),Bo (true)] OH rR rR rR (by simp) rR) (qc (qb (gS (gM rR (gV (qa rR) (gF 4 PD rR Pv rR (gV (qu PO rR rR) (qc ?_))))))))))))))));refine qd rfl ?_ ?_ <;> intro h
  ·refine gS (gV (qP OY rR rR) (gQ rR ?_));refine eU (A:=ff 179 319 b ⟨D.kept,D.now,D.wait, -1,true⟩) [pt b (.cells #[sl J (D.kept).length c1,sl s2 (D.now).length c2,sl O (D.wait).length c3,I (-1),Bo (true)] 179 (0,0)),ai 9 1 J c1 (aJ (D.kept)),ai 9 1 s2 c2 (aJ (D.now)),ai 319 2 O c3 (cH (D.wait))] (al 179 319 b (⟨D.kept,D.now,D.wait, -1,true⟩)) ((J,c1),(s2,c2),(O,c3)) rR rR ?_;rw[show (⟨D.kept,D.now,D.wait, -1,true⟩:DiskM)=wy D by simp[wy,V,S]];exact ql rfl rfl (by rw[show wv D=9 by simp[wv,S]];rfl)
  ·cases h
 ·simp at R;refine qf (qb (gS (gM rR (gV (qa rR) (gF 4 PD rR Pv rR (gV (qu PO rR rR) (qc ?_)))))));refine qd rfl ?_ ?_ <;> intro h
  ·refine gS (gV (qP OY rR rR) (gQ rR ?_));refine eU (A:=ff 179 319 b ⟨D.kept,D.now,D.wait,D.fuse,D.down⟩) [pt b (.cells #[sl J (D.kept).length c1,sl s2 (D.now).length c2,sl O (D.wait).length c3,I (D.fuse),Bo (D.down)] 179 (0,0)),ai 9 1 J c1 (aJ (D.kept)),ai 9 1 s2 c2 (aJ (D.now)),ai 319 2 O c3 (cH (D.wait))] (al 179 319 b (⟨D.kept,D.now,D.wait,D.fuse,D.down⟩)) ((J,c1),(s2,c2),(O,c3)) rR rR ?_;rw[show (⟨D.kept,D.now,D.wait,D.fuse,D.down⟩:DiskM)=wy D by unfold wy;rw[RI h]];exact ql rfl rfl (by rw[show wv D=9 by simp[wv,h]];rfl)
  ·refine qf (gS (gM rR (gM rR (gV (qa rR) (gF 3 PD rR OH rR (gV (qu OI rR rR) (gV (cZ rR rR (ao (by omega))) (gV (rQ rR rR) (gV (qa rR) (gF 3 PD rR OH rR (gU (qG #[sl J (D.kept).length c1,sl s2 (D.now).length c2,sl O (D.wait).length c3,I (if D.fuse - 1< -1 then -1 else D.fuse - 1),Bo (D.down)] OH rR rR rR (by simp) rR) (qc (gS (gQ rR ?_))))))))))))));refine eU (A:=ff 179 319 b ⟨D.kept,D.now,D.wait,if D.fuse - 1< -1 then -1 else D.fuse - 1,D.down⟩) [pt b (.cells #[sl J (D.kept).length c1,sl s2 (D.now).length c2,sl O (D.wait).length c3,I (if D.fuse - 1< -1 then -1 else D.fuse - 1),Bo (D.down)] 179 (0,0)),ai 9 1 J c1 (aJ (D.kept)),ai 9 1 s2 c2 (aJ (D.now)),ai 319 2 O c3 (cH (D.wait))] (al 179 319 b (⟨D.kept,D.now,D.wait,if D.fuse - 1< -1 then -1 else D.fuse - 1,D.down⟩)) ((J,c1),(s2,c2),(O,c3)) rR rR ?_;rw[show (⟨D.kept,D.now,D.wait,if D.fuse - 1< -1 then -1 else D.fuse - 1,D.down⟩:DiskM)=wy D by simp[wy,h,R h]];exact ql rfl rfl (by rw[show wv D=0 by simp[wv,h,R h]];rfl)
def wn (b:Nat)(D:DiskM)(F:List aa):Ct Tryz.prog 112 [ptr b 0] (al 179 319 b (D)::F) (R1 (I D.now.length) (al 179 319 b (D)::F)):=by
 refine Ct.of func112 rR 8 ntmps112 (by simp) λw0=>?_;refine fP (al 179 319 b (D)) rR ?_;rintro ⟨⟨h,c1⟩,⟨s2,c2⟩,⟨J,c3⟩⟩;show G _ _ _ (pt b (.cells #[sl h (D.kept).length c1,sl s2 (D.now).length c2,sl J (D.wait).length c3,I (D.fuse),Bo (D.down)] 179 (0,0))::ai 9 1 h c1 (aJ (D.kept))::ai 9 1 s2 c2 (aJ (D.now))::ai 319 2 J c3 (cH (D.wait))::F);refine gS (gQ rR (gS (gM rR (gV (qa rR) (gF 1 PD rR Qe rR (gV (qu Qj rR rR) (gV (qY PL rR) (gQ rR ?_))))))));refine eU (A:=ff 179 319 b ⟨D.kept,D.now,D.wait,D.fuse,D.down⟩) [pt b (.cells #[sl h (D.kept).length c1,sl s2 (D.now).length c2,sl J (D.wait).length c3,I (D.fuse),Bo (D.down)] 179 (0,0)),ai 9 1 h c1 (aJ (D.kept)),ai 9 1 s2 c2 (aJ (D.now)),ai 319 2 J c3 (cH (D.wait))] (al 179 319 b (⟨D.kept,D.now,D.wait,D.fuse,D.down⟩)) ((h,c1),(s2,c2),(J,c3)) rR rR ?_;show G _ _ _ (al 179 319 b (D)::F);exact ql rfl rfl rfl
def BR (b:Nat)(D:DiskM)(F:List aa):Ct Tryz.prog 111 [ptr b 0] (al 179 319 b (D)::F) (R1 (Bo D.down) (al 179 319 b (D)::F)):=by
 refine Ct.of func111 rR 7 ntmps111 (by simp) λw0=>?_;refine fP (al 179 319 b (D)) rR ?_;rintro ⟨⟨h,c1⟩,⟨s2,c2⟩,⟨J,c3⟩⟩;show G _ _ _ (pt b (.cells #[sl h (D.kept).length c1,sl s2 (D.now).length c2,sl J (D.wait).length c3,I (D.fuse),Bo (D.down)] 179 (0,0))::ai 9 1 h c1 (aJ (D.kept))::ai 9 1 s2 c2 (aJ (D.now))::ai 319 2 J c3 (cH (D.wait))::F);refine gS (gQ rR (gS (gM rR (gV (qa rR) (gF 4 PD rR Pv rR (gV (qu PO rR rR) (gQ rR ?_)))))));refine eU (A:=ff 179 319 b ⟨D.kept,D.now,D.wait,D.fuse,D.down⟩) [pt b (.cells #[sl h (D.kept).length c1,sl s2 (D.now).length c2,sl J (D.wait).length c3,I (D.fuse),Bo (D.down)] 179 (0,0)),ai 9 1 h c1 (aJ (D.kept)),ai 9 1 s2 c2 (aJ (D.now)),ai 319 2 J c3 (cH (D.wait))] (al 179 319 b (⟨D.kept,D.now,D.wait,D.fuse,D.down⟩)) ((h,c1),(s2,c2),(J,c3)) rR rR ?_;show G _ _ _ (al 179 319 b (D)::F);exact ql rfl rfl rfl
def vr (b:Nat)(D:DiskM)(n:Int)(F:List aa):Ct Tryz.prog 113 [ptr b 0,I n] (al 179 319 b (D)::F) (R1 (.tuple #[ac (iC D n).1,wm (iC D n).2]) (al 179 319 b (D)::F)):=by
 refine Ct.of func113 rR 30 ntmps113 (by simp) λw0=>?_;refine fP (al 179 319 b (D)) rR ?_;rintro ⟨⟨h,c1⟩,⟨s2,c2⟩,⟨J,c3⟩⟩;show G _ _ _ (pt b (.cells #[sl h (D.kept).length c1,sl s2 (D.now).length c2,sl J (D.wait).length c3,I (D.fuse),Bo (D.down)] 179 (0,0))::ai 9 1 h c1 (aJ (D.kept))::ai 9 1 s2 c2 (aJ (D.now))::ai 319 2 J c3 (cH (D.wait))::F);refine gS (gA rR (gQ rR (qb (gS (gM rR (gV (qa rR) (gF 4 PD rR Pv rR (gV (qu PO rR rR) (qc ?_)))))))));refine qd rfl ?_ ?_ <;> intro X
 ·refine gS (gV (qP OY rR rR) (gA rR (gQ rR ?_)));refine eU (A:=ff 179 319 b ⟨D.kept,D.now,D.wait,D.fuse,D.down⟩) [pt b (.cells #[sl h (D.kept).length c1,sl s2 (D.now).length c2,sl J (D.wait).length c3,I (D.fuse),Bo (D.down)] 179 (0,0)),ai 9 1 h c1 (aJ (D.kept)),ai 9 1 s2 c2 (aJ (D.now)),ai 319 2 J c3 (cH (D.wait))] (al 179 319 b (⟨D.kept,D.now,D.wait,D.fuse,D.down⟩)) ((h,c1),(s2,c2),(J,c3)) rR rR ?_;show G _ _ _ (al 179 319 b (D)::F);exact ql rfl rfl (by rw[IW X];rfl)
 ·refine qf (qb (gS (gM rR (gV (qH rR rR) (gM rR (gK rR rR (qn rR) (gK rR rR (qn rR) (gK rR rR (qa rR) (gK rR rR (qm 1 PD rR rR Qe (by decide) rR) (gK rR rR (qu Qj rR rR) (gK rR rR (qY PL rR) (gK rR rR (jt rR rR) (gV (aD rR rR) (qc ?_))))))))))))));refine qd rfl ?_ ?_ <;> intro O
  ·simp at O;refine gS (gV (qP OY rR rR) (gA rR (gQ rR ?_)));refine eU (A:=ff 179 319 b ⟨D.kept,D.now,D.wait,D.fuse,D.down⟩) [pt b (.cells #[sl h (D.kept).length c1,sl s2 (D.now).length c2,sl J (D.wait).length c3,I (D.fuse),Bo (D.down)] 179 (0,0)),ai 9 1 h c1 (aJ (D.kept)),ai 9 1 s2 c2 (aJ (D.now)),ai 319 2 J c3 (cH (D.wait))] (al 179 319 b (⟨D.kept,D.now,D.wait,D.fuse,D.down⟩)) ((h,c1),(s2,c2),(J,c3)) rR rR ?_;show G _ _ _ (al 179 319 b (D)::F);exact ql rfl rfl (by rw[IX X (by omega)];rfl)
  ·simp at O;have Y:¬(n<0\/(D.now.length:Int)<=n):=(by omega);obtain ⟨x,hx⟩:∃x,D.now[n.toNat]? =some x:=⟨_,S6 (by omega)⟩;have V:=vq hx;have R:n.toNat<D.now.length:=(by omega);have S:n.toNat<(aJ D.now).length:=(by rw[r6];exact R);refine qf (gS (gM rR (gV (qa rR) (gF 1 PD rR Qe rR (gV (qu Qj rR rR) (gM rR (gV (qv n.toNat PL ON rR rR (by omega) R S) (gV (qM OQ rR V rR) (gA rR (gQ rR ?_))))))))));refine eU (A:=ff 179 319 b ⟨D.kept,D.now,D.wait,D.fuse,D.down⟩) [pt b (.cells #[sl h (D.kept).length c1,sl s2 (D.now).length c2,sl J (D.wait).length c3,I (D.fuse),Bo (D.down)] 179 (0,0)),ai 9 1 h c1 (aJ (D.kept)),ai 9 1 s2 c2 (aJ (D.now)),ai 319 2 J c3 (cH (D.wait))] (al 179 319 b (⟨D.kept,D.now,D.wait,D.fuse,D.down⟩)) ((h,c1),(s2,c2),(J,c3)) rR rR ?_;show G _ _ _ (al 179 319 b (D)::F);exact ql rfl rfl (by rw[sC X Y hx];rfl)
-- (*counterfoil/counterfoilref.Disk).Read is not in this seat
-- (*counterfoil/counterfoilref.Disk).step is not in this seat
def wO (b:Nat)(D:DiskM)(n:Int)(s:ab)(hf: -1<=D.fuse/\D.fuse<=9223372036854775807)(hw:D.wait.length<=1000000)(F:List aa):Ct Tryz.prog 175 [ptr b 0,I n,ac s] (al 179 319 b (D)::F) (R1 (wm (wc D n s)) (al 179 319 b (yH D n s)::F)):=by
 refine Ct.of func175 rR 56 ntmps175 (by simp) λw0=>?_;refine fP (al 179 319 b (D)) rR ?_;rintro ⟨⟨J,c1⟩,⟨s2,c2⟩,⟨O,c3⟩⟩;show G _ _ _ (pt b (.cells #[sl J (D.kept).length c1,sl s2 (D.now).length c2,sl O (D.wait).length c3,I (D.fuse),Bo (D.down)] 179 (0,0))::ai 9 1 J c1 (aJ (D.kept))::ai 9 1 s2 c2 (aJ (D.now))::ai 319 2 O c3 (cH (D.wait))::F);refine gS (gQ rR (qb (gS (gM rR (gV (qH rR rR) (gM rR (gK rR rR (qn rR) (gK rR rR (qn rR) (gK rR rR (qa rR) (gK rR rR (qm 1 PD rR rR Qe (by decide) rR) (gK rR rR (qu Qj rR rR) (gK rR rR (qY PL rR) (gK rR rR (jt rR rR) (gV (aD rR rR) (gM rR (gK rR rR (qn rR) (gK rR rR (yZ OM rR) (gK rR rR (qX rR rR) (gV (aD rR rR) (qc ?_))))))))))))))))))));refine qd rfl ?_ ?_ <;> intro Y
 ·simp at Y;have h:d8 D n s:=(by unfold d8;omega);refine gS (gV (qP OY rR rR) (gQ rR ?_));refine eU (A:=ff 179 319 b ⟨D.kept,D.now,D.wait,D.fuse,D.down⟩) [pt b (.cells #[sl J (D.kept).length c1,sl s2 (D.now).length c2,sl O (D.wait).length c3,I (D.fuse),Bo (D.down)] 179 (0,0)),ai 9 1 J c1 (aJ (D.kept)),ai 9 1 s2 c2 (aJ (D.now)),ai 319 2 O c3 (cH (D.wait))] (al 179 319 b (⟨D.kept,D.now,D.wait,D.fuse,D.down⟩)) ((J,c1),(s2,c2),(O,c3)) rR rR ?_;show G _ _ _ (al 179 319 b (D)::F);have eD:yH D n s=D:=(by unfold yH;rw[RI h]);rw[show al 179 319 b (D)=al 179 319 b (yH D n s) by rw[eD]];exact ql rfl rfl (by rw[show wc D n s=1 by unfold wc;rw[RI h]];rfl)
 ·simp at Y;have h:¬d8 D n s:=(by unfold d8;omega);refine qf (gS (gM rR ?_));refine eU (A:=ff 179 319 b ⟨D.kept,D.now,D.wait,D.fuse,D.down⟩) [pt b (.cells #[sl J (D.kept).length c1,sl s2 (D.now).length c2,sl O (D.wait).length c3,I (D.fuse),Bo (D.down)] 179 (0,0)),ai 9 1 J c1 (aJ (D.kept)),ai 9 1 s2 c2 (aJ (D.now)),ai 319 2 O c3 (cH (D.wait))] (al 179 319 b (⟨D.kept,D.now,D.wait,D.fuse,D.down⟩)) ((J,c1),(s2,c2),(O,c3)) rR rR ?_;show G _ _ _ (al 179 319 b (D)::F);refine gR (vB call238 rR (BQ b D hf)) ?_;have hnow:=wV D;have hwait:=wM D;generalize hD1:wy D=D1 at*;refine gQ rR (qb (gS (gM rR (gV (eA OT rR) (qc ?_)))));refine qd rfl ?_ ?_ <;> intro V
  ·simp at V;have Z:wv D=0:=V;refine fP (al 179 319 b (D1)) rR ?_;rintro ⟨⟨J,c1⟩,⟨s2,c2⟩,⟨O,c3⟩⟩;show G _ _ _ (pt b (.cells #[sl J (D1.kept).length c1,sl s2 (D1.now).length c2,sl O (D1.wait).length c3,I (D1.fuse),Bo (D1.down)] 179 (0,0))::ai 9 1 J c1 (aJ (D1.kept))::ai 9 1 s2 c2 (aJ (D1.now))::ai 319 2 O c3 (cH (D1.wait))::F);rw[<-hnow] at Y;rw[<-hwait] at hw;obtain ⟨x,hx⟩:∃x,D1.now[n.toNat]? =some x:=⟨_,S6 (by omega)⟩;have hrow:=vq hx;have R:n.toNat<D1.now.length:=(by omega);have hlt2:n.toNat<(aJ D1.now).length:=(by rw[r6];exact R);have hy:(D1.now.set n.toNat (yx s))[n.toNat]? =some (yx s):=(by simp[R]);have hrow2:=vq hy;refine qb ?_;refine fm (Lf:=pt b (.cells #[sl J (D1.kept).length c1,sl s2 (D1.now).length c2,sl O (D1.wait).length c3,I (D1.fuse),Bo (D1.down)] 179 (0,0))::ai 9 1 s2 c2 (aJ (D1.now))::F) jC 8 rR (by kernel_rfl) (by kernel_rfl) rR (by kernel_rfl) (by kernel_rfl) ?_;refine dM rR rR rR (dV rR (qa rR) (dF rR 1 PD rR Qe rR (dV rR (qu Qj rR rR) (dM rR rR rR (dM rR rR rR (av rR (uA call100 rR (Bn s (by omega))) rR ?_))))));rintro _ _ ⟨rfl,rfl⟩;refine dV rR (qv n.toNat PL ON rR rR (by omega) R hlt2) ?_;refine qI ?_;refine cl (HF (row:=[ac x]) ON rR rR rR hrow (by decide)) ?_;rintro _ _ rfl;rw[IY];refine qc ?_;refine fm (Lf:=pt b (.cells #[sl J (D1.kept).length c1,sl s2 (D1.now).length c2,sl O (D1.wait).length c3,I (D1.fuse),Bo (D1.down)] 179 (0,0))::ai 9 1 s2 c2 (aJ (D1.now.set n.toNat (yx s)))::F) [(0,false),(1,false),(2,false),(3,false),(4,false),(5,false),(6,false),(7,false),(8,false),(9,false),(10,false),(11,false),(12,false),(13,false),(14,true),(15,true),(16,false),(17,false)] 18 rR (by kernel_rfl) (by kernel_rfl) rR (by kernel_rfl) (by kernel_rfl) ?_;refine dM rR rR rR (dM rR rR rR (dV rR (qa rR) (dF rR 2 PD rR Qz rR (dV rR (qu isAgg177 rR rR) (dM rR rR rR (dM rR rR rR (dV rR (qa rR) (dF rR 1 PD rR Qe rR (dV rR (qu Qj rR rR) (dM rR rR rR (dV rR (qv n.toNat PL ON rR rR (by omega) R (by rw[r6,T2];exact R)) (dV rR (qM OQ rR hrow2 rR) (dV rR (qF rR (Hu _ rR _ rR)) (av rR (qj [[I n,ac (yx s)]] underlying177 sizeOf319 QT rR rR rR (by simp) (by decide) (by decide)) rR ?_))))))))))))));rintro _ _ ⟨b51,rfl,rfl⟩;refine av rR (qN underlying177 sizeOf319 QT rR Tryz.typeInfo319 (by decide) rR rR (IV _) rR (by simp) (by simp[ones,one]) ⟨by omega,by decide,by decide⟩) rR ?_;rintro _ _ ⟨X,S,rfl,rfl⟩;rw[IZ _ (by omega)];refine dV rR (qa rR) (dF rR 2 PD rR Qz rR ?_);refine qI ?_
   refine gU (qG #[sl J (D1.kept).length c1,sl s2 (D1.now).length c2,sl X (D1.wait.length+1) S,I (D1.fuse),Bo (D1.down)] Qz rR rR rR (by simp) rR) (qc (gS (gM rR (gQ rR ?_))));refine eU (A:=ff 179 319 b (wP D1 n s)) [pt b (.cells #[sl J (D1.kept).length c1,sl s2 (D1.now).length c2,sl X (D1.wait.length+1) S,I (D1.fuse),Bo (D1.down)] 179 (0,0)),ai 9 1 J c1 (aJ (D1.kept)),ai 9 1 s2 c2 (aJ (D1.now.set n.toNat (yx s))),ai 319 2 X S (cH (D1.wait++ [(n.toNat,yx s)]))] (al 179 319 b (wP D1 n s)) ((J,c1),(s2,c2),(X,S)) rR (by simp[ff,wP]) ?_;rw[show wP D1 n s=yH D n s by unfold yH;rw[RJ h,RI Z,hD1]];exact ql rfl rfl (by rw[show wc D n s=wv D by unfold wc;rw[RJ h]];rfl)
  ·simp at V;have Z:¬wv D=0:=V;refine qf (gS (gM rR (gQ rR ?_)));rw[show D1=yH D n s by unfold yH;rw[RJ h,RJ Z,hD1]];exact ql rfl rfl (by rw[show wc D n s=wv D by unfold wc;rw[RJ h]];rfl)
def iD (D:DiskM):DiskM:=⟨D.now,D.now,[],D.fuse,D.down⟩
def yJ (D:DiskM):DiskM:=if wv D=0 then iD (wy D) else wy D
def I0 {r1 r2:List ab}(h:r1.length=r2.length):(aJ r1).take 0++((aJ r2).drop 0).take (Nat.min r2.length r1.length)++(aJ r1).drop (0+Nat.min r2.length r1.length)=aJ r2:=by
 have e:Nat.min r2.length r1.length=r2.length:=Sw (by omega);rw[e,Sa,SX,T3,SK,T4 (by simp[aJ]),T5 (by simp[aJ];omega),T6]
def I2 (D:DiskM):wv D=0\/wv D=9:=by unfold wv;split <;> simp
-- counterfoil/counterfoilref.noughts is not in this seat
-- (*counterfoil/counterfoilref.Disk).Write is not in this seat
def mK (b:Nat)(D:DiskM)(Z: -1<=D.fuse/\D.fuse<=9223372036854775807)(X:D.kept.length=D.now.length)(hn:D.now.length<=1000000)(F:List aa):Ct Tryz.prog 176 [ptr b 0] (al 179 319 b (D)::F) (R1 (wm (wv D)) (al 179 319 b (yJ D)::F)):=by
 refine Ct.of func176 rR 21 ntmps176 (by simp) λw0=>?_;refine gS (gQ rR (gS (gM rR (gR (vB call238 rR (BQ b D Z)) ?_))));have O:=wV D;have R:=wq D;have hsc:=I2 D;generalize S:wy D=D1 at*;rw[<-O,<-R] at X;rw[<-O] at hn;refine gQ rR (qb (gS (gM rR (gV (eA OT rR) (qc ?_)))));refine qd rfl ?_ ?_ <;> intro V
 ·simp at V;have h:wv D=0:=V;refine fP (al 179 319 b (D1)) rR ?_;rintro ⟨⟨J,c1⟩,⟨s2,c2⟩,⟨Y,c3⟩⟩;show G _ _ _ (pt b (.cells #[sl J (D1.kept).length c1,sl s2 (D1.now).length c2,sl Y (D1.wait).length c3,I (D1.fuse),Bo (D1.down)] 179 (0,0))::ai 9 1 J c1 (aJ (D1.kept))::ai 9 1 s2 c2 (aJ (D1.now))::ai 319 2 Y c3 (cH (D1.wait))::F);refine qb ?_;refine yO (Lf:=pt b (.cells #[sl J (D1.kept).length c1,sl s2 (D1.now).length c2,sl Y (D1.wait).length c3,I (D1.fuse),Bo (D1.down)] 179 (0,0))::F) jH (by kernel_rfl) (by kernel_rfl) rR (by kernel_rfl) ?_;refine dM rR rR rR (dV rR (qa rR) (dF rR 0 PD rR Qe rR (dV rR (qu Qj rR rR) (dM rR rR rR (dV rR (qa rR) (dF rR 1 PD rR Qe rR (dV rR (qu Qj rR rR) (av rR (mA (s:=J) (s2:=s2) (l:=0) (p:=0) PL ON (by decide) rR rR (.inl ⟨rfl,rfl⟩) (.inl ⟨rfl,rfl⟩) (by simp[aJ]) (by simp[aJ]) (by simp[aJ]) (by simp[aJ,ones,one])) rR ?_))))))));rintro _ _ ⟨rfl,rfl⟩;refine gg J (aJ D1.now) (I0 X) ?_;refine qI ?_;refine qo (gM rR (gV (qa rR) (gF 2 PD rR Qz rR (gU (qG #[sl J (D1.kept).length c1,sl s2 (D1.now).length c2,sl none 0 0,I (D1.fuse),Bo (D1.down)] Qz rR rR rR (by simp) rR) (qc ?_)))));refine yi 319 2 (cH []) rR ?_;refine qb ?_;skip;refine qo (gM rR (gQ rR ?_));refine eU (A:=ff 179 319 b (iD D1)) [pt b (.cells #[sl J (D1.kept).length c1,sl s2 (D1.now).length c2,sl none 0 0,I (D1.fuse),Bo (D1.down)] 179 (0,0)),ai 9 1 J c1 (aJ D1.now),ai 9 1 s2 c2 (aJ D1.now),ai 319 2 none 0 (cH [])] (al 179 319 b (iD D1)) ((J,c1),(s2,c2),(none,0)) rR (by simp[ff,iD,X]) ?_;rw[show iD D1=yJ D by unfold yJ;rw[RI h,S]];exact ql rfl rfl (by rw[h];rfl)
 ·simp at V;have h:¬wv D=0:=V;refine qf (qb ?_);skip;refine qo (gM rR (gQ rR ?_));rw[show D1=yJ D by unfold yJ;rw[RJ h,S]];exact ql rfl rfl rfl
-- (*counterfoil/counterfoilref.Disk).Flush is not in this seat
def aS (c:ChangeM):Int:=if c.key=[]\/(c.gone=true/\c.val≠ []) then 3 else if 8<c.key.length\/48<c.val.length then 2 else 0
def vt (c:ChangeM):0<=aS c:=by unfold aS;split;simp;split <;> simp
def mL {c:ChangeM}(h:aS c=0):c.key≠ []/\(c.gone=true->c.val=[])/\c.key.length<=8/\c.val.length<=48:=by
 unfold aS at h;split at h
 ·cases h
 ·rename_i D;split at h
  ·cases h
  ·exact ⟨λO=>D (.inl O),λJ=>Decidable.byContradiction λR=>D (.inr ⟨J,R⟩),by omega,by omega⟩
def gj (c:ChangeM):ab:=[if c.gone then 1 else 0,UInt8.ofNat c.key.length]
def eW (c:ChangeM):ab:=gj c++c.key++c.val
def kN (c:ChangeM):ab×Int:=if aS c=0 then (eW c,0) else ([],aS c)
def d9:ChangeM:=⟨[],[],false⟩
def fg (x0 x1:UInt8)(r:ab):ChangeM:=⟨r.take x1.toNat,r.drop x1.toNat,decide ((x0.toNat:Int)=1)⟩
def cI:ab->ChangeM×Int
 | x0::x1::r=>if 1<x0.toNat\/r.length<x1.toNat then (d9,4) else if aS (fg x0 x1 r)=0 then (fg x0 x1 r,0) else (d9,4)
 | _=>(d9,4)
def sE (h D:UInt8)(r:ab):cI (h::D::r)=if 1<h.toNat\/r.length<D.toNat then (d9,4) else if aS (fg h D r)=0 then (fg h D r,0) else (d9,4):=rfl
def BS {c:ChangeM}(h:c.key.length<=8):[[By (if c.gone then 1 else 0)],[By (c.key.length:Int)]]=qq (gj c):=by
 have e:(UInt8.ofNat c.key.length).toNat=c.key.length:=(by rw[UInt8.toNat_ofNat'];omega);unfold qq gj;rw[Rv,Rv,RC,e];cases c.gone <;> rfl
def vu (w:World):(Instr.build 174 #[]).run Tryz.prog w= .ok (.agg (ym d9).toArray) w:=by
 simp[Instr.build,OR,Qy,Pv,ON,Instr.fill,qW,ym,d9]
def I3 {s:ab}(h:¬s.length<2):∃D J r,s=D::J::r:=by
 match s,h with
 | D::J::r,_=>exact ⟨D,J,r,rfl⟩
 | [x],h=>simp at h
 | [],h=>simp at h
def oh (c:ChangeM)(F:List aa):Ct Tryz.prog 178 [.agg (ym c).toArray] (F) (R1 (wm (aS c)) F):=by
 refine Ct.of func178 rR 27 ntmps178 (by simp) λw0=>?_;refine gS (gI (wR (ym c).toArray rR rR) ?_);rintro _ _ ⟨b1,rfl,rfl⟩;refine gQ rR (qb (gS (gF 0 OS rR ON rR (gL (ac c.key) OQ rR (gV (wl rR rR) (gM rR ?_))))));by_cases O:c.key=[]
 ·refine yL rR rR (by rw[S8 O];rfl) rR (yL rR rR (by rw[S8 O];rfl) rR (yL rR rR (by rw[S8 O];rfl) rR (yL rR rR rR rR (yL rR rR rR rR (yL rR rR rR rR (yL rR rR (by rw[S8 O];rfl) rR (gV (cw rR (S8 O) rR) (qc ?_))))))));refine qd rfl ?_ ?_ <;> intro J
  ·refine gS (gV (qP OY rR rR) (gQ rR ?_));refine ql rR rR ?_;show _=wm _;rw[show aS c=3 by unfold aS;rw[RI (.inl O)]]
   rfl
  ·exact absurd J (by simp)
 ·refine yc rR rR (S5 O) (qm 2 OS rR rR Pv (by decide) rR) rR (yc rR rR (S5 O) (qu (v:=Bo c.gone) PO rR rR) rR (yc rR rR (S5 O) (qn rR) rR (gK rR rR (qm 1 OS rR rR ON (by decide) rR) (gK rR rR (qu (v:=ac c.val) OQ rR rR) (gK rR rR (iu rR rR) (yc rR rR (S5 O) (bT rR rR) rR (gV (aD rR rR) (qc ?_))))))));refine qd rfl ?_ ?_ <;> intro J
  ·simp at J;have D:c.gone=true/\c.val≠ []:=(by rcases J with h | h;exact absurd h O;exact h);refine gS (gV (qP OY rR rR) (gQ rR ?_));refine ql rR rR ?_;show _=wm _;rw[show aS c=3 by unfold aS;rw[RI (.inr D)]]
   rfl
  ·simp at J;have D:¬(c.key=[]\/(c.gone=true/\c.val≠ [])):=λS=>(by rcases S with h | h;exact O h;exact h.2 (J.2 h.1));refine qf (qb (gS (gF 0 OS rR ON rR (gL (ac c.key) OQ rR (gV (yZ OM rR) (gV (qX rR rR) (gM rR (gK rR rR (qm 1 OS rR rR ON (by decide) rR) (gK rR rR (qu (v:=ac c.val) OQ rR rR) (gK rR rR (yZ OM rR) (gK rR rR (qX rR rR) (gV (aD rR rR) (qc ?_)))))))))))));refine qd rfl ?_ ?_ <;> intro R
   ·simp at R;refine gS (gV (qP OY rR rR) (gQ rR ?_));refine ql rR rR ?_;show _=wm _;rw[show aS c=2 by unfold aS;rw[RJ D,RI (by omega)]]
    rfl
   ·simp at R;refine qf (gS (gQ rR ?_));refine ql rR rR ?_;show _=wm _;rw[show aS c=0 by unfold aS;rw[RJ D,RJ (by omega)]]
    rfl
def I4 (c:ChangeM)(F:List aa):Ct Tryz.prog 106 [.agg (ym c).toArray] (F) (R1 (I (aS c)) F):=by
 refine Ct.of func106 rR 25 ntmps106 (by simp) λw0=>?_;refine gS (gI (wR (ym c).toArray rR rR) ?_);rintro _ _ ⟨b1,rfl,rfl⟩;refine gQ rR (qb (gS (gF 0 OS rR ON rR (gL (ac c.key) OQ rR (gV (wl rR rR) (gM rR ?_))))));by_cases O:c.key=[]
 ·refine yL rR rR (by rw[S8 O];rfl) rR (yL rR rR (by rw[S8 O];rfl) rR (yL rR rR (by rw[S8 O];rfl) rR (yL rR rR rR rR (yL rR rR rR rR (yL rR rR rR rR (yL rR rR (by rw[S8 O];rfl) rR (gV (cw rR (S8 O) rR) (qc ?_))))))));refine qd rfl ?_ ?_ <;> intro J
  ·refine gS (gQ rR ?_);refine ql rR rR ?_;show _=I _;rw[show aS c=3 by unfold aS;rw[RI (.inl O)]]
   rfl
  ·exact absurd J (by simp)
 ·refine yc rR rR (S5 O) (qm 2 OS rR rR Pv (by decide) rR) rR (yc rR rR (S5 O) (qu (v:=Bo c.gone) PO rR rR) rR (yc rR rR (S5 O) (qn rR) rR (gK rR rR (qm 1 OS rR rR ON (by decide) rR) (gK rR rR (qu (v:=ac c.val) OQ rR rR) (gK rR rR (iu rR rR) (yc rR rR (S5 O) (bT rR rR) rR (gV (aD rR rR) (qc ?_))))))));refine qd rfl ?_ ?_ <;> intro J
  ·simp at J;have D:c.gone=true/\c.val≠ []:=(by rcases J with h | h;exact absurd h O;exact h);refine gS (gQ rR ?_);refine ql rR rR ?_;show _=I _;rw[show aS c=3 by unfold aS;rw[RI (.inr D)]]
   rfl
  ·simp at J;have D:¬(c.key=[]\/(c.gone=true/\c.val≠ [])):=λS=>(by rcases S with h | h;exact O h;exact h.2 (J.2 h.1));refine qf (qb (gS (gF 0 OS rR ON rR (gL (ac c.key) OQ rR (gV (yZ OM rR) (gV (qX rR rR) (gM rR (gK rR rR (qm 1 OS rR rR ON (by decide) rR) (gK rR rR (qu (v:=ac c.val) OQ rR rR) (gK rR rR (yZ OM rR) (gK rR rR (qX rR rR) (gV (aD rR rR) (qc ?_)))))))))))));refine qd rfl ?_ ?_ <;> intro R
   ·simp at R;refine gS (gQ rR ?_);refine ql rR rR ?_;show _=I _;rw[show aS c=2 by unfold aS;rw[RJ D,RI (by omega)]]
    rfl
   ·simp at R;refine qf (gS (gQ rR ?_));refine ql rR rR ?_;show _=I _;rw[show aS c=0 by unfold aS;rw[RJ D,RJ (by omega)]]
    rfl
def I5 (c:ChangeM)(F:List aa):Ct Tryz.prog 267 [.agg (ym c).toArray] (F) (R1 (.tuple #[ac (kN c).1,wm (kN c).2]) F):=by
 refine Ct.of func267 rR 26 ntmps267 (by simp) λw0=>?_;refine gS (gI (wR (ym c).toArray rR rR) ?_);rintro _ _ ⟨b1,rfl,rfl⟩;refine gA rR (gQ rR (gS (gV (qJ (vs:=ym (c)) O4 OJ rR rR qQ) (gR (vA call178 rR (oh c)) (gQ rR (qb (gS (gM rR (gV (yP OT rR) (qc ?_))))))))));refine qd rfl ?_ ?_ <;> intro V
 ·simp at V;have O:kN c=([],aS c):=(by unfold kN;rw[RJ (by omega)]);refine gS (gM rR (gA rR (gQ rR ?_)));exact ql rfl rfl (by rw[O];rfl)
 ·simp at V;have S:aS c=0:=(by have:=vt c;omega);have O:kN c=(eW c,0):=(by unfold kN;rw[RI S]);obtain ⟨_,_,D,X⟩:=mL S;refine qf (gS (gQ rR (qb (gS (gF 2 OS rR Pv rR (gL (Bo c.gone) PO rR (qc ?_)))))));refine qd rfl ?_ ?_ <;> intro h
  ·refine qo (gQ rR (gS (gM rR (gF 0 OS rR ON rR (gL (ac c.key) OQ rR (gV (yZ OM rR) (gV (yS OL OU rR (w8 (by omega))) (gI (qj (qq (gj c)) OW Pi Pu rR rR (by have J:=BS D;rw[h] at J;exact J) (by simp[qq]) (by decide) (by decide)) ?_))))))));rintro _ _ ⟨R,rfl,rfl⟩;refine gV (yg (l:=gj c) OW OU OM rR rR rR) (gF 0 OS rR ON rR (gL (ac c.key) OQ rR (gV (wj rR rR (by simp[gj];omega)) (gF 1 OS rR ON rR (gL (ac c.val) OQ rR (gV (wj rR rR (by simp[gj];omega)) (gA rR (gQ rR ?_))))))));exact ql rfl rfl (by rw[O];rfl)
  ·refine qf (gS (gM rR (gF 0 OS rR ON rR (gL (ac c.key) OQ rR (gV (yZ OM rR) (gV (yS OL OU rR (w8 (by omega))) (gI (qj (qq (gj c)) OW Pi Pu rR rR (by have J:=BS D;rw[h] at J;exact J) (by simp[qq]) (by decide) (by decide)) ?_)))))));rintro _ _ ⟨R,rfl,rfl⟩;refine gV (yg (l:=gj c) OW OU OM rR rR rR) (gF 0 OS rR ON rR (gL (ac c.key) OQ rR (gV (wj rR rR (by simp[gj];omega)) (gF 1 OS rR ON rR (gL (ac c.val) OQ rR (gV (wj rR rR (by simp[gj];omega)) (gA rR (gQ rR ?_))))))));exact ql rfl rfl (by rw[O];rfl)
-- counterfoil/counterfoilref.ChangeBytes is not in this seat
def I6 (s:ab)(hs:s.length<=4611686018427387904)(F:List aa):Ct Tryz.prog 185 [ac s] (F) (R1 (.tuple #[.agg (ym (cI s).1).toArray,wm (cI s).2]) F):=by
 refine Ct.of func185 rR 45 ntmps185 (by simp) λw0=>?_;refine gS (gI (qA #[ac [],ac [],Bo false] OR) ?_);rintro _ _ ⟨b2,rfl,rfl⟩;refine gQ rR (qb (gS (gM rR (gV (yZ OM rR) (gV (qH rR rR) (gM rR ?_))))));by_cases Y:s.length<2
 ·have S:cI s=(d9,4):=(by match s,Y with | [],_=>rfl | [_],_=>rfl);refine yL rR rR (by rw[S8 (by omega)];rfl) rR (yL rR rR (by rw[S8 (by omega)];rfl) rR (yL rR rR (by rw[S8 (by omega)];rfl) rR (gV (cw rR (by simp;omega) rR) (gM rR (yL rR rR (by rfl) rR (yL rR rR (by rfl) rR (yL rR rR (by rfl) rR (yL rR rR (by rfl) rR (yL rR rR (by rfl) rR (yL rR rR (by rfl) rR (yL rR rR (by rfl) rR (gV (cw rR rR rR) (qc ?_)))))))))))));refine qd rfl ?_ ?_ <;> intro O
  ·refine gS (gV (qF rR vu) (gV (qP OY rR rR) (gU (qp (cs:=#[ac [],ac [],Bo false]) (vs:=ym d9) (ym d9).toArray OJ rR rR rR rR (by decide) (qV rR)) (gQ rR ?_))));exact kI (ym d9) (by rw[S] <;> rfl) rfl rfl rfl O4 OJ rfl qQ
  ·exact absurd O (by simp)
 ·obtain ⟨J,D,r,rfl⟩:=I3 Y;have hx0:=J.toNat_lt;have hx1:=D.toNat_lt;refine yc rR rR (S5 (by omega)) (qn rR) rR (yc rR rR (S5 (by omega)) (yo (r:=J) 0 OM rR rR rR rR) rR (yc rR rR (S5 (by omega)) (qX rR rR) rR (gV (aD rR rR) (gM rR (gK rR rR (qn rR) (gK rR rR (yo (r:=D) 1 OM rR rR rR rR) (gK rR rR (yS OU OL rR (ao (by omega))) (lq rR rR (λZ=>yr rR rR (ao (by simp at Z;omega))) rR rR (gK rR rR (qn rR) (gK rR rR (yZ OM rR) (gK rR rR (qX rR rR) (gV (aD rR rR) (qc ?_)))))))))))));refine qd rfl ?_ ?_ <;> intro O
  ·simp at O;have S:cI (J::D::r)=(d9,4):=(by rw[sE,RI (by omega)]);refine gS (gV (qF rR vu) (gV (qP OY rR rR) (gU (qp (cs:=#[ac [],ac [],Bo false]) (vs:=ym d9) (ym d9).toArray OJ rR rR rR rR (by decide) (qV rR)) (gQ rR ?_))));exact kI (ym d9) (by rw[S] <;> rfl) rfl rfl rfl O4 OJ rfl qQ
  ·simp at O;have R:¬(1<J.toNat\/r.length<D.toNat):=(by omega);refine qf (gS (gM rR (gV (yo (r:=D) 1 OM rR rR rR rR) (gV (yS OU OL rR (ao (by omega))) (gP rR rR (by omega) (gQ rR (qb ?_)))))));refine eT jI (by kernel_rfl) (by kernel_rfl) rR (by kernel_rfl) ?_;refine dM rR rR rR (dM rR rR rR (dV rR (ix (l:=2) (h:=D.toNat+2) OM rR rR rR rR (by omega) (by omega) (by simp;omega)) (dM rR rR rR (dM rR rR rR (dV rR (rW (l:=D.toNat+2) OM rR rR (by omega) (by simp;omega)) (dM rR rR rR (dV rR (yo (r:=J) 0 OM rR rR rR rR) (dV rR (yD rR rR) (dV rR (qF rR (Hp _ rR _ rR _ rR)) (av rR (qA #[ac [],ac [],Bo false] OR) rR ?_))))))))));rintro _ _ ⟨b5,rfl,rfl⟩;refine fl rR (qp (cs:=#[ac [],ac [],Bo false]) (vs:=ym (fg J D r)) (ym (fg J D r)).toArray OJ rR rR rR rR (by decide) (qV rR)) ?_;rintro _ _ rfl;refine qI ?_;refine qb (gS (gV (qJ (vs:=ym (fg J D r)) O4 OJ rR rR qQ) (gR (vA call178 rR (oh (fg J D r))) (gV (yP OT rR) (qc ?_)))));refine qd rfl ?_ ?_ <;> intro V
   ·simp at V;have S:cI (J::D::r)=(d9,4):=(by rw[sE,RJ R,RJ (by omega)]);refine gS (gV (qF rR vu) (gV (qP OY rR rR) (gU (qp (cs:=#[ac [],ac [],Bo false]) (vs:=ym d9) (ym d9).toArray OJ rR rR rR rR (by decide) (qV rR)) (gQ rR ?_))));exact kI (ym d9) (by rw[S] <;> rfl) rfl rfl rfl O4 OJ rfl qQ
   ·simp at V;have X:aS (fg J D r)=0:=(by have:=vt (fg J D r);omega);have S:cI (J::D::r)=(fg J D r,0):=(by rw[sE,RJ R,RI X]);refine qf (gS (gV (qJ (vs:=ym (fg J D r)) O4 OJ rR rR qQ) (gU (qp (cs:=#[ac [],ac [],Bo false]) (vs:=ym (fg J D r)) (ym (fg J D r)).toArray OJ rR rR rR rR (by decide) (qV rR)) (gQ rR ?_))));exact kI (ym (fg J D r)) (by rw[S] <;> rfl) rfl rfl rfl O4 OJ rfl qQ
-- counterfoil/counterfoilref.ChangeOf is not in this seat
open Go Go.Sl Go.Proofs
def BT (a b:ChangeM)(w:World):(Op.equal 174 (.agg (ym a).toArray) (.agg (ym b).toArray)).run Tryz.prog w= .ok (decide (a=b)) w:=by
 have V:=uT (P:=Tryz.prog) (w:=w) (a:=a.key) (b:=b.key) 9998 OM;have X:=uT (P:=Tryz.prog) (w:=w) (a:=a.val) (b:=b.val) 9998 OM;have Y:=Hn (P:=Tryz.prog) (w:=w) (a:=a.gone) (b:=b.gone) 9998 underlying4;show (Op.equalIn (9999+1) _ _ _).run _ _=_;unfold Op.equalIn;simp[ym,underlying,program,Sem.run,OS,stoodInHeld174,part,OQ,PO,V,X,Y];cases a;cases b;rename_i h a2 a3 b1 D J;by_cases O:h=b1 <;> by_cases R:a2=D <;> by_cases S:a3=J <;> simp[O,R,S]
-- counterfoil/counterfoilref.SameChanges is not in this seat
end Go.Proofs.YthdjckbjjfiopabGreatDoor
namespace Go.Proofs.YthdjckbjjfiopabGreatDoor
open Go.Sl Go.Proofs
def kb (keep:Int)(i:Nat):Bool:=decide (keep.fdiv (2 ^ (i % 64)) % 2=1)
def hJ (keep:Int)(w:List (Nat×ab))(l:List ab):Nat->List ab
 | 0=>l
 | k+1=>match w[k]? with
  | some t=>if kb keep k=true then (hJ keep w l k).set t.1 t.2 else hJ keep w l k
  | none=>hJ keep w l k
def sF (keep:Int)(w:List (Nat×ab))(l:List ab):∀k,(hJ keep w l k).length=l.length
 | 0=>rfl
 | k+1=>by
  unfold hJ;split
  ·split
   ·rw[T2,sF keep w l k]
   ·exact sF keep w l k
  ·exact sF keep w l k
def dz (keep:Int)(D:DiskM):List ab:=hJ keep D.wait D.kept D.wait.length
def j4 (keep:Int)(D:DiskM):DiskM:=⟨dz keep D,dz keep D,[], -1,false⟩
open _root_.Go.Proofs.Tryz
def di (n:Nat):DiskM:=⟨List.replicate n (dW 80),List.replicate n (dW 80),[], -1,false⟩
def lC (E:Int->Value)(T TT:Nat)(n:Int)(F:List aa):Value->List aa->Prop:=λv L'=>(¬(1<=n/\n<=260)/\v= .tuple #[.pointer none,E 1]/\L'=F)\/((1<=n/\n<=260)/\∃b,v= .tuple #[ptr b 0,E 0]/\L'=al T TT b (di n.toNat)::F)
section
variable {c:Cx}{E:ap}{L:List aa}{K:List KI}
def I7 {h:Int->Value}{T TT:Nat}{n:Int}{F:List aa}{vs:List Value}(J:c.R=lC h T TT n F)(X:du E c.fn.results.toList=some vs)(V:¬(1<=n/\n<=260))(Y:cG vs= .tuple #[.pointer none,h 1])[S:Sub L F](hds:c.n.ds=[]:=by rfl):G c (.code .ret::K) E L:=
 λa w D O=>wp_ret (yu (qB (hds:=hds) X D (S.sat O) (by rw[J];exact .inl ⟨V,Y,rfl⟩)))
def I8 {h:Int->Value}{T TT:Nat}{n:Int}{F:List aa}{vs:List Value}(b:Nat)(J:c.R=lC h T TT n F)(X:du E c.fn.results.toList=some vs)(V:1<=n/\n<=260)(Y:cG vs= .tuple #[ptr b 0,h 0])[S:Sub L (al T TT b (di n.toNat)::F)](hds:c.n.ds=[]:=by rfl):G c (.code .ret::K) E L:=
 λa w D O=>wp_ret (yu (qB (hds:=hds) X D (S.sat O) (by rw[J];exact .inr ⟨V,b,Y,rfl⟩)))
end
def I9 (n:Int)(F:List aa):Ct Tryz.prog 36 [I n] (F) (lC wm 179 319 n F):=by
 refine Ct.of func36 rR 21 ntmps36 (by simp) λw0=>?_;refine gS (gA rR (gQ rR (qb (gS (gM rR (gV (qH rR rR) (gM rR (gK rR rR (qn rR) (gK rR rR (qX rR rR) (gV (aD rR rR) (qc ?_)))))))))));refine qd rfl ?_ ?_ <;> intro X
 ·simp at X;refine gS (gV (qP OY rR rR) (gA rR (gQ rR ?_)));exact I7 rfl rfl (by omega) rfl
 ·simp at X;refine qf (gS (gR (vA call100 rR (Bn [] (by decide))) ?_));rw[show yx []=dW 80 from rfl];refine gI (qj [[ac (dW 80)]] PL ON QF rR rR rR (by simp) (by decide) (by decide)) ?_;rintro _ _ ⟨V,rfl,rfl⟩;refine gM rR ?_;refine yv (some ⟨V,0,none⟩) ?_;refine gI (uB call99 rR (by have:=HM (dW 80) (some ⟨V,0,none⟩) 1 n.toNat (by omega);rwa [SJ (by omega)] at this)) ?_;rintro _ _ ⟨Y,J,rfl,rfl⟩;refine uM (φ:=∃a,Y=some a) (λw hS=>?_) (λha=>?_)
  ·rcases wa hS with ⟨_,h,_,_⟩ | ⟨b,cs,h,_⟩
   ·exfalso;have Z:=Rd List.length h;simp[aJ] at Z;omega
   ·exact ⟨_,h⟩
  obtain ⟨D,rfl⟩:=ha;refine gQ rR (gS (gM rR (gM rR (gI (uB call101 rR (by have:=HN (List.replicate n.toNat (dW 80)) D J (by simp;omega);rw[Te] at this;exact this)) ?_))));rintro _ _ ⟨S,R,rfl,rfl⟩;refine gV (qF rR (Hq _ rR _ rR _ rR)) (gI (wR #[sl (some D) n.toNat J,sl S n.toNat R,sl none 0 0,I (-1),Bo false] rfl rR) ?_);rintro _ _ ⟨O,rfl,rfl⟩;refine gA rR (gQ rR ?_);refine yi 319 2 (cH []) rR ?_;refine eU (A:=ff 179 319 O (di n.toNat)) [pt O (.cells #[sl (some D) n.toNat J,sl S n.toNat R,sl none 0 0,I (-1),Bo false] 179 (0,0)),ai 9 1 (some D) J (aJ (List.replicate n.toNat (dW 80))),ai 9 1 S R (aJ (List.replicate n.toNat (dW 80))),ai 319 2 none 0 (cH [])] (al 179 319 O (di n.toNat)) ((some D,J),(S,R),(none,0)) rR (by simp[ff,di]) ?_;exact I8 O rfl rfl (by omega) rfl
-- counterfoil/counterfoilref.NewDisk is not in this seat
def yb (n:Nat):ab:=[UInt8.ofNat n,UInt8.ofNat (n / 256),UInt8.ofNat (n / 65536),UInt8.ofNat (n / 16777216)]
def bP (kind:UInt8)(n:Nat)(s:ab):ab:=kind::(yb n++([UInt8.ofNat s.length,UInt8.ofNat (s.length / 256)]++s))
def sk (s:ab)(i:Nat):UInt8:=(s[i]?).getD 0
def gk (s:ab):Nat:=(sk s 5).toNat+256*(sk s 6).toNat
def cC (num:Nat)(s:ab):Option (UInt8×ab):=if (s.take 5).drop 1=yb num/\(sk s 0=111\/sk s 0=99)/\gk s<=73 then some (sk s 0,(s.take (7+gk s)).drop 7) else none
abbrev an:=List (List ChangeM)
def wu (first:Nat)(sec:Nat->ab):Nat->Nat->an->List ChangeM->Nat->an×Nat
 | 0,_,out,_,used=>(out,used)
 | f+1,i,out,deed,used=>match cC (first+i) (sec i) with
  | none=>(out,used)
  | some (k,t)=>if k=99 then (if t=yb deed.length then wu first sec f (i+1) (out++ [deed]) [] (i+1) else (out,used)) else if (cI t).2=0 then wu first sec f (i+1) out (deed++ [(cI t).1]) used else (out,used)
def fY {s:ab}{i:Nat}(h:i<s.length):s[i]? =some (sk s i):=by unfold sk;rw[S6 h];rfl
def ol {n:Nat}(h:n<256):(UInt8.ofNat n).toNat=n:=by rw[UInt8.toNat_ofNat'];omega
def vv {kind:UInt8}{num:Nat}{s:ab}(D:kind=111\/kind=99)(J:s.length<=73):cC num (yx (bP kind num s))=some (kind,s):=by
 have e:yx (bP kind num s)=kind::(UInt8.ofNat num::UInt8.ofNat (num / 256)::UInt8.ofNat (num / 65536)::UInt8.ofNat (num / 16777216)::UInt8.ofNat s.length::UInt8.ofNat (s.length / 256)::(s++dW (80 - (bP kind num s).length))):=by
  unfold yx bP yb;simp
 rw[e];generalize dW (80 - (bP kind num s).length)=z;unfold cC;have h:gk (kind::(UInt8.ofNat num::UInt8.ofNat (num / 256)::UInt8.ofNat (num / 65536)::UInt8.ofNat (num / 16777216)::UInt8.ofNat s.length::UInt8.ofNat (s.length / 256)::(s++z)))=s.length:=by
  show (UInt8.ofNat s.length).toNat+256*(UInt8.ofNat (s.length / 256)).toNat=s.length;rw[ol (by omega),ol (by omega)];omega
 rw[h,RI ⟨rfl,D,by omega⟩];congr 2;rw[show 7+s.length=s.length+7 by omega];simp only[T7,T8,SX];rw[T9]
def om (num:Nat):cC num (yx [])=none:=by
 unfold cC;rw[RJ];intro h;have:sk (yx []) 0=0:=(by decide);rw[this] at h;rcases h.2.1 with h | h <;> cases h
def Ja {c:ChangeM}(h:aS c=0):cI (eW c)=(c,0):=by
 obtain ⟨_,_,R,S⟩:=mL h;unfold eW gj;show cI ((if c.gone then 1 else 0)::UInt8.ofNat c.key.length::(c.key++c.val))=_;rw[sE];have D:(UInt8.ofNat c.key.length).toNat=c.key.length:=ol (by omega);have O:((if c.gone=true then (1:UInt8) else 0)).toNat<=1:=(by split <;> decide);rw[RJ (by rw[D];simp;omega)];have J:fg (if c.gone=true then 1 else 0) (UInt8.ofNat c.key.length) (c.key++c.val)=c:=by
  unfold fg;rw[D,T9,Ua];cases c with
  | mk k v g=>cases g <;> rfl
 rw[J,RI h]
def sG {c:ChangeM}(h:aS c=0):(eW c).length<=58:=by
 obtain ⟨_,_,D,J⟩:=mL h;unfold eW gj;simp;omega
def vw (k:UInt8)(n:Nat)(s:ab):(bP k n s).length=7+s.length:=by simp[bP,yb];omega
def hO (first:Nat)(D:Nat->ab)(f i:Nat)(out:an)(h:List ChangeM)(used:Nat):wu first D (f+1) i out h used=match cC (first+i) (D i) with
 | none=>(out,used)
 | some (k,t)=>if k=99 then (if t=yb h.length then wu first D f (i+1) (out++ [h]) [] (i+1) else (out,used)) else if (cI t).2=0 then wu first D f (i+1) out (h++ [(cI t).1]) used else (out,used):=rfl
def oo {first:Nat}{R:Nat->ab}:∀(f i:Nat) (out:an) (J:List ChangeM) (used:Nat) (o:an) (u:Nat),wu first R f i out J used=(o,u)->(u=used/\o=out)\/
  ((i<u/\u<=i+f)/\∀D:Nat->ab,(∀j,i<=j->j<u->D j=R j)->wu first D f i out J used=wu first D (i+f - u) u o [] u)
 | 0,i,out,J,used,o,u,e=>by
  injection e with S V;exact .inl ⟨V.symm,S.symm⟩
 | f+1,i,out,J,used,o,u,e=>by
  rw[hO] at e;cases Z:cC (first+i) (R i) with
  | none=>rw[Z] at e;injection e with S V;exact .inl ⟨V.symm,S.symm⟩
  | some kt=>
   obtain ⟨k,t⟩:=kt;rw[Z] at e;simp only at e;by_cases Y:k=99
   ·rw[RI Y] at e;by_cases ht:t=yb J.length
    ·rw[RI ht] at e;right;have step:∀D:Nat->ab,D i=R i->wu first D (f+1) i out J used=wu first D f (i+1) (out++ [J]) [] (i+1):=λD O=>by
      rw[hO,O,Z];simp only;rw[RI Y,RI ht]
     rcases oo f (i+1) (out++ [J]) [] (i+1) o u e with ⟨h1,h2⟩ | ⟨⟨h1,h2⟩,h3⟩
     ·subst h1 h2;exact ⟨⟨by omega,by omega⟩,λD O=>by rw[step D (O i (by omega) (by omega)),show i+(f+1) - (i+1)=f by omega]⟩
     ·exact ⟨⟨by omega,by omega⟩,λD O=>by rw[step D (O i (by omega) (by omega)),h3 D (λj hj1 X=>O j (by omega) X),show i+(f+1)=i+1+f by omega]⟩
    ·rw[RJ ht] at e;injection e with S V;exact .inl ⟨V.symm,S.symm⟩
   ·rw[RJ Y] at e;by_cases hp:(cI t).2=0
    ·rw[RI hp] at e;have step:∀D:Nat->ab,D i=R i->wu first D (f+1) i out J used=wu first D f (i+1) out (J++ [(cI t).1]) used:=λD O=>by
      rw[hO,O,Z];simp only;rw[RJ Y,RI hp]
     rcases oo f (i+1) out (J++ [(cI t).1]) used o u e with h | ⟨⟨h1,h2⟩,h3⟩
     ·exact .inl h
     ·exact .inr ⟨⟨by omega,by omega⟩,λD O=>by rw[step D (O i (by omega) (by omega)),h3 D (λj hj1 X=>O j (by omega) X),show i+(f+1)=i+1+f by omega]⟩
    ·rw[RJ hp] at e;injection e with S V;exact .inl ⟨V.symm,S.symm⟩
def BU {first:Nat}{D:Nat->ab}{f:Nat}:∀(c:List ChangeM) (i:Nat) (out:an) (h:List ChangeM) (used:Nat),(∀x∈c,aS x=0)->(∀k x,c[k]? =some x->D (i+k)=yx (bP 111 (first+(i+k)) (eW x)))->
  wu first D (c.length+f) i out h used=wu first D f (i+c.length) out (h++c) used
 | [],i,out,h,used,_,_=>by simp
 | x::c,i,out,h,used,O,R=>by
  have S:=R 0 x rfl;have hx:=O x (by simp);rw[show (x::c).length+f=(c.length+f)+1 by simp;omega];rw[hO,show D i=_ from S,RQ,vv (.inl rfl) (by have:=sG hx;omega)];simp only;rw[RJ (by decide),Ja hx,RI rfl,BU c (i+1) out (h++ [x]) used (λy J=>O y (Th _ J)) (λk y J=>by have:=R (k+1) y (by simpa using J);rw[show i+1+k=i+(k+1) by omega];exact this)];simp only[RX,Sr,List.singleton_append];rw[show i+1+c.length=i+(c.length+1) by omega]
def BV {first many:Nat}{O D:Nat->ab}{out:an}{used:Nat}{c:List ChangeM}(h:wu first O many 0 [] [] 0=(out,used))(hc:∀x∈c,aS x=0)(hr:used+c.length+1<=many)(R:c.length<=72)
  (X:∀j,j<used->D j=O j) (Y:∀k x,c[k]? =some x->D (used+k)=yx (bP 111 (first+(used+k)) (eW x))) (Z:D (used+c.length)=yx (bP 99 (first+(used+c.length)) (yb c.length)))
  (h4:used+c.length+1<many->D (used+c.length+1)=yx []):wu first D many 0 [] [] 0=(out++ [c],used+c.length+1):=by
 have J:=oo many 0 [] [] 0 out used h;have e:wu first D many 0 [] [] 0=wu first D (many - used) used out [] used:=by
  rcases J with ⟨S,V⟩ | ⟨_,h5⟩
  ·subst S V;rfl
  ·have:=h5 D λj _ hj=>X j hj;rw[this,Sa]
 rw[e,show many - used=c.length+((many - used - c.length - 1)+1) by omega,BU c used out [] used hc Y];rw[hO,Z,vv (.inr rfl) (by simp[yb])];simp only[SK,if_true];cases hf:many - used - c.length - 1 with
 | zero=>rfl
 | succ f=>
  rw[hO,h4 (by omega),om]
abbrev cM:=Option Addr×Nat
def dR (gl:List (List ChangeM×cM)):List (List Value):=gl.map λx=>[sl x.2.1 x.1.length x.2.2]
def BW (h:List (List ChangeM×cM)):(dR h).length=h.length:=by simp[dR]
def oq {D:List (List ChangeM×cM)}{k:Nat}{x:List ChangeM×cM}(h:D[k]? =some x):(dR D)[k]? =some [sl x.2.1 x.1.length x.2.2]:=by simp[dR,h]
def fp (gl:List (List ChangeM×cM)):aa:=λm=>∀x∈gl,roL 3 x.2.1 (ah x.1) m
def BX {sz:Nat}{s:Option Addr}{rows:List (List Value)}{m n:Res}(h:roL sz s rows m)(R:Res.sub m n):roL sz s rows n:=by
 rcases h with h | ⟨b,off,o,D,J,O⟩
 ·exact .inl h
 ·exact .inr ⟨b,off,o,D,R b _ J,O⟩
def Jb (D:List (List ChangeM×cM)):Pers (fp D):=λm h=>by
 refine ⟨jX m,λb x hx=>?_,λb x hx=>?_,λx hx=>sc (h x hx)⟩
 ·unfold jX at hx;split at hx
  ·rename_i o J;rw[J];exact hx
  ·cases hx
 ·unfold jX at hx;split at hx
  ·injection hx with hx;subst hx;rfl
  ·cases hx
section
variable {c:Cx}{E:ap}{L:List aa}{K:List KI}
def Jc (k:G c K E (fp []::L)):G c K E L:=λa w h D=>k a w h ((Sat.pure_mk (φ:=True) trivial D).weak λm _=>λx hx=>nomatch hx)
def Jd {F:List aa}(D:List (List ChangeM×cM)){x:List ChangeM×cM}(h:x∈D)[R:Rem L (fp D) F](k:G c K E (roL 3 x.2.1 (ah x.1)::fp D::F)):G c K E L:=λa w J O=>k a w J (((R.sat O).dup (Jb D)).weak λm S=>S x h)
def Je {F J:List aa}(D:List (List ChangeM×cM))(d:List ChangeM)(s:Option Addr)(n:Nat)[R:Rem L (fp D) F][R2:Rem F (roL 3 s (ah d)) J](k:G c K E (fp (D++ [(d,s,n)])::J)):G c K E L:=λa w V X=>by
 have O:=R.sat X;have r2:Rem (fp D::F) (roL 3 s (ah d)) (fp D::J):=inferInstance;have S:Sat c.w0 w (roL 3 s (ah d)::fp D::J):=r2.sat O;refine k a w V (S.two.weak λm hm=>?_);obtain ⟨m1,m2,hd,s1,s2,Y,Z⟩:=hm;intro y h;rcases Sc.1 h with h | h
 ·exact BX (Z y h) s2
 ·rw[Ub] at h;subst h;exact BX Y s1
end
def bB (N i:Nat)(D:DiskM):Prop:=D.kept.length=N/\D.now.length=N/\(-1<=D.fuse/\D.fuse<=9223372036854775807)/\(∀t∈D.wait,t.1<N)/\D.wait.length<=i
def BZ (N:Nat):bB N 0 (di N):=⟨by simp[di],by simp[di],by simp[di],by simp[di],by simp[di]⟩
def vx {N i:Nat}{D:DiskM}(h:bB N i D):bB N (i+1) D:=⟨h.1,h.2.1,h.2.2.1,h.2.2.2.1,by have:=h.2.2.2.2;omega⟩
def sH {N i:Nat}{D:DiskM}(h:bB N i D):bB N i (wy D):=by
 obtain ⟨J,O,V,R,S⟩:=h;unfold wy;split
 ·exact ⟨J,O,V,R,S⟩
 ·split
  ·exact ⟨J,O,by simp,R,S⟩
  ·refine ⟨J,O,?_,R,S⟩;simp only;split <;> omega
def B0 {N i:Nat}{D:DiskM}(h:bB N i D)(n:Int)(s:ab):bB N (i+1) (yH D n s):=by
 unfold yH;split
 ·exact vx h
 ·rename_i Y;split
  ·obtain ⟨O,R,S,V,X⟩:=sH h;refine ⟨O,by simp[wP,R],S,λt J=>?_,by simp[wP];exact X⟩;simp only[wP,Sc,Ub] at J;rcases J with J | rfl
   ·exact V t J
   ·have:=h.2.1;unfold d8 at Y;simp only;omega
  ·exact vx (sH h)
def sI {N i:Nat}{D:DiskM}(h:bB N i D):bB N (i+1) (yJ D):=by
 unfold yJ;split
 ·obtain ⟨R,J,O,S,V⟩:=sH h;exact ⟨J,J,O,by simp[iD],by simp[iD]⟩
 ·exact vx (sH h)
def kO (D:DiskM):wv D=0\/wv D=9:=by unfold wv;split <;> simp
abbrev bq:=Option (Nat×ab)
def fq (D:DiskM):bq->Int
 | some x=>wc D x.1 x.2
 | none=>wv D
def fE (D:DiskM):bq->DiskM
 | some x=>yH D x.1 x.2
 | none=>yJ D
def wA:DiskM->List bq->Int×DiskM
 | D,[]=>(0,D)
 | D,x::r=>if fq D x=0 then wA (fE D x) r else (fq D x,fE D x)
def hZ {D:DiskM}{x:bq}{r:List bq}(h:fq D x=0):wA D (x::r)=wA (fE D x) r:=by rw[wA,RI h]
def iE {D:DiskM}{x:bq}{r:List bq}(h:¬fq D x=0):wA D (x::r)=(fq D x,fE D x):=by rw[wA,RJ h]
def mM {D:DiskM}{n:Nat}{s:ab}{r:List bq}(h:wc D n s=0):wA D (some (n,s)::r)=wA (yH D n s) r:=hZ h
def mN {D:DiskM}{n:Nat}{s:ab}{r:List bq}(h:¬wc D n s=0):wA D (some (n,s)::r)=(wc D n s,yH D n s):=iE h
def kP {D:DiskM}{r:List bq}(h:wv D=0):wA D (none::r)=wA (yJ D) r:=hZ h
def lD {D:DiskM}{r:List bq}(h:¬wv D=0):wA D (none::r)=(wv D,yJ D):=iE h
def mO (D:DiskM):wA D []=(0,D):=rfl
def lE:∀(l r:List bq) (D:DiskM),wA D (l++r)=if (wA D l).1=0 then wA (wA D l).2 r else wA D l
 | [],r,D=>by simp[wA]
 | x::l,r,D=>by
  rw[SM];by_cases h:fq D x=0
  ·rw[hZ h,hZ h,lE l r]
  ·rw[iE h,iE h,RJ h]
def vy {N i:Nat}{D:DiskM}(h:bB N i D)(x:bq):bB N (i+1) (fE D x):=by
 cases x with
 | none=>exact sI h
 | some x=>exact B0 h _ _
def ft {N i j:Nat}{D:DiskM}(h:bB N i D)(J:i<=j):bB N j D:=⟨h.1,h.2.1,h.2.2.1,h.2.2.2.1,by have:=h.2.2.2.2;omega⟩
def gm {N:Nat}:∀(l:List bq) (i:Nat) (D:DiskM),bB N i D->bB N (i+l.length) (wA D l).2
 | [],i,D,h=>h
 | x::l,i,D,h=>by
  by_cases J:fq D x=0
  ·rw[hZ J];have:=gm l (i+1) _ (vy h x);rw[RX,show i+(l.length+1)=i+1+l.length by omega];exact this
  ·rw[iE J];exact ft (vy h x) (by simp)
def cU (from_ first used:Nat):Nat->List ChangeM->List bq
 | _,[]=>[]
 | k,x::c=>some (from_+used+k,bP 111 (first+used+k) (eW x))::cU from_ first used (k+1) c
def eG (from_ many used len:Nat):List bq:=if used+len+1<many then [some (from_+(used+len+1),[])] else []
def dX (from_ many first used:Nat)(c:List ChangeM):List bq:=cU from_ first used 0 c++eG from_ many used c.length
def fh (from_ first used len:Nat):bq:=some (from_+(used+len),bP 99 (first+(used+len)) (yb len))
def cO (from_ many first used:Nat)(c:List ChangeM):List bq:=dX from_ many first used c++ [none,fh from_ first used c.length,none]
def B3 (from_ first used:Nat):∀(c:List ChangeM) (k:Nat),(cU from_ first used k c).length=c.length
 | [],_=>rfl
 | x::c,k=>by simp[cU,B3 from_ first used c]
def Jf (from_ many used len:Nat):(eG from_ many used len).length<=1:=by unfold eG;split <;> simp
def B4 (from_ many first used:Nat)(c:List ChangeM):(dX from_ many first used c).length<=c.length+1:=by
 have:=Jf from_ many used c.length;simp[dX,B3];omega
def B5 {from_ first used k:Nat}{c:List ChangeM}{x:ChangeM}(h:c[k]? =some x):cU from_ first used k (c.drop k)=some (from_+used+k,bP 111 (first+used+k) (eW x))::cU from_ first used (k+1) (c.drop (k+1)):=by
 obtain ⟨D,rfl⟩:=Re.1 h;rw[Uc D]
 rfl
def cP:List ChangeM->Int
 | []=>0
 | x::c=>if aS x=0 then cP c else aS x
def sJ {c:List ChangeM}{k:Nat}{x:ChangeM}(h:c[k]? =some x):cP (c.drop k)=if aS x=0 then cP (c.drop (k+1)) else aS x:=by
 obtain ⟨D,rfl⟩:=Re.1 h;rw[Uc D]
 rfl
def vz:∀{c:List ChangeM},cP c=0->∀x∈c,aS x=0
 | [],_,x,hx=>by simp at hx
 | y::c,h,x,hx=>by
  unfold cP at h;split at h
  ·rename_i D;rcases RR.1 hx with rfl | hx
   ·exact D
   ·exact vz h x hx
  ·rename_i D;exact absurd h D
def dA (many used:Nat)(c:List ChangeM):Int:=if 72<c.length then 2 else if many - used<c.length+1 then 8 else cP c
def dN (from_ many first used:Nat)(c:List ChangeM)(D:DiskM):Int:=if dA many used c=0 then (wA D (cO from_ many first used c)).1 else dA many used c
def ce (from_ many first used:Nat)(c:List ChangeM)(D:DiskM):DiskM:=if dA many used c=0 then (wA D (cO from_ many first used c)).2 else D
def dB (from_ many first used:Nat)(c:List ChangeM)(D:DiskM):Nat:=if dN from_ many first used c D=0 then used+c.length+1 else used
def lF {many used:Nat}{c:List ChangeM}(h:dA many used c=0):c.length<=72/\c.length+1<=many - used/\∀x∈c,aS x=0:=by
 unfold dA at h;split at h
 ·cases h
 ·split at h
  ·cases h
  ·exact ⟨by omega,by omega,vz h⟩
def vI {many used:Nat}{c:List ChangeM}(h:c.length<=72)(D:c.length+1<=many - used):dA many used c=cP c:=by unfold dA;rw[RJ (by omega),RJ (by omega)]
def vJ {from_ many first used:Nat}{c:List ChangeM}{D:DiskM}{e:Int}(h:dA many used c=e)(R:e≠0):dN from_ many first used c D=e/\ce from_ many first used c D=D/\dB from_ many first used c D=used:=by
 have J:¬dA many used c=0:=(by rw[h];exact R);have O:dN from_ many first used c D=e:=by unfold dN;rw[RJ J,h]
 refine ⟨O,?_,?_⟩
 ·unfold ce;rw[RJ J]
 ·unfold dB;rw[O,RJ R]
def sK {from_ many first used:Nat}{c:List ChangeM}{D J:DiskM}{e:Int}(h:dA many used c=0)(R:wA D (cO from_ many first used c)=(e,J))(S:e≠0):dN from_ many first used c D=e/\ce from_ many first used c D=J/\dB from_ many first used c D=used:=by
 have O:dN from_ many first used c D=e:=by unfold dN;rw[RI h,R]
 refine ⟨O,?_,?_⟩
 ·unfold ce;rw[RI h,R]
 ·unfold dB;rw[O,RJ S]
def Jg {from_ many first used:Nat}{c:List ChangeM}{D J:DiskM}(h:dA many used c=0)(R:wA D (cO from_ many first used c)=(0,J)):dN from_ many first used c D=0/\ce from_ many first used c D=J/\dB from_ many first used c D=used+c.length+1:=by
 have O:dN from_ many first used c D=0:=by unfold dN;rw[RI h,R]
 refine ⟨O,?_,?_⟩
 ·unfold ce;rw[RI h,R]
 ·unfold dB;rw[O,RI rfl]
def ea (from_ many first used:Nat)(c:List ChangeM):Nat->List bq
 | 0=>dX from_ many first used c++ [none,fh from_ first used c.length,none]
 | 1=>[none,fh from_ first used c.length,none]
 | 2=>[fh from_ first used c.length,none]
 | 3=>[none]
 | _=>[]
end Go.Proofs.YthdjckbjjfiopabGreatDoor