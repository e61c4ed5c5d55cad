/- Several texts in one: walks and rules used by them. No condition. -/
import Derived.Test.YthdjckbjjfiopabGreatDoorCartA
import Derived.Laws.BytesString
import Derived.Laws.Externs
import Derived.Lib.Overlaps
import Derived.Maps.RangeRun
import Derived.Lib.UnsafeStr
import Derived.RangeFuncRecord
import Derived.RangeFuncIn
import Derived.TacticsIn
import Derived.OrdersIn
set_option linter.unusedSimpArgs false
set_option linter.unusedVariables false
set_option synthInstance.maxSize 9999
set_option synthInstance.maxHeartbeats 0
set_option linter.defProp false
set_option maxHeartbeats 800000
namespace Go.Sl
section
variable {c:Cx}{g:Option (Nat×Bool)}{E:dr}{L L':List ag}{d:Option Tmp}{ty:TypeId}{pos:String}{af:Array Edge}{gu:Option (Nat×Bool)}{K:List KI}
variable {x y z:Operand}{t u e:TypeId}{k:IntKind}{v v1 v2:Value}{s:Option Addr}{b o i j n sz cap off:Nat}
variable {all rest:List Oper}{dd:Nat}{op:Op}{N:Value->List ag->Prop}
def xN (v:Value)(want:Bool):Bool:=match v with | .bool b=>b !=want | _=>true
def bE {i s:Nat}{vs:Value}{J:Bool}[hi:DS all i s][hs:LK none E s vs](k:G c (.ops all rest::K) ((dd,none,undef)::E) L)(hw:xN vs J=true:=by exact rfl)(hd:lE c.n dd E=true:=by exact rfl):G c (.ops all (⟨some dd,op,ty,pos,af,some (i,J)⟩::rest)::K) E L:=have hi:=hi.p;have hs:=hs.p;λa w O R=>by
 have h1:=O.look (cR a) hs;have hy:yielded all.toArray a.tmps i≠some J:=by
  grind[yielded,xN]
 refine wpList_step λS hk=>?_;rw[YC (by simp[Region.wanted,hy])];exact hk _ _ (k _ w (O.put1 hd) R)
def fl {q:Bool}[J:EV g E z (.bool q)][hx:EV g E x v1](hq:q=true:=by exact rfl):OpV c g E L ⟨d, .pick z x y,ty,pos,af,gu⟩ v1:=have J:=J.p;have hx:=hx.p;.mk λa w O R S=>by
 simp[execOp,O.ev R J,O.ev R hx,asBool,hq]
def eT {q:Bool}[J:EV g E z (.bool q)][hy:EV g E y v1](hq:q=false:=by exact rfl):OpV c g E L ⟨d, .pick z x y,ty,pos,af,gu⟩ v1:=have J:=J.p;have hy:=hy.p;.mk λa w O R S=>by
 simp[execOp,O.ev R J,O.ev R hy,asBool,hq]
end
end Go.Sl
namespace Go.Sl
section
variable {c:Cx}{g:Option (Nat×Bool)}{E:dr}{L L':List ag}{d:Option Tmp}{ty:TypeId}{pos:String}{af:Array Edge}{gu:Option (Nat×Bool)}{K:List KI}
variable {x y z:Operand}{t u e:TypeId}{k:IntKind}{v v1 v2:Value}{s:Option Addr}{b o i j n sz cap off:Nat}
theorem Rows.rep {J:Array Value}{T:TypeId}(n:Nat)(h0:0<J.size):Rows (.cells ((Array.range (n*J.size)).map (J[· % J.size]!)) T (0,0)) 0 J.size (List.replicate n J.toList):=λj row hj f v V=>by
 simp only[List.getElem?_replicate] at hj;split at hj
 ·rename_i O;injection hj with hj;subst hj;have R:f<J.size:=(by grind);have S:j*J.size+f<n*J.size:=by
   have:(j+1)*J.size<=n*J.size:=YQ _ O
   grind
  grind[bG,Nat.mul_comm,Nat.mul_add_mod,Nat.mod_eq_of_lt]
 ·cases hj
def vW {zv:Value}{J:TypeInfo}{m:Int}(n:Nat)(hu:c.P.underlying t=some (.slice e))(hz:∀w,(sizeOf e).run c.P w= .ok sz w)(Z:∀w,(zeroValue e).run c.P w= .ok zv w)(S:∀w,(typeInfo e).run c.P w= .ok J w)
  (hzs:zv.cells.size=sz) (h0:0<sz) (hx:ev g E x=some (I m)) (hy:ev g E y=some (I m)) (hn:m=n) (hb:n<=1048576/\J.bytes<=4096):
  OpL c g E L ⟨d, .makeSlice t x y,ty,pos,af,gu⟩ λv L'=>∃b,v=sl (some ⟨b,0,none⟩) n n/\L'=bi e sz (some ⟨b,0,none⟩) n (List.replicate n zv.cells.toList)::L:=
 .of_run λa w hE hg hS=>by
  subst hn;subst hzs;have hw:IntKind.i64.wrap (n:Int)=n:=da (by omega);have h48:(J.bytes:Int)*n<=2 ^ 48:=by
   have h1:J.bytes*n<=4096*1048576:=YP hb.2 hb.1
   grind
  refine ⟨sl (some ⟨w.heap.size,0,none⟩) n n,{w with heap:=w.heap.push (.cells ((Array.range (n*zv.cells.size)).map (zv.cells[· % zv.cells.size]!)) e (0,0))},bi e zv.cells.size (some ⟨w.heap.size,0,none⟩) n (List.replicate n zv.cells.toList)::L,?_,?_,_,rfl,rfl⟩
  ·have R:¬((281474976710656:Int)<(J.bytes:Int)*n):=(by omega);have hi:∀w':World,(asInt (I n)).run c.P w'= .ok (n:Int) w':=λw'=>(by simp[asInt,asIntOf,Sem.run]);have e1:=hE.ev hg hx;have e2:=hE.ev hg hy;have O:=λ(w:World) (k:Nat)=>mP (P:=c.P) (w:=w) k;have hnn:¬((n:Int)<0):=(by omega);have Y:IntKind.i64.wrap 0=0:=da (by omega);by_cases V:n=0
   ·subst V;simp[execOp,Instr.makeSlice,underlying,program,Sem.run,hu,hz,S,e1,e2,asInt,asIntOf,Y,O,newRow,newObj,sl]
    grind
   ·have X:¬n*zv.cells.size=0:=by
     have:=Y7 (show 0<n by omega) h0;omega
    simp[execOp,Instr.makeSlice,underlying,program,Sem.run,hu,hz,Z,S,e1,e2,asInt,asIntOf,hw,R,O,newRow,newObj,sl,X];intro h;omega
  ·refine (hS.alloc _).weak λm hm=> .inr ⟨_,_,rfl,hm,by simp,by simp,λrow hr=>?_,Rows.rep n h0⟩
   grind
def At (ya s:Option Addr)(p sz m:Nat):Prop:=(ya=s/\p=0)\/ya=s.map (·.add (p*sz))\/m=0
def uO {cs:Array Value}{T:TypeId}{rows news:List (List Value)}{l:Nat}(h0:0<sz)(hcs:cs.size=cap*sz)(Z:rows.length<=cap)(hfit:l+news.length<=rows.length)(hl:∀r∈rows,r.length=sz)(O:∀r∈news,r.length=sz)(hr:Rows (.cells cs T (0,0)) 0 sz rows):
  l*sz+news.flatten.length<=cs.size/\Rows (.cells (cT cs (l*sz) news.flatten) T (0,0)) 0 sz (rows.take l++news++rows.drop (l+news.length)):=by
 have J:l*sz+news.flatten.length<=cs.size:=by
  rw[dT news O,hcs,<-YK];exact YQ _ (by omega)
 refine ⟨J,λj row hj f v hf=>?_⟩;have key:∀{j:Nat} {row:List Value} {f:Nat} {v:Value},rows[j]? =some row->row[f]? =some v->(j<l\/l+news.length<=j)->(cT cs (l*sz) news.flatten)[j*sz+f]? =some v:=fun {j row f v} hj hf S=>by
  have:=hr j row hj f v hf;simp only[bG,YR] at this;have R:f<sz:=(by grind);rw[iI _ _ _ J,YC]
  ·exact this
  ·rw[dT news O];rintro ⟨h1,Y⟩;rcases S with h | h
   ·have:(j+1)*sz<=l*sz:=YQ _ h
    grind
   ·have:(l+news.length)*sz<=j*sz:=YQ _ h
    grind
 simp only[bG,YR];have V:l<=rows.length:=(by omega);rcases YL j l with h | h
 ·grind
 ·rcases YL j (l+news.length) with Y | Y
  ·rw[Yy (by simp;omega),YJ (by simp;omega)] at hj;simp only[Y8,Y9 V] at hj;have R:f<sz:=(by grind);obtain ⟨q,rfl⟩:∃q,j=l+q:=⟨j - l,by omega⟩;have hq:q<news.length:=(by omega);have X:(q+1)*sz<=news.length*sz:=YQ _ hq;rw[YK,Nat.one_mul] at X;rw[iI _ _ _ J,YB (by grind[dT])];rw[YK,show l*sz+q*sz+f - l*sz=q*sz+f by omega,kD h0 news O]
   grind[Nat.mul_comm,Nat.mul_add_div,Nat.div_eq_of_lt,Nat.mul_add_mod,Nat.mod_eq_of_lt]
  ·rw[YJ (by simp;omega)] at hj
   grind
theorem At.addr {J:Option Addr}{p m off:Nat}(h:At J (some ⟨b,off,none⟩) p sz m)(hm:0<m):J=some ⟨b,off+p*sz,none⟩:=by
 rcases h with ⟨rfl,rfl⟩ | rfl | h
 ·simp
 ·simp[Addr.add]
 ·omega
theorem Rows.part {O:Obj}{off p q:Nat}{rows:List (List Value)}(h:Rows O off sz rows):Rows O (off+p*sz) sz ((rows.drop p).take q):=λj row hj f v R=>by
 have J:j<q:=by
  grind
 rw[Za J,List.getElem?_drop] at hj;have:=h _ row hj f v R
 grind
def qE {a:Act}{w:World}{P:Program}{X Y:Value}{r:Result Value}(hx:a.eval x=X)(hy:a.eval y=Y)(h:(Builtin.copy_ #[t,u] ty #[X,Y]).run P w=r):
  (execOp a.eval ⟨d, .call {callee:= .builtin .copy,args:=#[x,y],argTypes:=#[t,u]},ty,pos,af,gu⟩).run P w=r.andThen λv w'=> .ok (.value v) w':=by
 simp_all[execOp,resolve,invoke,builtin]
def oG {P:Program}{w:World}{m:Nat}{rows:List (List Value)}(h0:0<sz)(hl:∀r∈rows,r.length=sz)(hn:rows.length=n)(h:rows=[]\/∃b off o,s=some ⟨b,off,none⟩/\w.heap[b]? =some o/\Rows o off sz rows):
  (Builtin.firstCells sz n (sl s m cap)).run P w= .ok rows.flatten.toArray w:=by
 have:=nD (P:=P) (w:=w) (cap:=cap) (s:=s) h0 hl hn h;cases s <;> simpa [Builtin.firstCells,sl] using this
def uP {s2 xa ya:Option Addr}{l p q m cx cy:Nat}{T:Nat}{rows J:List (List Value)}{F:List ag}(hu:c.P.underlying t=some (.slice T))(hz:∀w,(sizeOf T).run c.P w= .ok sz w)(h0:0<sz)
  (hx:ev g E x=some (sl xa q cx)) (hy:ev g E y=some (sl ya m cy)) [R:OwR L s T sz cap rows F] [Y:SlR L s2 sz J] (hxa:At xa s l sz q) (hya:At ya s2 p sz m) (hk:l+q<=rows.length) (hm:p+m<=J.length)
  (hnl:∀r∈J,r.length=sz) (h1:∀r∈J,ones r=true):
  OpL c g E L ⟨d, .call {callee:= .builtin .copy,args:=#[x,y],argTypes:=#[t,u]},ty,pos,af,gu⟩ λv L'=>v=I (Nat.min m q)/\L'=bi T sz s cap (rows.take l++((J.drop p).take (Nat.min m q))++rows.drop (l+Nat.min m q))::F:=
 .of_run λa w hE hg hS=>by
  have hS1:=R.sat hS;have hY:=Y.out _ _ hS;have e1:=hE.ev hg hx;have e2:=hE.ev hg hy;generalize hr:Nat.min m q=r;have hr1:r<=m:=(by grind);have hr2:r<=q:=(by grind);have S:∀x∈(J.drop p).take r,x.length=sz:=λx hx=>hnl x (Zb (Zc hx));have O:((J.drop p).take r).length=r:=(by simp;omega);have Z:ones ((J.drop p).take r).flatten=true:=kP λv hv=>by
   obtain ⟨x,hx,hv⟩:=YS.1 hv
   grind[j7]
  have X:(Builtin.firstCells sz r (sl ya m cy)).run c.P w= .ok ((J.drop p).take r).flatten.toArray w:=by
   refine oG h0 S O ?_;by_cases hr0:r=0
   ·left;rw[hr0];rfl
   ·right;rcases hY with h | ⟨b,off,o,rfl,hh,hR⟩
    ·grind
    ·exact ⟨b,off+p*sz,o,hya.addr (by omega),hh,hR.part⟩
  have hlo:(Builtin.lenOf (Value.slice ya m cy)).run c.P w= .ok m w:=nE;have hfi:(Builtin.firstCells sz r (Value.slice ya m cy)).run c.P w= .ok ((J.drop p).take r).flatten.toArray w:=X;by_cases hr0:r=0
  ·subst hr0;refine ⟨I ((0:Nat):Int),w,bi T sz s cap rows::F,?_,hS1,rfl,by simp⟩;refine (qE (r:= .ok (I ((0:Nat):Int)) w) e1 e2 ?_).trans rfl;cases xa <;> simp[Builtin.copy_,underlying,program,Sem.run,hu,hz,sl,goInt,storeCells,hlo,hr,hfi]
  ·rcases dz hS1 with ⟨rfl,rfl,rfl,hF⟩ | ⟨b,cs,rfl,a1,a2,a3,a4,hP⟩
   ·simp at hk;omega
   ·obtain ⟨hle,V⟩:=uO (T:=T) (l:=l) (news:=(J.drop p).take r) h0 a1 a2 (by rw[O];omega) a3 S a4;have hst:=dy (P:=c.P) b (l*sz) T ((J.drop p).take r).flatten w cs 0 hP.at_ (by omega) Z;have hxa':=hxa.addr (by omega);subst hxa';refine ⟨I (r:Int),kC w b (.cells (cT cs (l*sz) ((J.drop p).take r).flatten) T (0,0)),_,(qE (r:= .ok (I (r:Int)) _) e1 e2 ?_).trans rfl,?_,rfl,rfl⟩
    ·simp[Builtin.copy_,underlying,program,Sem.run,hu,hz,sl,goInt,hlo,hr,hfi,hst]
    ·rw[O] at V;refine fy (hP.set (o':= .cells (cT cs (l*sz) ((J.drop p).take r).flatten) T (0,0)) rR) (by rw[fx,a1]) (by simp;omega) ?_ V
     grind
def xO (R:c.P.underlying t=some (.slice e))(S:∀w,(sizeOf e).run c.P w= .ok sz w):
  OpL c g E L ⟨d, .buildSlice t 0 #[],ty,pos,af,gu⟩ λv L'=>∃b,v=sl (some ⟨b,0,none⟩) 0 0/\L'=bi e sz (some ⟨b,0,none⟩) 0 []::L:=
 .of_run λa w V X O=>by
  refine ⟨sl (some ⟨w.heap.size,0,none⟩) 0 0,{w with heap:=w.heap.push (.cells #[] e (0,0))},bi e sz (some ⟨w.heap.size,0,none⟩) 0 []::L,?_,?_,_,rfl,rfl⟩
  ·have J:∀f:Nat->Value,Array.map f (Array.range 0)=#[]:=λf=>Array.eq_empty_of_size_eq_zero (by simp);simp[execOp,Instr.buildSlice,underlying,program,Sem.run,R,S,newRow,newObj,sl,Instr.fill,J]
  ·exact (O.alloc _).weak λm hm=> .inr ⟨_,_,rfl,hm,by simp,by simp,by simp,λj row hj=>by simp at hj⟩
def gb {P:Program}{w:World}{i:Nat}{m:Int}{cd:BoundsCode}(h:m=i)(hn:i<=n):(Instr.sliceBound (I m) n cd).run P w= .ok i w:=by
 simp_all[Instr.sliceBound,asIntOf]
def iU {m:Int}{l:Nat}(S:c.P.underlying t=some (.slice e))(V:∀w,(sizeOf e).run c.P w= .ok sz w)(hx:ev g E x=some (sl s n cap))(hy:ev g E y=some (I m))(hm:m=l)(hl:l<=n):
  OpV c g E L ⟨d, .slice t x (some y) none none,ty,pos,af,gu⟩ (sl (if cap=l then s else s.map (·.add (l*sz))) (n - l) (cap - l)):= .mk λa w J O R=>by
 have h1:=λcd=>gb (P:=c.P) (w:=w) (cd:=cd) hm hl;simp only[execOp,Instr.sliceAt,Instr.slice,Instr.sliceBounds,Option.map_some,Zd,J.ev O hx,J.ev O hy,sl]
 simp_all[underlying]
def lX {m:Int}{h:Nat}(S:c.P.underlying t=some (.slice e))(V:∀w,(sizeOf e).run c.P w= .ok sz w)(hx:ev g E x=some (sl s n cap))(hy:ev g E y=some (I m))(hm:m=h)(hl:h<=cap):
  OpV c g E L ⟨d, .slice t x none (some y) none,ty,pos,af,gu⟩ (sl s h cap):= .mk λa w J O R=>by
 have h1:=λcd=>gb (P:=c.P) (w:=w) (cd:=cd) hm hl;simp only[execOp,Instr.sliceAt,Instr.slice,Instr.sliceBounds,Option.map_some,Zd,J.ev O hx,J.ev O hy,sl]
 simp_all[underlying,Addr.add]
def D4 {m S:Int}{l h:Nat}(Y:c.P.underlying t=some (.slice e))(Z:∀w,(sizeOf e).run c.P w= .ok sz w)(hx:ev g E x=some (sl s n cap))(hy:ev g E y=some (I m))(hm:m=l)(R:ev g E z=some (I S))(hm2:S=h)(hl:l<=h)(hh:h<=cap):
  OpV c g E L ⟨d, .slice t x (some y) (some z) none,ty,pos,af,gu⟩ (sl (if cap=l then s else s.map (·.add (l*sz))) (h - l) (cap - l)):= .mk λa w J O X=>by
 have h1:=λcd=>gb (P:=c.P) (w:=w) (cd:=cd) hm hl;have V:=λcd=>gb (P:=c.P) (w:=w) (cd:=cd) hm2 hh;simp only[execOp,Instr.sliceAt,Instr.slice,Instr.sliceBounds,Option.map_some,Zd,J.ev O hx,J.ev O hy,J.ev O R,sl]
 simp_all[underlying]
def uQ (p:List UInt8)(l h:Nat):(⟨⟨p⟩⟩:ByteArray).extract l h=⟨⟨(p.take h).drop l⟩⟩:=by
 apply ByteArray.ext
 grind[ByteArray.data_extract]
def wU {m:Int}{l:Nat}{p:List UInt8}(S:c.P.underlying t=some .string)[hx:EV g E x (aC p)][hy:EV g E y (I m)](hl:l<=p.length)(hm:m=l:=by exact rfl):
  OpV c g E L ⟨d, .slice t x (some y) none none,ty,pos,af,gu⟩ (aC (p.drop l)):=have hx:=hx.p;have hy:=hy.p;.mk λa w J O R=>by
 have hs:(⟨⟨p⟩⟩:ByteArray).size=p.length:=rfl;have h1:=λcd=>gb (P:=c.P) (w:=w) (cd:=cd) (n:=p.length) hm hl;simp only[execOp,Instr.sliceAt,Instr.slice,Instr.sliceBounds,Option.map_some,Zd,J.ev O hx,J.ev O hy]
 simp_all[underlying,uQ]
def Ov {m:Int}{h:Nat}{p:List UInt8}(S:c.P.underlying t=some .string)(hx:ev g E x=some (aC p))(hy:ev g E y=some (I m))(hm:m=h)(hl:h<=p.length):
  OpV c g E L ⟨d, .slice t x none (some y) none,ty,pos,af,gu⟩ (aC (p.take h)):= .mk λa w J O R=>by
 have hs:(⟨⟨p⟩⟩:ByteArray).size=p.length:=rfl;have h1:=λcd=>gb (P:=c.P) (w:=w) (cd:=cd) (n:=p.length) hm hl;simp only[execOp,Instr.sliceAt,Instr.slice,Instr.sliceBounds,Option.map_some,Zd,J.ev O hx,J.ev O hy]
 simp_all[underlying,uQ]
def gc {m S:Int}{l h:Nat}{p:List UInt8}(Y:c.P.underlying t=some .string)[hx:EV g E x (aC p)][hy:EV g E y (I m)][J:EV g E z (I S)](hl:l<=h)(hm:m=l:=by exact rfl)(hm2:S=h:=by exact rfl)(hh:h<=p.length:=by omega):
  OpV c g E L ⟨d, .slice t x (some y) (some z) none,ty,pos,af,gu⟩ (aC ((p.take h).drop l)):=have hx:=hx.p;have hy:=hy.p;have J:=J.p;.mk λa w O R X=>by
 have hs:(⟨⟨p⟩⟩:ByteArray).size=p.length:=rfl;have h1:=λcd=>gb (P:=c.P) (w:=w) (cd:=cd) hm hl;have V:=λcd=>gb (P:=c.P) (w:=w) (cd:=cd) (n:=p.length) hm2 hh;simp only[execOp,Instr.sliceAt,Instr.slice,Instr.sliceBounds,Option.map_some,Zd,O.ev R hx,O.ev R hy,O.ev R J]
 simp_all[underlying,uQ]
end
end Go.Sl
namespace Go.Sl
def aA (l:List UInt8):List (List Value):=l.map λb=>[By b.toNat]
theorem gt (l:List UInt8):(aA l).length=l.length:=by simp[aA]
def F9 (n:Nat):List.replicate n [By 0]=aA (List.replicate n 0):=by simp[aA]
theorem mT (l:List UInt8):(aA l).flatten=(l.map λb=>(b.toNat:Int)).map (Value.int .u8):=by
 induction l with
 | nil=>rfl
 | cons b l J=>simpa [aA] using J
def Ga (l:List UInt8):∀(p:List UInt8),(l.map λb=>(b.toNat:Int)).foldl (λ(r:ByteArray) n=>r.push (UInt8.ofNat n.toNat)) ⟨⟨p⟩⟩=⟨⟨p++l⟩⟩:=by
 induction l with
 | nil=>intro p;simp
 | cons b l J=>
  simp_all
section
variable {c:Cx}{g:Option (Nat×Bool)}{E:dr}{L L':List ag}{d:Option Tmp}{ty:TypeId}{pos:String}{af:Array Edge}{gu:Option (Nat×Bool)}{K:List KI}
variable {x y z:Operand}{t u e:TypeId}{k:IntKind}{v v1 v2:Value}{s:Option Addr}{b o i j n sz cap off:Nat}
def cg {l:List UInt8}{rows:List (List Value)}(hu:c.P.underlying t=some (.slice e))(he:c.P.underlying e=some (.int .u8))(O:c.P.underlying u=some .string)[hx:EV g E x (sl s n cap)][Y:SlR L s 1 rows](hr:rows=aA l)(hn:n=l.length:=by exact rfl):
  OpV c g E L ⟨d, .convert t u x,ty,pos,af,gu⟩ (aC l):=have hx:=hx.p;.mk λa w V Z X=>by
 have R:=Y.out _ _ X;subst hr hn;have S:=V.ev Z hx;have key:(Conv.bytesToString (sl s l.length cap)).run c.P w= .ok (aC l) w:=by
  cases s with
  | none=>
   rcases R with h | ⟨b,off,o,h,_⟩
   ·have:l=[]:=(by simpa [aA] using h);subst this;simp[Conv.bytesToString,sl,Sem.run];rfl
   ·cases h
  | some a=>
   have hl:(loadCells a l.length).run c.P w= .ok ((l.map λb=>(b.toNat:Int)).map (Value.int .u8)).toArray w:=by
    have:=oG (P:=c.P) (w:=w) (cap:=cap) (m:=l.length) (n:=l.length) (sz:=1) (rows:=aA l) (s:=some a) (by decide) (by simp[aA]) (gt l) R
    grind[mT,Builtin.firstCells,sl]
   have:=run_bytesToString w a l.length cap _ hl;rw[show ByteArray.empty=⟨⟨[]⟩⟩ from rfl,Ga] at this;simpa [sl] using this
 simp only[execOp,S,sl];simp[convert,underlying,program,Sem.run,hu,O,he];have J:(Conv.bytesToString (Value.slice s l.length cap)).run c.P w= .ok (aC l) w:=key;simp[J]
def sT {n:Int}(h:0<=n/\n<18446744073709551616):IntKind.u64.wrap n=n:=by
 show n % 2 ^ 64=n;omega
def B3 (n:Nat){a m:Int}{yt:TypeId}(hx:ev g E x=some (.int .u64 a))(X:0<=a/\a<18446744073709551616)(hn:n<=63)(hm:m=2 ^ n - 1):OpV c g E L ⟨d, .binOp .and t x (.const (.int .u64 m)) yt,ty,pos,af,gu⟩ (.int .u64 (a % 2 ^ n)):=by
 refine QZ (.inl rR) hx rR λP w=>?_;have h1:(2:Int) ^ n=((2 ^ n:Nat):Int):=(by simp);have hp:2 ^ n<=2 ^ 63:=Ze (by decide) hn;have O:1<=2 ^ n:=Nat.one_le_two_pow;have e:IntKind.u64.bits=64:=rfl;have R:(BitVec.ofInt IntKind.u64.bits m).toNat=2 ^ n - 1:=by
  grind
 have J:((BitVec.ofInt IntKind.u64.bits a &&& BitVec.ofInt IntKind.u64.bits m).toNat:Int)=a % 2 ^ n:=by
  grind[Nat.and_two_pow_sub_one_eq_mod,BitVec.toNat_ofInt]
 have S:0<=a % 2 ^ n:=Int.emod_nonneg _ (by rw[h1];omega);have V:a % 2 ^ n<2 ^ n:=Int.emod_lt_of_pos _ (by rw[h1];omega);simp only[Op.intBits,J];rw[sT (by omega)]
 rfl
def Gb (V:c.P.underlying t=some (.slice e))(hx:ev g E x=some (sl s n cap)):OpV c g E L ⟨d, .binOp .eql t x (.const (.slice none 0 0)) u,ty,pos,af,gu⟩ (Bo s.isNone):= .mk λa w R S X=>by
 have O:a.eval (.const (.slice none 0 0))= .slice none 0 0:=rfl;have J:(Op.equal t (sl s n cap) (.slice none 0 0)).run c.P w= .ok s.isNone w:=by
  show (Op.equalIn (9999+1) _ _ _).run _ _=_;unfold Op.equalIn;cases s <;> simp[underlying,program,Sem.run,V,sl]
 simp only[execOp,R.ev S hx,O,sl,eqGuard,binOp] at J ⊢;simp[J,Sem.run]
end
end Go.Sl
namespace Go.Sl
theorem Sat.dropAll {w0 w:World}:∀{L X:List ag},Sat w0 w (L++X)->Sat w0 w X
 | [],X,h=>h
 | A::L,X,h=>Sat.dropAll (L:=L) (Sat.tail h)
instance Sub.none {L:List ag}:Sub L []:=⟨λw0 w X h=>by simpa using Sat.dropAll h⟩
def xP:List ag->ag
 | []=>kz True
 | A::As=>DR A (xP As)
theorem Sat.list {w0 w:World}:∀{J X:List ag},Sat w0 w (xP J::X)->Sat w0 w (J++X)
 | [],X,h=>h.tail
 | A::J,X,h=>by
  have h1:Sat w0 w (xP J::(X++ [A])):=(Sat.star h).moveEnd;have O:=Sat.list h1;rw[<-Zf] at O;exact O.endFront
theorem Sat.list_mk {w0 w:World}:∀{J X:List ag},Sat w0 w (J++X)->Sat w0 w (xP J::X)
 | [],X,h=>Sat.pure_mk trivial h
 | A::J,X,h=>by
  have h1:Sat w0 w (J++(X++ [A])):=by
   have:=Sat.moveEnd h;simpa using this
  have O:Sat w0 w ((xP J::X)++ [A]):=Sat.list_mk h1;exact O.endFront.two
def hx {α:Type}(A:α->List ag):ag:=QV λz=>xP (A z)
theorem Sat.hx {w0 w:World}{α:Type}{A:α->List ag}{X:List ag}(h:Sat w0 w (hx A::X)):∃z,Sat w0 w (A z++X):=let ⟨z,hz⟩:=Sat.ex h;⟨z,hz.list⟩
theorem Sat.hx_mk {w0 w:World}{α:Type}{A:α->List ag}{X:List ag}(z:α)(h:Sat w0 w (A z++X)):Sat w0 w (Go.Sl.hx A::X):=Sat.ex_mk z h.list_mk
section
variable {c:Cx}{g:Option (Nat×Bool)}{E:dr}{L L':List ag}{K:List KI}
def jl {α:Type}{A:α->List ag}{F:List ag}(B:ag)(J:B=hx A)[R:Rem L B F](k:∀z,G c K E (A z++F)):G c K E L:=λa w O S=>by
 have h:=R.sat S;rw[J] at h;obtain ⟨z,V⟩:=h.hx;exact k z a w O V
def kE {T sz cap:Nat}{rows:List (List Value)}{F:List ag}(s:Option Addr)(J:List (List Value))[R:OwR L s T sz cap rows F](h:rows=J)(k:G c K E (bi T sz s cap J::F)):G c K E L:=λa w O S=>by
 subst h;exact k a w O (R.sat S)
def ic {α:Type}{A:α->List ag}{F:List ag}(Pre:List ag)(B:ag)(z:α)[S:Split L Pre F](k:G c K E (B::F))(J:B=hx A:=by exact rfl)(hA:A z=Pre:=by exact rfl):G c K E L:=λa w O R=>by
 refine k a w O ?_;rw[J];exact Sat.hx_mk z (hA ▸ S.sat R)
end
end Go.Sl
namespace Go.Sl
section
variable {P:Program}{ops:Array Oper}{C:World->Prop}{Q Q1 Q2:fu}{z:Nat}
def Jj {i:Nat}{a:Act}{w:World}{K:Act->World->Prop}(hp:∀J a w,Q1 (.panic J) a w->Q2 (.panic J) a w)(hl:LetsOut Q1->LetsOut Q2)(h:wpOp P ops Q1 i K a w):wpOp P ops Q2 i K a w:=by
 have key:∀(o:Oper) (r:Result Next),o.upon P a K Q1 r->o.upon P a K Q2 r:=λo r h=>by
  cases r with
  | ok n w'=>
   cases n <;> simp only[Oper.upon] at h ⊢
   case enter f args=>exact h.mono λe O he=>by grind
   all_goals exact h
  | halt x w'=>cases x <;> simp only[Oper.upon] at h ⊢ <;> first | exact hp _ _ _ h | exact h
 unfold wpOp at*;split
 ·simpa [*] using h
 ·rename_i o ho;simp only[ho] at h;split
  ·rename_i hw;simp only[hw,if_true] at h;exact h.imp (key o _) (λh=>⟨h.1,hl h.2⟩)
  grind
def wpAnyZ (P:Program)(ops:Array Oper)(C:World->Prop)(z:Nat)(Q:fu):Nat->Array Bool->Act->World->Prop
 | 0,listed,a,w=>(listed.getD z false=true\/C w)/\Region.ready .any ops listed=[]/\Q .normal a w
 | fuel+1,listed,a,w=>
  (listed.getD z false=true\/C w)/\(Region.ready .any ops listed=[]->Q .normal a w)/\
  ∀i∈Region.ready .any ops listed,wpOp P ops Q i (wpAnyZ P ops C z Q fuel (listed.setIfInBounds i true)) a w
theorem wpAnyZ.cls {fuel:Nat}{J:Array Bool}{a:Act}{w:World}(h:wpAnyZ P ops C z Q fuel J a w):J.getD z false=true\/C w:=by
 cases fuel <;> exact h.1
def xQ:∀(fuel:Nat) (J:Array Bool) (a:Act) (w:World),wpAnyZ P ops C z Q fuel J a w->wpAny P .any ops Q fuel J a w
 | 0,_,_,_,h=>h.2
 | fuel+1,_,_,_,h=>⟨h.2.1,λi hi=>wpOp_mono (λa w=>xQ fuel _ a w) (h.2.2 i hi)⟩
def AG (ops:Array Oper):Nat->Nat->Nat->Prop
 | 0,_,_=>False
 | f+1,k,i=>∃ok,ops[k]? =some ok/\∃e∈ok.after,Region.binds .any e=true/\(e.on=i\/AG ops f e.on i)
def rV (ops:Array Oper)(z i:Nat):Prop:=∀oz,ops[z]? =some oz->∃e∈oz.after,Region.binds .any e=true/\(e.on=i\/AG ops 6 e.on i)
def closed (ops:Array Oper)(listed:Array Bool):Prop:=∀k ok,ops[k]? =some ok->listed.getD k false=true->∀e∈ok.after,Region.binds .any e=true->listed.getD e.on false=true
theorem ru {J:Array Bool}{j k:Nat}(h:J.getD k false=true):(J.setIfInBounds j true).getD k false=true:=by
 by_cases O:j=k
 ·subst O;rcases YL j J.size with R | R
  ·simp[R]
  grind
 simp_all
def rW {J:Array Bool}{j:Nat}(V:closed ops J)(hj:j∈Region.ready .any ops J):closed ops (J.setIfInBounds j true):=λk ok hk hl e he S=>by
 obtain ⟨_,Y,X,R⟩:=mem_ready.1 hj;by_cases O:j=k
 ·grind[ru]
 ·rw[getD_set_ne false O] at hl;exact ru (V k ok hk hl e he S)
def sU {J:Array Bool}(O:closed ops J):∀{f k i:Nat},J.getD k false=true->AG ops f k i->J.getD i false=true
 | 0,_,_,_,h=>h.elim
 | f+1,k,i,hk,⟨ok,hok,e,he,R,h⟩=>by
  have h1:=O k ok hok hk e he R;rcases h with h | h
  ·rw[<-h];exact h1
  ·exact sU O h1 h
def B4 {i:Nat}{oi:Oper}{v:Value}(hi:ops[i]? =some oi)(hsel:∀(j:Nat) (o:Oper) cs b,ops[j]? =some o->o.op≠ .select cs b)
  (hQ:∀c a w,Q (.panic c) (a.put oi.dst v) w->Q (.panic c) a w) (hiz:i≠z) (hz:rV ops z i):
  ∀(fuel:Nat) (J:Array Bool) (a:Act) (w:World),
   (∀j oj,ops[j]? =some oj->j≠i->J.getD j true=false->(∀e∈oj.after,Region.binds .any e=true->e.on≠i)->oi.apart ops oj=true)->
   i∈Region.ready .any ops J->closed ops J->J.getD z false=false->YieldsC P ops C oi v a->C w->
   wpAnyZ P ops C z Q fuel (J.setIfInBounds i true) (a.put oi.dst v) w->wpAnyZ P ops C z Q (fuel+1) J a w:=by
 intro fuel
 induction fuel with
 | zero=>
  intro J a w _ hr _ _ hy hw H;refine ⟨.inr hw,λh=>(by rw[h] at hr;cases hr),λj hj=>?_⟩;by_cases O:j=i
  ·subst O;exact hy.wpOp hi hw H
  ·have:=ready_mono hj O;rw[H.2.1] at this;cases this
 | succ fuel ih=>
  intro J a w R hr hcl hlz hy hw H;refine ⟨.inr hw,λh=>(by rw[h] at hr;cases hr),λj hj=>?_⟩;by_cases O:j=i
  ·subst O;exact hy.wpOp hi hw H
  ·have h1:=H.2.2 j (ready_mono hj O);obtain ⟨Y,oj,V,X⟩:=mem_ready.1 hj;have Z:∀e∈oj.after,Region.binds .any e=true->e.on≠i:=λe he hb heq=>by
    have h1:=X e he hb;have h0:=(mem_ready.1 hr).1
    grind
   have hjz:j≠z:=λe=>by
    subst e;obtain ⟨e,he,hb,h⟩:=hz oj V;rcases h with h | h
    ·exact Z e he hb h
    ·have h5:=X e he hb;have h6:J.getD i false=true:=sU hcl h5 h;have h0:=(mem_ready.1 hr).1
     grind
   have h2:=AA V (R j oj V O Y Z) (λcs b=>hsel i oi cs b hi) (λcs b=>hsel j oj cs b V) hQ hy h1;have S:∀k ok,ops[k]? =some ok->k≠i->(J.setIfInBounds j true).getD k true=false->
     (∀e∈ok.after,Region.binds .any e=true->e.on≠i)->oi.apart ops ok=true:=λk ok hk hki hun hno=>by
    refine R k ok hk hki ?_ hno;by_cases hjk:j=k
    ·subst hjk;exact Y
    simp_all
   have hlz':(J.setIfInBounds j true).getD z false=false:=(by simp_all);refine wpOp_mono (λa' w' h3=>ih (J.setIfInBounds j true) a' w' S (ready_mono hr (Ne.symm O)) (rW hcl hj) hlz' h3.1 ?_ ?_) h2
   ·rcases h3.2.cls with h | h
    ·simp_all
    ·exact h
   grind[Array.setIfInBounds_comm]
def lY (hs:Region.noSelect ops=true)(hQ:∀c a d v w,Q (.panic c) (a.put d v) w->Q (.panic c) a w)(Y:∀ch a w,Q1 (.panic ch) a w->Q (.panic ch) a w)(V:LetsOut Q1->LetsOut Q)(X:∀a w,Q1 .normal a w->wpOp P ops Q z (λa w=>Q .normal a w) a w):
  ∀(l:List (Nat×Bool)) (J:Array Bool) (a:Act) (w:World),
  hZ ops (l++ [(z,true)]) J=true->(∀p∈l,p.1≠z/\rV ops z p.1)->closed ops J->J.getD z true=false->rL P ops C Q1 l a w->wpAnyZ P ops C z Q (l.length+1) J a w
 | [],J,a,w,hp,_,_,O,h=>by
  simp only[Zg,hZ,Yr,beq_iff_eq] at hp;refine ⟨.inr h.1,λh0=>(by rw[hp.1] at h0;cases h0),λj hj=>?_⟩;rw[hp.1] at hj;have:j=z:=(by simpa using hj);subst this;have hlt:j<J.size:=by
   grind
  refine wpOp_mono (λa w hq=>⟨.inl ?_,by simpa using hp.2,hq⟩) (X a w h.2);simp[hlt]
 | (i,false)::l,J,a,w,hp,hz,R,O,h=>by
  simp only[Zh,hZ,Yr] at hp;obtain ⟨⟨hr,hf⟩,hp'⟩:=hp;obtain ⟨hw,o,v,ho,hy,h⟩:=h;obtain ⟨S,hzi⟩:=hz (i,false) (by simp);have Z:J.getD z false=false:=by
   rcases YL z J.size with h' | h'
   ·simp[h'] at O ⊢;exact O
   ·simp[Array.getElem?_eq_none h'] at O
  exact B4 ho (Region.noSelect_spec hs) (λc a w=>hQ c a _ _ w) S hzi (l.length+1) J a w (Region.free_spec ho hf) (by simpa using hr) R Z hy hw
   (lY hs hQ Y V X l _ _ _ hp' (λp hp=>hz p (by simp[hp])) (rW R (by simpa using hr)) (by rw[getD_set_ne true S];exact O) h)
 | (i,true)::l,J,a,w,hp,hz,R,O,h=>by
  simp only[Zh,hZ,Yr,beq_iff_eq] at hp;obtain ⟨S,hzi⟩:=hz (i,true) (by simp);refine ⟨.inr h.1,λh0=>(by rw[hp.1] at h0;cases h0),λj hj=>?_⟩;rw[hp.1] at hj;have:j=i:=(by simpa using hj);subst this;exact Jj Y V (wpOp_mono (λa w=>lY hs hQ Y V X l _ a w hp.2 (λp hp=>hz p (by simp[hp])) (rW R (by rw[hp.1];simp)) (by rw[getD_set_ne true S];exact O)) h.2)
def B5 (ops:Array Oper):Nat->Nat->Nat->Bool
 | 0,_,_=>false
 | f+1,k,i=>match ops[k]? with
  | some ok=>(ok.after.any λe=>Region.binds .any e && Nat.beq e.on i) || ok.after.any λe=>Region.binds .any e && B5 ops f e.on i
  | none=>false
def vX {ops:Array Oper}:∀{f k i:Nat},B5 ops f k i=true->AG ops f k i
 | 0,_,_,h=>by cases h
 | f+1,k,i,h=>by
  unfold B5 at h;split at h
  ·rename_i ok hok;rw[Zi,Zj,Zj] at h;rcases h with ⟨j,hj,h⟩ | ⟨j,hj,h⟩
   ·rw[Yr] at h;exact ⟨ok,hok,ok.after[j],Zk hj,h.1, .inl (Yn h.2)⟩
   ·rw[Yr] at h;exact ⟨ok,hok,ok.after[j],Zk hj,h.1, .inr (vX h.2)⟩
  ·cases h
def B6 (ops:Array Oper)(z i:Nat):Bool:=match ops[z]? with
 | some oz=>B5 ops 7 z i
 | none=>true
theorem D5 {i:Nat}(h:B6 ops z i=true):rV ops z i:=λR J=>by
 simp only[B6,J] at h;obtain ⟨ok,hok,e,he,O,h⟩:=vX h
 grind
def wx {id:Nat}{a:Act}{w:World}{l:List (Nat×Bool)}(hm:P.follows .mixedOrders=true)(hs:Region.noSelect ops=true)(hl:l.length+1=ops.size)(J:z<ops.size)
  (X:∀c a d v w,Q (.panic c) (a.put d v) w->Q (.panic c) a w) (S:∀V a w,Q1 (.panic V) a w->Q (.panic V) a w) (O:LetsOut Q1->LetsOut Q) (R:∀a w,Q1 .normal a w->wpOp P ops Q z (λa w=>Q .normal a w) a w)
  (hp:hZ ops (l++ [(z,true)]) (Array.replicate ops.size false)=true) (Y:l.all (λp=>!(Nat.beq p.1 z) && B6 ops z p.1)=true)
  (h:rL P ops C Q1 l a {w with drawn:=w.drawn+1}):(Code.region id ops true).wp P Q a w:=
 wp_region_any hm (xQ (C:=C) (z:=z) _ _ _ _ (by
  rw[<-hl];rw[<-hl] at hp J;refine lY hs X S O R l _ a _ hp (λp hp=>?_) (λk ok _ hl=>by simp[Array.getElem?_replicate] at hl;grind) (by simp[J]) h
  grind[Nat.ne_of_beq_eq_false,D5]))
end
section
variable {c:Cx}{E:dr}{L:List ag}{K:List KI}
def eU {id:Nat}{l:List Oper}{Lf:List ag}{O:Oper}(pl:List (Nat×Bool))(z:Nat)[J:NT l z O](h:G c (.plan l (λw=>Sat c.w0 w Lf) pl:: .ops l [O]::K) E L)(hm:c.P.follows .mixedOrders=true:=by kernel_rfl)(hs:Region.noSelect l.toArray=true:=by kernel_rfl)(hl:pl.length+1=l.length:=by exact rfl)(hp:hZ l.toArray (pl++ [(z,true)]) (Array.replicate l.length false)=true:=by kernel_rfl)(Z:pl.all (λp=>!(Nat.beq p.1 z) && B6 l.toArray z p.1)=true:=by kernel_rfl):G c (.code (.region id l.toArray true)::K) E L:=have J:=J.p;λa w X Y=>by
 have S:z<l.length:=(Yh.1 J).1;refine wx (Q1:=kq c.P c.Q (.ops l [O]::K)) (z:=z) (l:=pl) hm hs (by simpa using hl) (by simpa using S) (λV a d v w hq=>absurd hq i7) (λV a w h=>h) (λh=>h) (λa w h=>?_) (by simpa using hp) Z (h a _ X (Y.drew _));have R:l.toArray[z]? =some O:=(by simpa using J);unfold wpOp;rw[R];exact h
end
section
variable {c:Cx}{g:Option (Nat×Bool)}{E:dr}{L L':List ag}{d:Option Tmp}{ty:TypeId}{pos:String}{af:Array Edge}{gu:Option (Nat×Bool)}
variable {x y:Operand}{t:TypeId}{v:Value}{s:Option Addr}{j sz cap:Nat}
def Jk {rows:List (List Value)}{row:List Value}{T:Nat}{F:List ag}(O:∀w,(sizeOf t).run c.P w= .ok 1 w)(hx:ev g E x=some (Ae s (j*sz)))(hy:ev g E y=some v)(h1:one v=true)[R:OwR L s T sz cap rows F](hj:rows[j]? =some row)(J:0<sz):
 OpL c g E L ⟨d, .store t x y,ty,pos,af,gu⟩ λ_ L'=>L'=bi T sz s cap (rows.set j (row.set 0 v))::F:=sK O (f:=0) (hx:=⟨by simpa using hx⟩) (hy:=⟨hy⟩) (h1:=by exact h1) hj J
end
end Go.Sl
namespace Go.Sl
section
variable {c:Cx}{g:Option (Nat×Bool)}{E:dr}{L L':List ag}{d:Option Tmp}{ty:TypeId}{pos:String}{af:Array Edge}{gu:Option (Nat×Bool)}
variable {x y:Operand}{t u e:TypeId}{p:Option Addr}
def D6 {P:Program}{w:World}(J:P.underlying t=some (.pointer e)):(Op.equal t (.pointer p) (.pointer none)).run P w= .ok p.isNone w:=by
 show (Op.equalIn (9999+1) _ _ _).run _ _=_;unfold Op.equalIn;cases p <;> simp[underlying,program,Sem.run,J]
def rX (V:c.P.underlying t=some (.pointer e))[hx:EV g E x (.pointer p)]:OpV c g E L ⟨d, .binOp .eql t x (.const (.pointer none)) u,ty,pos,af,gu⟩ (Bo p.isNone):=have hx:=hx.p;.mk λa w R S X=>by
 have O:a.eval (.const (.pointer none))= .pointer none:=rfl;have J:=D6 (P:=c.P) (w:=w) (p:=p) V;simp only[execOp,R.ev S hx,O,eqGuard,binOp] at J ⊢;simp[J,Sem.run]
end
end Go.Sl
namespace Go.Sl
section
variable {c:Cx}{E:dr}{L:List ag}{d:Nat}{ty:TypeId}{pos:String}{af:Array Edge}{K:List KI}{all:List Oper}{op:Op}{N:Value->List ag->Prop}{Lf:List ag}{pl:List (Nat×Bool)}
def Gc {i j s:Nat}{b J:Bool}(hi:all[i]? =some ⟨some d,op,ty,pos,af,some (j,J)⟩)[hj:DS all j s][hs:LK none E s (.bool b)][V:Sub L Lf](h:OpL c none E L ⟨some d,op,ty,pos,af,some (j,J)⟩ N)(k:∀v L',N v L'->G c (.plan all (λw=>Sat c.w0 w Lf) pl::K) ((d,none,v)::E) L')(hw:b=J:=by exact rfl)(hd:lE c.n d E=true:=by exact rfl):G c (.plan all (λw=>Sat c.w0 w Lf) ((i,true)::pl)::K) E L:=have hj:=hj.p;have hs:=hs.p;λa w O S=>by
 have hy:=jk (a:=a) hj O hs;refine ⟨V.sat S,?_⟩;unfold wpOp;simp only[YD,hi];rw[YB (by grind[Region.wanted])];exact .inl (h.out a w O (cR a) S _ _ λv w' L' R X=>k v L' X _ w' (O.put1 hd) R)
def aN {i j s:Nat}{b J:Bool}{v:Value}(hi:all[i]? =some ⟨some d,op,ty,pos,af,some (j,J)⟩)[hj:DS all j s][hs:LK none E s (.bool b)][V:Sub L Lf](h:OpV c none E Lf ⟨some d,op,ty,pos,af,some (j,J)⟩ v)(k:G c (.plan all (λw=>Sat c.w0 w Lf) pl::K) ((d,none,v)::E) L)(hw:b=J:=by exact rfl)(hd:lE c.n d E=true:=by exact rfl):G c (.plan all (λw=>Sat c.w0 w Lf) ((i,false)::pl)::K) E L:=have hj:=hj.p;have hs:=hs.p;λa w O S=>by
 have hy:=jk (a:=a) hj O hs;exact ⟨V.sat S,_,v,by simpa using hi, .inl ⟨by grind[Region.wanted],λw' R=> .inl (h.out a w' O (cR a) R)⟩,k _ w (O.put1 hd) S⟩
end
end Go.Sl
namespace Go.Sl
section
variable {c:Cx}{g:Option (Nat×Bool)}{E:dr}{L L':List ag}{d:Option Tmp}{ty:TypeId}{pos:String}{af:Array Edge}{gu:Option (Nat×Bool)}
variable {x y z y3:Operand}{t u e:TypeId}{k:IntKind}{v:Value}{s:Option Addr}{b o i j n sz cap off:Nat}
def fW {f:FuncId}{O:List Operand}{fi cap vs:List Value}{ats:Array TypeId}{Pre F:List ag}{R:List ag->Value->List ag->Prop}(J:∀args w,(callFunc f args).run c.P w= .ok (.enter f args) w)(Z:ev g E x=some (.func (.func f) fi.toArray cap.toArray))(hx:evs g E O=some vs)(h:∀F,Ct c.P f (fi++vs++cap) (Pre++F) (R F))[S:Split L Pre F]:
  OpL c g E L ⟨d, .call {callee:= .value x,args:=O.toArray,argTypes:=ats},ty,pos,af,gu⟩ (R F):=by
 constructor;intro a w V X Y nx Q hn;unfold Oper.wp;have hr:(execOp a.eval ⟨d, .call {callee:= .value x,args:=O.toArray,argTypes:=ats},ty,pos,af,gu⟩).run c.P w= .ok (.enter f (fi++vs++cap).toArray) w:=by
  simp[execOp,resolve,V.ev X Z,Deferred.ofValue,invoke,J,<-V.evs X hx]
 rw[hr];refine (h F c.w0 w (S.sat Y)).mono λe w' he=>?_
 grind
theorem Rows.take {O:Obj}{off:Nat}{rows:List (List Value)}(h:Rows O off sz rows)(i:Nat):Rows O off sz (rows.take i):=λj row hj f v R=>by
 have J:j<i:=(by grind);rw[Za J] at hj;exact h j row hj f v R
def xR {ya:Option Addr}{p m cy:Nat}{T:Nat}{rows:List (List Value)}{F:List ag}(hu:c.P.underlying t=some (.slice T))(hz:∀w,(sizeOf T).run c.P w= .ok sz w)(h0:0<sz)
  (hx:ev g E x=some (sl s i cap)) (hy:ev g E y=some (sl ya m cy)) [R:OwR L s T sz cap rows F] (hya:At ya s p sz m) (hi:i<=rows.length) (hp:p+m<=rows.length) (him:i+m<=rows.length) (hr0:0<rows.length) (h1:∀r∈rows,ones r=true):
  OpL c g E L ⟨d, .call {callee:= .builtin .append,args:=#[x,y],argTypes:=#[t,t]},ty,pos,af,gu⟩ λv L'=>v=sl s (i+m) cap/\L'=bi T sz s cap (rows.take i++(rows.drop p).take m)::F:=
 .of_run λa w hE hg hS=>by
  have Z:=R.sat hS;have ex:=λw' v h=>mQ (d:=d) (ty:=ty) (pos:=pos) (af:=af) (gu:=gu) (t:=t) (u:=t) (r:= .ok v w') (P:=c.P) (w:=w) (hE.ev hg hx) (hE.ev hg hy) h;rcases dz Z with ⟨rfl,rfl,rfl,hF⟩ | ⟨b,cs,rfl,a1,a2,a3,a4,Y⟩
  ·simp at hr0
  ·have J:∀r∈(rows.drop p).take m,r.length=sz:=λr hr=>a3 r (Zb (Zc hr));have S:((rows.drop p).take m).length=m:=(by simp;omega);have V:(rows.take i).length=i:=(by simp;omega);have X:ones ((rows.drop p).take m).flatten=true:=kP λv hv=>by
    obtain ⟨r,hr,hv⟩:=YS.1 hv
    grind[j7]
   have hfi:(Builtin.firstCells sz m (sl ya m cy)).run c.P w= .ok ((rows.drop p).take m).flatten.toArray w:=by
    refine oG h0 J S ?_;by_cases hm0:m=0
    ·left;subst hm0;rfl
    ·exact .inr ⟨b,0+p*sz,_,hya.addr (by omega),Y.at_,a4.part⟩
   obtain ⟨hle,O⟩:=oD (T:=T) (rows:=rows.take i) (news:=(rows.drop p).take m) h0 a1 (by rw[V,S];omega) (λr hr=>a3 r (Zc hr)) J (a4.take i);rw[V] at hle O;have hst:=dy (P:=c.P) b (i*sz) T ((rows.drop p).take m).flatten w cs 0 Y.at_ (by omega) X;refine ⟨sl (some ⟨b,0,none⟩) (i+m) cap,kC w b (.cells (cT cs (i*sz) ((rows.drop p).take m).flatten) T (0,0)),_,ex _ _ ?_,?_,rfl,rfl⟩
   ·exact lV (base:=some ⟨b,0,none⟩) hu hz nE hfi (by omega) (by simpa [ga] using hst)
   ·refine fy (Y.set (o':= .cells (cT cs (i*sz) ((rows.drop p).take m).flatten) T (0,0)) rR) (by rw[fx,a1]) (by simp;omega) ?_ O
    grind
def Jl {zv:Array Value}(h:ones zv.toList=true)(n:Nat):ones (Builtin.zeroCells zv n).toList=true:=kP λv hv=>by
 grind[Builtin.zeroCells,Nat.mod_lt,j7]
def mU {xa:Option Addr}{l m cx:Nat}{zv:Value}{T:Nat}{rows:List (List Value)}{F:List ag}(s:Option Addr)(hu:c.P.underlying t=some (.slice T))(hzv:∀w,(zeroValue T).run c.P w= .ok zv w)(hzs:zv.cells.size=sz)(Z:ones zv.cells.toList=true)[hx:EV g E x (sl xa m cx)][R:OwR L s T sz cap rows F](Y:At xa s l sz m)(hl:rows.length<=l)(hm:l+m<=cap):
  OpL c g E L ⟨d, .call {callee:= .builtin .clear,args:=#[x],argTypes:=#[t]},ty,pos,af,gu⟩ λv L'=>v= .tuple #[]/\L'=bi T sz s cap rows::F:=have hx:=hx.p;
 .of_run λa w hE hg hS=>by
  have O:=R.sat hS;have e1:=hE.ev hg hx;by_cases V:m=0
  ·subst V;refine ⟨.tuple #[],w,_,?_,O,rfl,rfl⟩;cases xa <;> simp[execOp,resolve,invoke,builtin,e1,Builtin.clear_,underlying,program,Sem.run,hu,sl]
  ·rcases dz O with ⟨rfl,rfl,rfl,hF⟩ | ⟨b,cs,rfl,a1,a2,a3,a4,hP⟩
   ·omega
   ·have S:=Y.addr (by omega);subst S;have hzl:(Builtin.zeroCells zv.cells m).toList.length=m*sz:=(by rw[Array.length_toList,j8,hzs]);have hle:l*sz+(Builtin.zeroCells zv.cells m).toList.length<=cs.size:=(by rw[hzl,a1,<-YK];exact YQ _ hm);have X:=dy (P:=c.P) b (0+l*sz) T (Builtin.zeroCells zv.cells m).toList w cs 0 hP.at_ (by omega) (Jl Z m);refine ⟨.tuple #[],kC w b (.cells (cT cs (0+l*sz+0) (Builtin.zeroCells zv.cells m).toList) T (0,0)),bi T sz (some ⟨b,0,none⟩) cap rows::F,?_,?_,rfl,rfl⟩
    ·obtain ⟨q,rfl⟩:∃q,m=q+1:=⟨m - 1,by omega⟩;have J:=X;simp only[YR,Zm] at J;simp[execOp,resolve,invoke,builtin,e1,Builtin.clear_,underlying,program,Sem.run,hu,sl,hzv,J]
    ·refine fy (hP.set (o':= .cells (cT cs (0+l*sz+0) (Builtin.zeroCells zv.cells m).toList) T (0,0)) rR) (by rw[fx,a1]) a2 a3 λq row hq f v hf=>?_;have:=a4 q row hq f v hf;simp only[bG,YR,Zm] at this ⊢;have hq':=(Yh.1 hq).1;have hf':f<sz:=(by grind);have h5:(q+1)*sz<=l*sz:=YQ _ (by omega)
     grind[iI]
def La {m X Y:Int}{l h q:Nat}(hu:c.P.underlying t=some (.slice e))(hz:∀w,(sizeOf e).run c.P w= .ok sz w)(hx:ev g E x=some (sl s n cap))(hy:ev g E y=some (I m))(hm:m=l)(S:ev g E z=some (I X))(hm2:X=h)(V:ev g E y3=some (I Y))(R:Y=q)(hl:l<=h)(hh:h<=q)(hq:q<=cap):
  OpV c g E L ⟨d, .slice t x (some y) (some z) (some y3),ty,pos,af,gu⟩ (sl (if q=l then s else s.map (·.add (l*sz))) (h - l) (q - l)):= .mk λa w J O hS=>by
 have h1:=λcd=>gb (P:=c.P) (w:=w) (cd:=cd) hm hl;have Z:=λcd=>gb (P:=c.P) (w:=w) (cd:=cd) hm2 hh;have h3:=λcd=>gb (P:=c.P) (w:=w) (cd:=cd) R hq;simp only[execOp,Instr.sliceAt,Instr.slice,Instr.sliceBounds,Option.map_some,Zd,J.ev O hx,J.ev O hy,J.ev O S,J.ev O V,sl]
 simp_all[underlying]
end
end Go.Sl
namespace Go.Proofs.YthdjckbjjfiopabGreatDoor
open _root_.Go.Proofs.Tryz
open Go.Sl Go.Proofs
abbrev ak:=List UInt8
def dx (l:List ak):List (List Value):=l.map λs=>[aC s]
def sV (l:List ak):(dx l).length=l.length:=by simp[dx]
def i8 (n:Nat):ak:=List.replicate n 0
def bV (s:ak):ak:=s++i8 (80 - s.length)
def D7 {n:Int}{k:Nat}(h0:0<=n:=by omega)(h:n<2 ^ k:=by omega):n.fdiv (2 ^ k)=0:=by
 grind[Int.ediv_eq_zero_of_lt]
def sW (s:ak)(n k:Nat):List (List Value):=List.replicate k [aC s]++List.replicate (n - k) [aC []]
def D8 (s:ak){n k:Nat}(h:k<=n):(sW s n k).length=n:=by simp[sW];omega
def D9 (s:ak){n k:Nat}(r:List Value)(h:r∈sW s n k):r.length=1/\ones r=true:=by
 rcases Zn.1 h with h | h <;> (obtain ⟨_,rfl⟩:=List.mem_replicate.1 h;exact ⟨rfl,rfl⟩)
def Gd (s:ak){n:Nat}(h:1<=n):(List.replicate n [aC []]).take 0++(([[aC s]]:List (List Value)).drop 0).take (Nat.min 1 n)++(List.replicate n [aC []]).drop (0+Nat.min 1 n)=sW s n 1:=by
 grind[sW]
def Jm (s:ak){n k:Nat}(h:k<=n):(sW s n k).take k++((sW s n k).drop 0).take (Nat.min k (n - k))++(sW s n k).drop (k+Nat.min k (n - k))=sW s n (k+Nat.min k (n - k)):=by
 have h1:Nat.min k (n - k)<=k:=Nat.min_le_left _ _;have J:Nat.min k (n - k)<=n - k:=Zo _ _;generalize Nat.min k (n - k)=r at*;simp only[sW,Zp];rw[Zq (by simp),Zq (by simp;omega),List.drop_append,Zr,Zr,Zs];simp[Zs]
 grind
abbrev Uw (n:Int):Value:= .int .u64 n
def sX (s:ak)(hs:s.length<=80)(F:List ag):Ct Tryz.prog 100 [aC s] (F) (R1 (aC (bV s)) F):=by
 refine Ct.of func100 rR 10 ntmps100 (by simp) λw0=>?_;refine gS (gQ (gS (gM (gM (gV (cW Vg) (gV (fe (da (by omega))) (gI (vW (80 - s.length) Vs VP V0 Tryz.typeInfo5 rR (by decide) rR rR (by omega) ⟨by omega,by decide⟩) ?_)))))));rintro _ _ ⟨J,rfl,rfl⟩;refine gV (cg (l:=i8 (80 - s.length)) Vs Vq Vg (F9 _) (hn:=by simp[i8])) (gV (cS (by simp[i8];omega)) (gQ ?_));refine ao rR rR ?_;exact rfl
def B7 (n:Int)(hn:0<=n/\n<4294967296)(F:List ag):Ct Tryz.prog 237 [Uw 1,Uw n] (F) (R1 (.tuple #[Uw 0,Uw n]) F):=by
 refine Ct.of func237 rR 51 ntmps237 (by simp) λw0=>?_;refine gS (gA (gQ (gS (gM (gV (B3 32 rR (by omega) (by decide) (by decide)) (gQ ?_))))));rw[show (1:Int) % 2 ^ 32=1 by decide];refine gS (gM (gV (lU (r:=0) (D7 (k:=32))) (gQ (gS (gM (gV (B3 32 rR (by omega) (by decide) (by decide)) (gQ ?_)))))));rw[show n % 2 ^ 32=n by omega];refine gS (gM (gV (lU (r:=0) (D7 (k:=32))) (gQ (gS (gM (gM (gV (j5 (r:=n) (by rw[Int.one_mul];exact sT (by omega))) (gQ (gS (gM (gM (gV (j5 (r:=0) (by rw[Int.zero_mul];exact sT (by omega))) (gM (gV (lU (r:=0) (D7 (k:=32))) (gV (bO (r:=0) (by rw[show (0+0:Int)=0 by omega];exact sT (by omega))) (gQ (gS (gM (gV (B3 32 rfl (by omega) (by decide) (by decide)) (gQ ?_))))))))))))))))))));rw[show (0:Int) % 2 ^ 32=0 by decide];refine gS (gM (gV (lU (r:=0) (D7 (k:=32))) (gQ (gS (gM (gM (gM (gV (j5 (r:=0) (by rw[Int.mul_zero];exact sT (by omega))) (gV (bO (r:=0) (by rw[show (0+0:Int)=0 by omega];exact sT (by omega))) (gQ (gS (gM (gM (gV (j5 (r:=0) (by rw[Int.zero_mul];exact sT (by omega))) (gM (gV (bO (r:=0) (by rw[show (0+0:Int)=0 by omega];exact sT (by omega))) (gM (gV (lU (r:=0) (D7 (k:=32))) (gV (bO (r:=0) (by rw[show (0+0:Int)=0 by omega];exact sT (by omega))) (gQ (gS (gM (gM (gV (j5 (r:=n) (by rw[Int.one_mul];exact sT (by omega))) (gQ ?_)))))))))))))))))))))))));refine ao rR rR ?_;exact rfl
def Ge (n:Int)(hn:0<=n/\n<4294967296)(F:List ag):Ct Tryz.prog 174 [Uw 1,Uw n] (F) (R1 (.tuple #[Uw 0,Uw n]) F):=by
 refine Ct.of func174 rR 30 ntmps174 (by simp) λw0=>?_;refine gS (gA (gQ (ac ?_)));refine dW ?_;refine ai (gS (gM (gM (gR (vA call237 (B7 n hn)) (gM (gV aH (gV aH (gA (gQ (gS (gM (gM (gA (gQ ?_))))))))))))));refine ao rR rR ?_;exact rfl
def Ah (x:ak)(s:Option Addr)(cap:Nat)(n:Nat)(hn:1<=n/\n<=1048576)(F:List ag):Ct Tryz.prog 99 [sl s 1 cap,I n] (roL 1 s [[aC x]]::F) (ww 9 1 n (dx (List.replicate n x)) (roL 1 s [[aC x]]::F)):=by
 refine Ct.of func99 rR 48 ntmps99 (by simp) λw0=>?_;refine gS (gQ (ac (gS (gM (gV aI (ab ?_))))));apply ah<;>intro R
 ·exfalso;simp at R;omega
 ·refine ai (gS (gM (gV (aX Wx) (gV (cP (r:=1) Vf Xn (sT (by decide))) (gM (gV (cP Vf Xn (sT (by omega))) (gR (vA call174 (Ge n (by omega))) (gM (gV aH (gV aH (gA (gQ (ac (gS (gM (gV aT (gM (gK aq (gK aT (gV cu (ab ?_)))))))))))))))))))));apply ah<;>intro S
  ·exfalso;simp at S;omega
  ·refine ai (gS (gM (gV (cP Xn Vf (da (by omega))) (gI (vW n Wx Vh XG Tryz.typeInfo9 rR (by decide) rR rR rR ⟨by omega,by decide⟩) ?_))));rintro _ _ ⟨J,rfl,rfl⟩;refine gQ (gS (gM (gM ?_)));refine gR (uP (s:=some ⟨J,0,none⟩) (s2:=s) (l:=0) (p:=0) Wx Vh (by decide) rR rR (.inl ⟨rfl,rfl⟩) (.inl ⟨rfl,rfl⟩) (by simp) (by simp) (by simp) (by simp[ones,one])) ?_;refine kE (some ⟨J,0,none⟩) (sW x n 1) (Gd x hn.1) ?_;rw[show Nat.min 1 n=1 from Y9 hn.1];refine gQ (ac (al ?_));refine aM (α:=Nat) (λk=>1<=k/\k<=n) (λk=>U [(7,sl (some ⟨J,0,none⟩) n n),(8,I k)]) (λk=>bi 9 1 (some ⟨J,0,none⟩) n (sW x n k)::roL 1 s [[aC x]]::F) (λk=>n - k) 1 (by omega) [7,8] rfl ?_;rintro k ⟨V,X⟩;refine ac (gS (gM (gM (gV (aX Wx) (gV aI (ab ?_))))));apply ah<;>intro O
   ·simp at O;refine ai (al ?_);refine cO (Lf:=[]) jJ ?_;refine dM rR (dM rR (dM rR (dV rR (iU Wx Vh rR rR rR (by omega)) (dM rR (dM rR (dV rR (lX Wx Vh rR rR rR (by omega)) ?_))))));refine d7 rR (uP (s:=some ⟨J,0,none⟩) (s2:=some ⟨J,0,none⟩) (l:=k) (p:=0) Wx Vh (by decide) rR rR (.inr (.inl (YC (by omega)))) (.inl ⟨rfl,rfl⟩) (by rw[D8 x (by omega)];omega) (by rw[D8 x (by omega)];omega) (λr hr=>(D9 x r hr).1) (λr hr=>(D9 x r hr).2)) ?_;rintro _ _ ⟨rfl,rfl⟩;refine kE (some ⟨J,0,none⟩) (sW x n (k+Nat.min k (n - k))) (Jm x (by omega)) ?_;have Y:Nat.min k (n - k)<=n - k:=Zo _ _;refine dV rR (bO (da (by omega))) (dV rR aD ?_);refine aP ?_;refine aG ?_;have hm:1<=Nat.min k (n - k)/\Nat.min k (n - k)<=n - k:=⟨Nat.le_min.2 ⟨by omega,by omega⟩,Zo _ _⟩;exact ap (k+Nat.min k (n - k)) ⟨by omega,by omega⟩ (by omega) [7,8] rfl
   ·simp at O;obtain rfl:k=n:=(by omega);refine kE (some ⟨J,0,none⟩) (dx (List.replicate k x)) (by simp[sW,dx]) ?_;refine aF ?_;refine gS (gM (gQ ?_));exact df rfl rfl rfl rfl
def B8 (l:List ak)(a:Addr)(cap:Nat)(hl:l.length<=1048576)(F:List ag):Ct Tryz.prog 101 [sl (some a) l.length cap] (bi 9 1 (some a) cap (dx l)::F) (ww 9 1 l.length (dx l) (bi 9 1 (some a) cap (dx l)::F)):=by
 refine Ct.of func101 rR 8 ntmps101 (by simp) λw0=>?_;refine gS (gQ (ac (gS (gM (gV (Gb Wx rR) (ab ?_))))));refine dW ?_;refine ai (gS (gI (xO Wx Vh) ?_));rintro _ _ ⟨J,rfl,rfl⟩;refine gM (gI (bo Wx Vh XG Tryz.typeInfo9 (hm:=by exact sV l) (by simp[dx]) (by simp[dx,ones,one]) ⟨by omega,by decide,by decide⟩) ?_);rintro _ _ ⟨R,O,rfl,rfl⟩;rw[YR];simp only[Zg];refine gQ ?_;exact df rfl rfl rfl rfl
structure ChangeM where
 key:ak
 val:ak
 gone:Bool
 deriving DecidableEq
def aV (c:ChangeM):List Value:=[aC c.key,aC c.val,Bo c.gone]
instance {c:ChangeM}{i:Nat}{v:Value}[h:NT [aC c.key,aC c.val,Bo c.gone] i v]:NT (aV c) i v:=⟨h.p⟩
def bx (l:List ChangeM):List (List Value):=l.map aV
theorem aQ (l:List ChangeM):(bx l).length=l.length:=by simp[bx]
def cY {l:List ChangeM}{k:Nat}{c:ChangeM}(h:l[k]? =some c):(bx l)[k]? =some (aV c):=by simp[bx,h]
def wV (c:ChangeM):Bool:=decide (c.key.length<=20) && decide (c.val.length<=60)
def lZ (l:List ChangeM)(most:Int):Bool:=decide ((l.length:Int)<=most) && l.all wV
def xT {α:Type}{p:α->Bool}{l:List α}{k:Nat}{a:α}(h:(l.take k).all p=true)(J:l[k]? =some a)(hp:p a=true):(l.take (k+1)).all p=true:=by
 grind[List.take_succ_eq_append_getElem]
def sY {α:Type}{p:α->Bool}{l:List α}{k:Nat}{a:α}(J:l[k]? =some a)(hp:p a=false):l.all p=false:=by
 grind
def sZ (l:List ChangeM)(s:Option Addr)(cap:Nat)(J:Int)(hl:l.length<=9223372036854775807)(F:List ag):Ct Tryz.prog 35 [sl s l.length cap,I J] (roL 3 s (bx l)::F) (R1 (Bo (lZ l J)) (roL 3 s (bx l)::F)):=by
 refine Ct.of func35 rR 32 ntmps35 (by simp) λw0=>?_;refine gS (gQ (ac (gS (gM (gV (aX Ve) (gM (gV aT (ab ?_))))))));apply ah<;>intro Z
 ·simp at Z;refine gS (gQ ?_);refine ao rR rR ?_;show Bo false=_;rw[show lZ l J=false by unfold lZ;rw[Zt (by omega)];rfl]
 ·simp at Z;refine ai (ac (gS (gQ (al ?_))));refine aM (α:=Nat) (λk=>k<=l.length/\(l.take k).all wV=true) (λk=>U [(0,sl s l.length cap),(5,I k)]) (λ_=>roL 3 s (bx l)::F) (λk=>l.length - k) 0 (by simp) [0,5] rfl ?_;rintro k ⟨hk,O⟩;refine ac (gS (gM (gM (gV (aX Ve) (gV aI (ab ?_))))));apply ah<;>intro V
  ·simp at V;have R:k<l.length:=(by omega);obtain ⟨c,Y⟩:∃c,l[k]? =some c:=⟨_,Zu R⟩;have S:k<(bx l).length:=(by rw[aQ];exact R);refine ai (ac (al (gS (gM (gM (gV (ay k Ve Vd R S) (gV (aE (j:=k) 0 Vp rR Vh S) (gV (bC (v:=aC c.key) Vj (cY Y)) (gV (cW Vg) (gV aT (gM (gK aq (gK aq (gK (ay k Ve Vd R S) (gK (aE (j:=k) 1 Vp rR Vh S) (gK (bC (v:=aC c.val) Vj (cY Y)) (gK (cW Vg) (gK aT (gV cu (ab ?_))))))))))))))))))));apply ah<;>intro X
   ·simp at X;refine gS (gQ ?_);refine ao rR rR ?_;show Bo false=_;rw[show lZ l J=false by unfold lZ;rw[sY Y (by simp[wV];omega)];simp]
   ·simp at X;refine ai (aG (am (gM (gP (gQ ?_)))));exact ap (k+1) ⟨by omega,xT O Y (by simp[wV];omega)⟩ (by omega) [0,5] rfl
  ·simp at V;obtain rfl:k=l.length:=(by omega);rw[Y3] at O;refine aF ?_;refine gS (gQ ?_);refine ao rR rR ?_;show Bo true=_;rw[show lZ l J=true by unfold lZ;rw[O,Zv (by omega)];rfl]
structure PutM where
 at_:Int
 data:ak
 deriving DecidableEq
abbrev iV (p:PutM):List Value:=[I p.at_,aC p.data]
def cZ (l:List PutM):List (List Value):=l.map iV
def db (l:List PutM):(cZ l).length=l.length:=by simp[cZ]
def ji {l:List PutM}{k:Nat}{c:PutM}(h:l[k]? =some c):(cZ l)[k]? =some (iV c):=by simp[cZ,h]
structure ActM where
 kind:ak
 s:ak
 a:Int
 b:Int
 c:Int
 d:Int
 k:Int
 puts:List PutM
 changes:List ChangeM
abbrev ActZ:=(Option Addr×Nat)×(Option Addr×Nat)
abbrev fP (x:ActM)(z:ActZ):List Value:=[aC x.kind,aC x.s,I x.a,I x.b,I x.c,I x.d,Uw x.k,sl z.1.1 x.puts.length z.1.2,sl z.2.1 x.changes.length z.2.2]
def wy (l:List ActM)(f:Nat->ActZ):List (List Value):=l.mapIdx λi x=>fP x (f i)
def Ea (l:List ActM)(f:Nat->ActZ):(wy l f).length=l.length:=by simp[wy]
def qF {l:List ActM}{f:Nat->ActZ}{k:Nat}{x:ActM}(h:l[k]? =some x):(wy l f)[k]? =some (fP x (f k)):=by simp[wy,h]
def acts (s:Option Addr)(l:List ActM)(f:Nat->ActZ):ag:=λm=>roL 9 s (wy l f) m/\∀i x,l[i]? =some x->roL 2 (f i).1.1 (cZ x.puts) m/\roL 3 (f i).2.1 (bx x.changes) m
def Ow (m:Res):Res:=λb=>match m b with
 | some (o,true)=>some (o,true)
 | _=>none
def Q5 {m:Res}{b:Nat}{o:Obj}(h:m b=some (o,true)):Ow m b=some (o,true):=by simp[Ow,h]
def wW {sz:Nat}{s:Option Addr}{rows:List (List Value)}{m:Res}(h:roL sz s rows m):roL sz s rows (Ow m):=by
 rcases h with h | ⟨b,off,o,h1,J,O⟩
 ·exact .inl h
 ·exact .inr ⟨b,off,o,h1,Q5 J,O⟩
def AH (s:Option Addr)(l:List ActM)(f:Nat->ActZ):Pers (acts s l f):=λm h=>by
 refine ⟨Ow m,λb x hx=>?_,λb x hx=>?_,wW h.1,λi x hx=>⟨wW (h.2 i x hx).1,wW (h.2 i x hx).2⟩⟩
 ·unfold Ow at hx;split at hx
  ·rename_i o ho;rw[ho];exact hx
  ·cases hx
 ·unfold Ow at hx;split at hx
  ·injection hx with hx;subst hx;rfl
  ·cases hx
section
variable {c:Cx}{E:dr}{L:List ag}{K:List KI}{s:Option Addr}{l:List ActM}{f:Nat->ActZ}{w0 w:World}
instance (priority:=high) SlR.acts:SlR (acts s l f::L) s 9 (wy l f):=⟨λw0 w h=>SlR.ro.out w0 w (h.weak (B:=roL 9 s (wy l f)) λm hm=>hm.1)⟩
def Jn {F:List ag}(s:Option Addr)(l:List ActM)(f:Nat->ActZ)(i:Nat){x:ActM}(hx:l[i]? =some x)[R:Rem L (acts s l f) F](h:G c K E (roL 2 (f i).1.1 (cZ x.puts)::acts s l f::F)):G c K E L:=λa w J O=>
 h a w J (((R.sat O).dup (AH s l f)).weak λm hm=>(hm.2 i x hx).1)
def B9 {F:List ag}(s:Option Addr)(l:List ActM)(f:Nat->ActZ)(i:Nat){x:ActM}(hx:l[i]? =some x)[R:Rem L (acts s l f) F](h:G c K E (roL 3 (f i).2.1 (bx x.changes)::acts s l f::F)):G c K E L:=λa w J O=>
 h a w J (((R.sat O).dup (AH s l f)).weak λm hm=>(hm.2 i x hx).2)
end
open Go.Sl Go.Proofs Go.ChangeShapes Go.WideShapes Go.ChangeAt Go.RowKit
section
variable {H:Type}{enc:TypeId×Value->H}{W:World}{t e:TypeId}{cs:List Value}
def Tr (enc:TypeId×Value->H)(W:World)(t:TypeId)(cs:List Value):Prop:=∃fuel x,DataW.trod enc Tryz.prog W 0 (λ_=>true) true fuel t cs=some x
def xU (ht:Tryz.prog.underlying t=some (.int .i64))(h:Tr enc W t cs):∃n,cs=[I n]/\ok64 n:=by
 obtain ⟨fuel,x,h⟩:=h;obtain ⟨n,h1,_,J⟩:=DataW.trod_int ht h;exact ⟨n,h1,int_ok J⟩
def Q6 {n:Int}(h:(Lit.int .u64 n).wf=true):0<=n/\n<18446744073709551616:=by
 have:=h;simp[Lit.wf,IntKind.min,IntKind.max,IntKind.signed,IntKind.bits] at this;omega
def Q7 (ht:Tryz.prog.underlying t=some (.int .u64))(h:Tr enc W t cs):∃n,cs=[Uw n]/\(0<=n/\n<18446744073709551616):=by
 obtain ⟨fuel,x,h⟩:=h;obtain ⟨n,h1,_,J⟩:=DataW.trod_int ht h;exact ⟨n,h1,Q6 J⟩
def xV (ht:Tryz.prog.underlying t=some .string)(h:Tr enc W t cs):∃s:ak,cs=[aC s]/\s.length<=maxLen:=by
 obtain ⟨fuel,x,h⟩:=h;obtain ⟨s,h1,_,J⟩:=DataW.trod_string ht h;exact ⟨s.data.toList,by simpa using h1,by simpa using J⟩
def Ox (ht:Tryz.prog.underlying t=some .bool)(h:Tr enc W t cs):∃b,cs=[Bo b]:=by
 obtain ⟨fuel,x,h⟩:=h;obtain ⟨n,h1,_⟩:=DataW.trod_bool ht h;exact ⟨n,h1⟩
def fA {J:Array Field}{f:Field}{i off sz:Nat}(ht:Tryz.prog.underlying t=some (.struct J))(R:J[i]? =some f)(h1:f.type=e)(S:f.offset=off)(hC:Tryz.prog.cellsOf e=sz)(h:Tr enc W t cs):Tr enc W e ((cs.drop off).take sz):=by
 subst h1 S hC;obtain ⟨fuel,x,h⟩:=h;obtain ⟨X,n,_,_,_,hl,O⟩:=DataW.trod_struct ht h;have V:=O i f R;have hi:i<J.size:=(Yk.1 R).1;exact ⟨n,X[i]'(by omega),by rw[V];simp⟩
def xW {α:Type}[Inhabited α](sz:Nat)(Y:α->List Value)(Q:α->Prop)(ht:Tryz.prog.underlying t=some (.slice e))(hC:Tryz.prog.cellsOf e=sz)(hsz:sz≠0)
  (hel:∀cs,cs.length=sz->Tr enc W e cs->∃x,cs=Y x/\Q x) (h:Tr enc W t cs):
  ∃(s:Option Addr) (l:List α) (cap:Nat),cs=[sl s l.length cap]/\OldRows W s sz (l.map Y)/\(∀x∈l,Q x)/\l.length<=maxLen:=by
 obtain ⟨fuel,x,h⟩:=h;rcases Deep.open_slice ht h with ⟨rfl,_⟩ | ⟨a',len,cap,m,n,D,Pl,rfl,hb,hl,hm,hmm,hx,hi⟩
 ·exact ⟨none,[],0,rfl, .inl rfl,by simp,by simp⟩
 ·have key:∀i,i<len->∃x:α,(∀f v,(Y x)[f]? =some v->W.cell? ((a'.add (i*sz)).add f)=some v)/\(Y x).length=sz/\Q x:=λi hil=>by
   obtain ⟨Z,hc,ht'⟩:=hi i (by simp at hmm;omega);rw[hC] at hc;obtain ⟨_,S,hat⟩:=World.cells?_some hc;obtain ⟨y,rfl,hq⟩:=hel Z S ⟨n,_,ht'⟩;refine ⟨y,λf v R=>?_,S,hq⟩;have hfl:=(Yh.1 R).1;have:=hat f (by omega);rw[this,R]
  obtain ⟨f,R⟩:=Deep.choose_lt key;refine ⟨some a',(List.range len).map f,cap,by simp[sl],F8 (len:=len) (by simp) (λi row J g v hg=>?_) (λrow J=>?_),λx hx=>?_,by simp;omega⟩
  ·simp only[Yv,Zw,Ym] at J;obtain ⟨j,hj,rfl⟩:=J;obtain ⟨V,X⟩:=Yh.1 hj;simp at V X;subst X;exact (R i V).1 g v hg
  ·simp at J;obtain ⟨i,O,rfl⟩:=J;intro h0;have:=(R i O).2.1;rw[h0] at this;exact hsz this.symm
  ·simp at hx;obtain ⟨i,O,rfl⟩:=hx;exact (R i O).2.2
def S9 {v:Value}{d:DataW H}{p:List MemPlace}(h:DataW.Trod enc Tryz.prog W 0 (λ_=>true) true t v d p):Tr enc W t v.cells.toList:=let ⟨f,hf⟩:=h;⟨f,_,hf⟩
end
def Gf:∃(J:Array Field) (f0 f1:Field),Tryz.prog.underlying 86=some (.struct J)/\(J[0]? =some f0/\f0.type=3/\f0.offset=0)/\(J[1]? =some f1/\f1.type=9/\f1.offset=1):=
 ⟨_,_,_,WA,⟨rfl,rfl,rfl⟩,⟨rfl,rfl,rfl⟩⟩
def Ai:∃(J:Array Field) (f0 f1 f2:Field),Tryz.prog.underlying 174=some (.struct J)/\(J[0]? =some f0/\f0.type=9/\f0.offset=0)/\(J[1]? =some f1/\f1.type=9/\f1.offset=1)/\(J[2]? =some f2/\f2.type=4/\f2.offset=2):=
 ⟨_,_,_,_,Vp,⟨rfl,rfl,rfl⟩,⟨rfl,rfl,rfl⟩,⟨rfl,rfl,rfl⟩⟩
def Gg:∃(J:Array Field) (f0 f1 f2 O R S f6 V X:Field),Tryz.prog.underlying 35=some (.struct J)/\(J[0]? =some f0/\f0.type=9/\f0.offset=0)/\(J[1]? =some f1/\f1.type=9/\f1.offset=1)/\(J[2]? =some f2/\f2.type=3/\f2.offset=2)/\(J[3]? =some O/\O.type=3/\O.offset=3)/\(J[4]? =some R/\R.type=3/\R.offset=4)/\(J[5]? =some S/\S.type=3/\S.offset=5)/\(J[6]? =some f6/\f6.type=31/\f6.offset=6)/\(J[7]? =some V/\V.type=32/\V.offset=7)/\(J[8]? =some X/\X.type=33/\X.offset=8):=
 ⟨_,_,_,_,_,_,_,_,_,_,Vm,⟨rfl,rfl,rfl⟩,⟨rfl,rfl,rfl⟩,⟨rfl,rfl,rfl⟩,⟨rfl,rfl,rfl⟩,⟨rfl,rfl,rfl⟩,⟨rfl,rfl,rfl⟩,⟨rfl,rfl,rfl⟩,⟨rfl,rfl,rfl⟩,⟨rfl,rfl,rfl⟩⟩
def Eb:Tryz.prog.cellsOf 3=1:=by kernel_rfl
def Ec:Tryz.prog.cellsOf 9=1:=by kernel_rfl
def Q8:Tryz.prog.cellsOf 4=1:=by kernel_rfl
def Ta:Tryz.prog.cellsOf 31=1:=by kernel_rfl
def Q9:Tryz.prog.cellsOf 32=1:=by kernel_rfl
def Tb:Tryz.prog.cellsOf 33=1:=by kernel_rfl
def Tc:Tryz.prog.cellsOf 86=2:=by kernel_rfl
def Uy:Tryz.prog.cellsOf 174=3:=by kernel_rfl
def Td:Tryz.prog.cellsOf 35=9:=by kernel_rfl
instance:Inhabited PutM:=⟨⟨0,[]⟩⟩
instance:Inhabited ChangeM:=⟨⟨[],[],false⟩⟩
instance:Inhabited ActM:=⟨⟨[],[],0,0,0,0,0,[],[]⟩⟩
def Hu (p:PutM):Prop:=ok64 p.at_/\p.data.length<=maxLen
def Oy (c:ChangeM):Prop:=c.key.length<=maxLen/\c.val.length<=maxLen
def actOkW (x:ActM):Prop:=(x.kind.length<=maxLen/\x.s.length<=maxLen)/\ok64 x.a/\ok64 x.b/\ok64 x.c/\ok64 x.d/\(0<=x.k/\x.k<18446744073709551616)/\(x.puts.length<=maxLen/\∀p∈x.puts,Hu p)/\(x.changes.length<=maxLen/\∀p∈x.changes,Oy p)
section
variable {H:Type}{enc:TypeId×Value->H}{W:World}{cs:List Value}
def Ra (hl:cs.length=2)(h:Tr enc W 86 cs):∃x:PutM,cs=iV x/\Hu x:=by
 match cs,hl with
 | [a,b],_=>
  obtain ⟨fs,f0,f1,R,⟨S,t0,X⟩,⟨V,Z,Y⟩⟩:=Gf;have h0:Tr enc W 3 [a]:=fA R S t0 X Eb h;have h1:Tr enc W 9 [b]:=fA R V Z Y Ec h;obtain ⟨n,J,w0⟩:=xU Vf h0;obtain ⟨s,O,w1⟩:=xV Vg h1;injection J with J;injection O with O;subst J O;exact ⟨⟨n,s⟩,rfl,w0,w1⟩
def Jo (hl:cs.length=3)(h:Tr enc W 174 cs):∃x:ChangeM,cs=aV x/\Oy x:=by
 match cs,hl with
 | [a,b,c],_=>
  obtain ⟨fs,f0,f1,f2,S,⟨V,t0,o0⟩,⟨X,t1,o1⟩,⟨Y,t2,o2⟩⟩:=Ai;have h0:Tr enc W 9 [a]:=fA S V t0 o0 Ec h;have h1:Tr enc W 9 [b]:=fA S X t1 o1 Ec h;have Z:Tr enc W 4 [c]:=fA S Y t2 o2 Q8 h;obtain ⟨n,J,w0⟩:=xV Vg h0;obtain ⟨s,O,w1⟩:=xV Vg h1;obtain ⟨q,R⟩:=Ox underlying4 Z;injection J with J;injection O with O;injection R with R;subst J O R;exact ⟨⟨n,s,q⟩,rfl,w0,w1⟩
def Oz (h:Tr enc W 32 cs):∃(s:Option Addr) (l:List PutM) (cap:Nat),cs=[sl s l.length cap]/\OldRows W s 2 (cZ l)/\(∀x∈l,Hu x)/\l.length<=maxLen:=
 xW 2 iV Hu VQ Tc (by decide) (λ_ hl h=>Ra hl h) h
def Gi (h:Tr enc W 33 cs):∃(s:Option Addr) (l:List ChangeM) (cap:Nat),cs=[sl s l.length cap]/\OldRows W s 3 (bx l)/\(∀x∈l,Oy x)/\l.length<=maxLen:=
 xW 3 aV Oy Ve Uy (by decide) (λ_ hl h=>Jo hl h) h
def Rb (hl:cs.length=9)(h:Tr enc W 35 cs):∃x:ActM×ActZ,cs=fP x.1 x.2/\actOkW x.1/\OldRows W x.2.1.1 2 (cZ x.1.puts)/\OldRows W x.2.2.1 3 (bx x.1.changes):=by
 match cs,hl with
 | [v0,v1,v2,v3,v4,v5,v6,v7,v8],_=>
  obtain ⟨fs,f0,f1,f2,f3,f4,f5,f6,f7,f8,J,⟨g0,t0,o0⟩,⟨g1,t1,o1⟩,⟨g2,t2,o2⟩,⟨g3,t3,o3⟩,⟨g4,t4,o4⟩,⟨g5,t5,o5⟩,⟨g6,t6,o6⟩,⟨g7,t7,o7⟩,⟨g8,t8,o8⟩⟩:=Gg;have h0:Tr enc W 9 [v0]:=fA J g0 t0 o0 Ec h;have h1:Tr enc W 9 [v1]:=fA J g1 t1 o1 Ec h;have h2:Tr enc W 3 [v2]:=fA J g2 t2 o2 Eb h;have h3:Tr enc W 3 [v3]:=fA J g3 t3 o3 Eb h;have h4:Tr enc W 3 [v4]:=fA J g4 t4 o4 Eb h;have h5:Tr enc W 3 [v5]:=fA J g5 t5 o5 Eb h;have h6:Tr enc W 31 [v6]:=fA J g6 t6 o6 Ta h;have h7:Tr enc W 32 [v7]:=fA J g7 t7 o7 Q9 h;have h8:Tr enc W 33 [v8]:=fA J g8 t8 o8 Tb h;obtain ⟨x0,O,w0⟩:=xV Vg h0;obtain ⟨x1,R,w1⟩:=xV Vg h1;obtain ⟨x2,S,w2⟩:=xU Vf h2;obtain ⟨x3,V,w3⟩:=xU Vf h3;obtain ⟨x4,X,w4⟩:=xU Vf h4;obtain ⟨x5,Y,w5⟩:=xU Vf h5;obtain ⟨x6,Z,w6⟩:=Q7 underlying31 h6;obtain ⟨s7,x7,c7,e7,r7,w7,l7⟩:=Oz h7;obtain ⟨s8,x8,c8,e8,r8,w8,l8⟩:=Gi h8;injection O with O;injection R with R;injection S with S;injection V with V;injection X with X;injection Y with Y;injection Z with Z;injection e7 with e7;injection e8 with e8;subst O R S V X Y Z e7 e8;exact ⟨(⟨x0,x1,x2,x3,x4,x5,x6,x7,x8⟩,(s7,c7),(s8,c8)),rfl,⟨⟨w0,w1⟩,w2,w3,w4,w5,w6,⟨l7,w7⟩,⟨l8,w8⟩⟩,r7,r8⟩
def OldActs (W:World)(s:Option Addr)(l:List ActM)(f:Nat->ActZ):Prop:=OldRows W s 9 (wy l f)/\∀i x,l[i]? =some x->OldRows W (f i).1.1 2 (cZ x.puts)/\OldRows W (f i).2.1 3 (bx x.changes)
def OA (h:Tr enc W 22 cs):∃(s:Option Addr) (l:List ActM) (f:Nat->ActZ) (cap:Nat),cs=[sl s l.length cap]/\OldActs W s l f/\(∀x∈l,actOkW x)/\l.length<=maxLen:=by
 obtain ⟨s,l,cap,e,hr,hq,hn⟩:=xW (α:=ActM×ActZ) 9 (λx=>fP x.1 x.2) _ W4 Td (by decide) (λ_ hl h=>Rb hl h) h;refine ⟨s,l.map Prod.fst,λi=>(l.getD i default).2,cap,by simpa using e,⟨?_,λi x hx=>?_⟩,λx hx=>?_,by simpa using hn⟩
 ·have:wy (l.map Prod.fst) (λi=>(l.getD i default).2)=l.map λx=>fP x.1 x.2:=by
   apply Zx;intro i;simp only[wy,List.getElem?_mapIdx,Zw,Zy];cases l[i]? <;> rfl
  rw[this];exact hr
 ·simp only[Zw,Ym] at hx;obtain ⟨y,hy,rfl⟩:=hx;have J:=(hq y (YW hy)).2;simp only[Zy,hy,Option.getD_some];exact J
 ·simp only[Zz] at hx;obtain ⟨y,hy,rfl⟩:=hx;exact (hq y hy).1
theorem OldRows.roL {W:World}{a:Option Addr}{sz:Nat}{rows:List (List Value)}{m:Res}(h:OldRows W a sz rows)(hm:old W m):Go.Sl.roL sz a rows m:=by
 rcases h with rfl | ⟨b,off,o,rfl,J,hr⟩
 ·exact .inl rfl
 ·exact .inr ⟨b,off,o,rfl,hm b o J,hr⟩
theorem OldActs.sat {w0 w:World}{L:List ag}{s:Option Addr}{l:List ActM}{f:Nat->ActZ}(h:OldActs w0 s l f)(J:Sat w0 w (old w0::L)):Sat w0 w (acts s l f::old w0::L):=
 (J.dup (Pers.old w0)).weak λm hm=>⟨h.1.roL hm,λi x hx=>⟨(h.2 i x hx).1.roL hm,(h.2 i x hx).2.roL hm⟩⟩
def open_acts {v:Value}{d:DataW H}{p:List MemPlace}(hv:∃a len cap,v= .slice a len cap)(h:DataW.Trod enc Tryz.prog W 0 (λ_=>true) true 22 v d p):
  ∃(s:Option Addr) (l:List ActM) (f:Nat->ActZ) (cap:Nat),v=sl s l.length cap/\OldActs W s l f/\(∀x∈l,actOkW x)/\l.length<=maxLen:=by
 obtain ⟨a,len,cap,rfl⟩:=hv;obtain ⟨s,l,f,J,e,h1,O,R⟩:=OA (S9 h);simp[Value.cells] at e;exact ⟨s,l,f,J,by simp[sl,e],h1,O,R⟩
end
end Go.Proofs.YthdjckbjjfiopabGreatDoor
namespace Go.Sl
section
variable {c:Cx}{g:Option (Nat×Bool)}{E:dr}{L L':List ag}{d:Option Tmp}{ty:TypeId}{pos:String}{af:Array Edge}{gu:Option (Nat×Bool)}
variable {x y z y3:Operand}{t u e:TypeId}{k:IntKind}{v:Value}{s:Option Addr}{b o i j n sz cap off:Nat}
theorem SlR.part {F:List ag}{s2 S:Option Addr}{p m:Nat}{J:List (List Value)}(Y:SlR F s2 sz J)(R:At S s2 p sz m)(X:p+m<=J.length):SlR F S sz ((J.drop p).take m):=⟨λw0 w h=>by
 by_cases O:m=0
 ·left;subst O;rfl
 ·rcases Y.out w0 w h with h | ⟨b,off,o,rfl,hh,V⟩
  ·grind
  ·exact .inr ⟨b,off+p*sz,o,R.addr (by omega),hh,V.part⟩⟩
def xX {s2 ya:Option Addr}{p m V:Nat}{zv:Value}{O:TypeInfo}{T:Nat}{rows J:List (List Value)}{F:List ag}(hu:c.P.underlying t=some (.slice T))(hz:∀w,(sizeOf T).run c.P w= .ok sz w)(hzv:∀w,(zeroValue T).run c.P w= .ok zv w)(hzs:zv.cells.size=sz)(hti:∀w,(typeInfo T).run c.P w= .ok O w)(h0:0<sz)
  (hx:ev g E x=some (sl s n cap)) (hy:ev g E y=some (sl ya m V)) [R:OwR L s T sz cap rows F] (hn:rows.length=n) [Y:SlR F s2 sz J] (hya:At ya s2 p sz m) (Z:p+m<=J.length) (X:∀r∈J,r.length=sz) (h1:∀r∈J,ones r=true)
  (hb:n+m<=1073741824/\0<O.bytes/\O.bytes<=4096):
  OpL c g E L ⟨d, .call {callee:= .builtin .append,args:=#[x,y],argTypes:=#[t,t]},ty,pos,af,gu⟩ λv L'=>∃s' S,v=sl s' (n+m) S/\L'=bi T sz s' S (rows++(J.drop p).take m)::F:=
 bo (Y:=SlR.part Y hya Z) hu hz hzv (hzs:=hzs) hti (h0:=h0) (hx:=⟨hx⟩) (hy:=⟨hy⟩) (hn:=by exact hn) (hm:=by simp;omega) (λr hr=>X r (Zb (Zc hr))) (λr hr=>h1 r (Zb (Zc hr))) hb
def xY {rows:List (List Value)}{q:Int}{R J f:Nat}(j:Nat)(Z:c.P.underlying t=some (.array R e))(hz:∀w,(sizeOf e).run c.P w= .ok sz w)(hx:ev g E x=some (Ae s (i*J+f)))(hy:ev g E y=some (.int k q))(hj:q=(j:Int))(O:j<R)[h:SlR L s J rows](hne:i<rows.length):
  OpV c g E L ⟨d, .indexAddr t x y,ty,pos,af,gu⟩ (Ae s (i*J+(f+j*sz))):= .mk λa w V X Y=>by
 rcases h.out _ _ Y with h | ⟨b,o,_,rfl,_⟩
 ·subst h;simp at hne
 ·subst hj;have:(j:Int)<(R:Int):=(by omega);have S:=V.ev X hx;simp only[Ae,Option.map_some] at S;simp[execOp,S,V.ev X hy,Instr.indexAt,underlying,program,Sem.run,Z,asIntOf,Instr.sureAddr,this,O,hz,ga,Ae,YE]
def ta {K:List KI}{T:Nat}{rows:List (List Value)}{F:List ag}(s:Option Addr)[R:OwR L s T sz cap rows F](h:rows.length<=cap->G c K E L):G c K E L:=λa w V J=>h (by
 rcases dz (R.sat J) with ⟨_,h1,O,_⟩ | ⟨b,cs,h1,O,S,_⟩
 ·rw[h1];simp
 ·exact S) a w V J
end
end Go.Sl
namespace Go.Sl
section
variable {c:Cx}{E:dr}{L:List ag}{K:List KI}{t:TypeId}{b o sz:Nat}
def Ed {a:Act}{w:World}{r q:Nat}{X:Obj}{vs:List Value}{v2:Value}{fu:List ag}(Z:c.fn.results.toList=[.cell r t, .tmp q])(hx:look none E r=some (ptr b o))(hq:look none E q=some v2)(ha:∀w,(isAgg t).run c.P w= .ok true w)(hz:∀w,(sizeOf t).run c.P w= .ok sz w)[h:Has L b X](hl:vs.length=sz)
  (hv:∀k v,vs[k]? =some v->bG X (o+k)=some v) (J:EOk c.n E a) (V:Sat c.w0 w L) [S:Sub L fu] (Y:c.R (.tuple #[.agg vs.toArray,v2]) fu) (hds:c.n.ds=[]:=by rfl):(a.defers=[]/\∃v,(results c.fn a.tmps).run c.P w= .ok v w/\∃L,Sat c.w0 w L/\c.R v L)\/∃D w',a.defers=[markD D]/\(Instr.takeDeferred D).run c.P w= .ok [] w'/\∃v,(results c.fn a.tmps).run c.P w'= .ok v w'/\∃L,Sat c.w0 w' L/\c.R v L:=by
 have hh:=h.out _ _ V;have O:=fN (P:=c.P) (w:=w) b sz 0 o #[] vs hl (λk v hk=>by grind[iH]);have h1:=J.look (cR a) hx;have h2:=J.look (cR a) hq;refine .inl ⟨J.defers.trans hds, .tuple #[.agg vs.toArray,v2],?_,fu,S.sat V,Y⟩;rw[oB,YA,Z]
 simp_all[uM,asAddr,loadVar,loadCells]
def mV {r q:Nat}{J:Obj}{v2:Value}{fu:List ag}(vs:List Value)(V:c.R=R1 (.tuple #[.agg vs.toArray,v2]) fu)(Z:c.fn.results.toList=[.cell r t, .tmp q])(hx:look none E r=some (ptr b o))(hq:look none E q=some v2)(Y:∀w,(isAgg t).run c.P w= .ok true w)(hz:∀w,(sizeOf t).run c.P w= .ok sz w)[h:Has L b J](hl:vs.length=sz)
  (hv:∀k v,vs[k]? =some v->bG J (o+k)=some v) [S:Sub L fu] (hds:c.n.ds=[]:=by rfl):G c (.code .ret::K) E L:=
 λa w O X=>wp_ret (bX (Ed (hds:=hds) (h:=h) (S:=S) Z hx hq Y hz hl hv O X (by rw[V];exact ⟨rfl,rfl⟩)))
def bp {T:TypeId}{f:Nat×Nat}{vs:List Value}:∀k v,vs[k]? =some v->bG (.cells vs.toArray T f) (0+k)=some v:=λk v h=>by simpa [bG] using h
end
end Go.Sl
namespace Go.Sl
section
variable {c:Cx}{g:Option (Nat×Bool)}{E:dr}{L L':List ag}{d:Option Tmp}{ty:TypeId}{pos:String}{af:Array Edge}{gu:Option (Nat×Bool)}{K:List KI}
variable {x y z:Operand}{t u e:TypeId}{k:IntKind}{v v1 v2:Value}{s:Option Addr}{b o i j n sz cap off:Nat}
def Hv {f:FuncId}{R:List Operand}{vs:List Value}{ats:Array TypeId}(J:∀w,(callFunc f vs.toArray).run c.P w= .ok (.value v) w)(hx:evs g E R=some vs):
  OpL c g E L ⟨d, .call {callee:= .value (.func f),args:=R.toArray,argTypes:=ats},ty,pos,af,gu⟩ λY L'=>Y=v/\L'=L:=
 .of_run λa w S X V=>by
  have O:=J w;rw[<-S.evs X hx] at O;exact ⟨v,w,L,by simp[execOp,resolve,Act.eval,Deferred.ofValue,invoke,O],V,rfl,rfl⟩
def OB {s2 xa ya:Option Addr}{l p q m cx cy:Nat}{T:Nat}{rows J:List (List Value)}{F:List ag}(hu:c.P.underlying t=some (.slice T))(hz:∀w,(sizeOf T).run c.P w= .ok sz w)(h0:0<sz)
  (hx:ev g E x=some (sl xa q cx)) (hy:ev g E y=some (sl ya m cy)) [R:OwR L s T sz cap rows F] [Y:SlR L s2 sz J] (hxa:At xa s l sz q) (hya:At ya s2 p sz m) (hk:l+Nat.min m q<=rows.length) (hm:p+Nat.min m q<=J.length)
  (hnl:∀r∈(J.drop p).take (Nat.min m q),r.length=sz) (h1:∀r∈(J.drop p).take (Nat.min m q),ones r=true):
  OpL c g E L ⟨d, .call {callee:= .builtin .copy,args:=#[x,y],argTypes:=#[t,u]},ty,pos,af,gu⟩ λv L'=>v=I (Nat.min m q)/\L'=bi T sz s cap (rows.take l++((J.drop p).take (Nat.min m q))++rows.drop (l+Nat.min m q))::F:=
 .of_run λa w hE hg hS=>by
  have hS1:=R.sat hS;have hY:=Y.out _ _ hS;have e1:=hE.ev hg hx;have e2:=hE.ev hg hy;generalize hr:Nat.min m q=r at*;have hr1:r<=m:=(by grind);have hr2:r<=q:=(by grind);have S:∀x∈(J.drop p).take r,x.length=sz:=hnl;have O:((J.drop p).take r).length=r:=(by simp;omega);have Z:ones ((J.drop p).take r).flatten=true:=kP λv hv=>by
   obtain ⟨x,hx,hv⟩:=YS.1 hv;exact j7 (h1 x hx) v hv
  have X:(Builtin.firstCells sz r (sl ya m cy)).run c.P w= .ok ((J.drop p).take r).flatten.toArray w:=by
   refine oG h0 S O ?_;by_cases hr0:r=0
   ·left;rw[hr0];rfl
   ·right;rcases hY with h | ⟨b,off,o,rfl,hh,hR⟩
    ·grind
    ·exact ⟨b,off+p*sz,o,hya.addr (by omega),hh,hR.part⟩
  have hlo:(Builtin.lenOf (Value.slice ya m cy)).run c.P w= .ok m w:=nE;have hfi:(Builtin.firstCells sz r (Value.slice ya m cy)).run c.P w= .ok ((J.drop p).take r).flatten.toArray w:=X;by_cases hr0:r=0
  ·subst hr0;refine ⟨I ((0:Nat):Int),w,bi T sz s cap rows::F,?_,hS1,rfl,by simp⟩;refine (qE (r:= .ok (I ((0:Nat):Int)) w) e1 e2 ?_).trans rfl;cases xa <;> simp[Builtin.copy_,underlying,program,Sem.run,hu,hz,sl,goInt,storeCells,hlo,hr,hfi]
  ·rcases dz hS1 with ⟨rfl,rfl,rfl,hF⟩ | ⟨b,cs,rfl,a1,a2,a3,a4,hP⟩
   ·simp at hk;omega
   ·obtain ⟨hle,V⟩:=uO (T:=T) (l:=l) (news:=(J.drop p).take r) h0 a1 a2 (by rw[O];omega) a3 S a4;have hst:=dy (P:=c.P) b (l*sz) T ((J.drop p).take r).flatten w cs 0 hP.at_ (by omega) Z;have hxa':=hxa.addr (by omega);subst hxa';refine ⟨I (r:Int),kC w b (.cells (cT cs (l*sz) ((J.drop p).take r).flatten) T (0,0)),_,(qE (r:= .ok (I (r:Int)) _) e1 e2 ?_).trans rfl,?_,rfl,rfl⟩
    ·simp[Builtin.copy_,underlying,program,Sem.run,hu,hz,sl,goInt,hlo,hr,hfi,hst]
    ·rw[O] at V;refine fy (hP.set (o':= .cells (cT cs (l*sz) ((J.drop p).take r).flatten) T (0,0)) rR) (by rw[fx,a1]) (by simp;omega) ?_ V
     grind
def OD (J:Array Value)(n:Nat)(h0:0<J.size):Builtin.zeroCells J n=(List.replicate n J.toList).flatten.toArray:=by
 have hl:∀r∈List.replicate n J.toList,r.length=J.size:=λr hr=>(by grind);apply YY;intro k;rw[show (List.replicate n J.toList).flatten.toArray[k]? =(List.replicate n J.toList).flatten[k]? by simp,kD h0 _ hl]
 grind[Builtin.zeroCells,Nat.mod_lt,Nat.div_lt_iff_lt_mul]
def uR {m:Nat}{m':Int}{zv:Value}{O:TypeInfo}{T:Nat}{rows:List (List Value)}(hu:c.P.underlying t=some (.slice T))(hu2:c.P.underlying u=some (.int .i64))(hz:∀w,(sizeOf T).run c.P w= .ok sz w)(hzv:∀w,(zeroValue T).run c.P w= .ok zv w)(hzs:zv.cells.size=sz)(hti:∀w,(typeInfo T).run c.P w= .ok O w)(h0:0<sz)
  (hx:ev g E x=some (sl s i cap)) (hy:ev g E y=some (I m')) (hm:m'=(m:Int)) [Y:SlR L s sz rows] (hi:i<=rows.length) (hnl:∀r∈rows,r.length=sz) (hgr:cap<i+m) (hm1:0<m)
  (hb:i+m<=1048576/\0<O.bytes/\O.bytes<=4096):
  OpL c g E L ⟨d, .call {callee:= .builtin .append,args:=#[x,y],argTypes:=#[t,u]},ty,pos,af,gu⟩ λv L'=>∃b' S,v=sl (some ⟨b',0,none⟩) (i+m) S/\L'=bi T sz (some ⟨b',0,none⟩) S (rows.take i++List.replicate m zv.cells.toList)::L:=
 .of_run λa w hE hg hS=>by
  subst hm hzs;have e1:=hE.ev hg hx;have e2:=hE.ev hg hy;have hw:IntKind.i64.wrap (m:Int)=m:=da (by omega);have R:∀r∈rows.take i,r.length=zv.cells.size:=λr hr=>hnl r (Zc hr);have hzl:∀r∈List.replicate m zv.cells.toList,r.length=zv.cells.size:=λr hr=>(by grind);have htk:(rows.take i).length=i:=(by simp;omega);have hfo:∀w':World,w'.heap=w.heap->(Builtin.firstCells zv.cells.size i (sl s i cap)).run c.P w'= .ok (rows.take i).flatten.toArray w':=λw' hw'=>by
   refine nD h0 R htk ?_;rcases Y.out _ _ hS with h | ⟨b,off,o,h1,h2,h3⟩
   ·left;rw[h];simp
   ·exact .inr ⟨b,off,o,h1,by rw[hw'];exact h2,h3.take i⟩
  have hfo':(Builtin.firstCells zv.cells.size i (.slice s i cap)).run c.P w.drew= .ok (rows.take i).flatten.toArray w.drew:=hfo w.drew rfl;have c1:¬i+m<=cap:=(by omega);have c3:¬(Builtin.nextslicecap (i+m) cap*O.bytes > 2 ^ 48):=by
   have h1:=rP (i+m) cap hgr;have h2:Builtin.nextslicecap (i+m) cap*O.bytes<=(2*1048576+192)*4096:=YP (by omega) hb.2.2;omega
  have h48:¬((m:Int)*(O.bytes:Int) > 2 ^ 48):=by
   have h1:m*O.bytes<=1048576*4096:=YP (by omega) hb.2.2
   grind
  have hmx:¬((i+m:Nat):Int) > IntKind.i64.max:=(by grind[IntKind.max,IntKind.bits]);have hask:=λ(w:World) (k:Nat)=>mP (P:=c.P) (w:=w) k;have hm0:0<m\/m=0:=(by omega);obtain ⟨J,hc,Z⟩:∃J,i+m<=J/\(Builtin.append_ #[t,u] ty #[.slice s i cap,I (m:Int)]).run c.P w= .ok (.slice (some ⟨w.heap.size,0,none⟩) (i+m) J) (w.drew.alloc (.cells ((rows.take i).flatten.toArray++Builtin.zeroCells zv.cells m++Builtin.zeroCells zv.cells (J - (i+m))) T (0,0))):=by
   refine ⟨(Question.appendCap (i+m) cap T).cut (w.tape w.drawn (.appendCap (i+m) cap T)),by simp[Question.cut],?_⟩;have e0:O.bytes≠0:=(by omega);have hmn:¬((m:Int)<0):=(by omega);have V:¬(m*zv.cells.size=0)\/m=0:=by
    rcases hm0 with h | h
    ·left;have:=Y7 h h0;omega
    ·exact .inr h
   unfold Builtin.append_;rcases V with V | V
   ·simp[underlying,program,Sem.run,hu,hu2,hz,c1,hti,choose,Question.forced,asInt,asIntOf,hw,h48,hmn];rw[YC (by omega),YC (by omega),YC (by simpa using c3)]
    simp_all[newRow]
   grind
  refine ⟨_,_,_,(mQ (d:=d) (ty:=ty) (pos:=pos) (af:=af) (gu:=gu) (t:=t) (u:=u) (r:= .ok _ _) (P:=c.P) (w:=w) e1 e2 Z).trans rfl,?_,w.heap.size,J,rfl,rfl⟩;have X:Sat c.w0 (w.drew.alloc (.cells ((rows.take i).flatten.toArray++Builtin.zeroCells zv.cells m++Builtin.zeroCells zv.cells (J - (i+m))) T (0,0))) _:=(hS.drew (w.drawn+1)).alloc _;rw[OD _ m h0] at X ⊢;refine fy X ?_ (by grind) ?_ (oE h0 R hzl)
  ·simp only[YU,YV,dT _ R,dT _ hzl,j8,htk,ZA];rw[<-YK,<-YK];congr 1;omega
  grind
def Lb {T:Nat}{rows:List (List Value)}{F:List ag}(s:Option Addr)[R:OwR L s T sz cap rows F](O:rows.length<cap)(h:∀r:List Value,r.length=sz->G c K E (bi T sz s cap (rows++ [r])::F)):G c K E L:=λa w V Y=>by
 have J:=R.sat Y;rcases dz J with ⟨rfl,rfl,rfl,hF⟩ | ⟨b,cs,rfl,S,a2,a3,a4,X⟩
 ·omega
 ·have Z:rows.length*sz+sz<=cs.size:=by
   rw[S];have:(rows.length+1)*sz<=cap*sz:=YQ _ O
   grind
  refine h ((cs.toList.drop (rows.length*sz)).take sz) (by simp;omega) a w V (fy X S (by simp;omega) (λr hr=>?_) (Rows.app a4 λq row hq f v hf=>?_))
  ·grind
  grind[bG]
end
end Go.Sl
namespace Go.Sl
section
variable {c:Cx}{g:Option (Nat×Bool)}{E:dr}{L L':List ag}{d:Option Tmp}{ty:TypeId}{pos:String}{af:Array Edge}{gu:Option (Nat×Bool)}{K:List KI}
variable {x y z:Operand}{t u e:TypeId}{k:IntKind}{v v1 v2:Value}{s:Option Addr}{b o i j n sz cap off:Nat}
theorem Sat.ne {w0 w:World}{b J:Nat}{o o':Obj}(h:Sat w0 w (pt b o::pt J o'::L)):b≠J:=by
 obtain ⟨_,_,_,_,f,O,hd⟩:=h;have h0:f 0 b=some (o,false):=(O 0 _ rfl).1;have h1:f 1 J=some (o',false):=(O 1 _ rfl).1;intro e;subst e;have:=(hd 0 1 (by simp) (by simp) (by decide) b _ _ h0 h1).1;cases this
def Rc {T:Nat}{rows:List (List Value)}{F:List ag}(s:Option Addr)[R:OwR L s T sz cap rows F](h0:0<rows.length)(h:∀b,s=some ⟨b,0,none⟩->G c K E L):G c K E L:=λa w O J=>by
 rcases dz (R.sat J) with ⟨_,h1,_⟩ | ⟨b,cs,h1,_⟩
 ·rw[h1] at h0;simp at h0
 ·exact h b h1 a w O J
def Lc {f:FuncId}{S:List Operand}{vs:List Value}{ats:Array TypeId}(J:∀w,Sat c.w0 w L->(callFunc f vs.toArray).run c.P w= .ok (.value v) w)(hx:evs g E S=some vs):
  OpL c g E L ⟨d, .call {callee:= .value (.func f),args:=S.toArray,argTypes:=ats},ty,pos,af,gu⟩ λY L'=>Y=v/\L'=L:=
 .of_run λa w V X O=>by
  have R:=J w O;rw[<-V.evs X hx] at R;exact ⟨v,w,L,by simp[execOp,resolve,Act.eval,Deferred.ofValue,invoke,R],O,rfl,rfl⟩
def AJ {w:World}{b o:Nat}{cs:Array Value}{T:TypeId}(h:w.heap[b]? =some (.cells cs T (0,0))):w.frozen? ⟨b,o,none⟩=false:=by
 simp[World.frozen?,h]
def OE {P:Program}{w0 w:World}{F:List ag}{T tR c1 c2 l1 l2 n1 n2:Nat}{b1 S p:Nat}{r1 r2:List (List Value)}(ht:P.underlying t=some (.slice T))(hz:∀w,(sizeOf T).run P w= .ok sz w)(h0:0<sz)(hc2:0<r2.length)
  (hS:Sat w0 w (bi T sz (some ⟨b1,0,none⟩) c1 r1::bi T sz (some ⟨S,0,none⟩) c2 r2::F)):
  (Extern.SlicesOverlaps.overlaps #[t,t] #[tR] #[.slice (some ⟨b1,0,none⟩) l1 n1, .slice (some ⟨S,p,none⟩) l2 n2]).run P w= .ok (.bool false) w:=by
 rcases dz hS with ⟨h,_⟩ | ⟨b,cs,h,a1,a2,a3,a4,Y⟩
 ·cases h
 ·injection h with h;injection h with h;subst h;have V:Sat w0 w (bi T sz (some ⟨S,0,none⟩) c2 r2::pt b1 (.cells cs T (0,0))::F):=(Y.front (i:=1) rfl);rcases dz V with ⟨h,_⟩ | ⟨b,O,h,Z,e2,e3,e4,R⟩
  ·cases h
  ·injection h with h;injection h with h;subst h;have hne:=Sat.ne R;have J:=Y.at_;have X:=R.at_;have hk:O.size≠0:=by
    rw[Z];have:=Y7 (show 0<c2 by omega) h0;omega
   exact Lib.run_overlaps_apart w t tR T ht sz hz ⟨b1,0,none⟩ ⟨S,p,none⟩ l1 n1 l2 n2 (λh=>hne h.symm) T T cs.size O.size (by simp[World.shape?,J]) (by simp[World.shape?,X]) hk (AJ J) (AJ J)
end
end Go.Sl
namespace Go.Sl
section
variable {c:Cx}{E:dr}{L:List ag}{d:Nat}{ty:TypeId}{pos:String}{af:Array Edge}{K:List KI}{all:List Oper}{op:Op}{N:Value->List ag->Prop}{Lf:List ag}{pl:List (Nat×Bool)}
def aL {i j s:Nat}{vs:Value}{J:Bool}(hi:all[i]? =some ⟨some d,op,ty,pos,af,some (j,J)⟩)[hj:DS all j s][hs:LK none E s vs][S:Sub L Lf](k:G c (.plan all (λw=>Sat c.w0 w Lf) pl::K) ((d,none,undef)::E) L)(hw:xN vs J=true:=by exact rfl)(hd:lE c.n d E=true:=by exact rfl):G c (.plan all (λw=>Sat c.w0 w Lf) ((i,false)::pl)::K) E L:=have hj:=hj.p;have hs:=hs.p;λa w O R=>by
 have h1:=O.look (cR a) hs;have hy:yielded all.toArray a.tmps j≠some J:=by
  grind[yielded,xN]
 exact ⟨S.sat R,_,undef,by simpa using hi, .inr ⟨by simp[Region.wanted,hy],rfl⟩,k _ w (O.put1 hd) R⟩
end
section
variable {c:Cx}{g:Option (Nat×Bool)}{E:dr}{L L':List ag}{d:Option Tmp}{ty:TypeId}{pos:String}{af:Array Edge}{gu:Option (Nat×Bool)}
variable {x y z:Operand}{t u e:TypeId}{k:IntKind}{v:Value}{s:Option Addr}{b o i j n sz cap off:Nat}
def uS {rows:List (List Value)}{vs:List Value}{T:Nat}{F:List ag}(hz:∀w,(sizeOf t).run c.P w= .ok sz w)(hx:ev g E x=some (Ae s (j*sz)))(hy:ev g E y=some (.agg vs.toArray))(hl:vs.length=sz)(h1:ones vs=true)[R:OwR L s T sz cap rows F](hj:j<rows.length)(h0:0<sz):
  OpL c g E L ⟨d, .store t x y,ty,pos,af,gu⟩ λ_ L'=>L'=bi T sz s cap (rows.set j vs)::F:=
 .of_skip λa w Y hg hS=>by
  rcases dz (R.sat hS) with ⟨rfl,rfl,rfl,_⟩ | ⟨b,cs,rfl,X,a2,a3,a4,Z⟩
  ·simp at hj
  ·obtain ⟨V,J⟩:=uO (T:=T) (l:=j) (news:=[vs]) h0 X a2 (by simp;omega) a3 (by simpa using hl) a4;have O:rows.take j++ [vs]++rows.drop (j+ [vs].length)=rows.set j vs:=by
    grind[List.set_eq_take_append_cons_drop]
   rw[O] at J;have S:[vs].flatten=vs:=(by simp);rw[S] at V J;have hr:=dy (P:=c.P) b (j*sz) T vs w cs 0 Z.at_ (by omega) h1;have e1:a.eval x=ptr b (j*sz):=by
    rw[Y.ev hg hx];simp[Ae,ga,ptr]
   refine ⟨_,_,?_,fy (Z.set (o':= .cells (cT cs (j*sz) vs) T (0,0)) rfl) (by rw[fx,X]) (by simp;exact a2) (λr hr=>?_) J,rfl⟩
   ·simp only[execOp,e1,Y.ev hg hy,Instr.storeAt,Instr.sureAddr,storeVar]
    simp_all[Value.cells,kC]
   grind
end
end Go.Sl
namespace Go.Sl
abbrev MM:=List (Int×Value)
structure MOk (es:Array MapEntry) (clk:Nat) (M:MM):Prop where
 perm:(es.toList.map λe=>(e.key,e.val)).Perm (M.map λp=>(I p.1,p.2))
 nodup:(M.map (·.1)).Nodup
 born:∀e∈es.toList,e.born<clk
 bnd:(es.toList.map (·.born)).Nodup
def mp (r:Nat)(M:MM):ag:=QV λp:Array MapEntry×Nat=>λm=>MOk p.1 p.2 M/\m r=some (.map p.1 p.2,false)
def sH (r:Nat)(es:Array MapEntry)(clk:Nat)(M:MM):ag:=λm=>MOk es clk M/\m r=some (.map es clk,false)
def lk:MM->Int->Option Value
 | [],_=>none
 | (k,v)::M,q=>if k=q then some v else lk M q
def l6 (M:MM)(q:Int)(v:Value):MM:=if (lk M q).isSome then M.map λp=>if p.1=q then (q,v) else p else M++ [(q,v)]
def pJ (M:MM)(q:Int):MM:=M.filter λp=>!decide (p.1=q)
theorem lk_none {M:MM}{q:Int}:lk M q=none ↔ ∀p∈M,p.1≠q:=by
 induction M with
 | nil=>simp[lk]
 | cons p M J=>
  grind[lk]
def Ca {M:MM}(h:(M.map (·.1)).Nodup){q:Int}{v:Value}:lk M q=some v ↔ (q,v)∈M:=by
 induction M with
 | nil=>simp[lk]
 | cons p M J=>
  grind[lk]
def vY {M:MM}(h:(M.map (·.1)).Nodup):M.Nodup:=by
 induction M with
 | nil=>exact List.Pairwise.nil
 | cons p M J=>
  grind
theorem rY {M J:MM}(h:(M.map (·.1)).Nodup)(O:(J.map (·.1)).Nodup)(he:∀q,lk M q=lk J q):M.Perm J:=by
 refine (List.perm_ext_iff_of_nodup (vY h) (vY O)).2 λ⟨q,v⟩=>?_;rw[<-Ca h,<-Ca O,he]
theorem MOk.perm_ {es:Array MapEntry}{clk:Nat}{M J:MM}(h:MOk es clk M)(hp:M.Perm J):MOk es clk J:=⟨h.perm.trans (hp.map _),(hp.map (·.1)).nodup_iff.1 h.nodup,h.born,h.bnd⟩
theorem qG (M:MM)(q:Int)(v:Value)(h:(M.map (·.1)).Nodup):((l6 M q v).map (·.1)).Nodup:=by
 grind[l6,Option.not_isSome_iff_eq_none,lk_none]
theorem Jp (M N:MM)(q:Int):lk (M++N) q=(lk M q).or (lk N q):=by
 induction M with
 | nil=>simp[lk]
 | cons p M J=>grind[lk]
theorem Cb (M:MM)(q:Int)(v:Value)(k:Int):lk (l6 M q v) k=if q=k then some v else lk M k:=by
 unfold l6;split
 ·rename_i h;have key:∀N:MM,(∀J,J=q->(lk N J).isSome->lk (N.map λp=>if p.1=q then (q,v) else p) J=some v)/\(∀J,J≠q->lk (N.map λp=>if p.1=q then (q,v) else p) J=lk N J):=by
   intro N
   induction N with
   | nil=>grind[lk]
   | cons p N O=>
    grind[lk]
  grind
 grind[Jp,Option.not_isSome_iff_eq_none,lk]
theorem uT (M:MM)(q:Int)(h:(M.map (·.1)).Nodup):((pJ M q).map (·.1)).Nodup:=ZC (ZD _ ZE) h
theorem Cc (M:MM)(q k:Int):lk (pJ M q) k=if q=k then none else lk M k:=by
 induction M with
 | nil=>simp[pJ,lk]
 | cons p M J=>
  grind[pJ,lk]
theorem MOk.key {es:Array MapEntry}{clk:Nat}{M:MM}(h:MOk es clk M){e:MapEntry}(he:e∈es.toList):∃p∈M,e.key=I p.1/\e.val=p.2:=by
 have:(e.key,e.val)∈M.map λp=>(I p.1,p.2):=h.perm.mem_iff.1 (Zz.2 ⟨e,he,rfl⟩)
 grind
def Ld {a b:Int}(h:I a=I b):a=b:=by injection h
def AK (J:IntKind)(q:Int):∀(l:List MapEntry) (i:Nat),(∀e∈l,∃k,e.key=I k)->
  (∃j e,l[j]? =some e/\e.key=I q/\Instr.findNow (.int J) (I q) l i=some (some (i+j,e.val)))\/((∀e∈l,e.key≠I q)/\Instr.findNow (.int J) (I q) l i=some none)
 | [],i,_=> .inr ⟨by simp,rfl⟩
 | e::l,i,h=>by
  obtain ⟨k,hk⟩:=h e (by simp);by_cases hq:k=q
  ·subst hq;exact .inl ⟨0,e,rfl,hk,by grind[Instr.findNow,Instr.sameNow]⟩
  ·have hs:Instr.sameNow (.int J) (I q) e.key=some false:=(by grind[Instr.sameNow]);rcases AK J q l (i+1) (λe he=>h e (by simp[he])) with ⟨j,e',h1,O,R⟩ | ⟨h1,O⟩
   ·exact .inl ⟨j+1,e',by simpa using h1,O,by grind[Instr.findNow]⟩
   grind[Instr.findNow]
theorem MOk.find {es:Array MapEntry}{clk:Nat}{M:MM}(h:MOk es clk M)(O:IntKind)(q:Int):
  (∃j e,es.toList[j]? =some e/\e.key=I q/\lk M q=some e.val/\Instr.findNow (.int O) (I q) es.toList 0=some (some (j,e.val)))\/
  (lk M q=none/\(∀e∈es.toList,e.key≠I q)/\Instr.findNow (.int O) (I q) es.toList 0=some none):=by
 rcases AK O q es.toList 0 (λe he=>let ⟨p,_,h,_⟩:=h.key he;⟨p.1,h⟩) with ⟨j,e,h1,J,R⟩ | ⟨h1,J⟩
 ·obtain ⟨p,hp,S,V⟩:=h.key (YW h1);refine .inl ⟨j,e,h1,J,?_,by simpa using R⟩;rw[Ca h.nodup]
  grind
 ·refine .inr ⟨?_,h1,J⟩;rw[lk_none];intro p hp hq;have:(I p.1,p.2)∈es.toList.map λe=>(e.key,e.val):=h.perm.mem_iff.2 (Zz.2 ⟨p,hp,rfl⟩)
  grind
def fB {P:Program}{w:World}{t:TypeId}{J:IntKind}{q:Int}(b:Bool)(O:P.underlying t=some (.int J)):(Instr.checkKey b 10000 t (I q)).run P w= .ok () w:=by
 have key:∀n,(Instr.checkKey b (n+1) t (I q)).run P w= .ok () w:=λn=>by
  simp_all[Instr.checkKey,underlying]
 exact key 9999
def gn {P:Program}{w:World}{t:TypeId}{J:IntKind}{q:Int}{es:List MapEntry}{r:Option (Nat×Value)}(O:P.underlying t=some (.int J))(h:Instr.findNow (.int J) (I q) es 0=some r):(Instr.findKey t (I q) es).run P w= .ok r w:=by
 simp[Instr.findKey,underlying,program,Sem.run,O,h]
class HasM (L:List ag) (r:Nat) (M:outParam MM):Prop where
 out:∀w0 w,Sat w0 w L->∃es clk,MOk es clk M/\w.heap[r]? =some (.map es clk)
instance (priority:=high) HasM.head {r:Nat}{M:MM}{L:List ag}:HasM (mp r M::L) r M:=⟨λw0 w h=>by
 obtain ⟨⟨es,clk⟩,h⟩:=h.ex;obtain ⟨_,_,_,_,f,hf,_⟩:=h;have:=hf 0 _ rfl;exact ⟨es,clk,this.1.1,this.2 r _ this.1.2⟩⟩
instance (priority:=high) HasM.headE {r:Nat}{es:Array MapEntry}{clk:Nat}{M:MM}{L:List ag}:HasM (sH r es clk M::L) r M:=⟨λw0 w h=>by
 obtain ⟨_,_,_,_,f,hf,_⟩:=h;have:=hf 0 _ rfl;exact ⟨es,clk,this.1.1,this.2 r _ this.1.2⟩⟩
instance (priority:=low) HasM.tail {A:ag}{r:Nat}{M:MM}{L:List ag}[h:HasM L r M]:HasM (A::L) r M:=⟨λw0 w hS=>h.out w0 w hS.tail⟩
class RemM (L:List ag) (r:Nat) (M:outParam MM) (F:outParam (List ag)):Prop where
 out:∃i,L[i]? =some (mp r M)/\F=L.eraseIdx i
instance (priority:=high) RemM.head {r:Nat}{M:MM}{L:List ag}:RemM (mp r M::L) r M L:=⟨0,rfl,rfl⟩
instance (priority:=low) RemM.tail {A:ag}{r:Nat}{M:MM}{L F:List ag}[h:RemM L r M F]:RemM (A::L) r M (A::F):=⟨let ⟨i,h1,h2⟩:=h.out;⟨i+1,by simpa using h1,by simp[h2]⟩⟩
theorem RemM.sat {w0 w:World}{r:Nat}{M:MM}{L F:List ag}(R:RemM L r M F)(h:Sat w0 w L):∃es clk,MOk es clk M/\Sat w0 w (pt r (.map es clk)::F):=by
 obtain ⟨i,h1,rfl⟩:=R.out;obtain ⟨⟨es,clk⟩,h⟩:=(h.front h1).ex;have hok:MOk es clk M:=by
  obtain ⟨_,_,_,_,f,J,_⟩:=h;exact (J 0 _ rfl).1.1
 exact ⟨es,clk,hok,h.weak λm hm=>hm.2⟩
def qH {w0 w:World}{r clk:Nat}{es:Array MapEntry}{M:MM}{F:List ag}(h:Sat w0 w (pt r (.map es clk)::F))(hok:MOk es clk M):Sat w0 w (mp r M::F):=Sat.ex_mk (A:=λp:Array MapEntry×Nat=>λm=>MOk p.1 p.2 M/\m r=some (.map p.1 p.2,false)) (es,clk) (h.weak λm hm=>⟨hok,hm⟩)
section
variable {c:Cx}{g:Option (Nat×Bool)}{E:dr}{L L' F:List ag}{d:Option Tmp}{ty:TypeId}{pos:String}{af:Array Edge}{gu:Option (Nat×Bool)}{K:List KI}
variable {x y z:Operand}{t u e:TypeId}{k:IntKind}{v zv:Value}{r b n:Nat}{q:Int}{M:MM}
def lh (S:c.P.underlying t=some (.map u e))[hx:EV g E x (.map (some r))][h:HasM L r M]:OpV c g E L ⟨d, .call {callee:= .builtin .len,args:=#[x],argTypes:=#[t]},ty,pos,af,gu⟩ (I M.length):=have hx:=hx.p;.mk λa w J R O=>by
 obtain ⟨es,clk,hok,hw⟩:=h.out _ _ O;have hl:es.size=M.length:=(by simpa using hok.perm.length_eq);simp[execOp,resolve,invoke,builtin,Builtin.len_,underlying,program,getObj,Sem.run,S,J.ev R hx,goInt,hw,hl]
def cI (V:c.P.underlying t=some (.map u e))(hk:c.P.underlying u=some (.int .i64))(S:∀w,(zeroValue e).run c.P w= .ok zv w)[hx:EV g E x (.map (some r))][hy:EV g E y (I q)](hv:(lk M q).getD zv=v)[h:HasM L r M]:
  OpV c g E L ⟨d, .lookup t x y false,ty,pos,af,gu⟩ v:=have hx:=hx.p;have hy:=hy.p;.mk λa w J O Z=>by
 subst hv;obtain ⟨es,clk,hok,hw⟩:=h.out _ _ Z;rcases hok.find .i64 q with ⟨j,en,h1,X,R,Y⟩ | ⟨h1,X,R⟩
 ·simp[execOp,J.ev O hx,J.ev O hy,Instr.lookup,underlying,program,getObj,Sem.run,Sem.run_bind,V,hw,fB _ hk,gn hk Y,R]
 ·simp[execOp,J.ev O hx,J.ev O hy,Instr.lookup,underlying,program,getObj,Sem.run,Sem.run_bind,V,hw,fB _ hk,gn hk R,h1,S]
def d8 {bb:Bool}(V:c.P.underlying t=some (.map u e))(hk:c.P.underlying u=some (.int .i64))(S:∀w,(zeroValue e).run c.P w= .ok zv w)[hx:EV g E x (.map (some r))][hy:EV g E y (I q)](hv:(lk M q).getD zv=v)(hb:(lk M q).isSome=bb)[h:HasM L r M]:
  OpV c g E L ⟨d, .lookup t x y true,ty,pos,af,gu⟩ (.tuple #[v, .bool bb]):=have hx:=hx.p;have hy:=hy.p;.mk λa w J O Z=>by
 subst hv hb;obtain ⟨es,clk,hok,hw⟩:=h.out _ _ Z;rcases hok.find .i64 q with ⟨j,en,h1,X,R,Y⟩ | ⟨h1,X,R⟩
 ·simp[execOp,J.ev O hx,J.ev O hy,Instr.lookup,underlying,program,getObj,Sem.run,Sem.run_bind,V,hw,fB _ hk,gn hk Y,R]
 ·simp[execOp,J.ev O hx,J.ev O hy,Instr.lookup,underlying,program,getObj,Sem.run,Sem.run_bind,V,hw,fB _ hk,gn hk R,h1,S]
theorem MOk.nil:MOk #[] 0 []:=⟨by simp,by simp,by simp,by simp⟩
def fw:OpL c g E L ⟨d, .makeMap t none,ty,pos,af,gu⟩ λv L'=>∃b,v= .map (some b)/\L'=mp b []::L:=
 .of_run λa w O R J=>⟨.map (some w.heap.size),_,_,by simp[execOp,Instr.makeMap,newObj,Sem.run],qH (J.alloc (.map #[] 0)) MOk.nil,_,rfl,rfl⟩
open Classical in
theorem MOk.upd {es:Array MapEntry}{clk j:Nat}{R:MapEntry}(h:MOk es clk M)(h1:es.toList[j]? =some R)(V:R.key=I q)(h3:lk M q=some R.val)(v:Value):MOk (es.modify j λe=>{e with key:=I q,val:=v}) clk (l6 M q v):=by
 have hj:j<es.toList.length:=(Yh.1 h1).1;have hb:(es.modify j λe=>{e with key:=I q,val:=v}).toList.map (·.born)=es.toList.map (·.born):=by
  apply Zx;intro i;simp only[Zw,ZF,ZG];split
  ·cases es[i]? <;> rfl
  ·rfl
 refine ⟨?_,qG M q v h.nodup,λe he=>?_,by rw[hb];exact h.bnd⟩
 ·have e1:(es.modify j λe=>{e with key:=I q,val:=v}).toList.map (λe=>(e.key,e.val))=(es.toList.map λe=>(e.key,e.val)).map λp=>if p.1=I q then (I q,v) else p:=by
   apply Zx;intro i;simp only[Zw,ZF,ZG,Option.map_map];by_cases J:j=i
   ·subst J;have:es[j]? =some R:=(by simpa using h1);simp[this,V]
   ·simp only[J,if_false];cases hi:es[i]? with
    | none=>rfl
    | some e'=>
     simp only[Option.map_some,Function.comp_apply];rw[YC];intro hk;have Z:(es.toList.map (·.key)).Nodup:=by
      have:(es.toList.map (·.key)).Perm ((M.map (·.1)).map I):=by
       have:=h.perm.map (·.1);simpa [Yv,Function.comp_def] using this
      rw[this.nodup_iff];exact List.Pairwise.map I (λa b X e=>X (Ld e)) h.nodup
     have S:es.toList[i]? =some e':=(by simpa using hi);have il:i<es.toList.length:=(Yh.1 S).1;have hp:=Yi.1 Z;have g1:es.toList[j]=R:=(Yh.1 h1).2;have g2:es.toList[i]=e':=(Yh.1 S).2;rcases YX J with O | O
     ·refine hp j i (by simpa using hj) (by simpa using il) O ?_;rw[ZH,ZH,g1,g2,V,hk]
     ·refine hp i j (by simpa using il) (by simpa using hj) O ?_;rw[ZH,ZH,g1,g2,V,hk]
  rw[e1];refine (h.perm.map _).trans (List.Perm.of_eq ?_);unfold l6;rw[YB (by simp[h3]),Yv,Yv];apply ZI;intro p _;simp only[Function.comp_apply];by_cases hp:p.1=q
  ·simp[hp]
  ·have:I p.1≠I q:=λe=>hp (Ld e);simp[hp,this]
 ·have:e.born∈es.toList.map (·.born):=(by rw[<-hb];exact Zz.2 ⟨e,he,rfl⟩);obtain ⟨e',Y,e2⟩:=Zz.1 this;rw[<-e2];exact h.born e' Y
theorem MOk.add {es:Array MapEntry}{clk:Nat}(h:MOk es clk M)(O:lk M q=none)(v:Value):MOk (es.push {key:=I q,val:=v,born:=clk}) (clk+1) (l6 M q v):=by
 refine ⟨?_,qG M q v h.nodup,λe he=>?_,?_⟩
 ·unfold l6;rw[YC (by simp[O])];simp only[ZJ,Yu,Yw,Yx];exact h.perm.append_right _
 ·simp at he;rcases he with he | rfl
  ·have:=h.born e (by simpa using he);omega
  ·simp
 ·simp only[ZJ,Yu,Yw,Yx];rw[ZK];refine ⟨h.bnd,by simp,λa R b J=>?_⟩;simp at J;subst J;obtain ⟨e,he,rfl⟩:=Zz.1 R;exact Nat.ne_of_lt (h.born e he)
def Jq {P:Program}{w:World}(q:Int):(Instr.keyThatStays (I q) (I q)).run P w= .ok (I q) w:=by
 simp[Instr.keyThatStays,Instr.sameBits,I,Sem.run_pure]
def oH {P:Program}{w:World}{es:Array MapEntry}{clk:Nat}{o':Obj}(h:w.heap[r]? =some (.map es clk)):(setObj r o').run P w= .ok () (kC w r o'):=by
 simp[setObj,Sem.run,h,kC]
def cn (hu:c.P.underlying t=some (.map u e))(hk:c.P.underlying u=some (.int .i64))[hx:EV g E x (.map (some r))][hy:EV g E y (I q)][V:EV g E z v][R:RemM L r M F]:
  OpL c g E L ⟨d, .mapUpdate t x y z,ty,pos,af,gu⟩ λ_ X=>X=mp r (l6 M q v)::F:=have hx:=hx.p;have hy:=hy.p;have V:=V.p;
 .of_skip λa w J O S=>by
  obtain ⟨es,clk,hok,S⟩:=R.sat S;have hw:=S.at_;rcases hok.find .i64 q with ⟨j,en,h1,Z,h3,h4⟩ | ⟨h1,Z,h3⟩
  ·have Y:es[j]? =some en:=(by simpa using h1);refine ⟨kC w r (.map (es.modify j λe=>{e with key:=I q,val:=v}) clk),_,?_,qH (S.set rfl) (hok.upd h1 Z h3 v),rfl⟩;simp[execOp,J.ev O hx,J.ev O hy,J.ev O V,Instr.mapUpdate,underlying,program,getObj,Sem.run,Sem.run_bind,hu,hw,fB _ hk,gn hk h4,Y,Z,Jq,oH hw]
  ·refine ⟨kC w r (.map (es.push {key:=I q,val:=v,born:=clk}) (clk+1)),_,?_,qH (S.set rfl) (hok.add h1 v),rfl⟩;simp[execOp,J.ev O hx,J.ev O hy,J.ev O V,Instr.mapUpdate,underlying,program,getObj,Sem.run,Sem.run_bind,hu,hw,fB _ hk,gn hk h3,oH hw]
def pp (r:Nat)(O:MM)[R:RemM L r M F](h:M.Perm O)(k:G c K E (mp r O::F)):G c K E L:=λa w S J=>by
 obtain ⟨es,clk,hok,J⟩:=R.sat J;exact k a w S (qH J (hok.perm_ h))
def gv (r:Nat)[R:HasM L r M](k:(M.map (·.1)).Nodup->G c K E L):G c K E L:=λa w O J=>by
 obtain ⟨es,clk,hok,_⟩:=R.out _ _ J;exact k hok.nodup a w O J
end
end Go.Sl
namespace Go.Sl
def x9 (b r:Nat)(es:Array MapEntry)(clk:Nat)(rest:MM)(cur:Option (Int×Value)):ag:=λm=>∃(seen:Array Nat) (c0:Nat),m b=some (.mapIter (some r) clk seen c0,false)/\clk<=c0/\
 ((leftOf es seen).toList.map λe=>(e.key,e.val)).Perm (rest.map λp=>(I p.1,p.2))/\∀p,cur=some p->c0=clk/\∃(s0:Array Nat) (e:MapEntry),e∈es.toList/\seen=s0.push e.born/\e.key=I p.1/\e.val=p.2
class HasE (L:List ag) (r:Nat) (es:outParam (Array MapEntry)) (clk:outParam Nat) (M:outParam MM):Prop where
 out:∀w0 w,Sat w0 w L->MOk es clk M/\w.heap[r]? =some (.map es clk)
instance (priority:=high) HasE.head {r:Nat}{es:Array MapEntry}{clk:Nat}{M:MM}{L:List ag}:HasE (sH r es clk M::L) r es clk M:=⟨λw0 w h=>by
 obtain ⟨_,_,_,_,f,hf,_⟩:=h;have:=hf 0 _ rfl;exact ⟨this.1.1,this.2 r _ this.1.2⟩⟩
instance (priority:=low) HasE.tail {A:ag}{r:Nat}{es:Array MapEntry}{clk:Nat}{M:MM}{L:List ag}[h:HasE L r es clk M]:HasE (A::L) r es clk M:=⟨λw0 w hS=>h.out w0 w hS.tail⟩
class RemE (L:List ag) (r:Nat) (es:outParam (Array MapEntry)) (clk:outParam Nat) (M:outParam MM) (F:outParam (List ag)):Prop where
 out:∃i,L[i]? =some (sH r es clk M)/\F=L.eraseIdx i
instance (priority:=high) RemE.head {r:Nat}{es:Array MapEntry}{clk:Nat}{M:MM}{L:List ag}:RemE (sH r es clk M::L) r es clk M L:=⟨0,rfl,rfl⟩
instance (priority:=low) RemE.tail {A:ag}{r:Nat}{es:Array MapEntry}{clk:Nat}{M:MM}{L F:List ag}[h:RemE L r es clk M F]:RemE (A::L) r es clk M (A::F):=⟨let ⟨i,h1,h2⟩:=h.out;⟨i+1,by simpa using h1,by simp[h2]⟩⟩
class RemI (L:List ag) (b:Nat) (r:outParam Nat) (es:outParam (Array MapEntry)) (clk:outParam Nat) (rest:outParam MM) (cur:outParam (Option (Int×Value))) (F:outParam (List ag)):Prop where
 out:∃i,L[i]? =some (x9 b r es clk rest cur)/\F=L.eraseIdx i
instance (priority:=high) RemI.head {b r:Nat}{es:Array MapEntry}{clk:Nat}{rest:MM}{cur:Option (Int×Value)}{L:List ag}:RemI (x9 b r es clk rest cur::L) b r es clk rest cur L:=⟨0,rfl,rfl⟩
instance (priority:=low) RemI.tail {A:ag}{b r:Nat}{es:Array MapEntry}{clk:Nat}{rest:MM}{cur:Option (Int×Value)}{L F:List ag}[h:RemI L b r es clk rest cur F]:RemI (A::L) b r es clk rest cur (A::F):=⟨let ⟨i,h1,h2⟩:=h.out;⟨i+1,by simpa using h1,by simp[h2]⟩⟩
def Ee {w0 w:World}{b r clk:Nat}{es:Array MapEntry}{rest:MM}{cur:Option (Int×Value)}{F:List ag}(h:Sat w0 w (x9 b r es clk rest cur::F)):∃(J:Array Nat) (c0:Nat),clk<=c0/\((leftOf es J).toList.map λe=>(e.key,e.val)).Perm (rest.map λp=>(I p.1,p.2))/\
  (∀p,cur=some p->c0=clk/\∃(R:Array Nat) (e:MapEntry),e∈es.toList/\J=R.push e.born/\e.key=I p.1/\e.val=p.2)/\Sat w0 w (pt b (.mapIter (some r) clk J c0)::F):=by
 have S:Sat w0 w (QV (λs:Array Nat×Nat=>λm=>m b=some (.mapIter (some r) clk s.1 s.2,false)/\clk<=s.2/\
  ((leftOf es s.1).toList.map λe=>(e.key,e.val)).Perm (rest.map λp=>(I p.1,p.2))/\∀p,cur=some p->s.2=clk/\∃(R:Array Nat) (e:MapEntry),e∈es.toList/\s.1=R.push e.born/\e.key=I p.1/\e.val=p.2)::F):=h.weak λm ⟨s,c,hm⟩=>⟨(s,c),hm⟩
 obtain ⟨⟨s,c⟩,h⟩:=S.ex;have O:clk<=c/\((leftOf es s).toList.map λe=>(e.key,e.val)).Perm (rest.map λp=>(I p.1,p.2))/\∀p,cur=some p->c=clk/\∃(R:Array Nat) (e:MapEntry),e∈es.toList/\s=R.push e.born/\e.key=I p.1/\e.val=p.2:=by
  obtain ⟨_,_,_,_,f,O,_⟩:=h;exact (O 0 _ rfl).1.2
 exact ⟨s,c,O.1,O.2.1,O.2.2,h.weak λm hm=>hm.1⟩
def yb {w0 w:World}{b r clk c0:Nat}{J:Array Nat}{es:Array MapEntry}{rest:MM}{cur:Option (Int×Value)}{F:List ag}(h:Sat w0 w (pt b (.mapIter (some r) clk J c0)::F))(h1:clk<=c0)
 (O:((leftOf es J).toList.map λe=>(e.key,e.val)).Perm (rest.map λp=>(I p.1,p.2))) (R:∀p,cur=some p->c0=clk/\∃(S:Array Nat) (e:MapEntry),e∈es.toList/\J=S.push e.born/\e.key=I p.1/\e.val=p.2):
 Sat w0 w (x9 b r es clk rest cur::F):=h.weak λm hm=>⟨J,c0,hm,h1,O,R⟩
def Le (es:Array MapEntry):leftOf es #[]=es:=by simp[leftOf]
def yc:∀{l:List MapEntry} {e:MapEntry},e∈l->(l.map (·.born)).Nodup->l.Perm (e::l.filter λx=>!decide (x.born=e.born))
 | [],e,h,_=>by simp at h
 | a::l,e,h,hn=>by
  simp only[Yw,ZL] at hn;rcases Y5.1 h with rfl | h
  ·grind[List.Perm.of_eq,List.filter_eq_self]
  ·have hne:a.born≠e.born:=λe'=>hn.1 (Zz.2 ⟨e,h,e'.symm⟩);rw[List.filter_cons_of_pos (by simp[hne])];exact ((yc h hn.2).cons a).trans (List.Perm.swap _ _ _)
def Jr (es:Array MapEntry)(J:Array Nat)(b:Nat):(leftOf es (J.push b)).toList=(leftOf es J).toList.filter λx=>!decide (x.born=b):=by
 simp only[leftOf,ZN,ZO]
 grind
section
variable {c:Cx}{g:Option (Nat×Bool)}{E:dr}{L L' F:List ag}{d:Option Tmp}{ty:TypeId}{pos:String}{af:Array Edge}{gu:Option (Nat×Bool)}{K:List KI}
variable {x y z:Operand}{t u e:TypeId}{k:IntKind}{v zv:Value}{r b n clk:Nat}{q:Int}{M rest:MM}{es:Array MapEntry}{cur:Option (Int×Value)}
def fj (r:Nat)[R:RemM L r M F](k:∀es clk,G c K E (sH r es clk M::F)):G c K E L:=λa w O J=>by
 obtain ⟨es,clk,hok,J⟩:=R.sat J;exact k es clk a w O (J.weak λm hm=>⟨hok,hm⟩)
def bQ (r:Nat)[R:RemE L r es clk M F](k:G c K E (mp r M::F)):G c K E L:=λa w J O=>by
 obtain ⟨i,h1,rfl⟩:=R.out;have h:=O.front h1;exact k a w J (Sat.ex_mk (A:=λp:Array MapEntry×Nat=>λm=>MOk p.1 p.2 M/\m r=some (.map p.1 p.2,false)) (es,clk) h)
def ii (S:c.P.underlying t=some (.map u e))[hx:EV g E x (.map (some r))][h:HasE L r es clk M]:
  OpL c g E L ⟨d, .range t x,ty,pos,af,gu⟩ λv L'=>∃b,v=ptr b 0/\L'=x9 b r es clk M none::L:=have hx:=hx.p;
 .of_run λa w O R J=>by
  obtain ⟨hok,hw⟩:=h.out _ _ J;refine ⟨ptr w.heap.size 0,_,_,?_,yb (J.alloc (.mapIter (some r) clk #[] clk)) (Yf _) (by rw[Le];exact hok.perm) (λp hp=>by cases hp),_,rfl,rfl⟩;simp[execOp,O.ev R hx,Instr.range,underlying,program,getObj,newObj,Sem.run,Sem.run_bind,S,hw]
def j9 [hx:EV g E x (ptr b 0)][R:RemI L b r es clk rest cur F][h:HasE F r es clk M]:
  OpL c g E L ⟨d, .next x false,ty,pos,af,gu⟩ λv L'=>(rest=[]/\v= .tuple #[.bool false]/\L'=x9 b r es clk [] none::F)\/
   ∃p V,rest.Perm (p::V)/\v= .tuple #[.bool true,I p.1,p.2]/\L'=x9 b r es clk V (some p)::F:=have hx:=hx.p;
 .of_run λa w hE hg Y=>by
  obtain ⟨i,h1,rfl⟩:=R.out;obtain ⟨J,c0,hc,hp,hcur,Y⟩:=Ee (Y.front h1);obtain ⟨hok,hw⟩:=h.out _ _ Y.tail;have hr:=Y.at_;rcases run_next_at (P:=c.P) w ty b r clk c0 J es clk hr hw hok.born hc with ⟨h0,S⟩ | ⟨X,hen,w1,hal,S⟩
  ·have h0':(leftOf es J).toList=[]:=by
    grind
   have hr0:rest=[]:=by
    simp_all
   subst hr0;exact ⟨_,w,_,by simp[execOp,hE.ev hg hx,ptr,S],yb Y hc hp (λp hp=>by cases hp), .inl ⟨rfl,rfl,rfl⟩⟩
  ·have hS1:Sat c.w0 w1 (pt b (.mapIter (some r) clk J c0)::L.eraseIdx i):=by
    rcases hal with rfl | rfl
    ·exact Y
    ·exact Y.drew _
   have hm:(X.key,X.val)∈rest.map λp=>(I p.1,p.2):=hp.mem_iff.1 (Zz.2 ⟨X,hen,rfl⟩);obtain ⟨p,hpm,hpe⟩:=Zz.1 hm;injection hpe with e1 e2;obtain ⟨s,t',hst⟩:=ZP hpm;have O:rest.Perm (p::(s++t')):=(by grind[List.perm_middle]);have hes:X∈es.toList:=by
    grind[leftOf]
   have hnd:((leftOf es J).toList.map (·.born)).Nodup:=by
    simp only[leftOf,ZN];exact ZC (ZD _ ZE) hok.bnd
   have hl:=yc hen hnd;have Z:(Instr.next (.pointer (some ⟨b,0,none⟩)) false ty).run c.P w= .ok (.tuple #[.bool true,X.key,X.val]) (kC w1 b (.mapIter (some r) clk (J.push X.born) clk)):=S;refine ⟨.tuple #[.bool true,X.key,X.val],kC w1 b (.mapIter (some r) clk (J.push X.born) clk),_,by simp[execOp,hE.ev hg hx,ptr,Z],yb (rest:=s++t') (cur:=some p) (hS1.set rfl) (Yf _) ?_ ?_, .inr ⟨p,s++t',O,by rw[e1,e2],rfl⟩⟩
   ·rw[Jr];have h2:=((hl.map λe=>(e.key,e.val)).symm.trans (hp.trans (O.map λp=>(I p.1,p.2))))
    simp_all
   grind
def ij {p:Int×Value}[hx:EV g E x (ptr b 0)][R:RemI L b r es clk rest (some p) F][h:HasE F r es clk M]:OpV c g E L ⟨d, .entry x,ty,pos,af,gu⟩ (.tuple #[I p.1,p.2]):=have hx:=hx.p;.mk λa w hE hg S=>by
 obtain ⟨i,h1,rfl⟩:=R.out;obtain ⟨X,c0,hc,hp,O,S⟩:=Ee (S.front h1);obtain ⟨hok,hw⟩:=h.out _ _ S.tail;obtain ⟨rfl,s0,en,V,rfl,Y,Z⟩:=O p rfl;have J:=run_entry_at (P:=c.P) w b r c0 s0 es c0 en S.at_ hw V hok.bnd;rw[Y,Z] at J;simp[execOp,hE.ev hg hx,ptr,J]
def rv {α:Type}:∀{l:List α} {j:Nat} {e:α},l[j]? =some e->l.Perm (e::l.eraseIdx j)
 | [],j,e,h=>by simp at h
 | a::l,0,e,h=>by simp_all
 | a::l,j+1,e,h=>((rv (l:=l) (j:=j) (by simpa using h)).cons a).trans (List.Perm.swap _ _ _)
theorem MOk.del {j:Nat}{J:MapEntry}(h:MOk es clk M)(h1:es.toList[j]? =some J)(Z:J.key=I q):MOk (es.eraseIdxIfInBounds j) clk (pJ M q):=by
 have hj:j<es.toList.length:=(Yh.1 h1).1;have ej:es.toList[j]=J:=(Yh.1 h1).2;have hl:(es.eraseIdxIfInBounds j).toList=es.toList.eraseIdx j:=by
  simp_all
 have hp:es.toList.Perm (J::es.toList.eraseIdx j):=rv h1;have hk:(es.toList.map (·.key)).Perm ((M.map (·.1)).map I):=by
  have:=h.perm.map (·.1)
  grind[Function.comp_def]
 refine ⟨?_,uT M q h.nodup,λe he=>h.born e ?_,?_⟩
 ·rw[hl];have h3:((J.key,J.val)::(es.toList.eraseIdx j).map λe=>(e.key,e.val)).Perm (M.map λp=>(I p.1,p.2)):=((hp.map λe:MapEntry=>(e.key,e.val)).symm).trans h.perm;obtain ⟨p,S,Y,e2⟩:=h.key (YW h1);have V:p.1=q:=Ld (Y.symm.trans Z);obtain ⟨s,X,R⟩:=ZP S;have O:=h.nodup;rw[R,Yu,Yw] at O;rw[ZK] at O;obtain ⟨n1,n2,n3⟩:=O;rw[ZL] at n2;have hd:pJ M q=s++X:=by
   unfold pJ;rw[R,ZR,ZS (by simp[V])];congr 1
   ·rw[ZM];intro a ha;have:a.1≠p.1:=n3 a.1 (Zz.2 ⟨a,ha,rfl⟩) p.1 (by simp);simp[<-V,this]
   grind[List.filter_eq_self]
  rw[hd];have h4:(M.map λp=>(I p.1,p.2)).Perm ((J.key,J.val)::(s++X).map λp=>(I p.1,p.2)):=by
   simp_all
  exact (h3.trans h4).cons_inv
 ·grind
 ·rw[hl];exact ZC (ZD _ (List.eraseIdx_sublist _ _)) h.bnd
def iv {ut:TypeId}(Z:c.P.underlying t=some (.map u e))(hk:c.P.underlying u=some (.int .i64))[hx:EV g E x (.map (some r))][hy:EV g E y (I q)][R:RemM L r M F]:
  OpL c g E L ⟨d, .call {callee:= .builtin .delete,args:=#[x,y],argTypes:=#[t,ut]},ty,pos,af,gu⟩ λv V=>v= .tuple #[]/\V=mp r (pJ M q)::F:=have hx:=hx.p;have hy:=hy.p;
 .of_run λa w O S J=>by
  obtain ⟨es,clk,hok,J⟩:=R.sat J;have hw:=J.at_;rcases hok.find .i64 q with ⟨j,en,h1,X,Y,h4⟩ | ⟨h1,X,Y⟩
  ·refine ⟨_,kC w r (.map (es.eraseIdxIfInBounds j) clk),_,?_,qH (J.set rfl) (hok.del h1 X),rfl,rfl⟩;simp[execOp,resolve,invoke,builtin,Builtin.delete_,O.ev S hx,O.ev S hy,underlying,program,getObj,Sem.run,Sem.run_bind,Z,hw,fB _ hk,gn hk h4,oH hw]
  ·have hd:pJ M q=M:=by
    unfold pJ;rw[ZM];intro p hp;have:=lk_none.1 h1 p hp;simp[this]
   refine ⟨_,kC w r (.map es clk),_,?_,qH (J.set rfl) (hd.symm ▸ hok),rfl,rfl⟩;simp[execOp,resolve,invoke,builtin,Builtin.delete_,O.ev S hx,O.ev S hy,underlying,program,getObj,Sem.run,Sem.run_bind,Z,hw,fB _ hk,gn hk Y,oH hw]
end
end Go.Sl
namespace Go.Sl
section
variable {ρ:Type}
def Lg (enc:ρ->Value)(l:List Nat)(B:Int->Option ρ):MM:=l.filterMap λk:Nat=>(B (k:Int)).map λx=>((k:Int),enc x)
def tb (enc:ρ->Value)(n:Nat)(B:Int->Option ρ):MM:=Lg enc (List.range' 1 n) B
def aB (B:Int->Option ρ)(k:Int)(x:Option ρ):Int->Option ρ:=λq=>if q=k then x else B q
def bZ (n:Nat)(B:Int->Option ρ):List Int:=((List.range' 1 n).filter λk:Nat=>(B (k:Int)).isSome).map λk:Nat=>(k:Int)
def d9 (n:Nat)(B:Int->Option ρ):Option Nat:=(List.range' 1 n).find? λk:Nat=>(B (k:Int)).isNone
def l9 (n:Nat)(B:Int->Option ρ):Prop:=∀q x,B q=some x->1<=q/\q<=n
def Lh (enc:ρ->Value)(l:List Nat)(B:Int->Option ρ):(Lg enc l B).map (·.1)=(l.filter λk:Nat=>(B (k:Int)).isSome).map λk:Nat=>(k:Int):=by
 induction l with
 | nil=>rfl
 | cons k l J=>
  unfold Lg at J ⊢;cases h:B (k:Int) with
  | none=>simp[h,J]
  | some x=>simp[h,J]
theorem mW (enc:ρ->Value)(n:Nat)(B:Int->Option ρ):(tb enc n B).map (·.1)=bZ n B:=Lh enc _ B
theorem ids_nodup (n:Nat)(B:Int->Option ρ):(bZ n B).Nodup:=by
 grind[bZ,List.nodup_range']
theorem nH (enc:ρ->Value)(n:Nat)(B:Int->Option ρ):((tb enc n B).map (·.1)).Nodup:=by grind[mW,ids_nodup]
def gw (enc:ρ->Value)(n:Nat)(B:Int->Option ρ):(tb enc n B).length=(bZ n B).length:=by rw[<-mW enc,ZU]
def rZ (n:Nat)(B:Int->Option ρ):(bZ n B).Pairwise (· <·):=by
 grind[bZ,List.pairwise_lt_range']
def mem_ids {n:Nat}{B:Int->Option ρ}{q:Int}:q∈bZ n B ↔ (1<=q/\q<=n)/\(B q).isSome=true:=by
 unfold bZ;constructor
 ·grind
 ·rintro ⟨⟨h1,J⟩,O⟩;refine Zz.2 ⟨q.toNat,ZV.2 ⟨by grind,?_⟩,by omega⟩
  grind
theorem ea (n:Nat)(B:Int->Option ρ):(bZ n B).length<=n:=by
 grind[bZ]
theorem Lj (enc:ρ->Value)(B:Int->Option ρ)(q:Int):∀(l:List Nat),lk (Lg enc l B) q=if 0<=q/\q.toNat∈l then (B q).map enc else none
 | []=>by simp[Lg,lk]
 | k::l=>by
  have J:=Lj enc B q l;unfold Lg at J ⊢;by_cases hk:(k:Int)=q
  ·subst hk;cases h:B (k:Int) with
   | none=>simp[h,J]
   | some x=>simp[h,lk]
  ·have hne:q.toNat≠k\/¬0<=q:=(by omega);have e:(0<=q/\q.toNat∈k::l) ↔ (0<=q/\q.toNat∈l):=by
    grind
   simp only[e];cases h:B (k:Int) with
   | none=>simp[h,J]
   | some x=>simp[h,lk,hk,J]
theorem Ef (enc:ρ->Value)(n:Nat)(B:Int->Option ρ)(q:Int):lk (tb enc n B) q=if 1<=q/\q<=n then (B q).map enc else none:=by
 grind[tb,Lj]
theorem Gj (enc:ρ->Value){n:Nat}{B:Int->Option ρ}(h:l9 n B)(q:Int):lk (tb enc n B) q=(B q).map enc:=by
 rw[Ef];split
 ·rfl
 ·rename_i hn;cases e:B q with
  | none=>rfl
  | some x=>exact absurd (h q x e) hn
def nq (enc:ρ->Value){n:Nat}{B:Int->Option ρ}{k:Int}{x:ρ}(hk:1<=k/\k<=n):(l6 (tb enc n B) k (enc x)).Perm (tb enc n (aB B k (some x))):=by
 grind[rY,qG,nH,Cb,Ef,aB]
def Rd (enc:ρ->Value){n:Nat}{B:Int->Option ρ}{k:Int}:(pJ (tb enc n B) k).Perm (tb enc n (aB B k none)):=by
 grind[rY,uT,nH,Cc,Ef,aB]
def ma (enc:ρ->Value)(n:Nat):tb enc n (λ_=>none)=[]:=by
 simp_all[tb,Lg]
def ka {n:Nat}{B:Int->Option ρ}{k:Int}{x:Option ρ}(h:l9 n B)(hk:x.isSome=true->1<=k/\k<=n):l9 n (aB B k x):=λq y e=>by
 unfold aB at e;split at e
 ·grind
 ·exact h q y e
def pU (n:Nat):l9 n (λ_=>(none:Option ρ)):=λq x e=>by cases e
def full_iff {n:Nat}{B:Int->Option ρ}:(bZ n B).length=n ↔ d9 n B=none:=by
 unfold bZ d9;rw[ZU,<-ZW,ZX];have:=List.countP_eq_length (p:=λk:Nat=>(B (k:Int)).isSome) (l:=List.range' 1 n);rw[List.length_range'] at this;rw[this];constructor
 ·intro h x hx;have:=h x hx;cases e:B (x:Int) <;> simp[e] at this ⊢
 ·intro h x hx;have:=h x hx;cases e:B (x:Int) <;> simp[e] at this ⊢
theorem iJ {n k:Nat}{B:Int->Option ρ}(h:d9 n B=some k):(1<=k/\k<=n)/\B k=none/\∀j:Nat,1<=j->j<k->(B j).isSome=true:=by
 unfold d9 at h;rw[ZY] at h;obtain ⟨h1,J,O⟩:=h;rw[ZZ] at J;refine ⟨by omega,by simpa using h1,λj R S=>?_⟩
 grind
def Hw {n k:Nat}{B:Int->Option ρ}(h1:1<=k/\k<=n)(J:B k=none)(O:∀j:Nat,1<=j->j<k->(B j).isSome=true):d9 n B=some k:=by
 grind[d9,List.find?_range'_eq_some]
def vZ {n:Nat}{B:Int->Option ρ}(h:(bZ n B).length≠n):∃k,d9 n B=some k:=by
 cases e:d9 n B with
 | none=>exact absurd (full_iff.2 e) h
 | some k=>exact ⟨k,rfl⟩
def tc {n:Nat}{B:Int->Option ρ}{l:List Int}(h:l.Perm (bZ n B)):l.mergeSort (λx y=>decide (x<=y))=bZ n B:=by
 refine List.Perm.eq_of_pairwise (le:=λa b:Int=>a<=b) (λa b _ _ h1 J=>by omega) ?_ ?_ ((List.mergeSort_perm _ _).trans h)
 ·grind[List.pairwise_mergeSort]
 ·exact (rZ n B).imp λh=>by omega
def uU {enc:ρ->Value}{n:Nat}{B:Int->Option ρ}{p:Int×Value}(h:p∈tb enc n B):∃x,B p.1=some x/\p.2=enc x/\1<=p.1/\p.1<=n:=by
 obtain ⟨q,v⟩:=p;rw[<-Ca (nH enc n B),Ef] at h;split at h
 ·rename_i hq;cases e:B q with
  | none=>simp[e] at h
  | some x=>grind
 ·cases h
end
end Go.Sl
namespace Go.Sl
section
variable {c:Cx}{g:Option (Nat×Bool)}{E:dr}{L:List ag}{d:Option Tmp}{ty:TypeId}{pos:String}{af:Array Edge}{gu:Option (Nat×Bool)}
variable {x y z:Operand}{t u e:TypeId}{k:IntKind}{v:Value}{s:Option Addr}{b o i j n sz cap off:Nat}
def td {J:Array Field}{f:Field}{cs:Array Value}(vs:List Value)(X:c.P.underlying t=some (.struct J))(S:J[i]? =some f)(R:∀w,(isAgg f.type).run c.P w= .ok true w)(Y:∀w,(sizeOf f.type).run c.P w= .ok sz w)[hx:EV g E x (.agg cs)](hv:cs.extract f.offset (f.offset+sz)=vs.toArray):
  OpV c g E L ⟨d, .field t x i,ty,pos,af,gu⟩ (.agg vs.toArray):=have hx:=hx.p;.mk λa w O V Z=>by
 simp[execOp,O.ev V hx,Instr.field,underlying,program,Sem.run,X,S,asAgg,part,R,Y,hv]
end
def AL {ρ:Type}(enc:ρ->Value){n:Nat}{B:Int->Option ρ}{k:Int}{v:Value}:(pJ (l6 (tb enc n B) k v) k).Perm (tb enc n (aB B k none)):=by
 grind[rY,uT,qG,nH,Cc,Cb,Ef,aB]
def aJ {cs:Array Value}{vs:List Value}(h:cs.size=vs.length:=by exact rfl):cT cs 0 vs=vs.toArray:=by
 apply YY
 grind[iI]
def Qw (l:List Value)(i:Nat)(v:Value):l.toArray.setIfInBounds i v=(l.set i v).toArray:=by grind
end Go.Sl
namespace Go.Sl
inductive PT where
 | nil
 | q (i:Nat) (t:PT)
 | l (i:Nat) (t:PT)
 | alt (s t:PT)
 | c (t:PT)
def PT.heads:PT->List Nat
 | .l i _=>[i]
 | .alt s t=>s.heads++t.heads
 | _=>[]
section
variable {P:Program}{ops:Array Oper}{Q:fu}
def PT.ok (ops:Array Oper):PT->Bool->Nat->Array Bool->Bool
 | .nil,top,n,listed=>top && Nat.beq n 0 && (Region.ready .any ops listed).isEmpty
 | .q i t,top,n,listed=>top && (match n with | 0=>false | m+1=>(Region.ready .any ops listed).contains i && Region.free .any ops listed i && t.ok ops true m (listed.setIfInBounds i true))
 | .l i t,top,n,listed=>(!top || Region.ready .any ops listed==[i]) && (match n with | 0=>false | m+1=>t.ok ops true m (listed.setIfInBounds i true))
 | .alt s t,top,n,listed=>(!top || (!(Region.ready .any ops listed).isEmpty && (Region.ready .any ops listed).all λj=>(s.heads++t.heads).contains j)) && s.ok ops false n listed && t.ok ops false n listed
 | .c t,top,n,listed=>top && t.ok ops true n listed
def Od (P:Program)(ops:Array Oper)(Q:fu):PT->(World->Prop)->Act->World->Prop
 | .nil,C,a,w=>C w/\Q .normal a w
 | .q i t,C,a,w=>C w/\∃o v,ops[i]? =some o/\YieldsC P ops C o v a/\Od P ops Q t C (a.put o.dst v) w
 | .l i t,C,a,w=>C w/\wpOp P ops Q i (Od P ops Q t C) a w
 | .alt s t,C,a,w=>Od P ops Q s C a w/\Od P ops Q t C a w
 | .c t,C,a,w=>∃C':World->Prop,(∀w,C' w->C w)/\Od P ops Q t C' a w
def wa {C O:World->Prop}(h:∀w,O w->C w):∀(fuel:Nat) (J:Array Bool) (a:Act) (w:World),wpAnyC P ops O Q fuel J a w->wpAnyC P ops C Q fuel J a w
 | 0,_,_,_,H=>⟨h _ H.1,H.2⟩
 | fuel+1,_,_,_,H=>⟨h _ H.1,H.2.1,λi hi=>wpOp_mono (λa w=>wa h fuel _ a w) (H.2.2 i hi)⟩
def iw (hs:Region.noSelect ops=true)(O:∀c a d v w,Q (.panic c) (a.put d v) w->Q (.panic c) a w):∀(t:PT),
  (∀(C:World->Prop) n J a w,t.ok ops true n J=true->Od P ops Q t C a w->wpAnyC P ops C Q n J a w)/\
  (∀(C:World->Prop) n J a w i,t.ok ops false n J=true->Od P ops Q t C a w->i∈t.heads->∃m,n=m+1/\C w/\wpOp P ops Q i (wpAnyC P ops C Q m (J.setIfInBounds i true)) a w)
 | .nil=>⟨λC n J a w ho h=>by
   simp only[PT.ok,Yr,Z0] at ho;have:=Yn ho.1;subst this;exact ⟨h.1,by simpa using ho.2,h.2⟩,λC n J a w i ho=>by simp[PT.ok] at ho⟩
 | .q i t=>⟨λC n J a w ho h=>by
   cases n with
   | zero=>simp[PT.ok] at ho
   | succ m=>
    simp only[PT.ok,Yr,Z0] at ho;obtain ⟨⟨hr,hf⟩,X⟩:=ho;obtain ⟨hw,o,v,hi,hy,h⟩:=h;exact sI hi (Region.noSelect_spec hs) (λc a w=>O c a _ _ w) m J a w (Region.free_spec hi hf) (by simpa using hr) hy hw
     ((iw hs O t).1 C m _ _ _ X h),λC n J a w i ho=>by simp[PT.ok] at ho⟩
 | .l i t=>⟨λC n J a w ho h=>by
   cases n with
   | zero=>simp[PT.ok] at ho
   | succ m=>
    simp only[PT.ok,Yr,Bool.not_true,Bool.false_or,beq_iff_eq] at ho;refine ⟨h.1,λh0=>(by rw[ho.1] at h0;cases h0),λj hj=>?_⟩;rw[ho.1] at hj;have:j=i:=(by simpa using hj);subst this;exact wpOp_mono (λa w=>(iw hs O t).1 C m _ a w ho.2) h.2,
   λC n J a w j ho h hj=>by
    cases n with
    | zero=>simp[PT.ok] at ho
    | succ m=>
     simp only[PT.ok,Yr,Bool.not_false,Bool.true_or,true_and] at ho;have:j=i:=(by simpa [PT.heads] using hj);subst this;exact ⟨m,rfl,h.1,wpOp_mono (λa w=>(iw hs O t).1 C m _ a w ho) h.2⟩⟩
 | .alt s t=>by
   have S:∀(C:World->Prop) n J a w i,s.ok ops false n J=true->t.ok ops false n J=true->Od P ops Q (.alt s t) C a w->i∈s.heads++t.heads->∃m,n=m+1/\C w/\wpOp P ops Q i (wpAnyC P ops C Q m (J.setIfInBounds i true)) a w:=by
    intro C n J a w i h1 S h hi;rcases Zn.1 hi with hi | hi
    ·exact (iw hs O s).2 C n J a w i h1 h.1 hi
    ·exact (iw hs O t).2 C n J a w i S h.2 hi
   refine ⟨λC n J a w ho h=>?_,λC n J a w i ho h hi=>?_⟩
   ·simp only[PT.ok,Yr,Bool.not_true,Bool.false_or] at ho;obtain ⟨⟨⟨hne,R⟩,Y⟩,Z⟩:=ho;cases hr:Region.ready .any ops J with
    | nil=>grind
    | cons i0 rest=>
     rw[hr] at R;have V:∀j∈i0::rest,j∈s.heads++t.heads:=λj hj=>by
      grind
     obtain ⟨m,rfl,hC,_⟩:=S C n J a w i0 Y Z h (V i0 (by simp));refine ⟨hC,λh0=>(by rw[hr] at h0;cases h0),λj hj=>?_⟩
     grind
   grind[PT.ok,PT.heads]
 | .c t=>⟨λC n J a w ho h=>by
   simp only[PT.ok,Z0] at ho;obtain ⟨C',hC,h⟩:=h;exact wa hC _ _ _ _ ((iw hs O t).1 C' n J a w ho h),λC n J a w i ho=>by simp[PT.ok] at ho⟩
def Eg {C:World->Prop}{id:Nat}{a:Act}{w:World}{t:PT}(hm:P.follows .mixedOrders=true)(hs:Region.noSelect ops=true)
  (J:∀c a d v w,Q (.panic c) (a.put d v) w->Q (.panic c) a w) (hp:t.ok ops true ops.size (Array.replicate ops.size false)=true)
  (h:Od P ops Q t C a {w with drawn:=w.drawn+1}):(Code.region id ops true).wp P Q a w:=
 wp_region_any hm (oA _ _ _ _ ((iw hs J t).1 C _ _ a _ hp h))
end
def KT (c:Cx)(all:List Oper)(Lf:List ag)(t:PT)(K:List KI):List KI:= .fin (λa w=>Od c.P all.toArray (kq c.P c.Q K) t (λw=>Sat c.w0 w Lf) a w)::K
section
variable {c:Cx}{E:dr}{L Lf Lf':List ag}{d:Nat}{ty:TypeId}{pos:String}{af:Array Edge}{K:List KI}{all:List Oper}{op:Op}{v:Value}{N:Value->List ag->Prop}{t s:PT}
def qI {id:Nat}{l:List Oper}{Lf:List ag}(t:PT)(h:G c (KT c l Lf t K) E L)(hm:c.P.follows .mixedOrders=true:=by kernel_rfl)(hs:Region.noSelect l.toArray=true:=by kernel_rfl)(hp:t.ok l.toArray true l.length (Array.replicate l.length false)=true:=by kernel_rfl):G c (.code (.region id l.toArray true)::K) E L:=λa w J O=>
 Eg (t:=t) hm hs (λR a d v w hq=>absurd hq i7) (by simpa using hp) (h a _ J (O.drew _))
def kc [O:Sub L Lf](h:G c K E L):G c (KT c all Lf .nil K) E L:=λa w R J=>⟨O.sat J,h a w R J⟩
def eA {i:Nat}(hi:all[i]? =some ⟨some d,op,ty,pos,af,none⟩)[S:Sub L Lf](h:OpV c none E Lf ⟨some d,op,ty,pos,af,none⟩ v)(k:G c (KT c all Lf t K) ((d,none,v)::E) L)(hd:lE c.n d E=true:=by exact rfl):G c (KT c all Lf (.q i t) K) E L:=λa w O R=>
 ⟨S.sat R,_,v,by simpa using hi, .inl ⟨by simp[Region.wanted],λw' J=> .inl (h.out a w' O (cR a) J)⟩,k _ w (O.put1 hd) R⟩
def lu {i:Nat}(hi:all[i]? =some ⟨some d,op,ty,pos,af,none⟩)[S:Sub L Lf](h:OpL c none E L ⟨some d,op,ty,pos,af,none⟩ N)(k:∀v L',N v L'->G c (KT c all Lf t K) ((d,none,v)::E) L')(hd:lE c.n d E=true:=by exact rfl):G c (KT c all Lf (.l i t) K) E L:=λa w O R=>by
 refine ⟨S.sat R,?_⟩;unfold wpOp;simp only[YD,hi];rw[YB (by simp[Region.wanted])];exact .inl (h.out a w O (cR a) R _ _ λv w' L' J V=>k v L' V _ w' (O.put1 hd) J)
def Gk {i:Nat}(hi:all[i]? =some ⟨none,op,ty,pos,af,none⟩)[S:Sub L Lf](h:OpL c none E L ⟨none,op,ty,pos,af,none⟩ N)
  (k:∀v L',N v L'->G c (KT c all Lf t K) E L'):G c (KT c all Lf (.l i t) K) E L:=λa w O R=>by
 refine ⟨S.sat R,?_⟩;unfold wpOp;simp only[YD,hi];rw[YB (by simp[Region.wanted])];exact .inl (h.out a w O (cR a) R _ _ λv w' L' J V=>k v L' V _ w' O J)
def nI (h1:G c (KT c all Lf s K) E L)(R:G c (KT c all Lf t K) E L):G c (KT c all Lf (.alt s t) K) E L:=λa w J O=>⟨h1 a w J O,R a w J O⟩
def lx (Lf':List ag)[J:Sub Lf' Lf](h:G c (KT c all Lf' t K) E L):G c (KT c all Lf (.c t) K) E L:=λa w O R=>⟨λw=>Sat c.w0 w Lf',λw hw=>J.sat hw,h a w O R⟩
end
end Go.Sl
namespace Go.Sl
section
variable {c:Cx}{g:Option (Nat×Bool)}{E:dr}{L L':List ag}{d:Option Tmp}{ty:TypeId}{pos:String}{af:Array Edge}{gu:Option (Nat×Bool)}{K:List KI}
variable {x y z:Operand}{t u e:TypeId}{k:IntKind}{v v1 v2:Value}{s:Option Addr}{b o i j n sz cap off:Nat}
def Lk (m q r:Nat)(hx:ev g E x=some (I (m:Int)))(hy:ev g E y=some (I ((2 ^ q*r:Nat):Int)))(hm:m<2 ^ q)(Y:m+2 ^ q*r<9223372036854775808):OpV c g E L ⟨d, .binOp .or t x y u,ty,pos,af,gu⟩ (I ((m+2 ^ q*r:Nat):Int)):= .mk λa w J O X=>by
 have h1:IntKind.i64.wrap (((BitVec.ofInt IntKind.i64.bits (m:Int) ||| BitVec.ofInt IntKind.i64.bits ((2 ^ q*r:Nat):Int)).toNat:Nat):Int)=((m+2 ^ q*r:Nat):Int):=by
  have S:(BitVec.ofInt IntKind.i64.bits (m:Int)).toNat=m:=by
   show (BitVec.ofInt 64 (m:Int)).toNat=m
   grind
  have V:(BitVec.ofInt IntKind.i64.bits ((2 ^ q*r:Nat):Int)).toNat=2 ^ q*r:=by
   show (BitVec.ofInt 64 _).toNat=_
   grind[BitVec.toNat_ofInt]
  grind[Nat.two_pow_add_eq_or_of_lt,da]
 have R:(Op.intBits .or .i64 (m:Int) ((2 ^ q*r:Nat):Int)).run c.P w= .ok (I ((m+2 ^ q*r:Nat):Int)) w:=by
  show (Sem.pure (Value.int .i64 _)).run c.P w=_;rw[h1];rfl
 simp only[execOp,J.ev O hx,J.ev O hy,eqGuard,binOp]
 simp_all
def Js (p:List UInt8):(Array.mk p).map (λb=>Value.int .u8 b.toNat)=(aA p).flatten.toArray:=by
 grind[mT]
def Jt {P:Program}{w:World}{a:Addr}:∃w',(markStringish a).run P w= .ok () w'/\w'.os=w.os/\w'.tape=w.tape/\w'.output=w.output/\w'.heap.size=w.heap.size/\(∀c,c≠a.block->w'.heap[c]? =w.heap[c]?)/\
  ∀cs T f,w.heap[a.block]? =some (.cells cs T f)->∃O,w'.heap[a.block]? =some (.cells cs T O):=by
 unfold markStringish;cases hs:w.shape? a.block with
 | none=>
  simp_all
 | some J=>
  obtain ⟨e,n⟩:=J;refine ⟨w.freeze {block:=a.block,off:=n} 1,by simp[hs],?_⟩
  grind[World.freeze]
def Gl {p:List UInt8}(hu:c.P.underlying t=some .string)(hu2:c.P.underlying u=some (.slice e))(he:c.P.underlying e=some (.int .u8))(hx:ev g E x=some (aC p)):
  OpL c g E L ⟨d, .convert t u x,ty,pos,af,gu⟩ λv L'=>∃b cap,v=sl (some ⟨b,0,none⟩) p.length cap/\p.length<=cap/\L'=roL 1 (some ⟨b,0,none⟩) (aA p)::L:=
 .of_run λa w hE hg hS=>by
  obtain ⟨cap,hcap⟩:∃q,(Question.appendCap p.length 0 e).cut (w.tape w.drawn (.appendCap p.length 0 e))=q:=⟨_,rfl⟩;have hle:p.length<=cap:=(by grind[Question.cut]);obtain ⟨w1,hw1⟩:∃w1,w.drew.alloc (.cells ((aA p).flatten.toArray++Array.replicate (cap - p.length) (By 0)) e (0,0))=w1:=⟨_,rfl⟩;have hS1:Sat c.w0 w1 (pt w.heap.size (.cells ((aA p).flatten.toArray++Array.replicate (cap - p.length) (By 0)) e (0,0))::L):=(by rw[<-hw1];exact (hS.drew (w.drawn+1)).alloc _);obtain ⟨w2,hm,m1,m2,m3,m4,m5,m6⟩:=Jt (P:=c.P) (w:=w1) (a:=⟨w.heap.size,0,none⟩);obtain ⟨f',hf'⟩:=m6 _ _ _ hS1.at_;refine ⟨sl (some ⟨w.heap.size,0,none⟩) p.length cap,w2,_,?_,?_,w.heap.size,cap,rfl,hle,rfl⟩
  ·have hsz:ByteArray.size ⟨⟨p⟩⟩=p.length:=rfl;have hrun:(Conv.stringToBytes e ⟨⟨p⟩⟩).run c.P w= .ok (sl (some ⟨w.heap.size,0,none⟩) p.length cap) w2:=by
    unfold Conv.stringToBytes;rw[hsz];simp only[Sem.run_bind,choose,Sem.run,Result.andThen_ok,Question.forced];rw[hcap,Js];simp only[newRow,newObj,Sem.run_bind,Sem.run_map,Sem.run,Result.andThen_ok];change ((markStringish ⟨w.heap.size,0,none⟩).run c.P (w.drew.alloc (.cells ((aA p).flatten.toArray++Array.replicate (cap - p.length) (By 0)) e (0,0)))).andThen (λ_ w'=> .ok (sl (some ⟨w.heap.size,0,none⟩) p.length cap) w')=_;rw[hw1,hm]
    rfl
   simp only[execOp,hE.ev hg hx,convert]
   simp_all[underlying]
  ·have h3:=hS1.head (w':=w2) (L1:=[roL 1 (some ⟨w.heap.size,0,none⟩) (aA p)]) m1 m2 m3 (by omega) (λm hA hf=>by
    refine ⟨λ_=>Res.one w.heap.size (.cells ((aA p).flatten.toArray++Array.replicate (cap - p.length) (By 0)) e f',true),OkL.one (.inr ⟨w.heap.size,0,_,rfl,Res.one_self,?_⟩) λc' x hx=>?_,λn hn hdj=>⟨λc' x hx=>?_,λi _ c' x y hx hy=>?_⟩⟩
    ·intro j row hj f v hf';have hr:∀r∈aA p,r.length=1:=(by grind[aA]);have hR:Rows (.cells ((aA p).flatten.toArray++Array.replicate (cap - p.length) (By 0)) e (0,0)) 0 1 (aA p):=Rows.of_flat (by decide) hr λk v hk=>by
      grind
     exact hR j row hj f v hf'
    ·grind[Res.one_eq]
    ·have hne:c'≠w.heap.size:=by
      rintro rfl;have:=(hdj _ x _ hx hA).2;cases this
     rw[m5 c' hne];exact hn c' x hx
    ·obtain ⟨rfl,rfl⟩:=Res.one_eq hx;have:=(hdj _ y _ hy hA).2;cases this)
   exact h3
def yd {P:Program}{w:World}(p:List UInt8):(Builtin.firstCells 1 p.length (aC p)).run P w= .ok (aA p).flatten.toArray w:=by
 have:=Lib.run_firstCells_string (P:=P) w 1 ⟨⟨p⟩⟩;rw[show (ByteArray.mk ⟨p⟩).size=p.length from rfl] at this
 grind[Lib.strCells,mT,Function.comp_def]
def Hx {P:Program}{w:World}(p:List UInt8):(Builtin.lenOf (aC p)).run P w= .ok p.length w:=by simp[Builtin.lenOf,Sem.run_pure];rfl
def pq {P:Program}{w w':World}{base:Option Addr}{p:List UInt8}(S:P.underlying t=some (.slice e))(O:P.underlying u=some .string)(V:∀w,(sizeOf e).run P w= .ok 1 w)(J:n+p.length<=cap)
  (hs:(match base with | some a=>storeCells (a.add (n*1)) (aA p).flatten | none=>(pure ():Sem Unit)).run P w= .ok () w'):(Builtin.append_ #[t,u] ty #[.slice base n cap,aC p]).run P w= .ok (.slice base (n+p.length) cap) w':=by
 have R:=yd (P:=P) (w:=w) p;have hl:=Hx (P:=P) (w:=w) p;unfold Builtin.append_;cases base with
 | none=>
  have e:w=w':=(by injection hs);subst e;simp[underlying,program,Sem.run,S,O,V,hl,R,J]
 | some a=>simp only[Nat.mul_one] at hs;simp[underlying,program,Sem.run,S,O,V,hl,R,J,hs]
def uV {P:Program}{w:World}{base:Option Addr}{zv:Value}{p:List UInt8}{old:Array Value}{J:TypeInfo}(Z:P.underlying t=some (.slice e))(V:P.underlying u=some .string)(hz:∀w,(sizeOf e).run P w= .ok 1 w)(hzv:∀w,(zeroValue e).run P w= .ok zv w)(S:∀w,(typeInfo e).run P w= .ok J w)
  (ho:(Builtin.firstCells 1 n (.slice base n cap)).run P w.drew= .ok old w.drew) (R:cap<n+p.length) (Y:n+p.length<=1073741824/\0<J.bytes/\J.bytes<=4096):
  ∃O,n+p.length<=O/\(Builtin.append_ #[t,u] ty #[.slice base n cap,aC p]).run P w= .ok (.slice (some ⟨w.heap.size,0,none⟩) (n+p.length) O) (w.drew.alloc (.cells (old++(aA p).flatten.toArray++Builtin.zeroCells zv.cells (O - (n+p.length))) e (0,0))):=by
 have hf:=yd (P:=P) (w:=w.drew) p;have hl:=Hx (P:=P) (w:=w) p;have c1:¬n+p.length<=cap:=(by omega);have c3:¬(Builtin.nextslicecap (n+p.length) cap*J.bytes > 2 ^ 48):=by
  have h1:=rP (n+p.length) cap R;have h2:Builtin.nextslicecap (n+p.length) cap*J.bytes<=(2*1073741824+192)*4096:=YP (by omega) Y.2.2;omega
 have X:=λ(w:World) (k:Nat)=>mP (P:=P) (w:=w) k;refine ⟨(Question.appendCap (n+p.length) cap e).cut (w.tape w.drawn (.appendCap (n+p.length) cap e)),by simp[Question.cut],?_⟩;have e0:J.bytes≠0:=(by omega);unfold Builtin.append_;simp[underlying,program,Sem.run,Z,V,hz,hl,c1,S,choose,Question.forced];rw[YC (by omega),YC (by simpa using c3)]
 simp_all[newRow]
theorem ix:∀(p:List UInt8),∀r∈aA p,r.length=1:=λp r hr=>by grind[aA]
def Gm (p q:List UInt8):aA (p++q)=aA p++aA q:=by simp[aA]
def Ll {zv:Value}{S:TypeInfo}{T:Nat}{l p:List UInt8}{F:List ag}(hu:c.P.underlying t=some (.slice T))(Z:c.P.underlying u=some .string)(hz:∀w,(sizeOf T).run c.P w= .ok 1 w)(hzv:∀w,(zeroValue T).run c.P w= .ok zv w)(hzs:zv.cells.size=1)(hti:∀w,(typeInfo T).run c.P w= .ok S w)
  (hx:ev g E x=some (sl s n cap)) (hy:ev g E y=some (aC p)) [R:OwR L s T 1 cap (aA l) F] (hn:l.length=n) (hb:n+p.length<=1073741824/\0<S.bytes/\S.bytes<=4096):
  OpL c g E L ⟨d, .call {callee:= .builtin .append,args:=#[x,y],argTypes:=#[t,u]},ty,pos,af,gu⟩ λv L'=>∃s' X,v=sl s' (l++p).length X/\(p≠ []->s'≠none)/\L'=bi T 1 s' X (aA (l++p))::F:=
 .of_run λa w hE hg hS=>by
  subst hn;rw[Gm,Z1];have V:=R.sat hS;have fl1:ones (aA p).flatten=true:=kP λv hv=>by
   rw[mT] at hv;simp at hv;obtain ⟨_,_,rfl⟩:=hv
   rfl
  have ex:=λw' v h=>mQ (d:=d) (ty:=ty) (pos:=pos) (af:=af) (gu:=gu) (t:=t) (u:=u) (r:= .ok v w') (P:=c.P) (w:=w) (hE.ev hg hx) (hE.ev hg hy) h;by_cases Y:l.length+p.length<=cap
  ·rcases dz V with ⟨rfl,hl0,rfl,hF⟩ | ⟨b,cs,rfl,a1,a2,a3,a4,hP⟩
   ·have hl:l.length=0:=(by omega);have hp0:p=[]:=YT.1 (by omega);subst hp0;refine ⟨sl none (l.length+0) 0,w,_,ex w _ ?_,V,none,0,rfl,λh=>absurd rfl h,by simp[aA]⟩;exact pq (base:=none) hu Z hz Y rfl
   ·obtain ⟨hle,O⟩:=oD (T:=T) (news:=aA p) (by decide) a1 (by grind[gt]) a3 (ix p) a4;rw[gt] at hle O a2;have hst:=dy (P:=c.P) b (l.length*1) T (aA p).flatten w cs 0 hP.at_ (by omega) fl1;refine ⟨sl (some ⟨b,0,none⟩) (l.length+p.length) cap,kC w b (.cells (cT cs (l.length*1) (aA p).flatten) T (0,0)),_,ex _ _ ?_,?_,some ⟨b,0,none⟩,cap,rfl,(λ_ h=>by cases h),rfl⟩
    ·exact pq (base:=some ⟨b,0,none⟩) hu Z hz Y (by simpa [ga] using hst)
    ·refine fy (hP.set (o':= .cells (cT cs (l.length*1) (aA p).flatten) T (0,0)) rR) (by rw[fx,a1]) (by grind[gt]) ?_ O
     grind[ix]
  ·have hold:aA l=[]\/∃b off o,s=some ⟨b,off,none⟩/\w.heap[b]? =some o/\Rows o off 1 (aA l):=by
    rcases dz V with ⟨rfl,h0,rfl,hF⟩ | ⟨b,cs,rfl,a1,a2,a3,a4,hP⟩
    ·exact .inl h0
    ·exact .inr ⟨b,0,_,rfl,hP.at_,a4⟩
   have hfo:(Builtin.firstCells 1 l.length (sl s l.length cap)).run c.P w.drew= .ok (aA l).flatten.toArray w.drew:=nD (by decide) (ix l) (gt l) hold;obtain ⟨J,hc,hrun⟩:=uV (ty:=ty) (t:=t) (u:=u) (cap:=cap) (n:=l.length) (p:=p) hu Z hz hzv hti hfo (by omega) hb;refine ⟨_,_,_,ex _ _ hrun,?_,some ⟨w.heap.size,0,none⟩,J,rfl,(λ_ h=>by cases h),rfl⟩;have hS2:Sat c.w0 (w.drew.alloc (.cells ((aA l).flatten.toArray++(aA p).flatten.toArray++Builtin.zeroCells zv.cells (J - (l.length+p.length))) T (0,0))) _:=(V.tail.drew (w.drawn+1)).alloc _;refine fy hS2 ?_ (by grind[gt]) ?_ (oE (by decide) (ix l) (ix p))
   ·simp only[YU,YV,dT _ (ix l),dT _ (ix p),j8,hzs,gt];omega
   grind[ix]
def Te {T:Nat}{l:List UInt8}{F:List ag}(hx:ev g E x=some (sl s n cap))[R:OwR L s T 1 cap (aA l) F](h0:l≠ []\/s=none):
  OpL c g E L ⟨d, .call {callee:= .builtin .unsafeSliceData,args:=#[x],argTypes:=#[t]},ty,pos,af,gu⟩ λv L'=>v= .pointer s/\L'=L:=
 .of_run λa w V X O=>by
  refine ⟨.pointer s,w,L,?_,O,rfl,rfl⟩;have J:(Builtin.unsafeSliceData_ #[t] ty #[sl s n cap]).run c.P w= .ok (.pointer s) w:=by
   cases s with
   | none=>rfl
   | some S=>
    refine Lib.run_unsafeSliceData_row w _ _ S n cap ?_;rcases dz (R.sat O) with ⟨h,_⟩ | ⟨b,cs,_,Y,a2,_⟩
    ·cases h
    ·rcases h0 with h | h
     ·rw[gt] at a2;have:l.length≠0:=λe=>h (YT.1 e);omega
     ·cases h
  simp[execOp,resolve,invoke,builtin,V.ev X hx,J]
def Re {T:Nat}{l:List UInt8}{F:List ag}{it:TypeId}(hp:c.P.underlying t=some (.pointer T))(hc:c.P.cellsOf T=1)(hx:ev g E x=some (.pointer s))(hy:ev g E y=some (I (n:Int)))[R:OwR L s T 1 cap (aA l) F](hn:l.length=n)(h0:l≠ []\/s=none)(h63:l.length<=9223372036854775807):
  OpL c g E L ⟨d, .call {callee:= .builtin .unsafeString,args:=#[x,y],argTypes:=#[t,it]},ty,pos,af,gu⟩ λv L'=>v=aC l/\L'=F:=
 .of_run λa w hE hg hS=>by
  subst hn;have hS1:=R.sat hS;have ex:=λw' v (h:(Builtin.unsafeString_ #[t,it] ty #[.pointer s,I (l.length:Int)]).run c.P w= .ok v w')=>show (execOp a.eval ⟨d, .call {callee:= .builtin .unsafeString,args:=#[x,y],argTypes:=#[t,it]},ty,pos,af,gu⟩).run c.P w= .ok (.value v) w' by
   simp[execOp,resolve,invoke,builtin,hE.ev hg hx,hE.ev hg hy,h]
  rcases dz hS1 with ⟨rfl,hl0,rfl,hF⟩ | ⟨b,cs,rfl,a1,a2,a3,a4,hP⟩
  ·have:l=[]:=(by simpa [aA] using hl0);subst this;exact ⟨aC [],w,F,ex w _ (Lib.run_unsafeString_none w t it ty none),hF,rfl,rfl⟩
  ·have hne:l≠ []:=(by grind);have hh:=hP.at_;have hsh:w.shape? b=some (T,cs.size):=(by grind[World.shape?]);have hcell:∀j x,l[j]? =some x->w.cell? ((⟨b,0,none⟩:Addr).add j)=some (.int .u8 x.toNat):=λj x hj=>by
    have:=a4 j [By x.toNat] (by simp[aA,hj]) 0 _ rfl
    grind[ga,iH]
   have hrun:=Lib.run_unsafeString_row (P:=c.P) w t it ty T hp hc b cs.size hsh l hne (by grind[gt]) h63 hcell;refine ⟨aC l,w.freeze ⟨b,0,none⟩ l.length,F,ex _ _ hrun,?_,rfl,rfl⟩;have hlt:l.length≠0:=λe=>hne (YT.1 e);have h3:=hP.head (w':=w.freeze ⟨b,0,none⟩ l.length) (L1:=[]) (by grind[World.freeze]) (by grind[World.freeze]) (by grind[World.freeze]) (by grind[World.freeze]) (λm hA hf=>by
    refine ⟨λ_=>m,⟨λi A h=>by simp at h,λi j h=>by simp at h⟩,λn hn hdj=>⟨λc' x hx=>?_,λi h=>by simp at h⟩⟩;have hne':b≠c':=by
     rintro rfl;have:=(hdj _ x _ hx hA).2;cases this
    have:=hn c' x hx
    grind[World.freeze])
   exact h3
def OG {cs:Array Value}{T:TypeId}{f:Nat×Nat}(V:c.P.underlying t=some (.pointer e))(O:c.P.underlying u=some .unsafePointer)(hz:∀w,(sizeOf e).run c.P w= .ok sz w)(h0:0<sz)(hx:ev g E x=some (ptr b 0))[hh:Has L b (.cells cs T f)](hs:0<cs.size):
  OpV c g E L ⟨d, .convert t u x,ty,pos,af,gu⟩ (ptr b 0):= .mk λa w X Z Y=>by
 have h1:=hh.out _ _ Y;have R:w.shape? b=some (T,cs.size):=(by grind[World.shape?]);have S:sz≠0:=(by omega);have hcs:¬cs.size=0:=(by omega);have J:(Conv.unsafePointer t u (ptr b 0)).run c.P w= .ok (ptr b 0) w:=by
  unfold Conv.unsafePointer;simp[underlying,program,Sem.run,V,O,Conv.seenAt,viewAt,cellsIn,R,hz,S,hcs]
 simp[execOp,X.ev Z hx,convert,underlying,program,Sem.run,V,O,J]
def Gn {P:Program}{e:TypeId}{J:Nat}(O:P.cellsOf e=J)(h0:0<J):liesAt P P.depth e (J / J) 0 e 1=true:=by
 have hd:P.depth=(2*(P.types.size+Made.depth)+1)+1:=rfl;rw[hd];simp only[liesAt,Zi];left;rw[hd];simp[rowAt,O,sameLayout,Nat.div_self h0];omega
def wb {P:Program}{w:World}(h:(sizeOf e).run P w= .ok sz w):P.cellsOf e=sz:=by
 unfold Program.cellsOf;cases hi:P.info? e with
 | none=>simp_all[sizeOf,typeInfo]
 | some i=>simp_all[sizeOf,typeInfo]
def OH {cs:Array Value}{f:Nat×Nat}(V:c.P.underlying t=some .unsafePointer)(O:c.P.underlying u=some (.pointer e))(X:∀w,(sizeOf e).run c.P w= .ok sz w)(h0:0<sz)(hx:ev g E x=some (ptr b 0))[hh:Has L b (.cells cs e f)](hs:cs.size=sz):
  OpV c g E L ⟨d, .convert t u x,ty,pos,af,gu⟩ (ptr b 0):= .mk λa w Y hg Z=>by
 have h1:=hh.out _ _ Z;have R:w.shape? b=some (e,cs.size):=(by grind[World.shape?]);have S:=wb (X w);have hl:=Gn S h0;have hsz:sz≠0:=(by omega);have J:(Conv.unsafePointer t u (ptr b 0)).run c.P w= .ok (ptr b 0) w:=by
  unfold Conv.unsafePointer;simp[underlying,program,Sem.run,V,O,Conv.seenAt,viewAt,R,variablesAt,hs,S,hl,X]
 simp[execOp,Y.ev hg hx,convert,underlying,program,Sem.run,V,O,J]
def Gp {p:Addr}(S:c.P.underlying t=some (.pointer e))(V:∀w,(sizeOf e).run c.P w= .ok sz w)(hx:ev g E x=some (.pointer (some p)))(hy:ev g E y=some (.pointer (some p))):OpV c g E L ⟨d, .binOp .neq t x y u,ty,pos,af,gu⟩ (Bo false):= .mk λa w O R X=>by
 have J:(Op.equal t (.pointer (some p)) (.pointer (some p))).run c.P w= .ok true w:=by
  show (Op.equalIn (9999+1) _ _ _).run _ _=_;unfold Op.equalIn;simp[underlying,program,Sem.run,S,V,samePointer,sameAddr]
 simp only[execOp,O.ev R hx,O.ev R hy,eqGuard,binOp] at J ⊢;simp[J,Sem.run]
def OI {p:Option Addr}(V:c.P.underlying t=some (.pointer e))(hx:ev g E x=some (.pointer p)):OpV c g E L ⟨d, .binOp .neq t x (.const (.pointer none)) u,ty,pos,af,gu⟩ (Bo (!p.isNone)):= .mk λa w R S X=>by
 have O:a.eval (.const (.pointer none))= .pointer none:=rfl;have J:=D6 (P:=c.P) (w:=w) (p:=p) V;simp only[execOp,R.ev S hx,O,eqGuard,binOp] at J ⊢;simp[J,Sem.run]
end
end Go.Sl
namespace Go.Sl
abbrev FW:=Fence.wide
section
variable {P:Program}{l:Nat}{Q Q':fu}{ops:Array Oper}
def lG:List Oper->Bool
 | []=>true
 | o::r=>(match o.op with | .defer _=>false | _=>true) && lG r
def pV:∀{r:List Oper} {o:Oper},lG r=true->o∈r->∀c,o.op≠ .defer c
 | [],o,_,hm,_=>by cases hm
 | x::r,o,h,hm,c=>by
  simp only[lG,Yr] at h;rcases Y5.1 hm with rfl | hm
  ·grind
  ·exact pV h.2 hm c
def Closed (Q:fu):Prop:=(∀ch a w,¬Q (.panic ch) a w)/\∀a w,¬Q .outgrown a w
theorem Closed.lets (h:Closed Q'):¬LetsOut Q':=λ⟨a,w,hq⟩=>h.2 a w hq
def Hy {o:Oper}{a:Act}{w:World}{S:Act->World->Prop}(R:∀c,o.op≠ .defer c)(O:Closed Q')(h:o.wp P a w S Q'):o.wpIn (FW.inRound l) 0 P a w S Q:=by
 refine ⟨λ_ _=>trivial,?_⟩;rw[show (FW.inRound l).round=some l from rfl,Oper.semAt_some l a.eval o R];unfold Oper.wp at h;generalize (execOp a.eval o).run P w=r at*;cases r with
 | ok x w'=>
  cases x with
  | value v=>exact h
  | skip=>exact h
  | defer d=>exact h
  | enter f args=>
   refine ⟨(λh=>by cases h),?_⟩;have V:Calls P f args w' λe J=>match e with
    | .returned v=>S (a.put o.dst v) J
    | .panicked AG=>Q (.panic AG) a J
    | .outgrown=>LetsOut Q:=Calls.mono h λe J he=>by
     cases e with
     | returned v=>exact he
     | panicked Y=>exact absurd he (O.1 _ _ _)
     | outgrown=>exact absurd he O.lets
   have X:=(callsIn_wide (n:=0)).2 V;exact CallsIn.mono (F:=FW.inRound l) (n:=0 - 1) X λe J he=>by cases e <;> exact he
  | row row args=>
   refine ⟨(λh=>by cases h),λc cs _=>?_⟩;obtain ⟨v,J,hr,hs⟩:=h c cs;exact ⟨v,J,hr,stepsIn_wide.2 hs⟩
  | _=>exact False.elim h
 | halt x w'=>
  cases x with
  | panic v=>exact absurd h (O.1 _ _ _)
  | _=>exact False.elim h
def Cd (O:Closed Q')(hn:∀a w,Q' .normal a w->Q .normal a w):∀(r:List Oper) (a:Act) (w:World),lG r=true->wpList P ops Q' r a w->wpListIn (FW.inRound l) 0 P ops Q r a w
 | [],a,w,_,h=>hn a w h
 | o::r,a,w,hd,h=>by
  have hd1:=pV hd (Z2 ..);have J:lG r=true:=(by grind[lG]);unfold wpList at h;unfold wpListIn;split
  ·rename_i hw;rw[YB hw] at h;rcases h with h | ⟨_,h⟩
   ·exact Oper.wpIn_mono (λa w hh=>Cd O hn r a w J hh) (Hy hd1 O h)
   ·exact absurd h O.lets
  ·rename_i hw;rw[YC hw] at h;exact ⟨λ_ _=>trivial,Cd O hn r _ w J h⟩
def Ce (O:Closed Q')(hn:∀a w,Q' .normal a w->Q .normal a w)(hd:lG ops.toList=true):∀(fuel:Nat) (J:Array Bool) (a:Act) (w:World),wpAny P .any ops Q' fuel J a w->wpAnyIn (FW.inRound l) 0 P .any ops Q fuel J a w
 | 0,J,a,w,h=>⟨h.1,hn a w h.2⟩
 | fuel+1,J,a,w,h=>by
  refine ⟨λh0=>hn a w (h.1 h0),λi hi=>?_⟩;have h1:=h.2 i hi;unfold wpOp at h1;unfold wpOpIn;cases ho:ops[i]? with
  | none=>rw[ho] at h1;exact Ce O hn hd fuel _ a w h1
  | some o=>
   rw[ho] at h1;simp only at h1 ⊢;have hd1:=pV hd (o:=o) (Array.mem_toList_iff.2 (Array.mem_of_getElem? ho));split
   ·rename_i hw;rw[YB hw] at h1;rcases h1 with h1 | ⟨_,h1⟩
    ·exact Oper.wpIn_mono (λa w hh=>Ce O hn hd fuel _ a w hh) (Hy hd1 O h1)
    ·exact absurd h1 O.lets
   ·rename_i hw;rw[YC hw] at h1;exact ⟨λ_ _=>trivial,Ce O hn hd fuel _ _ w h1⟩
end
def kr (P:Program)(l:Nat)(Q:fu):List KI->fu
 | [],e,a,w=>Q e a w
 | .code c::K,e,a,w=>match e with
  | .normal=>c.wpIn (FW.inRound l) 0 P (kr P l Q K) a w
  | e=>kr P l Q K e a w
 | .blk id::K,e,a,w=>Exit.inBlock id (kr P l Q K) e a w
 | _::K,e,a,w=>kr P l Q K e a w
@[reducible] def Cx.rd (c : Cx) : Cx := { c with n := ⟨c.n.n, []⟩ }
def H (c:Cx)(l:Nat)(Q:fu)(K:List KI)(E:dr)(L:List ag):Prop:=∀a w,EOk c.rd.n E a->Sat c.w0 w L->kr c.P l Q K .normal a w
section
variable {c:Cx}{l:Nat}{Q:fu}{K:List KI}{E:dr}{L:List ag}{x y:Code}
def ye {c:Cx}{J:Act->World->Prop}:Closed (kq c.P c.Q [.fin J]):=⟨λO a w h=>i7 (c:=c) (K:=[.fin J]) h,λa w h=>h.elim (λh=>h) (λh=>h)⟩
def Hz (h:H c l Q (.code x:: .code y::K) E L):H c l Q (.code (.seq x y)::K) E L:=λa w J O=>by
 refine wpIn_seq (wpIn_mono (h a w J O) λe a w hq=>?_);cases e <;> exact hq
def Rf (h:H c l Q K E L):H c l Q (.code .skip::K) E L:=λa w J O=>wpIn_skip (h a w J O)
def OJ {id:Nat}(h:H c l Q (.code x:: .blk id::K) E L):H c l Q (.code (.block id x)::K) E L:=λa w J O=>wpIn_block (wpIn_mono (h a w J O) λe a w hq=>hq)
def Tf {id:Nat}(h:H c l Q K E L):H c l Q (.blk id::K) E L:=λa w J O=>h a w J O
def Rg {t:Operand}{b:Bool}(ht:ev none E t=some (.bool b))(h1:b=true->H c l Q (.code x::K) E L)(R:b=false->H c l Q (.code y::K) E L):H c l Q (.code (.cond t x y)::K) E L:=
 λa w J O=>wpIn_cond_split (J.ev (cR a) ht) (λe=>h1 e a w J O) (λe=>R e a w J O)
def uW {P:Program}{a:Act}{w:World}(h:Q .ret a w):∀{K:List KI},kr P l Q K .ret a w
 | []=>h
 | .code c::K=>uW h (K:=K)
 | .blk _::K=>uW h (K:=K)
 | .ops _ _::K=>uW h (K:=K)
 | .plan _ _ _::K=>uW h (K:=K)
 | .fin _::K=>uW h (K:=K)
def Lm {α:Type}{id:Nat}{ops:List Oper}(φ:α->Prop)(R:α->dr)(S:α->List ag)(hd:lG ops=true)(h1:G c.rd (.ops ops ops:: [.fin (Cut c.rd φ R S)]) E L)(V:∀z,φ z->H c l Q K (R z) (S z)):H c l Q (.code (.region id ops.toArray false)::K) E L:=λa w J O=>
 wpIn_region_lit (Cd (ye (c:=c.rd)) (λa w hq=>by obtain ⟨z,X,J,O⟩:=hq;exact V z X a w J O) ops a w hd (h1 a w J O))
def Rh {α:Type}{id:Nat}{ops:List Oper}{Lf:List ag}(pl:List (Nat×Bool))(φ:α->Prop)(J:α->dr)(O:α->List ag)(hm:c.P.follows .mixedOrders=true)(hs:Region.noSelect ops.toArray=true)(hl:pl.length=ops.length)(hp:hZ ops.toArray pl (Array.replicate ops.length false)=true)(hd:lG ops=true)
  (h1:G c.rd (.plan ops (λw=>Sat c.w0 w Lf) pl:: [.fin (Cut c.rd φ J O)]) E L) (X:∀z,φ z->H c l Q K (J z) (O z)):H c l Q (.code (.region id ops.toArray true)::K) E L:=λa w R S=>by
 have V:=h1 a _ R (S.drew (w.drawn+1));have hC:=j4 (Q:=kq c.rd.P c.rd.Q [.fin (Cut c.rd φ J O)]) hs (λZ a d v w hq=>absurd hq i7) pl (Array.replicate ops.length false) a _ hp V;refine wpIn_region_any hm (Ce (l:=l) (Q':=kq c.rd.P c.rd.Q [.fin (Cut c.rd φ J O)]) (Q:=kr c.P l Q K) (ye (c:=c.rd)) (λa w hq=>by obtain ⟨z,Y,R,S⟩:=hq;exact X z Y a w R S) (by simpa using hd) _ _ a _ (oA (C:=λw=>Sat c.w0 w Lf) _ _ _ _ ?_))
 grind
def Ju {φ:Prop}(hp:φ)(h:H c l Q K E (kz φ::L)):H c l Q K E L:=λa w J O=>h a w J (O.pure_mk hp)
def OK {φ:Prop}{F:List ag}{c:Cx}{K:List KI}{E:dr}{L:List ag}[R:Rem L (kz φ) F](h:φ->G c K E F):G c K E L:=λa w J O=>by
 have hp:=(R.sat O).pure_;exact h hp.1 a w J hp.2
def Ri {b m n:Nat}{t:List UInt8}{F:List ag}[R:Rem L (roL 1 (some ⟨b,0,none⟩) (aA t)) F](h:H c l Q K E (roL 1 (some ⟨b,m,none⟩) (aA ((t.drop m).take n))::roL 1 (some ⟨b,0,none⟩) (aA t)::F)):H c l Q K E L:=λa w Y Z=>by
 refine h a w Y (((R.sat Z).dup (Pers.roL 1 _ _)).weak λm' hm=>?_);rcases hm with hm | ⟨b',off,o,h1,V,X⟩
 ·left
  simp_all[aA]
 ·right;injection h1 with h1;injection h1 with O S e3;subst O S;refine ⟨b,m,o,rfl,V,λj row hj f v hf=>?_⟩;have J:(aA t)[m+j]? =some row:=by
   grind[aA]
  have:=X (m+j) row J f v hf
  grind
def HA (c:Cx)(L1 L2:List ag):fu:=λe a w=>match e with
 | .normal=>Sat c.w0 w L1
 | .ret=>Sat c.w0 w L2
 | _=>False
def Tg {L1 L2:List ag}[S:Sub L L1]:H c l (HA c L1 L2) [] E L:=λa w O J=>S.sat J
def Th {L1 L2:List ag}[S:Sub L L2]:H c l (HA c L1 L2) (.code .ret::K) E L:=λa w O J=>wpIn_ret (uW (S.sat J))
end
def Cf (P:Program)(l:Nat)(v:Value)(w0:World)(L L1 L2:List ag):Prop:=∀w,Sat w0 w L->∃fn tmps assign body,(Instr.yield l #[v]).run P w= .ok (.round l fn tmps assign body) w/\
 RoundIn FW 0 P l fn tmps assign body w λe w'=>(e= .returned (.bool true)/\Sat w0 w' L1)\/(e= .returned (.bool false)/\Sat w0 w' L2)
def KY (c:Cx)(all rest:List Oper)(K:List KI):List KI:= .fin (λa w=>wpListIn FW 0 c.P all.toArray (kq c.P c.Q K) rest a w)::K
section
variable {c:Cx}{E:dr}{L L1 L2:List ag}{d:Nat}{ty:TypeId}{pos:String}{af:Array Edge}{K:List KI}{all rest:List Oper}{op:Op}{v:Value}{l:Nat}{x f:Operand}{ats:Array TypeId}
def Rj {id:Nat}{ops:List Oper}(h:G c (KY c ops ops K) E L):G c (.code (.region id ops.toArray false)::K) E L:=λa w J O=>(wpIn_wide (n:=0)).1 (wpIn_region_lit (h a w J O))
def Qx (h:G c K E L):G c (KY c all [] K) E L:=λa w J O=>h a w J O
def KD (h:OpV c none E L ⟨some d,op,ty,pos,af,none⟩ v)(k:G c (KY c all rest K) ((d,none,v)::E) L)(hd:lE c.n d E=true:=by exact rfl):G c (KY c all (⟨some d,op,ty,pos,af,none⟩::rest) K) E L:=λa w J O=>by
 show wpListIn FW 0 c.P all.toArray (kq c.P c.Q K) (⟨some d,op,ty,pos,af,none⟩::rest) a w;unfold wpListIn;rw[YB (by simp[Region.wanted])];refine ⟨λ_ _=>trivial,?_⟩;rw[show FW.round=none from rfl,Oper.semAt_none,h.out a w J (cR a) O];exact k _ w (J.put1 hd) O
def OL (Z:ev none E f=some (.func (.yield l) #[] #[]))(hx:ev none E x=some v)(hr:Cf c.P l v c.w0 L L1 L2)(hd:lE c.n d E=true)(k1:G c (KY c all rest K) ((d,none, .bool true)::E) L1)(k2:G c (KY c all rest K) ((d,none, .bool false)::E) L2):
  G c (KY c all (⟨some d, .call {callee:= .value f,args:=#[x],argTypes:=ats},ty,pos,af,none⟩::rest) K) E L:=λa w X Y=>by
 show wpListIn FW 0 c.P all.toArray (kq c.P c.Q K) (⟨some d, .call {callee:= .value f,args:=#[x],argTypes:=ats},ty,pos,af,none⟩::rest) a w;obtain ⟨fn,tmps,J,S,hy,O⟩:=hr w Y;unfold wpListIn;rw[YB (by simp[Region.wanted])];refine ⟨λ_ _=>trivial,?_⟩;have V:(execOp a.eval ⟨some d, .call {callee:= .value f,args:=#[x],argTypes:=ats},ty,pos,af,none⟩).run c.P w= .ok (.round l fn tmps J S) w:=by
  have h1:=X.ev (cR a) Z;have h2:=X.ev (cR a) hx
  grind[execOp,resolve,Deferred.ofValue,invoke]
 rw[show FW.round=none from rfl,Oper.semAt_none,V];refine ⟨(λh=>by cases h),RoundIn.mono O λe w' he=>?_⟩;rcases he with ⟨rfl,R⟩ | ⟨rfl,R⟩
 ·exact k1 _ w' (X.put1 hd) R
 ·exact k2 _ w' (X.put1 hd) R
end
def Ln {P:Program}{f:FuncId}{fn:Func}{cd:Code}{args:List Value}{L:List ag}{R:Value->List ag->Prop}(V:P.funcs[f]? =some fn)(S:fn.body=some cd)(n:Nat)(hn:fn.ntmps=n)(X:args.length<=n)
  {w0:World} (h:G ⟨P,fn,w0,R,⟨n,[]⟩⟩ [.code cd] (nm 0 args) L):∀w,Sat w0 w L->Calls P f args.toArray w λe w'=>match e with
  | .returned v=>∃L',Sat w0 w' L'/\R v L'
  | _=>False:=λw O=>by
 refine callsIn_wide.1 (callsIn_of_wp_marks (n:=0) V S trivial (wpIn_wide.2 (wp_mono (h _ w ?_ O) λe a w hq=>?_)));rotate_left
 ·cases e with
  | normal | ret=>
   rcases hq with ⟨hd,v,hr,J⟩ | ⟨D,w',hd,ht,v,hr,J⟩
   ·show LeavesInM _ _ _ _ _ _ _ _ _;rw[hd];exact ⟨v,hr,J⟩
   ·show LeavesInM _ _ _ _ _ _ _ _ _;rw[hd];exact ⟨(λh=>by cases h), .inl ⟨D,w',rfl,ht,v,hr,J⟩⟩
  | panic Y=>exact absurd hq (λh=>h.elim (λh=>h.2) (λh=>h))
  | exit id=>exact hq.elim (λh=>h.elim) (λh=>h.elim)
  | goto l=>exact hq.elim (λh=>h.elim) (λh=>h.elim)
  | outgrown=>exact hq.elim (λh=>h.elim) (λh=>h.elim)
 refine ⟨rfl,by simp[hn];omega,?_⟩;have key:∀(l:List Value) (i:Nat) (t:Nat) (g:Option (Nat×Bool)) (v:Value),FP (nm i l) t=some (g,v)->i<=t/\l[t - i]? =some v:=by
  intro l
  induction l with
  | nil=>intro i t g v h;cases h
  | cons u l Z=>
   intro i t g v h;simp only[nm] at h;unfold FP at h;split at h
   ·simp_all
   grind
 grind
theorem Sat.swap {w0 w:World}{x y:ag}{R:List ag}:∀{X:List ag},Sat w0 w (X++y::x::R)->Sat w0 w (X++x::y::R):=fun {X} h=>by
 obtain ⟨h1,V,Y,Z,f,hf,hd⟩:=h;obtain ⟨σ,hσ⟩:∃σ:Nat->Nat,σ=λi=>if i=X.length then X.length+1 else if i=X.length+1 then X.length else i:=⟨_,rfl⟩
 have O:∀i,(X++x::y::R)[i]? =(X++y::x::R)[σ i]? :=λi=>by
  grind
 have S:(X++x::y::R).length=(X++y::x::R).length:=(by simp);have hl2:(X++y::x::R).length=X.length+R.length+2:=(by simp;omega);have J:∀i,i<(X++x::y::R).length->σ i<(X++y::x::R).length:=λi hi=>by
  grind
 refine ⟨h1,V,Y,Z,λi=>f (σ i),λi A hA=>hf (σ i) A (by rw[<-O];exact hA),λi j hi hj hne=>hd _ _ (J i hi) (J j hj) λe=>hne ?_⟩;rw[hσ] at e;simp only at e;split at e <;> split at e <;> (try split at e) <;> (try split at e) <;> omega
theorem Sat.perm {w0 w:World}{L L':List ag}(hp:L.Perm L'):∀X:List ag,Sat w0 w (X++L)->Sat w0 w (X++L'):=by
 induction hp with
 | nil=>intro X h;exact h
 | cons x _ J=>
  intro X h;have:=J (X++ [x]) (by simpa using h);simpa using this
 | swap x y l=>grind[Sat.swap]
 | trans _ _ O R=>grind
theorem Sat.perm0 {w0 w:World}{L L':List ag}(hp:L.Perm L')(h:Sat w0 w L):Sat w0 w L':=by simpa using Sat.perm hp [] (by simpa using h)
abbrev dO:Obj:= .deferred (some [])
section
variable {c:Cx}{E:dr}{L:List ag}{K:List KI}
def Uz {n:Nd}{P:Program}{l id p q:Nat}{ty:TypeId}{pos:String}{af:Array Edge}{v:Value}{E:dr}{a:Act}{w:World}(O:EOk n ((p,none,v)::E) a)(hq:lE n q ((p,none,v)::E)=true):
  (Code.region id #[⟨some q, .assign (.tmp p),ty,pos,af,none⟩] false).wpIn (FW.inRound l) 0 P (Exit.then (λR w'=>w'=w/\EOk n ((q,none,v)::(p,none,v)::E) R) (λ_ _ _=>False)) a w:=by
 refine wpIn_region_lit (l:=[_]) (wpListIn_plain rR λK S=>?_);refine ⟨λ_ _=>trivial,?_⟩;have hx:a.eval (.tmp p)=v:=O.ev (cR a) (by simp[ev,look,FP,Nat.beq_refl]);rw[show (FW.inRound l).round=some l from rfl,Oper.semAt_some l a.eval _ (λc h=>by cases h)];have J:(execOp a.eval ⟨some q, .assign (.tmp p),ty,pos,af,none⟩).run P w= .ok (.value v) w:=(by simp[execOp,hx]);rw[J];exact S _ _ (wpListIn_nil ⟨rfl,O.put1 hq⟩)
def Eh {gop:Operand}{p:Tmp}{assign body:Code}{gf:FuncId}{cap:List Value}{Pre:List ag}{A:Nat->List ag}{B:List ag}{N:Nat}{v:Nat->Value}{E1:Nat->dr}
  (hd0:c.n.ds=[]) (hp:lE c.n p E=true) (hg:ev none E gop=some (.func (.func gf) #[] cap.toArray)) (hcall:∀args w,(callFunc gf args).run c.P w= .ok (.enter gf args) w)
  (hseq:∀(l:Nat) (A':Nat->List ag) (B':List ag),(∀k,k<N->Cf c.P l (v k) c.w0 (Pre++A' k) (Pre++A' (k+1)) (Pre++B'))->∀w,Sat c.w0 w (Pre++A' 0)->Calls c.P gf (.func (.yield l) #[] #[]::cap).toArray w λe w'=>match e with
   | .returned _=>Sat c.w0 w' (Pre++A' N)\/Sat c.w0 w' (Pre++B')
   | _=>False)
  (hL:L=Pre++A 0)
  (has:∀l k a w,EOk c.rd.n ((p,none,v k)::E) a->assign.wpIn (FW.inRound l) 0 c.P (Exit.then (λa' w'=>w'=w/\EOk c.rd.n (E1 k) a') (λ_ _ _=>False)) a w)
  (hbody:∀(l D:Nat) (O:Obj) k,k<N->H c l (HA c (Pre++pt l O::pt D dO::A (k+1)) (Pre++pt l O::pt D dO::B)) [.code body] (E1 k) (Pre++pt l O::pt D dO::A k))
  (done:∀D,G {c with n:=⟨c.n.n,[markD D]⟩} K E (pt D dO::(Pre++A N)))
  (ret:∀D,G {c with n:=⟨c.n.n,[markD D]⟩} (.code .ret::K) E (pt D dO::(Pre++B))):G c (.code (.rangeFunc gop #[p] assign body)::K) E L:=λa w hE hS=>by
 have hS0:Sat c.w0 w (Pre++A 0):=hL ▸ hS;refine (wpIn_wide (n:=0)).1 (wpIn_rangeFunc λfn _=>?_);obtain ⟨rec,hrec⟩:∃rec:LoopState->Option Code->Loop,rec=λst pe=>{state:=st,pending:=pe,fn,tmps:=a.tmps,params:=#[p],assign,body,defers:=w.heap.size}:=⟨_,rfl⟩;obtain ⟨W1,hW1⟩:∃W1,(w.alloc dO).alloc (.loop (rec .ready none))=W1:=⟨_,rfl⟩;have hS1:Sat c.w0 W1 (pt (w.heap.size+1) (.loop (rec .ready none))::pt w.heap.size dO::(Pre++A 0)):=by
  have e:(w.alloc dO).heap.size=w.heap.size+1:=World.size_alloc ..;rw[<-hW1,<-e];exact (hS0.alloc dO).alloc _
 -- the lists' two orders
 have fwd:∀{w:World} {X:List ag} {O:Obj},Sat c.w0 w (pt (w.heap.size+0) O:: [])->True:=λ_=>trivial;have toF:∀{W:World} {O:Obj} {X:List ag},Sat c.w0 W (Pre++pt (w.heap.size+1) O::pt w.heap.size dO::X)->Sat c.w0 W (pt (w.heap.size+1) O::pt w.heap.size dO::(Pre++X)):=λh=>
  h.perm0 (List.perm_middle.trans (List.Perm.cons _ ZQ))
 have toP:∀{W:World} {O:Obj} {X:List ag},Sat c.w0 W (pt (w.heap.size+1) O::pt w.heap.size dO::(Pre++X))->Sat c.w0 W (Pre++pt (w.heap.size+1) O::pt w.heap.size dO::X):=λh=>
  h.perm0 (List.perm_middle.trans (List.Perm.cons _ ZQ)).symm
 have br:∀{W:World} {O O':Obj} {X:List ag},Sat c.w0 W (Pre++pt (w.heap.size+1) O::pt w.heap.size dO::X)->Sat c.w0 (W.putObj (w.heap.size+1) O') (Pre++pt (w.heap.size+1) O'::pt w.heap.size dO::X):=λh=>
  toP ((toF h).set rfl)
 have hcd:EOk c.n E a:=hE;have hE2:∀D,EOk (⟨c.n.n,[markD D]⟩:Nd) E {a with defers:=[markD D]++a.defers}:=λD=>⟨by rw[hE.defers,hd0];rfl,hE.size,λt h u he hk=>hE.at_ t h u he hk⟩;refine ⟨w.heap.size+1,[markD w.heap.size],W1,{target:= .fn (.func gf) cap.toArray,args:=#[.func (.yield (w.heap.size+1)) #[] #[]]},W1,gf,(.func (.yield (w.heap.size+1)) #[] #[]::cap).toArray,W1,?_,?_,λ_ _=>trivial,?_,(λh=>by cases h),callsIn_wide.2 ?_⟩
 ·rw[<-hW1,hrec];exact run_enterLoop_outer _ _ _ _ _
 ·have h1:=hE.ev (cR a) hg;simp only[resolve,h1];simp[go_sem]
 ·grind[invoke]
 ·refine Calls.mono (hseq (w.heap.size+1) (λk=>pt (w.heap.size+1) (.loop (rec .ready none))::pt w.heap.size dO::A k) (pt (w.heap.size+1) (.loop (rec .done (some .ret)))::pt w.heap.size dO::B) (λk hk W hSW=>?_) W1 (toP hS1)) λe W2 he=>?_
  ·have hl:W.heap[w.heap.size+1]? =some (.loop (rec .ready none)):=(toF hSW).at_;have hy:=run_yield (P:=c.P) (args:=#[v k]) hl (by rw[hrec];rfl);rw[hrec] at hy;refine ⟨fn,_,assign,body,hy,?_⟩;have hEr:EOk c.rd.n ((p,none,v k)::E) ({tmps:=a.tmps.setIfInBounds p (v k),defers:=[]}:Act):=by
    have h0:EOk c.rd.n E ({tmps:=a.tmps,defers:=[]}:Act):=⟨rfl,hE.size,λt h u he hk=>hE.at_ t h u he hk⟩;have hp':lE c.rd.n p E=true:=by
     have:∀(E:dr),lE c.rd.n p E=lE c.n p E:=by
      intro E
      induction E with
      | nil=>rfl
      | cons x E ih=>obtain ⟨s,g,u⟩:=x;cases g with
       | none=>exact ih
       | some jb=>grind[lE]
     rw[this];exact hp
    exact h0.put1 hp'
   have hfold:((#[p]:Array Tmp).zip #[v k]).foldl (λtmps (t,u)=>tmps.setIfInBounds t u) a.tmps=a.tmps.setIfInBounds p (v k):=(by simp);refine roundIn_of_wpIn trivial (wpIn_mono (has (w.heap.size+1) k _ W (by rw[hfold];exact hEr)) λe a1 w1 hq=>?_);cases e with
   | normal=>
    obtain ⟨rfl,hE1⟩:=hq;refine ⟨_,run_beginRound hl (by rw[hrec]),?_⟩;have hb:=hbody (w.heap.size+1) w.heap.size (.loop {rec .ready none with state:= .busy}) k hk a1 _ hE1 (br hSW);refine wpIn_mono hb λe a3 W3 hp3=>?_;cases e with
    | normal=>
     have hl3:=(toF hp3).at_;have hr:=run_endRound (P:=c.P) none hl3;refine ⟨_,_,hr, .inl ⟨rfl,?_⟩⟩;have:=br (O':= .loop {({rec .ready none with state:= .busy}:Loop) with state:=if (none:Option Code).isNone then .ready else .done,pending:=none}) hp3
     grind
    | ret=>
     have hl3:=(toF hp3).at_;have hr:=run_endRound (P:=c.P) (some .ret) hl3;refine ⟨_,_,hr, .inr ⟨rfl,?_⟩⟩;have:=br (O':= .loop {({rec .ready none with state:= .busy}:Loop) with state:=if (some Code.ret).isNone then .ready else .done,pending:=some .ret}) hp3
     grind
    | exit id=>exact hp3.elim
    | goto t=>exact hp3.elim
    | panic ch=>exact hp3.elim
    | outgrown=>exact hp3.elim
   | exit id=>exact hq.elim
   | goto t=>exact hq.elim
   | ret=>exact hq.elim
   | panic ch=>exact hq.elim
   | outgrown=>exact hq.elim
  ·cases e with
   | returned u=>
    rcases he with he | he
    ·have hl2:=(toF he).at_;refine ⟨_,_,run_endLoop (P:=c.P) hl2 (by rw[hrec];simp),?_⟩;rw[show (rec .ready none).pending=none by rw[hrec]];exact done w.heap.size _ _ (hE2 _) (toF (br he)).tail
    ·have hl2:=(toF he).at_;refine ⟨_,_,run_endLoop (P:=c.P) hl2 (by rw[hrec];simp),?_⟩;rw[show (rec .done (some .ret)).pending=some .ret by rw[hrec]];exact (wpIn_wide (n:=0)).2 (ret w.heap.size _ _ (hE2 _) (toF (br he)).tail)
   | panicked ch=>exact he.elim
   | outgrown=>exact he.elim
def Gq {D b o r:Nat}{t:TypeId}{v:Value}{X:Obj}{L' Lf:List ag}(hds:c.n.ds=[markD D])[U:Upd L D dO (.deferred none) L'](hf:c.fn.results.toList=[.cell r t])(hx:look none E r=some (ptr b o))(ha:∀w,(isAgg t).run c.P w= .ok false w)[h:Has L' b X](hv:bG X o=some v)[S:Sub L' Lf](Y:c.R v Lf):G c (.code .ret::K) E L:=λa w V Z=>by
 refine wp_ret (bX (.inr ?_));have O:=U.sat Z;refine ⟨D,w.putObj D (.deferred none),V.defers.trans hds,run_takeDeferred O.2,v,?_,Lf,S.sat O.1,Y⟩;have h1:=V.look (cR a) hx;have hh:=iH (h.out _ _ O.1) hv;have hl:=KR (P:=c.P) hh;have J:kC w D (.deferred none)=w.putObj D (.deferred none):=rfl;rw[J] at hl hh;rw[oB,YA,hf]
 simp_all[uM,asAddr,loadVar]
end
end Go.Sl
namespace Go.Sl
section
variable {c:Cx}{g:Option (Nat×Bool)}{E:dr}{L L':List ag}{d:Option Tmp}{ty:TypeId}{pos:String}{af:Array Edge}{gu:Option (Nat×Bool)}{K:List KI}
variable {x y z:Operand}{t u e:TypeId}{k:IntKind}{v:Value}{s:Option Addr}{b o i j n m sz cap off:Nat}
def Ti {Y:Array (String×TypeId)}{T:Nat}{p:Value}(X:c.P.underlying t=some (.interface Y))(hx:ev g E x=some (.iface T p)):OpV c g E L ⟨d, .binOp .neq t x (.const .nilIface) u,ty,pos,af,gu⟩ (Bo true):= .mk λa w S V Z=>by
 have h1:(Op.equal t (.iface T p) .nilIface).run c.P w= .ok false w:=by
  show (Op.equalIn (9999+1) _ _ _).run _ _=_;unfold Op.equalIn;simp[underlying,program,Sem.run,X]
 have J:(eqGuard .neq t x (.const .nilIface) (.iface T p) .nilIface).run c.P w= .ok () w:=(by simp[eqGuard]);have O:a.eval (.const .nilIface)= .nilIface:=rfl;have R:binOp .neq t (.iface T p) .nilIface=(do pure (.bool (!(<-Op.equal t (.iface T p) .nilIface)))):=(by simp[binOp]);simp[execOp,S.ev V hx,O,J,R,h1]
def Rk (R:c.P.underlying t=some (.array n e))(hx:ev g E x=some (sl s m cap))(h:n<=m):OpV c g E L ⟨d, .sliceToArrayPointer t x,ty,pos,af,gu⟩ (.pointer s):= .mk λa w J O S=>by
 simp only[execOp,Instr.arrayAt,J.ev O hx,sl];simp[underlying,program,Sem.run,R,show ¬m<n by omega]
def OM {q:Int}{l:Nat}(J:c.P.underlying t=some (.slice e))(O:∀w,(sizeOf e).run c.P w= .ok sz w)(hx:ev g E x=some (sl s n cap))(hy:ev g E y=some (I q))(hm:q=l)(hl:l<=n)(R:l<cap):
  OpV c g E L ⟨d, .slice t x (some y) none none,ty,pos,af,gu⟩ (sl (s.map (·.add (l*sz))) (n - l) (cap - l)):=by
 have h:=iU (c:=c) (g:=g) (L:=L) (d:=d) (ty:=ty) (pos:=pos) (af:=af) (gu:=gu) J O hx hy hm hl
 grind
def Gr {rows:List (List Value)}{vs:List Value}(j:Nat)(V:∀w,(isAgg t).run c.P w= .ok true w)(Y:∀w,(sizeOf t).run c.P w= .ok sz w)(hx:ev g E x=some (.pointer (s.map (·.add (j*1)))))[h:SlR L s 1 rows](hl:vs.length=sz)(h0:0<sz)(hv:∀k v,vs[k]? =some v->rows[j+k]? =some [v]):
  OpV c g E L ⟨d, .load t x,ty,pos,af,gu⟩ (.agg vs.toArray):= .mk λa w O X S=>by
 rcases h.out _ _ S with h | ⟨b,o,Z,rfl,hh,R⟩
 ·subst h
  match vs,hl with
  | [],hl=>simp at hl;omega
  | v::vs,hl=>have:=hv 0 v rfl;simp at this
 ·have:=fN (P:=c.P) (w:=w) b sz 0 (o+j) #[] vs hl (λk v hk=>by
   have:=iH hh (R (j+k) [v] (hv k v hk) 0 v rfl)
   grind)
  have J:(if j=0 then ({block:=b,off:=o}:Addr) else {block:=b,off:=o+j})={block:=b,off:=o+j}:=(by split <;> simp[*]);simp[execOp,O.ev X hx,Instr.loadAt,Instr.sureAddr,loadVar,V,Y,loadCells,ga,Addr.add,J,this]
end
section
variable {c:Cx}{E:dr}{L:List ag}{d:Nat}{ty:TypeId}{pos:String}{af:Array Edge}{K:List KI}{all:List Oper}{op:Op}{N:Value->List ag->Prop}{Lf:List ag}{pl:List (Nat×Bool)}
def Tj {i j s:Nat}{vs:Value}{J:Bool}(hi:all[i]? =some ⟨some d,op,ty,pos,af,some (j,J)⟩)(hj:(all[j]?).bind (·.dst)=some s)(hs:look none E s=some vs)(hw:xN vs J=true)[S:Sub L Lf](hd:lE c.n d E=true)
  (k:G c (.plan all (λw=>Sat c.w0 w Lf) pl::K) ((d,none,undef)::E) L):G c (.plan all (λw=>Sat c.w0 w Lf) ((i,true)::pl)::K) E L:=λa w O R=>by
 have h1:=O.look (cR a) hs;have hy:yielded all.toArray a.tmps j≠some J:=by
  grind[yielded,xN]
 refine ⟨S.sat R,?_⟩;unfold wpOp;simp only[YD,hi];rw[YC (by simp[Region.wanted,hy])];exact k _ w (O.put1 hd) R
end
abbrev IM:=List (Int×Int)
def mi (F:IM):MM:=F.map λp=>(p.1,I p.2)
def li:IM->Int->Option Int
 | [],_=>none
 | p::F,q=>if p.1=q then some p.2 else li F q
def Jv (F:IM)(q v:Int):IM:=if (li F q).isSome then F.map (λp=>if p.1=q then (q,v) else p) else F++ [(q,v)]
def yf (F:IM)(q:Int):IM:=F.filter λp=>!decide (p.1=q)
theorem AM (F:IM)(q:Int):lk (mi F) q=(li F q).map I:=by
 induction F with
 | nil=>rfl
 | cons p F J=>
  grind[lk,mi,li]
def mb (F:IM)(q d:Int):(lk (mi F) q).getD (I d)=I ((li F q).getD d):=by
 simp_all[AM]
theorem Gs (F:IM)(q:Int):(lk (mi F) q).isSome=(li F q).isSome:=by
 grind[AM]
def r9 (F:IM)(q v:Int):l6 (mi F) q (I v)=mi (Jv F q v):=by
 grind[l6,Jv,Gs,mi,List.map_congr_left]
def Gt (F:IM)(q:Int):pJ (mi F) q=mi (yf F q):=by
 unfold pJ yf mi;rw[Z3]
 rfl
def te (F:IM):(mi F).map (·.1)=F.map (·.1):=by simp[mi]
def AN {a b:Option Int}(h:a.map I=b.map I):a=b:=by
 cases a <;> cases b <;> simp at h ⊢;exact h
theorem uX (F:IM)(q v k:Int):li (Jv F q v) k=if q=k then some v else li F k:=by
 have h:=Cb (mi F) q (I v) k;rw[r9,AM,AM] at h;apply AN;rw[h];split <;> rfl
theorem Lo (F:IM)(q k:Int):li (yf F q) k=if q=k then none else li F k:=by
 have h:=Cc (mi F) q k;rw[Gt,AM,AM] at h;apply AN;rw[h];split <;> rfl
def wX {F:IM}{q:Int}:(li F q).isSome=true ↔ q∈F.map (·.1):=by
 induction F with
 | nil=>simp[li]
 | cons p F J=>
  grind[li]
def tf:∀{l m:List Int},l.Nodup->(∀q∈l,q∈m)->l.length<=m.length
 | [],_,_,_=>by simp
 | a::l,m,hl,h=>by
  rw[ZL] at hl;have J:a∈m:=h a (by simp);have h1:=tf (m:=m.erase a) hl.2 λq hq=>(List.mem_erase_of_ne (λe:q=a=>hl.1 (by rw[<-e];exact hq))).2 (h q (by simp[hq]))
  grind
def yg {l m:List Int}(hl:l.Nodup)(hm:m.Nodup)(h:∀q∈l,q∈m):l.length=m.length ↔ ∀q∈m,q∈l:=by
 constructor
 ·intro e q hq;refine Decidable.byContradiction λhn=>?_;have:=tf (l:=q::l) (m:=m) (ZL.2 ⟨hn,hl⟩) λp hp=>by
   grind
  simp at this;omega
 ·intro J;exact Nat.le_antisymm (tf hl h) (tf hm J)
def oI (f:Int×Value->Int):MM->Int
 | []=>0
 | p::M=>f p+oI f M
def AO {f:Int×Value->Int}{M J:MM}(h:M.Perm J):oI f M=oI f J:=by
 induction h with
 | nil=>rfl
 | cons x _ R=>simp only[oI];rw[R]
 | swap x y l=>simp only[oI];omega
 | trans _ _ h1 O=>rw[h1,O]
end Go.Sl
namespace Go.Sl
section
variable {c:Cx}{E:dr}{L Lf:List ag}{d:Nat}{ty:TypeId}{pos:String}{af:Array Edge}{K:List KI}{all:List Oper}{op:Op}{v:Value}{N:Value->List ag->Prop}{t:PT}
end
def big {α:Type}(f:α->List ag)(l:List α):ag:=xP (l.flatMap f)
theorem Sat.big {w0 w:World}{α:Type}{f:α->List ag}{l:List α}{F:List ag}(h:Sat w0 w (Go.Sl.big f l::F)):Sat w0 w (l.flatMap f++F):=h.list
theorem Sat.big_mk {w0 w:World}{α:Type}{f:α->List ag}{l:List α}{F:List ag}(h:Sat w0 w (l.flatMap f++F)):Sat w0 w (Go.Sl.big f l::F):=h.list_mk
theorem Sat.big_perm {w0 w:World}{α:Type}{f:α->List ag}{l l':List α}{F:List ag}(hp:l.Perm l')(h:Sat w0 w (Go.Sl.big f l::F)):Sat w0 w (Go.Sl.big f l'::F):=
 (Sat.perm0 ((hp.flatMap_right f).append_right F) h.big).big_mk
theorem Sat.big_out {w0 w:World}{α:Type}{f:α->List ag}{l:List α}{e:α}{F:List ag}(h:Sat w0 w (Go.Sl.big f (e::l)::F)):Sat w0 w (f e++Go.Sl.big f l::F):=by
 have h1:=h.big;rw[Z4,Zf] at h1;have J:Sat w0 w (l.flatMap f++(f e++F)):=Sat.perm0 (by rw[<-Zf,<-Zf];exact List.perm_append_comm.append_right F) h1;exact Sat.perm0 List.perm_middle.symm J.big_mk
theorem Sat.big_in {w0 w:World}{α:Type}{f:α->List ag}{l:List α}{e:α}{F:List ag}(h:Sat w0 w (f e++Go.Sl.big f l::F)):Sat w0 w (Go.Sl.big f (e::l)::F):=by
 have h1:Sat w0 w (Go.Sl.big f l::(f e++F)):=Sat.perm0 ZQ h;have J:=h1.big;refine Sat.big_mk ?_;rw[Z4];exact Sat.perm0 (by rw[<-Zf];exact List.perm_append_comm.append_right F) J
def oJ {α:Type}:∀{l:List α} {i:Nat} {e:α},l[i]? =some e->l.Perm (e::l.eraseIdx i)
 | [],i,e,h=>by simp at h
 | a::l,0,e,h=>by
  grind[List.Perm.refl]
 | a::l,i+1,e,h=>by
  rw[Z5];exact ((oJ (l:=l) (by simpa using h)).cons a).trans (List.Perm.swap e a _)
def Ej {α:Type}:∀{l:List α} {i:Nat} (e:α),i<l.length->(l.set i e).Perm (e::l.eraseIdx i)
 | [],i,e,h=>by simp at h
 | a::l,0,e,h=>List.Perm.refl _
 | a::l,i+1,e,h=>by
  rw[Z5,List.set_cons_succ];exact ((Ej (l:=l) e (by simpa using h)).cons a).trans (List.Perm.swap e a _)
section
variable {c:Cx}{E:dr}{L F F':List ag}{K:List KI}{α:Type}{f:α->List ag}
def tg (f:α->List ag)(k:G c K E (big f []::L)):G c K E L:=λa w J O=>k a w J (Sat.big_mk (by simpa using O))
def qJ (l:List α)(i:Nat){e:α}(he:l[i]? =some e)(Pre:List ag)(S:f e=Pre)[R:Rem L (big f l) F](k:G c K E (Pre++big f (l.eraseIdx i)::F)):G c K E L:=λa w J O=>by
 subst S;exact k a w J (Sat.big_out (Sat.big_perm (oJ he) (R.sat O)))
def de (l:List α)(i:Nat)(e:α)(Pre:List ag)(hi:i<l.length)[S:Split L Pre F][R:Rem F (big f (l.eraseIdx i)) F'](k:G c K E (big f (l.set i e)::F'))(X:f e=Pre:=by exact rfl):G c K E L:=λa w O V=>by
 subst X;have h1:=S.sat V;have J:Sat c.w0 w (f e++big f (l.eraseIdx i)::F'):=by
  obtain ⟨j,hj,rfl⟩:=R.out;have hp:F.Perm (big f (l.eraseIdx i)::F.eraseIdx j):=oJ hj;exact Sat.perm0 (hp.append_left (f e)) h1
 exact k a w O (Sat.big_perm (Ej e hi).symm J.big_in)
def th (l:List α)(e:α)(Pre:List ag)(X:f e=Pre)[S:Split L Pre F][R:Rem F (big f l) F'](k:G c K E (big f (l++ [e])::F')):G c K E L:=λa w O V=>by
 subst X;have h1:=S.sat V;have J:Sat c.w0 w (f e++big f l::F'):=by
  obtain ⟨j,hj,rfl⟩:=R.out;have hp:F.Perm (big f l::F.eraseIdx j):=oJ hj;exact Sat.perm0 (hp.append_left (f e)) h1
 exact k a w O (Sat.big_perm (Z6 (l₁:=[e]) (l₂:=l)) J.big_in)
def nJ (l l':List α)(h:l'.Sublist l)[R:Rem L (big f l) F](k:G c K E (big f l'::F)):G c K E L:=λa w J O=>by
 obtain ⟨m,hm⟩:=h.exists_perm_append;have h1:=(Sat.big_perm (hm.trans Z6) (R.sat O)).big;rw[List.flatMap_append,Zf] at h1;exact k a w J (Sat.big_mk (Sat.dropAll h1))
end
end Go.Sl