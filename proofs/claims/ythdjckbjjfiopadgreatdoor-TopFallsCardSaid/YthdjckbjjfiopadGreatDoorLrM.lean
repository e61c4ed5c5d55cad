/- What a repo shows, without the places where it lies: a function of the acts. Plain laws. No condition. -/
import Derived.Test.YthdjckbjjfiopadGreatDoorPartI
set_option linter.unusedSimpArgs false
set_option linter.unusedVariables false
namespace Go.Proofs.YthdjckbjjfiopadGreatDoor
open Go.Sl Go.Proofs
structure SeS where
  key:Int
  base:Int
  disk:Int
  size:Int
  puts:List PutM
structure MoS where
  key:Int
  point:Int
  over:List (Int×Bytes)
structure LR where
  S:SI
  L:List Pt
  n:Int
  ses:List SeS
  mou:List MoS
  next:Int
def sS (e:SeE):SeS:=⟨e.key,e.base,e.disk,e.size,e.puts⟩
def mS (m:MoE):MoS:=⟨m.key,m.point,m.over⟩
def RpM.lr (z:RpM):LR:=⟨z.S,z.L,z.n,z.ses.map sS,z.mou.map mS,z.next⟩
def fS (l:List SeS)(id:Int):Option SeS:=l.find? fun e=>decide (e.key=id)
def fM (l:List MoS)(id:Int):Option MoS:=l.find? fun e=>decide (e.key=id)
def iS (l:List SeS)(id:Int):Nat:=l.findIdx fun e=>decide (e.key=id)
def iM (l:List MoS)(id:Int):Nat:=l.findIdx fun e=>decide (e.key=id)
def rS (l:List SeS)(id:Int):List SeS:=l.filter fun e=>!decide (e.key=id)
def rM (l:List MoS)(id:Int):List MoS:=l.filter fun e=>!decide (e.key=id)
theorem zpf (l:List SeE)(id:Int):fS (l.map sS) id=(fSe l id).map sS:=by
  unfold fS fSe;rw[List.find?_map]
  rfl
theorem zu4 (l:List MoE)(id:Int):fM (l.map mS) id=(fMo l id).map mS:=by
  unfold fM fMo;rw[List.find?_map]
  rfl
theorem iS_of (l:List SeE)(id:Int):iS (l.map sS) id=sIx l id:=by
  unfold iS sIx;rw[List.findIdx_map]
  rfl
theorem iM_of (l:List MoE)(id:Int):iM (l.map mS) id=mIx l id:=by
  unfold iM mIx;rw[List.findIdx_map]
  rfl
theorem zwv (l:List SeE)(id:Int):rS (l.map sS) id=(dSe l id).map sS:=by
  unfold rS dSe;rw[List.filter_map]
  rfl
theorem rM_of (l:List MoE)(id:Int):rM (l.map mS) id=(dMo l id).map mS:=by
  unfold rM dMo;rw[List.filter_map]
  rfl
def ztA (σ:LR)(id:Int):Bool:=σ.ses.any (fun e=>decide (e.base=id)) || σ.mou.any fun e=>decide (e.point=id)
theorem zqn (z:RpM)(id:Int):ztA z.lr id=zbk z id:=by
  unfold ztA zbk RpM.lr;simp only[List.any_map]
  rfl
def LR.vau (σ:LR)(S:SI)(L:List Pt)(n:Int):LR:=⟨S,L,n,σ.ses,σ.mou,σ.next⟩
def LR.sesn (σ:LR)(l:List SeS):LR:=⟨σ.S,σ.L,σ.n,l,σ.mou,σ.next⟩
def LR.moun (σ:LR)(l:List MoS):LR:=⟨σ.S,σ.L,σ.n,σ.ses,l,σ.next⟩
def znn (σ:LR)(base disk size:Int):Int:=if disk<1∨999<disk∨size<1∨16<size then 1 else if ofE σ.L base disk≠0 then ofE σ.L base disk else if σ.ses.length=3 then 8 else 0
def LR.begun (σ:LR)(base disk size:Int):LR:=⟨σ.S,σ.L,σ.n,σ.ses++ [⟨σ.next,base,disk,size,[]⟩],σ.mou,σ.next+1⟩
def znq (σ:LR)(id:Int):Int:=match yh σ.L id with
  | none=>5
  | some _=>if σ.mou.length=3 then 8 else 0
def LR.mounted (σ:LR)(id:Int):LR:=⟨σ.S,σ.L,σ.n,σ.ses,σ.mou++ [⟨σ.next,id,[]⟩],σ.next+1⟩
def zoe (σ:LR)(id at_:Int):Bytes×Int:=match fM σ.mou id with
  | none=>([],5)
  | some m=>if (rdE σ.S σ.L m.point at_).2≠0 then ([],(rdE σ.S σ.L m.point at_).2) else match ovL m.over at_ with
    | some d=>(d,0)
    | none=>((rdE σ.S σ.L m.point at_).1,0)
def znt (σ:LR)(id at_:Int)(d:Bytes):Int:=if (zoe σ id at_).2≠0 then (zoe σ id at_).2 else if 6<d.length then 2 else 0
def LR.written (σ:LR)(id at_:Int)(d:Bytes):LR:=match fM σ.mou id with
  | none=>σ
  | some m=>σ.moun (σ.mou.set (iM σ.mou id) ⟨m.key,m.point,ovS m.over at_ d⟩)
def ztL (σ:LR)(id at_:Int)(d:Bytes):Int:=match fS σ.ses id with
  | none=>5
  | some e=>if at_<0∨e.size≤at_ then 1 else if 6<d.length then 2 else 0
def LR.putted (σ:LR)(id at_:Int)(d:Bytes):LR:=match fS σ.ses id with
  | none=>σ
  | some e=>σ.sesn (σ.ses.set (iS σ.ses id) ⟨e.key,e.base,e.disk,e.size,zhZ e.puts at_ d⟩)
def znZ (σ:LR)(id:Int):LR×Int×Int:=match fS σ.ses id with
  | none=>(σ,0,5)
  | some s=>match zgn σ.S σ.L σ.n s.base s.disk s.size s.puts with
    | .error f=>(σ,0,f)
    | .ok r=>(⟨r.1,r.2.1,r.2.2.1,rS σ.ses id,σ.mou,σ.next⟩,r.2.2.2,0)
def aboL (σ:LR)(id:Int):LR×Int:=match fS σ.ses id with
  | none=>(σ,5)
  | some _=>(σ.sesn (rS σ.ses id),0)
def unmL (σ:LR)(id:Int):LR×Int:=match fM σ.mou id with
  | none=>(σ,5)
  | some _=>(σ.moun (rM σ.mou id),0)
def zmG (σ:LR)(id:Int):LR×Int×Int:=match ziJ σ.S σ.L σ.n id with
  | .error f=>(σ,0,f)
  | .ok r=>(σ.vau r.1 r.2.1 r.2.2.1,r.2.2.2,0)
def zkI (σ:LR)(id:Int):Int:=if (yh σ.L id).isNone then 5 else if ztA σ id=true then 6 else 0
def zcz (σ:LR)(id:Int):LR×Int:=if zkI σ id≠0 then (σ,zkI σ id) else match zh0 σ.S σ.L σ.n id with
  | .error f=>(σ,f)
  | .ok r=>(σ.vau r.1 r.2.1 r.2.2.1,0)
def keepL:List Int→LR→LR×List Int
  | [],σ=>(σ,[])
  | id::l,σ=>if ztA σ id=true then keepL l σ else ((keepL l (zcz σ id).1).1,id::(keepL l (zcz σ id).1).2)
def zeK (σ:LR)(x:ActM):LR×Int×Bytes×Int:=
  if x.kind=dkBeg then (if znn σ x.a x.b x.c≠0 then (σ,0,[],znn σ x.a x.b x.c) else (σ.begun x.a x.b x.c,σ.next,[],0))
  else if x.kind=dkPut then (if ztL σ x.a x.b x.s≠0 then (σ,0,[],ztL σ x.a x.b x.s) else (σ.putted x.a x.b x.s,0,[],0))
  else if x.kind=dkFin then ((znZ σ x.a).1,(znZ σ x.a).2.1,[],(znZ σ x.a).2.2)
  else if x.kind=dkAbo then ((aboL σ x.a).1,0,[],(aboL σ x.a).2)
  else if x.kind=dkAgn then ((zmG σ x.a).1,(zmG σ x.a).2.1,[],(zmG σ x.a).2.2)
  else if x.kind=dkDrp then ((zcz σ x.a).1,0,[],(zcz σ x.a).2)
  else if x.kind=dkKee then (if x.b<0 then (σ,0,[],1) else ((keepL (zeH σ.L x.a x.b) σ).1,zka (keepL (zeH σ.L x.a x.b) σ).2,[],0))
  else if x.kind=dkMou then (if znq σ x.a≠0 then (σ,0,[],znq σ x.a) else (σ.mounted x.a,σ.next,[],0))
  else if x.kind=dkUnm then ((unmL σ x.a).1,0,[],(unmL σ x.a).2)
  else if x.kind=dkRea then (σ,0,(zoe σ x.a x.b).1,(zoe σ x.a x.b).2)
  else if x.kind=dkWri then (if znt σ x.a x.b x.s≠0 then (σ,0,[],znt σ x.a x.b x.s) else (σ.written x.a x.b x.s,0,[],0))
  else (σ,0,[],0)
theorem zth (z:RpM)(base disk size:Int):znn z.lr base disk size=wm z base disk size:=by
  unfold znn wm RpM.lr;simp only[List.length_map]
theorem zsY (z:RpM)(a:Nat)(base disk size:Int):(z.begun a base disk size).lr=z.lr.begun base disk size:=by
  unfold RpM.begun LR.begun RpM.lr;simp[sS]
theorem ztJ (z:RpM)(id:Int):znq z.lr id=zbO z id:=by
  unfold znq zbO RpM.lr;simp only[List.length_map];cases yh z.L id <;> rfl
theorem zoo (z:RpM)(a r:Nat)(id:Int):(z.mounted a r id).lr=z.lr.mounted id:=by
  unfold RpM.mounted LR.mounted RpM.lr;simp[mS]
theorem zpR (z:RpM)(id at_:Int):zoe z.lr id at_=zbj z id at_:=by
  unfold zoe zbj;rw[show z.lr.mou=z.mou.map mS from rfl,zu4];cases fMo z.mou id <;> rfl
theorem zsC (z:RpM)(id at_:Int)(d:Bytes):znt z.lr id at_ d=zaT z id at_ d:=by
  unfold znt zaT;rw[zpR]
theorem zn9 (z:RpM)(id at_:Int)(d:Bytes):(z.written id at_ d).lr=z.lr.written id at_ d:=by
  unfold RpM.written LR.written;rw[show z.lr.mou=z.mou.map mS from rfl,zu4,iM_of];cases fMo z.mou id with
  | none=>rfl
  | some m=>
    show RpM.lr _=LR.moun _ _;unfold RpM.lr RpM.moun LR.moun;simp[List.map_set,mS]
theorem zuH (z:RpM)(id at_:Int)(d:Bytes):ztL z.lr id at_ d=zbh z id at_ d:=by
  unfold ztL zbh;rw[show z.lr.ses=z.ses.map sS from rfl,zpf];cases fSe z.ses id <;> rfl
theorem zpK (z:RpM)(id at_:Int)(d:Bytes)(so:Option Addr)(co:Nat):(z.putted id at_ d so co).lr=z.lr.putted id at_ d:=by
  unfold RpM.putted LR.putted;rw[show z.lr.ses=z.ses.map sS from rfl,zpf,iS_of];cases fSe z.ses id with
  | none=>rfl
  | some m=>
    show RpM.lr _=LR.sesn _ _;unfold RpM.lr RpM.sess LR.sesn;simp[List.map_set,sS]
theorem zws (z:RpM)(l:List SeE):(z.sess l).lr=z.lr.sesn (l.map sS):=rfl
theorem zww (z:RpM)(l:List MoE):(z.moun l).lr=z.lr.moun (l.map mS):=rfl
theorem znu (z:RpM)(id:Int):zkI z.lr id=zcf z id:=by
  unfold zkI zcf;rw[zqn]
  rfl
theorem zoD {z:RpM}{σ:LR}(h1:z.S=σ.S)(h2:z.L=σ.L)(h3:z.n=σ.n)(h4:z.ses.map sS=σ.ses)(h5:z.mou.map mS=σ.mou)(h6:z.next=σ.next):z.lr=σ:=by
  unfold RpM.lr;rw[h1,h2,h3,h4,h5,h6]
theorem zyF {t:Nat}{D D2:DiskM}{z z2:RpM}{id n e:Int}(R:Up t D z)(ht:t≤90000)(k:zod D z id n e D2 z2):znZ z.lr id=(z2.lr,n,e):=by
  unfold znZ;rw[show z.lr.ses=z.ses.map sS from rfl,zpf];rcases zpF R ht k with ⟨rfl,_,rfl,rfl,⟨h1,rfl⟩ | ⟨s,h1,h2⟩⟩ | ⟨rfl,_,⟨s,h1,h2⟩,h3,h4,h5⟩
  · rw[h1];rfl
  · rw[h1];dsimp only[Option.map_some,sS,RpM.lr];rw[h2]
  · rw[h1];dsimp only[Option.map_some,sS,RpM.lr];rw[h2];refine Prod.ext ?_ rfl
    symm
    refine zoD rR rR rR ?_ ?_ h5
    · show _=rS (z.ses.map sS) id;rw[zwv,h3]
    · show _=z.mou.map mS;rw[h4]
theorem zo4 {t:Nat}{D D2:DiskM}{z z2:RpM}{id e:Int}(R:Up t D z)(ht:t≤90000)(k:zfg D z id e D2 z2):zcz z.lr id=(z2.lr,e):=by
  unfold zcz;rw[znu];rcases zcr R.rep (by omega) k with ⟨rfl,_,_,h1,h2,h3,h4,h5⟩ | ⟨h1,_,h2,rfl,rfl⟩ | ⟨_,h,_⟩
  · rw[if_neg (by omega)];show (match zh0 z.S z.L z.n id with | .error f=>_ | .ok r=>_)=_;rw[h2];refine Prod.ext ?_ rfl
    symm
    refine zoD rR rR rR ?_ ?_ h5
    · show _=z.ses.map sS;rw[h3]
    · show _=z.mou.map mS;rw[h4]
  · rw[if_pos (by omega),h2]
  · exact absurd R.up h
theorem zx6 {t:Nat}{D D2:DiskM}{z z2:RpM}{id n e:Int}(R:Up t D z)(ht:t≤90000)(k:zeb D z id n e D2 z2):zmG z.lr id=(z2.lr,n,e)∧Up (t+1) D2 z2:=by
  obtain ⟨G,hC⟩:=R.rep.rok.con;unfold zeb at k;unfold zmG;show (match ziJ z.S z.L z.n id with | .error f=>_ | .ok r=>_)=_∧_;cases hr:ziJ z.S z.L z.n id with
  | error f=>
    rw[hr] at k;obtain ⟨rfl,rfl,rfl,rfl⟩:=k;exact ⟨rfl,R.le (by omega)⟩
  | ok r=>
    obtain ⟨S',L',n',r⟩:=r;rw[hr] at k;simp only at k ⊢;obtain ⟨hk,hn⟩:=k;obtain ⟨G',hC'⟩:=zeF hC hr;obtain ⟨rfl,U,e1,e2,e3,e4,e5,e6⟩:=R.kept (by omega) hC' (zlX hC.v hr) hk;rw[if_pos rfl] at hn;subst hn;refine ⟨Prod.ext ?_ rfl,U⟩
    symm
    refine zoD e1 e2 e3 ?_ ?_ e6
    · show _=z.ses.map sS;rw[e4]
    · show _=z.mou.map mS;rw[e5]
theorem zme:∀{l:List Int} {t:Nat} {D D2:DiskM} {z z2:RpM} {gone:List Int} {e:Int},Up t D z→t+l.length≤90000→l.Nodup→(∀q∈l,(yh z.L q).isSome=true)→zbR l D z gone e D2 z2→keepL l z.lr=(z2.lr,gone)
  | [],t,D,D2,z,z2,gone,e,R,ht,hnd,hin,h=>by
    obtain ⟨rfl,rfl,rfl,rfl⟩:=h
    rfl
  | id::l,t,D,D2,z,z2,gone,e,R,ht,hnd,hin,h=>by
    simp only[List.length_cons] at ht;rw[List.nodup_cons] at hnd;unfold zbR at h;unfold keepL;rw[zqn];by_cases hu:zbk z id=true
    · rw[if_pos hu] at h ⊢;exact zme R (by omega) hnd.2 (fun q hq=>hin q (List.mem_cons_of_mem _ hq)) h
    · rw[if_neg hu] at h ⊢;have hu0:zbk z id=false:=(by simpa using hu);have hde:zcf z id=0:=by
        unfold zcf;have:=hin id (by simp);rw[if_neg (by rw[Option.isNone_iff_eq_none];intro hn;rw[hn] at this;cases this),hu0]
        rfl
      obtain ⟨e1,D1,z1,hd,h⟩:=h;have hdo:=zo4 R (by omega) hd;rw[hdo];rcases zcr R.rep (by omega) hd with ⟨rfl,_,_,_,hdr,hs,hm,hx⟩ | ⟨hne,_,he,_⟩ | ⟨_,hn,_⟩
      · rcases h with ⟨hc,_⟩ | ⟨_,g',hk,hg⟩
        · exact absurd rfl hc
        obtain ⟨hL,hn⟩:=zye hdr;have hin1:∀q∈l,(yh z1.L q).isSome=true:=fun q hq=>by
          obtain ⟨p,hp,hpq⟩:=find_is.1 (hin q (List.mem_cons_of_mem _ hq));exact find_is.2 ⟨p,by rw[hL];exact List.mem_filter.2 ⟨hp,by simp;intro e;exact hnd.1 (by rw[←e,hpq];exact hq)⟩,hpq⟩
        have U1:=R.drop (by omega) hd;obtain ⟨rfl,_⟩:=zgt U1 (by omega) hnd.2 hin1 hk;rw[if_pos rfl] at hg;subst hg;have ih:=zme U1 (by omega) hnd.2 hin1 hk;rw[ih]
      · exact absurd (he.trans hde) hne
      · exact absurd R.up hn
theorem zwL {t:Nat}{D D2:DiskM}{z z2:RpM}{x:ActM}{n e:Int}{s:Bytes}(R:Up t D z)(ht:t≤80000)(k:wT D z x n s e D2 z2):zeK z.lr x=(z2.lr,n,s,e):=by
  unfold wT at k;unfold zeK;by_cases h:x.kind=dkBeg
  · rw[if_pos h] at k ⊢;rw[zth];obtain ⟨rfl,rfl,⟨h1,rfl,rfl,rfl⟩ | ⟨h1,rfl,rfl,a,rfl⟩⟩:=k
    · rw[if_pos h1]
    · rw[if_neg (by omega),zsY];rfl
  rw[if_neg h] at k ⊢;by_cases h:x.kind=dkPut
  · rw[if_pos h] at k ⊢;rw[zuH];obtain ⟨rfl,rfl,rfl,⟨h1,rfl,rfl⟩ | ⟨h1,rfl,so,co,rfl⟩⟩:=k
    · rw[if_pos h1]
    · rw[if_neg (by omega),zpK]
  rw[if_neg h] at k ⊢;by_cases h:x.kind=dkFin
  · rw[if_pos h] at k ⊢;obtain ⟨rfl,k⟩:=k;rw[zyF R (by omega) k]
  rw[if_neg h] at k ⊢;by_cases h:x.kind=dkAbo
  · rw[if_pos h] at k ⊢;unfold aboL;rw[show z.lr.ses=z.ses.map sS from rfl,zpf];obtain ⟨rfl,rfl,rfl,⟨h1,rfl,rfl⟩ | ⟨y,h1,rfl,rfl⟩⟩:=k
    · rw[h1];rfl
    · rw[h1,zws,zwv];rfl
  rw[if_neg h] at k ⊢;by_cases h:x.kind=dkAgn
  · rw[if_pos h] at k ⊢;obtain ⟨rfl,k⟩:=k;rw[(zx6 R (by omega) k).1]
  rw[if_neg h] at k ⊢;by_cases h:x.kind=dkDrp
  · rw[if_pos h] at k ⊢;obtain ⟨rfl,rfl,k⟩:=k;rw[zo4 R (by omega) k]
  rw[if_neg h] at k ⊢;by_cases h:x.kind=dkKee
  · rw[if_pos h] at k ⊢;obtain ⟨rfl,⟨h1,rfl,rfl,rfl,rfl⟩ | ⟨h1,gone,hk,rfl⟩⟩:=k
    · rw[if_pos h1]
    · rw[if_neg (by omega)];obtain ⟨G,hC⟩:=R.rep.rok.con;have hel:=zgX z.L x.a x.b hC.v.len;obtain ⟨h2,h3⟩:=zyc hC.v x.a x.b;obtain ⟨rfl,_⟩:=zgt R (by omega) h2 h3 hk;show ((keepL (zeH z.L x.a x.b) z.lr).1,zka (keepL (zeH z.L x.a x.b) z.lr).2,_,_)=_;rw[zme R (by omega) h2 h3 hk]
  rw[if_neg h] at k ⊢;by_cases h:x.kind=dkMou
  · rw[if_pos h] at k ⊢;rw[ztJ];obtain ⟨rfl,rfl,⟨h1,rfl,rfl,rfl⟩ | ⟨h1,rfl,rfl,a,r,rfl⟩⟩:=k
    · rw[if_pos h1]
    · rw[if_neg (by omega),zoo];rfl
  rw[if_neg h] at k ⊢;by_cases h:x.kind=dkUnm
  · rw[if_pos h] at k ⊢;unfold unmL;rw[show z.lr.mou=z.mou.map mS from rfl,zu4];obtain ⟨rfl,rfl,rfl,⟨h1,rfl,rfl⟩ | ⟨y,h1,rfl,rfl⟩⟩:=k
    · rw[h1];rfl
    · rw[h1,zww,rM_of];rfl
  rw[if_neg h] at k ⊢;by_cases h:x.kind=dkRea
  · rw[if_pos h] at k ⊢;rw[zpR];obtain ⟨rfl,rfl,rfl,rfl,rfl⟩:=k
    rfl
  rw[if_neg h] at k ⊢;by_cases h:x.kind=dkWri
  · rw[if_pos h] at k ⊢;rw[zsC];obtain ⟨rfl,rfl,rfl,⟨h1,rfl,rfl⟩ | ⟨h1,rfl,rfl⟩⟩:=k
    · rw[if_pos h1]
    · rw[if_neg (by omega),zn9]
  rw[if_neg h] at k ⊢;by_cases h:x.kind=dkSav
  · rw[if_pos h] at k;obtain ⟨rfl,rfl,hr,k⟩:=k;obtain ⟨r0,ds,C,hcur⟩:=R.rep.cal;have hep:=R.rep.ep;have hfi:=R.rep.first;obtain ⟨D1,q1,q2,q3⟩:=zvI R.up C.2.1 (by omega) (by omega);rw[←hcur,q1] at hr;injection hr with h1 h2;rcases k with ⟨hx,_⟩ | ⟨rfl,d',u',_,hsc,rfl⟩
    · exact absurd h1.symm hx
    · rfl
  rw[if_neg h] at k;obtain ⟨rfl,rfl,rfl,rfl,rfl⟩:=k
  rfl
end Go.Proofs.YthdjckbjjfiopadGreatDoor
