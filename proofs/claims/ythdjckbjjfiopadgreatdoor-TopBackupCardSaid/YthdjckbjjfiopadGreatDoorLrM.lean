/- What a repo shows, without the places where it lies: a function of the acts. Plain laws. No condition. -/
import Derived.Test.YthdjckbjjfiopadGreatDoorMtL
set_option linter.unusedSimpArgs false
set_option linter.unusedVariables false
namespace Go.Proofs.YthdjckbjjfiopadGreatDoor
open Go.Sl Go.Proofs
structure SeS where
  key:Int
  base:Int
  disk:Int
  size:Int
  puts:List PutM
structure MoS where
  key:Int
  point:Int
  over:List (Int×Bytes)
structure LR where
  S:SI
  L:List Pt
  n:Int
  ses:List SeS
  mou:List MoS
  next:Int
def sS (e:SeE):SeS:=⟨e.key,e.base,e.disk,e.size,e.puts⟩
def mS (m:MoE):MoS:=⟨m.key,m.point,m.over⟩
def RpM.lr (z:RpM):LR:=⟨z.S,z.L,z.n,z.ses.map sS,z.mou.map mS,z.next⟩
def fS (l:List SeS)(id:Int):Option SeS:=l.find? fun e=>decide (e.key=id)
def iS (l:List SeS)(id:Int):Nat:=l.findIdx fun e=>decide (e.key=id)
def rS (l:List SeS)(id:Int):List SeS:=l.filter fun e=>!decide (e.key=id)
theorem zvL (l:List SeE)(id:Int):fS (l.map sS) id=(fSe l id).map sS:=by
  unfold fS fSe;rw[List.find?_map]
  rfl
theorem iS_of (l:List SeE)(id:Int):iS (l.map sS) id=sIx l id:=by
  unfold iS sIx;rw[List.findIdx_map]
  rfl
theorem zyD (l:List SeE)(id:Int):rS (l.map sS) id=(dSe l id).map sS:=by
  unfold rS dSe;rw[List.filter_map]
  rfl
def zsL (σ:LR)(id:Int):Bool:=σ.ses.any (fun e=>decide (e.base=id)) || σ.mou.any fun e=>decide (e.point=id)
theorem zo9 (z:RpM)(id:Int):zsL z.lr id=zbc z id:=by
  unfold zsL zbc RpM.lr;simp only[List.any_map]
  rfl
def LR.vau (σ:LR)(S:SI)(L:List Pt)(n:Int):LR:=⟨S,L,n,σ.ses,σ.mou,σ.next⟩
def LR.sesn (σ:LR)(l:List SeS):LR:=⟨σ.S,σ.L,σ.n,l,σ.mou,σ.next⟩
def znt (σ:LR)(base disk size:Int):Int:=if disk<1∨999<disk∨size<1∨16<size then 1 else if ofE σ.L base disk≠0 then ofE σ.L base disk else if σ.ses.length=3 then 8 else 0
def LR.begun (σ:LR)(base disk size:Int):LR:=⟨σ.S,σ.L,σ.n,σ.ses++ [⟨σ.next,base,disk,size,[]⟩],σ.mou,σ.next+1⟩
def LR.putted (σ:LR)(id at_:Int)(d:Bytes):LR:=match fS σ.ses id with
  | none=>σ
  | some e=>σ.sesn (σ.ses.set (iS σ.ses id) ⟨e.key,e.base,e.disk,e.size,zfF e.puts at_ d⟩)
def zwY (σ:LR)(id:Int):LR×Int×Int:=match fS σ.ses id with
  | none=>(σ,0,5)
  | some s=>match zgc σ.S σ.L σ.n s.base s.disk s.size s.puts with
    | .error f=>(σ,0,f)
    | .ok r=>(⟨r.1,r.2.1,r.2.2.1,rS σ.ses id,σ.mou,σ.next⟩,r.2.2.2,0)
def aboL (σ:LR)(id:Int):LR×Int:=match fS σ.ses id with
  | none=>(σ,5)
  | some _=>(σ.sesn (rS σ.ses id),0)
def agnL (σ:LR)(id:Int):LR×Int×Int:=match ziI σ.S σ.L σ.n id with
  | .error f=>(σ,0,f)
  | .ok r=>(σ.vau r.1 r.2.1 r.2.2.1,r.2.2.2,0)
def zll (σ:LR)(id:Int):Int:=if (yq σ.L id).isNone then 5 else if zsL σ id=true then 6 else 0
def zih (σ:LR)(id:Int):LR×Int:=if zll σ id≠0 then (σ,zll σ id) else match zh5 σ.S σ.L σ.n id with
  | .error f=>(σ,f)
  | .ok r=>(σ.vau r.1 r.2.1 r.2.2.1,0)
def keepL:List Int→LR→LR×List Int
  | [],σ=>(σ,[])
  | id::l,σ=>if zsL σ id=true then keepL l σ else ((keepL l (zih σ id).1).1,id::(keepL l (zih σ id).1).2)
theorem zss (z:RpM)(base disk size:Int):znt z.lr base disk size=wu z base disk size:=by
  unfold znt wu RpM.lr;simp only[List.length_map]
theorem zsu (z:RpM)(a:Nat)(base disk size:Int):(z.begun a base disk size).lr=z.lr.begun base disk size:=by
  unfold RpM.begun LR.begun RpM.lr;simp[sS]
theorem zqs (z:RpM)(id at_:Int)(d:Bytes)(so:Option Addr)(co:Nat):(z.putted id at_ d so co).lr=z.lr.putted id at_ d:=by
  unfold RpM.putted LR.putted;rw[show z.lr.ses=z.ses.map sS from rfl,zvL,iS_of];cases fSe z.ses id with
  | none=>rfl
  | some m=>
    show RpM.lr _=LR.sesn _ _;unfold RpM.lr RpM.sess LR.sesn;simp[List.map_set,sS]
theorem zva (z:RpM)(l:List SeE):(z.sess l).lr=z.lr.sesn (l.map sS):=rfl
theorem zs9 (z:RpM)(id:Int):zll z.lr id=zb9 z id:=by
  unfold zll zb9;rw[zo9]
  rfl
theorem zvy {z:RpM}{σ:LR}(h1:z.S=σ.S)(h2:z.L=σ.L)(h3:z.n=σ.n)(h4:z.ses.map sS=σ.ses)(h5:z.mou.map mS=σ.mou)(h6:z.next=σ.next):z.lr=σ:=by
  unfold RpM.lr;rw[h1,h2,h3,h4,h5,h6]
theorem zyr {t:Nat}{D D2:DiskM}{z z2:RpM}{id n e:Int}(R:Up t D z)(ht:t≤90000)(k:zsQ D z id n e D2 z2):zwY z.lr id=(z2.lr,n,e):=by
  unfold zwY;rw[show z.lr.ses=z.ses.map sS from rfl,zvL];rcases zk3 R ht k with ⟨rfl,_,rfl,rfl,⟨h1,rfl⟩ | ⟨s,h1,h2⟩⟩ | ⟨rfl,_,⟨s,h1,h2⟩,h3,h4,h5⟩
  · rw[h1];rfl
  · rw[h1];dsimp only[Option.map_some,sS,RpM.lr];rw[h2]
  · rw[h1];dsimp only[Option.map_some,sS,RpM.lr];rw[h2];refine Prod.ext ?_ rfl
    symm
    refine zvy rR rR rR ?_ ?_ h5
    · show _=rS (z.ses.map sS) id;rw[zyD,h3]
    · show _=z.mou.map mS;rw[h4]
theorem zo2 {t:Nat}{D D2:DiskM}{z z2:RpM}{id e:Int}(R:Up t D z)(ht:t≤90000)(k:zf4 D z id e D2 z2):zih z.lr id=(z2.lr,e):=by
  unfold zih;rw[zs9];rcases zcp R.rep (by omega) k with ⟨rfl,_,_,h1,h2,h3,h4,h5⟩ | ⟨h1,_,h2,rfl,rfl⟩ | ⟨_,h,_⟩
  · rw[if_neg (by omega)];show (match zh5 z.S z.L z.n id with | .error f=>_ | .ok r=>_)=_;rw[h2];refine Prod.ext ?_ rfl
    symm
    refine zvy rR rR rR ?_ ?_ h5
    · show _=z.ses.map sS;rw[h3]
    · show _=z.mou.map mS;rw[h4]
  · rw[if_pos (by omega),h2]
  · exact absurd R.up h
theorem zxx {t:Nat}{D D2:DiskM}{z z2:RpM}{id n e:Int}(R:Up t D z)(ht:t≤90000)(k:zg1 D z id n e D2 z2):agnL z.lr id=(z2.lr,n,e)∧Up (t+1) D2 z2:=by
  obtain ⟨G,hC⟩:=R.rep.rok.con;unfold zg1 at k;unfold agnL;show (match ziI z.S z.L z.n id with | .error f=>_ | .ok r=>_)=_∧_;cases hr:ziI z.S z.L z.n id with
  | error f=>
    rw[hr] at k;obtain ⟨rfl,rfl,rfl,rfl⟩:=k;exact ⟨rfl,R.le (by omega)⟩
  | ok r=>
    obtain ⟨S',L',n',r⟩:=r;rw[hr] at k;simp only at k ⊢;obtain ⟨hk,hn⟩:=k;obtain ⟨G',hC'⟩:=zmM hC hr;obtain ⟨rfl,U,e1,e2,e3,e4,e5,e6⟩:=R.kept (by omega) hC' (zwj hC.v hr) hk;rw[if_pos rfl] at hn;subst hn;refine ⟨Prod.ext ?_ rfl,U⟩
    symm
    refine zvy e1 e2 e3 ?_ ?_ e6
    · show _=z.ses.map sS;rw[e4]
    · show _=z.mou.map mS;rw[e5]
theorem zlJ:∀{l:List Int} {t:Nat} {D D2:DiskM} {z z2:RpM} {gone:List Int} {e:Int},Up t D z→t+l.length≤90000→l.Nodup→(∀q∈l,(yq z.L q).isSome=true)→zcj l D z gone e D2 z2→keepL l z.lr=(z2.lr,gone)
  | [],t,D,D2,z,z2,gone,e,R,ht,hnd,hin,h=>by
    obtain ⟨rfl,rfl,rfl,rfl⟩:=h
    rfl
  | id::l,t,D,D2,z,z2,gone,e,R,ht,hnd,hin,h=>by
    simp only[List.length_cons] at ht;rw[List.nodup_cons] at hnd;unfold zcj at h;unfold keepL;rw[zo9];by_cases hu:zbc z id=true
    · rw[if_pos hu] at h ⊢;exact zlJ R (by omega) hnd.2 (fun q hq=>hin q (List.mem_cons_of_mem _ hq)) h
    · rw[if_neg hu] at h ⊢;have hu0:zbc z id=false:=(by simpa using hu);have hde:zb9 z id=0:=by
        unfold zb9;have:=hin id (by simp);rw[if_neg (by rw[Option.isNone_iff_eq_none];intro hn;rw[hn] at this;cases this),hu0]
        rfl
      obtain ⟨e1,D1,z1,hd,h⟩:=h;have hdo:=zo2 R (by omega) hd;rw[hdo];rcases zcp R.rep (by omega) hd with ⟨rfl,_,_,_,hdr,hs,hm,hx⟩ | ⟨hne,_,he,_⟩ | ⟨_,hn,_⟩
      · rcases h with ⟨hc,_⟩ | ⟨_,g',hk,hg⟩
        · exact absurd rfl hc
        obtain ⟨hL,hn⟩:=zuW hdr;have hin1:∀q∈l,(yq z1.L q).isSome=true:=fun q hq=>by
          obtain ⟨p,hp,hpq⟩:=find_is.1 (hin q (List.mem_cons_of_mem _ hq));exact find_is.2 ⟨p,by rw[hL];exact List.mem_filter.2 ⟨hp,by simp;intro e;exact hnd.1 (by rw[←e,hpq];exact hq)⟩,hpq⟩
        have U1:=R.drop (by omega) hd;obtain ⟨rfl,_⟩:=zgB U1 (by omega) hnd.2 hin1 hk;rw[if_pos rfl] at hg;subst hg;have ih:=zlJ U1 (by omega) hnd.2 hin1 hk;rw[ih]
      · exact absurd (he.trans hde) hne
      · exact absurd R.up hn
end Go.Proofs.YthdjckbjjfiopadGreatDoor
