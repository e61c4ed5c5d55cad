/- Backups: each point is what its snap was. Plain laws. No condition. -/
import Derived.Test.YthdjckbjjfiopadGreatDoorCrN
import Derived.Test.YthdjckbjjfiopadGreatDoorFlM
import Derived.Test.YthdjckbjjfiopadGreatDoorCoverLaw
set_option linter.unusedSimpArgs false
set_option linter.unusedVariables false
namespace Go.Proofs.YthdjckbjjfiopadGreatDoor
open Go.Sl Go.Proofs
def ivM (l:List (Int×Int)):MM:=l.map fun p=>(p.1,I p.2)
def ivL:List (Int×Int)→Int→Option Int
  | [],_=>none
  | p::l,q=>if p.1=q then some p.2 else ivL l q
def ivS (l:List (Int×Int))(q d:Int):List (Int×Int):=if (ivL l q).isSome then l.map fun p=>if p.1=q then (q,d) else p else l++ [(q,d)]
theorem zpW:∀(l:List (Int×Int)) (q:Int),lk (ivM l) q=(ivL l q).map I
  | [],q=>rfl
  | p::l,q=>by
    have ih:=zpW l q;simp only[ivM,List.map_cons,lk,ivL] at ih ⊢;split
    · rfl
    · exact ih
theorem zi7 (l:List (Int×Int))(q d:Int):zii (ivM l) q (I d)=ivM (ivS l q d):=by
  unfold zii ivS;rw[zpW,Option.isSome_map];split
  · unfold ivM;rw[List.map_map,List.map_map];refine List.map_congr_left fun p _=>?_;simp only[Function.comp];split <;> rfl
  · simp[ivM]
theorem zw9 {x y:Int}(h:I x=I y):x=y:=by injection h
theorem zxp (l:List (Int×Int))(q d k:Int):ivL (ivS l q d) k=if q=k then some d else ivL l k:=by
  have h:=zjg (ivM l) q (I d) k;rw[zi7,zpW,zpW] at h;split
  · rename_i hq;rw[if_pos hq] at h;cases hv:ivL (ivS l q d) k with
    | none=>rw[hv] at h;cases h
    | some x=>rw[hv] at h;injection h with h;rw[zw9 h]
  · rename_i hq;rw[if_neg hq] at h;cases hv:ivL (ivS l q d) k with
    | none=>rw[hv] at h;cases hw:ivL l k with
      | none=>rfl
      | some y=>rw[hw] at h;cases h
    | some x=>rw[hv] at h;cases hw:ivL l k with
      | none=>rw[hw] at h;cases h
      | some y=>rw[hw] at h;injection h with h;rw[zw9 h]
def ivG (l:List (Int×Int))(k:Int):Int:=(ivL l k).getD 0
theorem zvC (l:List (Int×Int))(q d k:Int):ivG (ivS l q d) k=if q=k then d else ivG l k:=by
  unfold ivG;rw[zxp];split <;> rfl
theorem ziY (l:List (Int×Int))(q:Int):(lk (ivM l) q).getD (I 0)=I (ivG l q):=by rw[zpW];unfold ivG;cases ivL l q <;> rfl
def zrQ (V:VdM):Prop:=1≤V.next∧∀s∈V.snaps,1≤s.id∧s.id<V.next
theorem zmJ (n:Int):zrQ (zbX n):=⟨by simp[zbX],fun s hs=>by simp[zbX] at hs⟩
theorem zhF {V:VdM}(h:zrQ V)(x:ActM):V.next≤(ze8 V x).next∧zrQ (ze8 V x)∧∀s'∈(ze8 V x).snaps,s'.id<V.next→∃s∈V.snaps,s.id=s'.id∧s.size=s'.size∧s.blocks=s'.blocks:=by
  have same:∀V':VdM,V'.next=V.next→V'.snaps=V.snaps→V.next≤V'.next∧zrQ V'∧∀s'∈V'.snaps,s'.id<V.next→∃s∈V.snaps,s.id=s'.id∧s.size=s'.size∧s.blocks=s'.blocks:=fun V' e1 e2=>
    ⟨by omega,⟨by rw[e1];exact h.1,by rw[e1,e2];exact h.2⟩,fun s hs _=>⟨s,by rw[←e2];exact hs,rfl,rfl,rfl⟩⟩
  unfold ze8;split
  · unfold wrD;split <;> exact same _ rfl rfl
  split
  · unfold rsD;split <;> exact same _ rfl rfl
  split
  · unfold snD;split
    · refine ⟨by show V.next≤V.next+1;omega,⟨by show 1≤V.next+1;have:=h.1;omega,fun s hs=>?_⟩,fun s hs hlt=>?_⟩
      · rcases List.mem_append.1 hs with hs | hs
        · have:=h.2 s hs;show 1≤s.id∧s.id<V.next+1;omega
        · rw[List.mem_singleton] at hs;subst hs;have:=h.1;show 1≤V.next∧V.next<V.next+1;omega
      · rcases List.mem_append.1 hs with hs | hs
        · exact ⟨s,hs,rfl,rfl,rfl⟩
        · rw[List.mem_singleton] at hs;subst hs;exact absurd hlt (by show ¬V.next<V.next;omega)
    · exact same _ rfl rfl
  split
  · unfold drD;split
    · exact same _ rfl rfl
    · generalize (wm V.snaps x.a).toNat=k;have key:∀s'∈(zgr V k).eraseIdx k,∃s∈V.snaps,s.id=s'.id∧s.size=s'.size∧s.blocks=s'.blocks:=fun s' hs=>by
        have h5:=List.mem_of_mem_eraseIdx hs;unfold zgr at h5;split at h5
        · rename_i hc;rcases List.mem_or_eq_of_mem_set h5 with h6 | h6
          · exact ⟨s',h6,rfl,rfl,rfl⟩
          · exact ⟨zah V (k+1),zft hc.1,by rw[h6];exact ⟨rfl,rfl,rfl⟩⟩
        · exact ⟨s',h5,rfl,rfl,rfl⟩
      refine ⟨Int.le_refl _,⟨h.1,fun s hs=>?_⟩,fun s hs _=>key s hs⟩;obtain ⟨s0,h0,e,_⟩:=key s hs;rw[←e];exact h.2 s0 h0
  split
  · exact same _ rfl rfl
  · exact same _ rfl rfl
theorem zp0 {V:VdM}(h:iok V):inv V.snaps:=zqA (c:=zhW V) h
theorem zwe {V:VdM}(h:iok V){s:SnapM}(hs:s∈V.snaps):szS V s.id=(s.size,0)∧∀n,rdS V s.id n=if n<0∨s.size≤n then ([],0,1) else (s.blocks n.toNat,s.size,0):=by
  obtain ⟨i,hi⟩:=List.getElem?_of_mem hs;have hf:=zsB (zp0 h) hi;refine ⟨?_,fun n=>zuL hf hi⟩;unfold szS;rw[hf,if_neg (by omega),Int.toNat_natCast,yI hi]
theorem zwT {V:VdM}{id:Int}(h:(szS V id).2=0):∃s∈V.snaps,s.id=id:=by
  unfold szS at h;split at h
  · cases h
  · rename_i hf;obtain ⟨i,s,_,h2,h3,_⟩:=zaJ hf;exact ⟨s,List.mem_of_getElem? h2,by assumption⟩
theorem zsJ {V:VdM}(hi:iok V)(h:zrQ V)(x:ActM){id:Int}(hid:id<V.next)(hs:(szS (ze8 V x) id).2=0):szS V id=szS (ze8 V x) id∧∀n,rdS V id n=rdS (ze8 V x) id n:=by
  obtain ⟨s',h1,rfl⟩:=zwT hs;obtain ⟨s,h2,e1,e2,e3⟩:=(zhF h x).2.2 s' h1 hid;obtain ⟨a1,a2⟩:=zwe (zrh hi x) h1;obtain ⟨b1,b2⟩:=zwe hi h2;rw[e1] at b1 b2;refine ⟨by rw[a1,b1,e2],fun n=>?_⟩;rw[a2,b2,e2,e3]
def AsS (V:VdM)(snap:Int)(S:SI)(p:Pt):Prop:=(szS V snap).2=0→p.size=(szS V snap).1∧blk S p=(List.range p.size.toNat).map fun i=>(rdS V snap (i:Nat)).1
structure Bku (V:VdM) (of:List (Int×Int)) (S:SI) (L:List Pt) (n:Int):Prop where
  key:∀q,ivL of q≠none→1≤q∧q<n
  val:∀q,ivG of q<V.next
  as_:∀p∈L,AsS V (ivG of p.id) S p
theorem Bku.less {V:VdM}{of:List (Int×Int)}{S:SI}{L:List Pt}{n:Int}{S':SI}{L':List Pt}(h:Bku V of S L n)(k:Less S L S' L'):Bku V of S' L' n:=⟨h.key,h.val,fun p hp hs=>by
  obtain ⟨a,b⟩:=k p hp;rw[←b];exact h.as_ p a hs⟩
theorem Bku.chg {V:VdM}{of:List (Int×Int)}{S:SI}{L:List Pt}{n:Int}(h:Bku V of S L n)(hi:iok V)(hk:zrQ V)(x:ActM):Bku (ze8 V x) of S L n:=⟨h.key,fun q=>by have:=h.val q;have:=(zhF hk x).1;omega,fun p hp hs=>by
  obtain ⟨a,b⟩:=zsJ hi hk x (h.val p.id) hs;obtain ⟨c,d⟩:=h.as_ p hp (by rw[a];exact hs);refine ⟨by rw[c,a],?_⟩;rw[d];exact List.map_congr_left fun i _=>by rw[b]⟩
theorem Bku.new {V:VdM}{of:List (Int×Int)}{S:SI}{L:List Pt}{n:Int}{G G':Gh}{S':SI}{q:Pt}{snap:Int}(h:Bku V of S L n)(hV:Vok S L n G)(h':S'=mkG G')(k:zdY G G' (L.map (·.root)))(hq:q.id=n)(hsn:snap<V.next)(ha:AsS V snap S' q):Bku V (ivS of n snap) S' (L++ [q]) (n+1):=by
  have hn1:=hV.n1;refine ⟨fun j hj=>?_,fun j=>?_,fun p hp=>?_⟩
  · rw[zxp] at hj;split at hj
    · omega
    · have:=h.key j hj;omega
  · rw[zvC];split
    · exact hsn
    · exact h.val j
  · rcases List.mem_append.1 hp with hp | hp
    · have hb:=hV.pts p hp;rw[zvC,if_neg (by omega)];intro hs;have e:blk S p=blk S' p:=(by rw[hV.e,h'];exact zhg k hp hb.2.2.2);rw[←e];exact h.as_ p hp hs
    · rw[List.mem_singleton] at hp;subst hp;rw[hq,zvC,if_pos rfl];exact ha
theorem zun {S:SI}{p:Pt}{i:Nat}(h:(i:Int)<p.size):(blk S p)[i]? =some (zdZ S p.root i):=by
  unfold blk;rw[List.getElem?_map,List.getElem?_range (by omega)]
  rfl
theorem zwA {V:VdM}{S:SI}{L:List Pt}{n:Int}{G:Gh}{disk snap:Int}{puts:List PutM}{S':SI}{L':List Pt}{n' r:Int}(hV:Vok S L n G)(hr:zgc S L n 0 disk (szS V snap).1 puts= .ok (S',L',n',r))
    (hp:∀i d,zcW puts i d=if i<16∧mk allA i=true∧(i:Int)<(szS V snap).1 then (rdS V snap i).1 else d):∃G' q,r=n∧n'=n+1∧L'=L++ [q]∧q.id=n∧S'=mkG G'∧zdY G G' (L.map (·.root))∧AsS V snap S' q:=by
  obtain ⟨G',root,hV',k,e1,e2,e3,_,hsz,_,hg⟩:=zhw hV hr;refine ⟨G',_,e3,e2,e1,rfl,hV'.e,k,fun _=>⟨rfl,?_⟩⟩;unfold blk;refine List.map_congr_left fun i hi=>?_;rw[List.mem_range] at hi;have hi:i<(szS V snap).1.toNat:=hi;show zdZ S' root i=_;have hall:mk allA i=true:=(by unfold mk allA;simp;omega);rw[hg i (by omega),hp,if_pos ⟨by omega,hall,by omega⟩]
theorem zuQ {V:VdM}{of:List (Int×Int)}{S:SI}{L:List Pt}{n:Int}{G:Gh}{disk snap base:Int}{puts:List PutM}{S':SI}{L':List Pt}{n' r:Int}(hV:Vok S L n G)(hi:iok V)(hk:zrQ V)(h:Bku V of S L n)(hs0:(szS V snap).2=0)(hce:chE V (ivG of base) snap=0)
    (hb:ofE L base disk=0) (hr:zgc S L n base disk (szS V snap).1 puts= .ok (S',L',n',r))
    (hp:∀i d,zcW puts i d=if i<16∧mk (chA V (ivG of base) snap) i=true∧(i:Int)<(szS V snap).1 then (rdS V snap i).1 else d):∃G' q,r=n∧n'=n+1∧L'=L++ [q]∧q.id=n∧S'=mkG G'∧zdY G G' (L.map (·.root))∧AsS V snap S' q:=by
  obtain ⟨G',root,hV',k,e1,e2,e3,_,hsz,_,hg⟩:=zhw hV hr;refine ⟨G',_,e3,e2,e1,rfl,hV'.e,k,fun _=>⟨rfl,?_⟩⟩;unfold blk;refine List.map_congr_left fun i hi2=>?_;rw[List.mem_range] at hi2;have hi2:i<(szS V snap).1.toNat:=hi2;show zdZ S' root i=_;rw[hg i (by omega),hp];by_cases hm:mk (chA V (ivG of base) snap) i=true
  · rw[if_pos ⟨by omega,hm,by omega⟩]
  · rw[if_neg (fun hh=>hm hh.2.1)];have hsince:(szS V (ivG of base)).2=0:=by
      unfold chE at hce;unfold szS;by_cases hx:wm V.snaps (ivG of base)<0∨wm V.snaps snap<0
      · rw[if_pos hx] at hce;cases hce
      · rw[if_neg (fun hh=>hx (.inl hh))]
    have hun:zr0 V (ivG of base) snap i=false:=by
      cases hu:zr0 V (ivG of base) snap i with
      | false=>rfl
      | true=>exact absurd (cover hi hce (show i<16 by omega) hu) hm
    unfold zr0 at hun;have hri:=zwU hs0 (show (i:Int)<(szS V snap).1 by omega);rw[Bool.or_eq_false_iff] at hun;obtain ⟨u1,u2⟩:=hun;simp only[Bool.not_eq_false',decide_eq_true_eq] at u1 u2;rw[decide_eq_true hri,decide_eq_true_eq] at u2;obtain ⟨s,hsm,hsid⟩:=zwT hsince;obtain ⟨z1,z2⟩:=zwe hi hsm;rw[hsid] at z1 z2;have hin:(i:Int)<(szS V (ivG of base)).1:=by
      rw[z1];have h3:=u2;rw[z2] at h3;split at h3
      · cases h3
      · rename_i hc;show (i:Int)<s.size;omega
    by_cases hb0:base=0
    · exfalso;have h0:ivG of base=0:=by
        unfold ivG;cases hv:ivL of base with
        | none=>rfl
        | some x=>have:=h.key base (by rw[hv];simp);omega
      have:=(hk.2 s hsm).1;omega
    · rw[if_neg hb0];unfold ofE at hb;rw[if_neg hb0] at hb;cases hf:yq L base with
      | none=>rw[hf] at hb;cases hb
      | some p=>
        simp only;obtain ⟨hpm,hpid⟩:=yR hf;have ha:=h.as_ p hpm;rw[hpid] at ha;obtain ⟨a1,a2⟩:=ha hsince;rw[if_neg (by omega)];have e:=zun (S:=S) (p:=p) (i:=i) (by omega);rw[a2,List.getElem?_map,List.getElem?_range (by omega)] at e;injection e with e;rw[←e,←u1]
theorem zxc {V:VdM}{of:List (Int×Int)}{S:SI}{L:List Pt}{n id:Int}{G:Gh}{S':SI}{L':List Pt}{n' r:Int}(hV:Vok S L n G)(h:Bku V of S L n)(hr:ziI S L n id= .ok (S',L',n',r)):∃G' q,r=n∧n'=n+1∧L'=L++ [q]∧q.id=n∧S'=mkG G'∧zdY G G' (L.map (·.root))∧AsS V (ivG of id) S' q:=by
  obtain ⟨G',p,hV',hf,k,e1,e2,e3⟩:=ziU hV hr;obtain ⟨hpm,hpid⟩:=yR hf;refine ⟨G',_,e3,e2,e1,rfl,hV'.e,k,fun hs=>?_⟩;have ha:=h.as_ p hpm;rw[hpid] at ha;obtain ⟨a1,a2⟩:=ha hs;refine ⟨a1,?_⟩;have e:blk S p=blk S' p:=(by rw[hV.e,hV'.e];exact zhg k hpm (hV.pts p hpm).2.2.2);rw[e] at a2;exact a2
theorem ztR {t:Nat}{D D2:DiskM}{V:VdM}{of:List (Int×Int)}{z z2:RpM}{snap base:Int}{m:Nat→Bool}{page n e:Int}(R:Up t D z)(ht:t≤80000)(hd:dlk V)(hi:iok V)(hk:zrQ V)(h:Bku V of z.S z.L z.n)
    (hm:(base=0∧m=mk allA)∨(chE V (ivG of base) snap=0∧m=mk (chA V (ivG of base) snap))) (k:zj7 D V z 1 snap base m page n e D2 z2):(e≠0∧Bku V of z2.S z2.L z2.n)∨(e=0∧Bku V (ivS of n snap) z2.S z2.L z2.n):=by
  obtain ⟨G,hC⟩:=R.rep.rok.con;obtain ⟨_,_,⟨h1,h2,h3,h4⟩ | ⟨h1,hs0,hb,puts,hr,hp⟩⟩:=zyq R ht hd k
  · exact .inl ⟨h1,by rw[h2,h3,h4];exact h⟩
  · refine .inr ⟨h1,?_⟩;have hsn:snap<V.next:=by
      obtain ⟨s,hs,rfl⟩:=zwT hs0;exact (hk.2 s hs).2
    have hof:ofE z.L base 1=0:=by
      unfold wu at hb;split at hb
      · cases hb
      · split at hb
        · rename_i hx;exact absurd hb hx
        · omega
    have key:∃G' q,n=z.n∧z2.n=z.n+1∧z2.L=z.L++ [q]∧q.id=z.n∧z2.S=mkG G'∧zdY G G' (z.L.map (·.root))∧AsS V snap z2.S q:=by
      rcases hm with ⟨rfl,rfl⟩ | ⟨hce,rfl⟩
      · exact zwA hC.v hr hp
      · exact zuQ hC.v hi hk h hs0 hce hof hr hp
    obtain ⟨G',q,e1,e2,e3,e4,e5,e6,e7⟩:=key;rw[e1,e2,e3];exact h.new hC.v e5 e6 e4 hsn e7
theorem zxr {t:Nat}{D D2:DiskM}{V:VdM}{of:List (Int×Int)}{z z2:RpM}{id n e:Int}(R:Up t D z)(ht:t≤80000)(h:Bku V of z.S z.L z.n)(k:zg1 D z id n e D2 z2):Up (t+1) D2 z2∧((e≠0∧Bku V of z2.S z2.L z2.n)∨(e=0∧Bku V (ivS of n (ivG of id)) z2.S z2.L z2.n)):=by
  obtain ⟨G,hC⟩:=R.rep.rok.con;obtain ⟨ha,U⟩:=zxx R (by omega) k;refine ⟨U,?_⟩;unfold agnL at ha;dsimp only[RpM.lr] at ha;cases hr:ziI z.S z.L z.n id with
  | error f=>
    rw[hr] at ha;injection ha with h1 h2;injection h2 with h3 h4;have:=zmY hr;injection h1 with a1 a2 a3;exact .inl ⟨by omega,by rw[←a1,←a2,←a3];exact h⟩
  | ok r=>
    obtain ⟨S',L',n',r⟩:=r;rw[hr] at ha;injection ha with h1 h2;injection h2 with h3 h4;injection h1 with a1 a2 a3;simp only at a1 a2 a3 h3 h4;obtain ⟨G',q,e1,e2,e3,e4,e5,e6,e7⟩:=zxc (of:=of) hC.v h hr;refine .inr ⟨h4.symm,?_⟩;rw[←h3,←a1,←a2,←a3,e1,e2,e3];exact h.new hC.v e5 e6 e4 (h.val id) e7
theorem zvw {t:Nat}{D D2:DiskM}{V:VdM}{of:List (Int×Int)}{z z2:RpM}{id e:Int}(R:Up t D z)(ht:t≤80000)(h:Bku V of z.S z.L z.n)(k:zf4 D z id e D2 z2):Bku V of z2.S z2.L z2.n:=by
  obtain ⟨G,hC⟩:=R.rep.rok.con;have hd:=zo2 R (by omega) k;obtain ⟨_,hl⟩:=zj8 (σ:=z.lr) hC id;rw[hd] at hl;have hn:z2.n=z.n:=by
    rcases zcp R.rep (by omega) k with ⟨_,_,_,_,hdr,_⟩ | ⟨_,_,_,_,rfl⟩ | ⟨_,hn,_⟩
    · exact (zuW hdr).2
    · rfl
    · exact absurd R.up hn
  rw[hn];exact h.less hl
theorem zvc {t:Nat}{D D2:DiskM}{V:VdM}{of:List (Int×Int)}{z z2:RpM}{disk many e:Int}{gone:List Int}(R:Up t D z)(ht:t≤80000)(h:Bku V of z.S z.L z.n)(k:zcj (zfY z.L disk many) D z gone e D2 z2):Bku V of z2.S z2.L z2.n:=by
  obtain ⟨G,hC⟩:=R.rep.rok.con;have hel:=zmb z.L disk many hC.v.len;obtain ⟨h2,h3⟩:=zud hC.v disk many;have hk:=zlJ R (by omega) h2 h3 k;obtain ⟨_,hl⟩:=zhP (l:=zfY z.L disk many) (σ:=z.lr) hC;rw[hk] at hl;obtain ⟨_,_,_,_,_,_,_,hn,_⟩:=zqu R ht k;rw[hn];exact h.less hl
theorem zuJ (V:VdM)(n:Int)(h:1≤V.next)(S:SI):Bku V [] S [] n:=⟨fun q hq=>absurd rfl hq,fun q=>by show (0:Int)<V.next;omega,fun p hp=>by cases hp⟩
end Go.Proofs.YthdjckbjjfiopadGreatDoor
