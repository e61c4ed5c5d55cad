/- The closed fact that a repo works: plain laws. No condition. -/
import Derived.Test.YthdjckbjjfiopacGreatDoorCrL
set_option linter.unusedSimpArgs false
set_option linter.unusedVariables false
namespace Go.Proofs.YthdjckbjjfiopacGreatDoor
open Go.Sl Go.Proofs
theorem wkF:(match zhW (mkG gZ) [] 1 0 1 3 [⟨0,[]⟩,⟨1,[120]⟩,⟨2,[]⟩] with | .ok z=>decide (z.2.2.2=1) && decide (rdE z.1 z.2.1 1 1=([120],0)) | .error _=>false)=true:=by decide+kernel
def wkV0:VdM:=wrD (zhM 3) 1 [120]
def wkV:VdM:=snD wkV0
theorem wk_wr:wrE (zhM 3) 1 [120]=0:=by decide+kernel
theorem wk_sn:snI wkV0=1∧snE wkV0=0:=by decide+kernel
theorem wk_sz:szS wkV 1=(3,0):=by decide+kernel
theorem wk_rd:(rdS wkV 1 0).1=[]∧(rdS wkV 1 0).2.2=0∧(rdS wkV 1 1).1=[120]∧(rdS wkV 1 1).2.2=0∧(rdS wkV 1 2).1=[]∧(rdS wkV 1 2).2.2=0:=by decide+kernel
theorem zxf:zek (mk (ofM (ltM (mk allA) 3))) 0=[0,1,2]:=by decide+kernel
theorem zuK {z:RpM}{y:SeE}(hz:z.ses=[y]){at_:Int}{d:Bytes}(h0:0≤at_∧at_<y.size)(hd:d.length≤6):zbz z y.key at_ d=0∧∀so co,(z.putted y.key at_ d so co).ses=[⟨y.key,y.a,so,co,y.base,y.disk,y.size,zhS y.puts at_ d⟩]:=by
  have hf:fSe z.ses y.key=some y:=(by rw[hz];unfold fSe;rw[List.find?_cons_of_pos (by simp)]);have hi:sIx z.ses y.key=0:=(by rw[hz];unfold sIx;rw[List.findIdx_cons];simp);refine ⟨?_,fun so co=>?_⟩
  · unfold zbz;rw[hf];simp only;rw[if_neg (by omega),if_neg (by omega)]
  · unfold RpM.putted;rw[hf];simp only;unfold RpM.sess;rw[hi,hz]
    rfl
theorem zi1 {V:VdM}{snap:Int}{p:Nat}{l:List Nat}{z z2:RpM}{y:SeE}{e:Int}(hz:z.ses=[y])(hr:(rdS V snap p).2.2=0)(h0:(p:Int)<y.size)(hd:(rdS V snap p).1.length≤6)(h:zcc V snap y.key (p::l) z e z2):
    ∃z' so co,z'.ses=[⟨y.key,y.a,so,co,y.base,y.disk,y.size,zhS y.puts p (rdS V snap p).1⟩]∧zcc V snap y.key l z' e z2:=by
  obtain ⟨a,b⟩:=zuK hz (at_:=(p:Int)) ⟨by omega,h0⟩ hd;unfold zcc at h;rw[if_neg (by omega),if_neg (by omega)] at h;obtain ⟨so,co,h⟩:=h;exact ⟨_,so,co,b so co,h⟩
theorem zu6 {z z1:RpM}{y:SeE}{e1:Int}(hz:z.ses=[y])(hs:y.size=3)(hp:y.puts=[])(h:zcc wkV 1 y.key [0,1,2] z e1 z1):e1=0∧∃so co,z1.ses=[⟨y.key,y.a,so,co,y.base,y.disk,y.size,[⟨0,[]⟩,⟨1,[120]⟩,⟨2,[]⟩]⟩]:=by
  obtain ⟨r1,r2,r3,r4,r5,r6⟩:=wk_rd;obtain ⟨z2,s2,c2,h2,k2⟩:=zi1 hz r2 (by show (0:Int)<y.size;omega) (by show (rdS wkV 1 0).1.length≤6;rw[r1];decide) h;obtain ⟨z3,s3,c3,h3,k3⟩:=zi1 h2 r4 (by show (1:Int)<y.size;omega) (by show (rdS wkV 1 1).1.length≤6;rw[r3];decide) k2;obtain ⟨z4,s4,c4,h4,k4⟩:=zi1 h3 r6 (by show (2:Int)<y.size;omega) (by show (rdS wkV 1 2).1.length≤6;rw[r5];decide) k3;obtain ⟨rfl,rfl⟩:=k4;refine ⟨rfl,s4,c4,?_⟩;rw[h4,hp];show [(⟨_,_,_,_,_,_,_,zhS (zhS (zhS [] 0 (rdS wkV 1 0).1) 1 (rdS wkV 1 1).1) 2 (rdS wkV 1 2).1⟩:SeE)]=_;rw[r1,r3,r5]
  rfl
theorem zv0 {t:Nat}{D D2:DiskM}{z z2:RpM}{n e:Int}(R:Up t D z)(ht:t≤80000)(hS:z.S=mkG gZ)(hL:z.L=[])(hn:z.n=1)(hs:z.ses=[])(k:zmO D wkV z 1 1 0 (mk allA) 2 n e D2 z2):n=1∧e=0∧rdE z2.S z2.L 1 1=([120],0)∧Up (t+2) D2 z2:=by
  have U:=zxg R ht k;unfold zmO at k;rw[wk_sz] at k;simp only[] at k;rw[if_neg (by decide),if_neg (by decide)] at k;have hb:wm z 0 1 3=0:=by
    unfold wm ofE;rw[if_neg (by decide),hs]
    rfl
  rw[if_neg (by omega)] at k;obtain ⟨a,e1,z1,hsn,k⟩:=k;rw[zxf] at hsn;have hnx:=R.next;have hzb:(z.begun a 0 1 3).ses=[⟨z.next,a,none,0,0,1,3,[]⟩]:=by
    unfold RpM.begun;rw[hs]
    rfl
  obtain ⟨K1,S1⟩:=zf7 (R.rep.rok.begin (a:=a) (by omega) hb) hsn;have R1:Up (t+1) D z1:=(R.begun (by omega) hb).same S1 K1;obtain ⟨rfl,so,co,hz1⟩:=zu6 hzb rfl rfl hsn;rcases k with ⟨h,_⟩ | ⟨_,n1,e2,y,hf,k⟩
  · exact absurd rfl h
  have hfs:fSe z1.ses z.next=some ⟨z.next,a,so,co,0,1,3,[⟨0,[]⟩,⟨1,[120]⟩,⟨2,[]⟩]⟩:=by
    rw[hz1];unfold fSe;rw[List.find?_cons_of_pos (by simp)]
  have q1:z1.S=mkG gZ:=S1.2.2.2.1.trans hS;have q2:z1.L=[]:=S1.2.2.2.2.1.trans hL;have q3:z1.n=1:=S1.2.2.2.2.2.1.trans hn;have w:=wkF;rcases ztt R1 (by omega) hf with ⟨_,_,rfl,rfl,⟨hh,_⟩ | ⟨s,hh,hr⟩⟩ | ⟨rfl,_,⟨s,hh,hr⟩,_⟩
  · rw[hh] at hfs;cases hfs
  · rw[hh] at hfs;injection hfs with hfs;subst hfs;rw[q1,q2,q3] at hr;simp only[] at hr;rw[hr] at w;cases w
  · rw[hh] at hfs;injection hfs with hfs;subst hfs;rw[q1,q2,q3] at hr;simp only[] at hr;rw[hr] at w;simp only[Bool.and_eq_true,decide_eq_true_eq] at w;obtain ⟨w1,w2⟩:=w;rcases k with ⟨h,_⟩ | ⟨_,rfl,rfl,rfl⟩
    · exact absurd rfl h
    · exact ⟨w1,rfl,w2,U⟩
end Go.Proofs.YthdjckbjjfiopacGreatDoor
