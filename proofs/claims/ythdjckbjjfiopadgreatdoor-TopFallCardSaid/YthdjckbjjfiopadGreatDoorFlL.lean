/- What an act leaves on a disk that may fail. Plain laws. No condition. -/
import Derived.Test.YthdjckbjjfiopadGreatDoorLrM
import Derived.Test.YthdjckbjjfiopadGreatDoorPartG
set_option linter.unusedSimpArgs false
set_option linter.unusedVariables false
namespace Go.Proofs.YthdjckbjjfiopadGreatDoor
open Go.Sl Go.Proofs
theorem ziP {D:DiskM}(h:¬yU D=0):(yY D).down=true:=by
  unfold yU at h;unfold yY;by_cases hd:D.down=true
  · rw[if_pos hd];exact hd
  · rw[if_neg hd];by_cases hf:D.fuse=0
    · rw[if_pos hf]
    · rw[if_neg (by rintro (h1 | h1) <;> contradiction)] at h;exact absurd rfl h
theorem zvT {D:DiskM}{x:Stp}(h:stE D x=9):(stD D x).down=true:=by
  cases x with
  | none=>
    have h:yU D=9:=h;show (yw D).down=true;unfold yw;rw[if_neg (by omega)];exact ziP (by omega)
  | some y=>
    have h:yO D y.1 y.2=9:=h;show (yv D y.1 y.2).down=true;unfold yO at h;unfold yv;by_cases hb:zif D y.1 y.2
    · rw[if_pos hb] at h;cases h
    · rw[if_neg hb] at h ⊢;rw[if_neg (by omega)];exact ziP (by omega)
theorem zgm:∀{l:List Stp} {D D2:DiskM},we D l=(9,D2)→D2.down=true
  | [],D,D2,h=>by cases h
  | x::l,D,D2,h=>by
    by_cases h0:stE D x=0
    · rw[zcs h0] at h;exact zgm h
    · rw[zbv h0] at h;injection h with h1 h2;subst h2;exact zvT h1
theorem zpV:∀c:List ChangeM,zej c=0∨zej c=2∨zej c=3
  | []=> .inl rfl
  | x::c=>by
    have ih:=zpV c;unfold zej;split
    · exact ih
    · unfold zbu;split
      · exact .inr (.inr rfl)
      · split
        · exact .inr (.inl rfl)
        · exact .inl rfl
theorem ztd {D:DiskM}{h:HdM}{rows:List ChangeM}{many used:Nat}{c:List ChangeM}{D2:DiskM}{h2:HdM}{used2:Nat}{rows2:List ChangeM}(k:ztB D h rows many used c 9 D2 h2 used2 rows2):D2.down=true:=by
  rcases k with ⟨_,h9,_⟩ | ⟨_,e1,D1,h1,used1,hm,k⟩
  · exact absurd h9.symm (zvU _ _ _)
  · rcases k with ⟨_,h9,rfl,_⟩ | ⟨_,h9,rfl,_⟩
    · subst h9;rcases hm with ⟨_,hr,_⟩ | ⟨_,h9,_⟩
      · exact zgm hr
      · cases h9
    · unfold zhP at h9;unfold zdy;split at h9
      · rename_i h0;rw[if_pos h0];exact zgm (Prod.ext h9.symm rfl)
      · rename_i h0;exfalso;unfold zgt at h9;split at h9
        · cases h9
        · split at h9
          · cases h9
          · rcases zpV c with h | h | h <;> rw[h] at h9 <;> cases h9
theorem zgD {D D2:DiskM}{z z2:RpM}{S':SI}{L':List Pt}{n':Int}(k:zos D z S' L' n' 9 D2 z2):D2.down=true:=by
  obtain ⟨h2,used2,rows2,hc,_⟩:=k;exact ztd hc
def zvZ (f:Int)(D:DiskM):DiskM:=⟨D.kept,D.now,D.wait,f,D.down⟩
theorem Rep.arm {t:Nat}{D:DiskM}{z:RpM}(R:Rep t D z){f:Int}(hf: -1≤f∧f≤9223372036854775807):Rep t (zvZ f D) z:=by
  obtain ⟨r0,ds,C,hc⟩:=R.cal;exact ⟨⟨R.ok.1,R.ok.2.1,hf,R.ok.2.2.2.1,R.ok.2.2.2.2⟩,R.s80,⟨r0,ds,⟨C.1,C.2.1.now rfl,C.2.2⟩,hc⟩,R.ep,R.first,R.rows,R.rok⟩
theorem Rep.calm {t:Nat}{D:DiskM}{z:RpM}(R:Rep t D z):D.down=false:=by
  obtain ⟨r0,ds,C,hc⟩:=R.cal;exact C.1.2.2
theorem Rep.free {t:Nat}{D:DiskM}{z:RpM}(R:Rep t D z)(hn:z.next≤1+t):Up t (zvZ (-1) D) z:=⟨R.arm (by decide),⟨R.calm,rfl⟩,hn⟩
theorem Rep.back {t:Nat}{D D0:DiskM}{z:RpM}(R:Rep t (zvZ (-1) D) z)(h: -1≤D.fuse∧D.fuse≤9223372036854775807):Rep t D z:=by
  have:=R.arm (f:=D.fuse) h;exact this
theorem Rep.sub {t:Nat}{D:DiskM}{z:RpM}(R:Rep t D z)(l:List SeE)(h:∀e∈l,e∈z.ses):Rep t D (z.sess l):=
  R.turn (Nat.le_refl _) l z.mou z.next R.rok.next (fun e he=>⟨R.rok.keyS e (h e he),R.rok.sesS e (h e he)⟩) R.rok.keyM
def Fall (t:Nat)(D:DiskM)(φ:List ChangeM→Prop):Prop:=D.down=true∧Fallen t D φ
theorem Fallen.le {t t':Nat}{D:DiskM}{φ ψ:List ChangeM→Prop}(h:Fallen t D φ)(ht:t≤t')(hp:∀x,φ x→ψ x):Fallen t' D ψ:=⟨h.1,h.2.1,h.2.2.mono (by omega) (by omega) hp⟩
theorem Fall.le {t t':Nat}{D:DiskM}{φ ψ:List ChangeM→Prop}(h:Fall t D φ)(ht:t≤t')(hp:∀x,φ x→ψ x):Fall t' D ψ:=⟨h.1,h.2.le ht hp⟩
def ww (σ:LR):List ChangeM:=qL σ.S σ.L σ.n
theorem zsf {t:Nat}{D D2:DiskM}{z z2:RpM}{id n e:Int}(R:Rep t D z)(ht:t≤90000)(k:zoT D z id n e D2 z2):
    (Rep (t+1) D2 z2∧zlN z.lr id=(z2.lr,n,e))∨(e=9∧Fall (t+1) D2 fun x=>x=ww z.lr∨x=ww (zlN z.lr id).1):=by
  unfold zoT at k;unfold zlN;rw[show z.lr.ses=z.ses.map sS from rfl,zq0];obtain ⟨G,hC⟩:=R.rok.con;cases hf:fSe z.ses id with
  | none=>
    rw[hf] at k;simp only at k;obtain ⟨rfl,rfl,rfl,rfl⟩:=k;exact .inl ⟨R.le (by omega),rfl⟩
  | some s=>
    rw[hf] at k;dsimp only[Option.map_some,sS,RpM.lr] at k ⊢;cases hr:zgj z.S z.L z.n s.base s.disk s.size s.puts with
    | error f=>
      rw[hr] at k;obtain ⟨rfl,rfl,rfl,rfl⟩:=k;exact .inl ⟨R.le (by omega),rfl⟩
    | ok r=>
      obtain ⟨S',L',n',r⟩:=r;rw[hr] at k;simp only at k ⊢;obtain ⟨y,hk,hn,rfl⟩:=k;obtain ⟨G',hC'⟩:=zeO hC hr;rcases zeW R (by omega) hC' (P:=L') (by have:=hC'.v.len;omega) (zlH hC.v hr) (fun p hp=>hp) hk with ⟨rfl,R1,_,e1,e2,e3,e4,e5,e6⟩ | ⟨rfl,_,hF⟩
      · rw[if_pos rfl] at hn ⊢;subst hn;refine .inl ⟨R1.sub (dSe y.ses id) fun e he=>(List.mem_filter.1 he).1,Prod.ext ?_ rfl⟩
        symm
        refine zof e1 e2 e3 ?_ ?_ e6
        · show (dSe y.ses id).map sS=rS (z.ses.map sS) id;rw[zvG,e4]
        · show y.mou.map mS=z.mou.map mS;rw[e5]
      · exact .inr ⟨rfl,zgD hk,hF⟩
theorem zsU {t:Nat}{D D2:DiskM}{z z2:RpM}{id n e:Int}(R:Rep t D z)(ht:t≤90000)(k:zd6 D z id n e D2 z2):
    (Rep (t+1) D2 z2∧zlI z.lr id=(z2.lr,n,e))∨(e=9∧Fall (t+1) D2 fun x=>x=ww z.lr∨x=ww (zlI z.lr id).1):=by
  obtain ⟨G,hC⟩:=R.rok.con;unfold zd6 at k;unfold zlI;dsimp only[RpM.lr] at k ⊢;cases hr:zik z.S z.L z.n id with
  | error f=>
    rw[hr] at k;obtain ⟨rfl,rfl,rfl,rfl⟩:=k;exact .inl ⟨R.le (by omega),rfl⟩
  | ok r=>
    obtain ⟨S',L',n',r⟩:=r;rw[hr] at k;simp only at k ⊢;obtain ⟨hk,hn⟩:=k;obtain ⟨G',hC'⟩:=zeL hC hr;rcases zeW R (by omega) hC' (P:=L') (by have:=hC'.v.len;omega) (zlD hC.v hr) (fun p hp=>hp) hk with ⟨rfl,R1,_,e1,e2,e3,e4,e5,e6⟩ | ⟨rfl,_,hF⟩
    · rw[if_pos rfl] at hn;subst hn;refine .inl ⟨R1,Prod.ext ?_ rfl⟩
      symm
      refine zof e1 e2 e3 ?_ ?_ e6
      · show z2.ses.map sS=z.ses.map sS;rw[e4]
      · show z2.mou.map mS=z.mou.map mS;rw[e5]
    · exact .inr ⟨rfl,zgD hk,hF⟩
theorem zpK {t:Nat}{D D2:DiskM}{z z2:RpM}{id e:Int}(R:Rep t D z)(ht:t≤90000)(k:ze4 D z id e D2 z2):
    (e≠9∧Rep (t+1) D2 z2∧zcN z.lr id=(z2.lr,e))∨(e=9∧Fall (t+1) D2 fun x=>x=ww z.lr∨x=ww (zcN z.lr id).1):=by
  have k0:=k;unfold zcN;rw[znZ];rcases zcu R (by omega) k with ⟨rfl,R1,_,h1,h2,h3,h4,h5⟩ | ⟨h1,h9,h2,rfl,rfl⟩ | ⟨rfl,_,h1,S',L',h2,hF⟩
  · rw[if_neg (by omega)];refine .inl ⟨by decide,R1,?_⟩;show (match zhY z.S z.L z.n id with | .error f=>_ | .ok r=>_)=_;rw[h2];refine Prod.ext ?_ rfl
    symm
    refine zof rR rR rR ?_ ?_ h5
    · show _=z.ses.map sS;rw[h3]
    · show _=z.mou.map mS;rw[h4]
  · rw[if_pos (by omega),h2];exact .inl ⟨by omega,R.le (by omega),rfl⟩
  · rw[if_neg (by omega)];refine .inr ⟨rfl,?_,?_⟩
    · unfold ze4 at k0;rw[if_neg (by omega)] at k0;obtain ⟨_,_,_,hk⟩:=k0;exact zgD hk
    · refine hF.le (Nat.le_refl _) fun x hx=>?_;dsimp only[RpM.lr];rw[h2];exact hx
theorem zrH {t:Nat}{D D2:DiskM}{z z2:RpM}{e:Int}(R:Rep t D z)(ht:t≤90000)(k:zwy D z e D2 z2):
    (Rep (t+1) D2 z2∧e=0∧z2.lr=z.lr)∨(e=9∧Fall (t+1) D2 fun x=>x=ww z.lr):=by
  obtain ⟨hr,k⟩:=k;obtain ⟨r0,ds,C,hcur⟩:=R.cal;have hep:=R.ep;have hfi:=R.first;rw[←hcur] at hr;have hs:=zuf R.ok R.s80 C.2.1 hr;rcases zjA C.1 C.2.1 C.2.2 (by omega) (by omega) hr with ⟨rfl,C1⟩ | ⟨rfl,hF⟩
  · rcases k with ⟨hx,_⟩ | ⟨_,d',u',_,hsc,rfl⟩
    · exact absurd rfl hx
    · have hlg:=C1.2.1.good.log;rw[C1.2.1.len] at hlg;have hu:=(ze0 hsc hlg).2;subst hu;rw[hcur] at C1;exact .inl ⟨⟨zjv hs.1 C1.1,hs.2,⟨z.rows,[],C1,rfl⟩,by show z.h.ep+1≤_;omega,by show z.h.first+(200 - 122)≤_;omega,R.rows,⟨R.rok.con,R.rok.next,R.rok.keyS,R.rok.keyM,R.rok.sesS⟩⟩,rfl,rfl⟩
  · refine .inr ⟨rfl,zgm hr,za3 hs.1 (by omega),hs.2,hF.mono (by omega) (by omega) fun x hx=>?_⟩;rw[hx,hcur,R.rows]
    rfl
theorem zrK {D D2:DiskM}{z z2:RpM}{x:ActM}{n e:Int}{s:Bytes}(k:zac D z x n s e D2 z2)(h1:¬x.kind=dkFin)(h2:¬x.kind=dkAgn)(h3:¬x.kind=dkDrp)(h4:¬x.kind=dkKee)(h5:¬x.kind=dkSav):D2=D∧∀D',zac D' z x n s e D' z2:=by
  unfold zac at k ⊢;by_cases h:x.kind=dkBeg
  · rw[if_pos h] at k;exact ⟨k.2.1,fun D'=>by rw[if_pos h];exact ⟨k.1,rfl,k.2.2⟩⟩
  rw[if_neg h] at k;have g1:=h;by_cases h:x.kind=dkPut
  · rw[if_pos h] at k;exact ⟨k.2.2.1,fun D'=>by rw[if_neg g1,if_pos h];exact ⟨k.1,k.2.1,rfl,k.2.2.2⟩⟩
  rw[if_neg h,if_neg h1] at k;have g2:=h;by_cases h:x.kind=dkAbo
  · rw[if_pos h] at k;exact ⟨k.2.2.1,fun D'=>by rw[if_neg g1,if_neg g2,if_neg h1,if_pos h];exact ⟨k.1,k.2.1,rfl,k.2.2.2⟩⟩
  rw[if_neg h,if_neg h2,if_neg h3,if_neg h4] at k;have g3:=h;by_cases h:x.kind=dkMou
  · rw[if_pos h] at k;exact ⟨k.2.1,fun D'=>by rw[if_neg g1,if_neg g2,if_neg h1,if_neg g3,if_neg h2,if_neg h3,if_neg h4,if_pos h];exact ⟨k.1,rfl,k.2.2⟩⟩
  rw[if_neg h] at k;have g4:=h;by_cases h:x.kind=dkUnm
  · rw[if_pos h] at k;exact ⟨k.2.2.1,fun D'=>by rw[if_neg g1,if_neg g2,if_neg h1,if_neg g3,if_neg h2,if_neg h3,if_neg h4,if_neg g4,if_pos h];exact ⟨k.1,k.2.1,rfl,k.2.2.2⟩⟩
  rw[if_neg h] at k;have g5:=h;by_cases h:x.kind=dkRea
  · rw[if_pos h] at k;exact ⟨k.2.2.2.1,fun D'=>by rw[if_neg g1,if_neg g2,if_neg h1,if_neg g3,if_neg h2,if_neg h3,if_neg h4,if_neg g4,if_neg g5,if_pos h];exact ⟨k.1,k.2.1,k.2.2.1,rfl,k.2.2.2.2⟩⟩
  rw[if_neg h] at k;have g6:=h;by_cases h:x.kind=dkWri
  · rw[if_pos h] at k;exact ⟨k.2.2.1,fun D'=>by rw[if_neg g1,if_neg g2,if_neg h1,if_neg g3,if_neg h2,if_neg h3,if_neg h4,if_neg g4,if_neg g5,if_neg g6,if_pos h];exact ⟨k.1,k.2.1,rfl,k.2.2.2⟩⟩
  rw[if_neg h,if_neg h5] at k;exact ⟨k.2.2.2.1,fun D'=>by rw[if_neg g1,if_neg g2,if_neg h1,if_neg g3,if_neg h2,if_neg h3,if_neg h4,if_neg g4,if_neg g5,if_neg g6,if_neg h,if_neg h5];exact ⟨k.1,k.2.1,k.2.2.1,rfl,k.2.2.2.2⟩⟩
theorem zsm {t:Nat}{D D2:DiskM}{z z2:RpM}{x:ActM}{n e:Int}{s:Bytes}(R:Rep t D z)(hn:z.next≤1+t)(ht:t≤80000)(hk:¬x.kind=dkKee)(k:zac D z x n s e D2 z2):
    (Rep (t+7) D2 z2∧z2.next≤1+((t+7:Nat):Int)∧wX z.lr x=(z2.lr,n,s,e))∨(e=9∧Fall (t+7) D2 fun r=>r=ww z.lr∨r=ww (wX z.lr x).1):=by
  by_cases hFin:x.kind=dkFin
  · have hs:wX z.lr x=((zlN z.lr x.a).1,(zlN z.lr x.a).2.1,[],(zlN z.lr x.a).2.2):=by
      unfold wX;rw[if_neg (by rw[hFin];decide),if_neg (by rw[hFin];decide),if_pos hFin]
    unfold zac at k;rw[if_neg (by rw[hFin];decide),if_neg (by rw[hFin];decide),if_pos hFin] at k;obtain ⟨rfl,k⟩:=k;rcases zsf R (by omega) k with ⟨R1,h1⟩ | ⟨h9,hF⟩
    · have hnx:z2.next=z.next:=by
        have:=congrArg (fun q:LR×Int×Int=>q.1.next) h1;simp only at this;rw[show z2.next=z2.lr.next from rfl,←this];unfold zlN;split
        · rfl
        · split <;> rfl
      exact .inl ⟨R1.le (by omega),by rw[hnx];omega,by rw[hs,h1]⟩
    · exact .inr ⟨h9,hF.le (by omega) fun r hr=>by rw[hs];exact hr⟩
  by_cases hAgn:x.kind=dkAgn
  · have hs:wX z.lr x=((zlI z.lr x.a).1,(zlI z.lr x.a).2.1,[],(zlI z.lr x.a).2.2):=by
      unfold wX;rw[if_neg (by rw[hAgn];decide),if_neg (by rw[hAgn];decide),if_neg hFin,if_neg (by rw[hAgn];decide),if_pos hAgn]
    unfold zac at k;rw[if_neg (by rw[hAgn];decide),if_neg (by rw[hAgn];decide),if_neg hFin,if_neg (by rw[hAgn];decide),if_pos hAgn] at k;obtain ⟨rfl,k⟩:=k;rcases zsU R (by omega) k with ⟨R1,h1⟩ | ⟨h9,hF⟩
    · have hnx:z2.next=z.next:=by
        have:=congrArg (fun q:LR×Int×Int=>q.1.next) h1;simp only at this;rw[show z2.next=z2.lr.next from rfl,←this];unfold zlI;split <;> rfl
      exact .inl ⟨R1.le (by omega),by rw[hnx];omega,by rw[hs,h1]⟩
    · exact .inr ⟨h9,hF.le (by omega) fun r hr=>by rw[hs];exact hr⟩
  by_cases hDrp:x.kind=dkDrp
  · have hs:wX z.lr x=((zcN z.lr x.a).1,0,[],(zcN z.lr x.a).2):=by
      unfold wX;rw[if_neg (by rw[hDrp];decide),if_neg (by rw[hDrp];decide),if_neg hFin,if_neg (by rw[hDrp];decide),if_neg hAgn,if_pos hDrp]
    unfold zac at k;rw[if_neg (by rw[hDrp];decide),if_neg (by rw[hDrp];decide),if_neg hFin,if_neg (by rw[hDrp];decide),if_neg hAgn,if_pos hDrp] at k;obtain ⟨rfl,rfl,k⟩:=k;rcases zpK R (by omega) k with ⟨_,R1,h1⟩ | ⟨h9,hF⟩
    · have hnx:z2.next=z.next:=by
        have:=congrArg (fun q:LR×Int=>q.1.next) h1;simp only at this;rw[show z2.next=z2.lr.next from rfl,←this];unfold zcN;split
        · rfl
        · split <;> rfl
      exact .inl ⟨R1.le (by omega),by rw[hnx];omega,by rw[hs,h1]⟩
    · exact .inr ⟨h9,hF.le (by omega) fun r hr=>by rw[hs];exact hr⟩
  by_cases hSav:x.kind=dkSav
  · have hs:wX z.lr x=(z.lr,0,[],0):=by
      unfold wX;rw[if_neg (by rw[hSav];decide),if_neg (by rw[hSav];decide),if_neg hFin,if_neg (by rw[hSav];decide),if_neg hAgn,if_neg hDrp,if_neg hk,if_neg (by rw[hSav];decide),if_neg (by rw[hSav];decide),if_neg (by rw[hSav];decide),if_neg (by rw[hSav];decide)]
    unfold zac at k;rw[if_neg (by rw[hSav];decide),if_neg (by rw[hSav];decide),if_neg hFin,if_neg (by rw[hSav];decide),if_neg hAgn,if_neg hDrp,if_neg hk,if_neg (by rw[hSav];decide),if_neg (by rw[hSav];decide),if_neg (by rw[hSav];decide),if_neg (by rw[hSav];decide),if_pos hSav] at k;obtain ⟨rfl,rfl,k⟩:=k;rcases zrH R (by omega) k with ⟨R1,rfl,h1⟩ | ⟨h9,hF⟩
    · exact .inl ⟨R1.le (by omega),by rw[show z2.next=z2.lr.next from rfl,h1];show z.next≤_;omega,by rw[hs,h1]⟩
    · exact .inr ⟨h9,hF.le (by omega) fun r hr=> .inl hr⟩
  obtain ⟨rfl,h⟩:=zrK k hFin hAgn hDrp hk hSav;have U:=R.free hn;have h':=h (zvZ (-1) D2);have U2:=zgU U (by omega) h';exact .inl ⟨Rep.back (D0:=D2) U2.rep R.ok.2.2.1,U2.next,zmK U ht h'⟩
end Go.Proofs.YthdjckbjjfiopadGreatDoor
