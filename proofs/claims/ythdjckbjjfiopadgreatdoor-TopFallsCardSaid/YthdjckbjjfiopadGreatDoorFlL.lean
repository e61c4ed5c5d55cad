/- What an act leaves on a disk that may fail. Plain laws. No condition. -/
import Derived.Test.YthdjckbjjfiopadGreatDoorLrM
import Derived.Test.YthdjckbjjfiopadGreatDoorPartF
set_option linter.unusedSimpArgs false
set_option linter.unusedVariables false
namespace Go.Proofs.YthdjckbjjfiopadGreatDoor
open Go.Sl Go.Proofs
theorem zin {D:DiskM}(h:¬yV D=0):(yZ D).down=true:=by
  unfold yV at h;unfold yZ;by_cases hd:D.down=true
  · rw[if_pos hd];exact hd
  · rw[if_neg hd];by_cases hf:D.fuse=0
    · rw[if_pos hf]
    · rw[if_neg (by rintro (h1 | h1) <;> contradiction)] at h;exact absurd rfl h
theorem zvZ {D:DiskM}{x:Stp}(h:stE D x=9):(stD D x).down=true:=by
  cases x with
  | none=>
    have h:yV D=9:=h;show (yx D).down=true;unfold yx;rw[if_neg (by omega)];exact zin (by omega)
  | some y=>
    have h:yO D y.1 y.2=9:=h;show (yy D y.1 y.2).down=true;unfold yO at h;unfold yy;by_cases hb:zh5 D y.1 y.2
    · rw[if_pos hb] at h;cases h
    · rw[if_neg hb] at h ⊢;rw[if_neg (by omega)];exact zin (by omega)
theorem zgi:∀{l:List Stp} {D D2:DiskM},wg D l=(9,D2)→D2.down=true
  | [],D,D2,h=>by cases h
  | x::l,D,D2,h=>by
    by_cases h0:stE D x=0
    · rw[zcu h0] at h;exact zgi h
    · rw[zbu h0] at h;injection h with h1 h2;subst h2;exact zvZ h1
theorem zrK:∀c:List ChangeM,zeh c=0∨zeh c=2∨zeh c=3
  | []=> .inl rfl
  | x::c=>by
    have ih:=zrK c;unfold zeh;split
    · exact ih
    · unfold zbt;split
      · exact .inr (.inr rfl)
      · split
        · exact .inr (.inl rfl)
        · exact .inl rfl
theorem ztN {D:DiskM}{h:HdM}{rows:List ChangeM}{many used:Nat}{c:List ChangeM}{D2:DiskM}{h2:HdM}{used2:Nat}{rows2:List ChangeM}(k:ztv D h rows many used c 9 D2 h2 used2 rows2):D2.down=true:=by
  rcases k with ⟨_,h9,_⟩ | ⟨_,e1,D1,h1,used1,hm,k⟩
  · exact absurd h9.symm (zvn _ _ _)
  · rcases k with ⟨_,h9,rfl,_⟩ | ⟨_,h9,rfl,_⟩
    · subst h9;rcases hm with ⟨_,hr,_⟩ | ⟨_,h9,_⟩
      · exact zgi hr
      · cases h9
    · unfold zgL at h9;unfold zdd;split at h9
      · rename_i h0;rw[if_pos h0];exact zgi (Prod.ext h9.symm rfl)
      · rename_i h0;exfalso;unfold zgs at h9;split at h9
        · cases h9
        · split at h9
          · cases h9
          · rcases zrK c with h | h | h <;> rw[h] at h9 <;> cases h9
theorem zhF {D D2:DiskM}{z z2:RpM}{S':SI}{L':List Pt}{n':Int}(k:zoc D z S' L' n' 9 D2 z2):D2.down=true:=by
  obtain ⟨h2,used2,rows2,hc,_⟩:=k;exact ztN hc
def zwR (f:Int)(D:DiskM):DiskM:=⟨D.kept,D.now,D.wait,f,D.down⟩
theorem Rep.arm {t:Nat}{D:DiskM}{z:RpM}(R:Rep t D z){f:Int}(hf: -1≤f∧f≤9223372036854775807):Rep t (zwR f D) z:=by
  obtain ⟨r0,ds,C,hc⟩:=R.cal;exact ⟨⟨R.ok.1,R.ok.2.1,hf,R.ok.2.2.2.1,R.ok.2.2.2.2⟩,R.s80,⟨r0,ds,⟨C.1,C.2.1.now rfl,C.2.2⟩,hc⟩,R.ep,R.first,R.rows,R.rok⟩
theorem Rep.calm {t:Nat}{D:DiskM}{z:RpM}(R:Rep t D z):D.down=false:=by
  obtain ⟨r0,ds,C,hc⟩:=R.cal;exact C.1.2.2
theorem Rep.free {t:Nat}{D:DiskM}{z:RpM}(R:Rep t D z)(hn:z.next≤1+t):Up t (zwR (-1) D) z:=⟨R.arm (by decide),⟨R.calm,rfl⟩,hn⟩
theorem Rep.back {t:Nat}{D D0:DiskM}{z:RpM}(R:Rep t (zwR (-1) D) z)(h: -1≤D.fuse∧D.fuse≤9223372036854775807):Rep t D z:=by
  have:=R.arm (f:=D.fuse) h;exact this
theorem Rep.sub {t:Nat}{D:DiskM}{z:RpM}(R:Rep t D z)(l:List SeE)(h:∀e∈l,e∈z.ses):Rep t D (z.sess l):=
  R.turn (Nat.le_refl _) l z.mou z.next R.rok.next (fun e he=>⟨R.rok.keyS e (h e he),R.rok.sesS e (h e he)⟩) R.rok.keyM
def Fall (t:Nat)(D:DiskM)(φ:List ChangeM→Prop):Prop:=D.down=true∧Fallen t D φ
theorem Fallen.le {t t':Nat}{D:DiskM}{φ ψ:List ChangeM→Prop}(h:Fallen t D φ)(ht:t≤t')(hp:∀x,φ x→ψ x):Fallen t' D ψ:=⟨h.1,h.2.1,h.2.2.mono (by omega) (by omega) hp⟩
theorem Fall.le {t t':Nat}{D:DiskM}{φ ψ:List ChangeM→Prop}(h:Fall t D φ)(ht:t≤t')(hp:∀x,φ x→ψ x):Fall t' D ψ:=⟨h.1,h.2.le ht hp⟩
def zjb (σ:LR):List ChangeM:=qY σ.S σ.L σ.n
theorem ztD {t:Nat}{D D2:DiskM}{z z2:RpM}{id n e:Int}(R:Rep t D z)(ht:t≤90000)(k:zod D z id n e D2 z2):
    (Rep (t+1) D2 z2∧znZ z.lr id=(z2.lr,n,e))∨(e=9∧Fall (t+1) D2 fun x=>x=zjb z.lr∨x=zjb (znZ z.lr id).1):=by
  unfold zod at k;unfold znZ;rw[show z.lr.ses=z.ses.map sS from rfl,zpf];obtain ⟨G,hC⟩:=R.rok.con;cases hf:fSe z.ses id with
  | none=>
    rw[hf] at k;simp only at k;obtain ⟨rfl,rfl,rfl,rfl⟩:=k;exact .inl ⟨R.le (by omega),rfl⟩
  | some s=>
    rw[hf] at k;dsimp only[Option.map_some,sS,RpM.lr] at k ⊢;cases hr:zgn z.S z.L z.n s.base s.disk s.size s.puts with
    | error f=>
      rw[hr] at k;obtain ⟨rfl,rfl,rfl,rfl⟩:=k;exact .inl ⟨R.le (by omega),rfl⟩
    | ok r=>
      obtain ⟨S',L',n',r⟩:=r;rw[hr] at k;simp only at k ⊢;obtain ⟨y,hk,hn,rfl⟩:=k;obtain ⟨G',hC'⟩:=ze1 hC hr;rcases ze9 R (by omega) hC' (P:=L') (by have:=hC'.v.len;omega) (zlv hC.v hr) (fun p hp=>hp) hk with ⟨rfl,R1,_,e1,e2,e3,e4,e5,e6⟩ | ⟨rfl,_,hF⟩
      · rw[if_pos rfl] at hn ⊢;subst hn;refine .inl ⟨R1.sub (dSe y.ses id) fun e he=>(List.mem_filter.1 he).1,Prod.ext ?_ rfl⟩
        symm
        refine zoD e1 e2 e3 ?_ ?_ e6
        · show (dSe y.ses id).map sS=rS (z.ses.map sS) id;rw[zwv,e4]
        · show y.mou.map mS=z.mou.map mS;rw[e5]
      · exact .inr ⟨rfl,zhF hk,hF⟩
theorem zs5 {t:Nat}{D D2:DiskM}{z z2:RpM}{id n e:Int}(R:Rep t D z)(ht:t≤90000)(k:zeb D z id n e D2 z2):
    (Rep (t+1) D2 z2∧zmG z.lr id=(z2.lr,n,e))∨(e=9∧Fall (t+1) D2 fun x=>x=zjb z.lr∨x=zjb (zmG z.lr id).1):=by
  obtain ⟨G,hC⟩:=R.rok.con;unfold zeb at k;unfold zmG;dsimp only[RpM.lr] at k ⊢;cases hr:ziJ z.S z.L z.n id with
  | error f=>
    rw[hr] at k;obtain ⟨rfl,rfl,rfl,rfl⟩:=k;exact .inl ⟨R.le (by omega),rfl⟩
  | ok r=>
    obtain ⟨S',L',n',r⟩:=r;rw[hr] at k;simp only at k ⊢;obtain ⟨hk,hn⟩:=k;obtain ⟨G',hC'⟩:=zeF hC hr;rcases ze9 R (by omega) hC' (P:=L') (by have:=hC'.v.len;omega) (zlX hC.v hr) (fun p hp=>hp) hk with ⟨rfl,R1,_,e1,e2,e3,e4,e5,e6⟩ | ⟨rfl,_,hF⟩
    · rw[if_pos rfl] at hn;subst hn;refine .inl ⟨R1,Prod.ext ?_ rfl⟩
      symm
      refine zoD e1 e2 e3 ?_ ?_ e6
      · show z2.ses.map sS=z.ses.map sS;rw[e4]
      · show z2.mou.map mS=z.mou.map mS;rw[e5]
    · exact .inr ⟨rfl,zhF hk,hF⟩
theorem zkg {t:Nat}{D D2:DiskM}{z z2:RpM}{id e:Int}(R:Rep t D z)(ht:t≤90000)(k:zfg D z id e D2 z2):
    (e≠9∧Rep (t+1) D2 z2∧zcz z.lr id=(z2.lr,e))∨(e=9∧Fall (t+1) D2 fun x=>x=zjb z.lr∨x=zjb (zcz z.lr id).1):=by
  have k0:=k;unfold zcz;rw[znu];rcases zcr R (by omega) k with ⟨rfl,R1,_,h1,h2,h3,h4,h5⟩ | ⟨h1,h9,h2,rfl,rfl⟩ | ⟨rfl,_,h1,S',L',h2,hF⟩
  · rw[if_neg (by omega)];refine .inl ⟨by decide,R1,?_⟩;show (match zh0 z.S z.L z.n id with | .error f=>_ | .ok r=>_)=_;rw[h2];refine Prod.ext ?_ rfl
    symm
    refine zoD rR rR rR ?_ ?_ h5
    · show _=z.ses.map sS;rw[h3]
    · show _=z.mou.map mS;rw[h4]
  · rw[if_pos (by omega),h2];exact .inl ⟨by omega,R.le (by omega),rfl⟩
  · rw[if_neg (by omega)];refine .inr ⟨rfl,?_,?_⟩
    · unfold zfg at k0;rw[if_neg (by omega)] at k0;obtain ⟨_,_,_,hk⟩:=k0;exact zhF hk
    · refine hF.le (Nat.le_refl _) fun x hx=>?_;dsimp only[RpM.lr];rw[h2];exact hx
theorem zqS {t:Nat}{D D2:DiskM}{z z2:RpM}{e:Int}(R:Rep t D z)(ht:t≤90000)(k:zwc D z e D2 z2):
    (Rep (t+1) D2 z2∧e=0∧z2.lr=z.lr)∨(e=9∧Fall (t+1) D2 fun x=>x=zjb z.lr):=by
  obtain ⟨hr,k⟩:=k;obtain ⟨r0,ds,C,hcur⟩:=R.cal;have hep:=R.ep;have hfi:=R.first;rw[←hcur] at hr;have hs:=zui R.ok R.s80 C.2.1 hr;rcases zjh C.1 C.2.1 C.2.2 (by omega) (by omega) hr with ⟨rfl,C1⟩ | ⟨rfl,hF⟩
  · rcases k with ⟨hx,_⟩ | ⟨_,d',u',_,hsc,rfl⟩
    · exact absurd rfl hx
    · have hlg:=C1.2.1.good.log;rw[C1.2.1.len] at hlg;have hu:=(zeU hsc hlg).2;subst hu;rw[hcur] at C1;exact .inl ⟨⟨zjm hs.1 C1.1,hs.2,⟨z.rows,[],C1,rfl⟩,by show z.h.ep+1≤_;omega,by show z.h.first+(200 - 122)≤_;omega,R.rows,⟨R.rok.con,R.rok.next,R.rok.keyS,R.rok.keyM,R.rok.sesS⟩⟩,rfl,rfl⟩
  · refine .inr ⟨rfl,zgi hr,zaW hs.1 (by omega),hs.2,hF.mono (by omega) (by omega) fun x hx=>?_⟩;rw[hx,hcur,R.rows]
    rfl
theorem zq0 {D D2:DiskM}{z z2:RpM}{x:ActM}{n e:Int}{s:Bytes}(k:wT D z x n s e D2 z2)(h1:¬x.kind=dkFin)(h2:¬x.kind=dkAgn)(h3:¬x.kind=dkDrp)(h4:¬x.kind=dkKee)(h5:¬x.kind=dkSav):D2=D∧∀D',wT D' z x n s e D' z2:=by
  unfold wT at k ⊢;by_cases h:x.kind=dkBeg
  · rw[if_pos h] at k;exact ⟨k.2.1,fun D'=>by rw[if_pos h];exact ⟨k.1,rfl,k.2.2⟩⟩
  rw[if_neg h] at k;have g1:=h;by_cases h:x.kind=dkPut
  · rw[if_pos h] at k;exact ⟨k.2.2.1,fun D'=>by rw[if_neg g1,if_pos h];exact ⟨k.1,k.2.1,rfl,k.2.2.2⟩⟩
  rw[if_neg h,if_neg h1] at k;have g2:=h;by_cases h:x.kind=dkAbo
  · rw[if_pos h] at k;exact ⟨k.2.2.1,fun D'=>by rw[if_neg g1,if_neg g2,if_neg h1,if_pos h];exact ⟨k.1,k.2.1,rfl,k.2.2.2⟩⟩
  rw[if_neg h,if_neg h2,if_neg h3,if_neg h4] at k;have g3:=h;by_cases h:x.kind=dkMou
  · rw[if_pos h] at k;exact ⟨k.2.1,fun D'=>by rw[if_neg g1,if_neg g2,if_neg h1,if_neg g3,if_neg h2,if_neg h3,if_neg h4,if_pos h];exact ⟨k.1,rfl,k.2.2⟩⟩
  rw[if_neg h] at k;have g4:=h;by_cases h:x.kind=dkUnm
  · rw[if_pos h] at k;exact ⟨k.2.2.1,fun D'=>by rw[if_neg g1,if_neg g2,if_neg h1,if_neg g3,if_neg h2,if_neg h3,if_neg h4,if_neg g4,if_pos h];exact ⟨k.1,k.2.1,rfl,k.2.2.2⟩⟩
  rw[if_neg h] at k;have g5:=h;by_cases h:x.kind=dkRea
  · rw[if_pos h] at k;exact ⟨k.2.2.2.1,fun D'=>by rw[if_neg g1,if_neg g2,if_neg h1,if_neg g3,if_neg h2,if_neg h3,if_neg h4,if_neg g4,if_neg g5,if_pos h];exact ⟨k.1,k.2.1,k.2.2.1,rfl,k.2.2.2.2⟩⟩
  rw[if_neg h] at k;have g6:=h;by_cases h:x.kind=dkWri
  · rw[if_pos h] at k;exact ⟨k.2.2.1,fun D'=>by rw[if_neg g1,if_neg g2,if_neg h1,if_neg g3,if_neg h2,if_neg h3,if_neg h4,if_neg g4,if_neg g5,if_neg g6,if_pos h];exact ⟨k.1,k.2.1,rfl,k.2.2.2⟩⟩
  rw[if_neg h,if_neg h5] at k;exact ⟨k.2.2.2.1,fun D'=>by rw[if_neg g1,if_neg g2,if_neg h1,if_neg g3,if_neg h2,if_neg h3,if_neg h4,if_neg g4,if_neg g5,if_neg g6,if_neg h,if_neg h5];exact ⟨k.1,k.2.1,k.2.2.1,rfl,k.2.2.2.2⟩⟩
theorem zst {t:Nat}{D D2:DiskM}{z z2:RpM}{x:ActM}{n e:Int}{s:Bytes}(R:Rep t D z)(hn:z.next≤1+t)(ht:t≤80000)(hk:¬x.kind=dkKee)(k:wT D z x n s e D2 z2):
    (Rep (t+7) D2 z2∧z2.next≤1+((t+7:Nat):Int)∧zeK z.lr x=(z2.lr,n,s,e))∨(e=9∧Fall (t+7) D2 fun r=>r=zjb z.lr∨r=zjb (zeK z.lr x).1):=by
  by_cases hFin:x.kind=dkFin
  · have hs:zeK z.lr x=((znZ z.lr x.a).1,(znZ z.lr x.a).2.1,[],(znZ z.lr x.a).2.2):=by
      unfold zeK;rw[if_neg (by rw[hFin];decide),if_neg (by rw[hFin];decide),if_pos hFin]
    unfold wT at k;rw[if_neg (by rw[hFin];decide),if_neg (by rw[hFin];decide),if_pos hFin] at k;obtain ⟨rfl,k⟩:=k;rcases ztD R (by omega) k with ⟨R1,h1⟩ | ⟨h9,hF⟩
    · have hnx:z2.next=z.next:=by
        have:=congrArg (fun q:LR×Int×Int=>q.1.next) h1;simp only at this;rw[show z2.next=z2.lr.next from rfl,←this];unfold znZ;split
        · rfl
        · split <;> rfl
      exact .inl ⟨R1.le (by omega),by rw[hnx];omega,by rw[hs,h1]⟩
    · exact .inr ⟨h9,hF.le (by omega) fun r hr=>by rw[hs];exact hr⟩
  by_cases hAgn:x.kind=dkAgn
  · have hs:zeK z.lr x=((zmG z.lr x.a).1,(zmG z.lr x.a).2.1,[],(zmG z.lr x.a).2.2):=by
      unfold zeK;rw[if_neg (by rw[hAgn];decide),if_neg (by rw[hAgn];decide),if_neg hFin,if_neg (by rw[hAgn];decide),if_pos hAgn]
    unfold wT at k;rw[if_neg (by rw[hAgn];decide),if_neg (by rw[hAgn];decide),if_neg hFin,if_neg (by rw[hAgn];decide),if_pos hAgn] at k;obtain ⟨rfl,k⟩:=k;rcases zs5 R (by omega) k with ⟨R1,h1⟩ | ⟨h9,hF⟩
    · have hnx:z2.next=z.next:=by
        have:=congrArg (fun q:LR×Int×Int=>q.1.next) h1;simp only at this;rw[show z2.next=z2.lr.next from rfl,←this];unfold zmG;split <;> rfl
      exact .inl ⟨R1.le (by omega),by rw[hnx];omega,by rw[hs,h1]⟩
    · exact .inr ⟨h9,hF.le (by omega) fun r hr=>by rw[hs];exact hr⟩
  by_cases hDrp:x.kind=dkDrp
  · have hs:zeK z.lr x=((zcz z.lr x.a).1,0,[],(zcz z.lr x.a).2):=by
      unfold zeK;rw[if_neg (by rw[hDrp];decide),if_neg (by rw[hDrp];decide),if_neg hFin,if_neg (by rw[hDrp];decide),if_neg hAgn,if_pos hDrp]
    unfold wT at k;rw[if_neg (by rw[hDrp];decide),if_neg (by rw[hDrp];decide),if_neg hFin,if_neg (by rw[hDrp];decide),if_neg hAgn,if_pos hDrp] at k;obtain ⟨rfl,rfl,k⟩:=k;rcases zkg R (by omega) k with ⟨_,R1,h1⟩ | ⟨h9,hF⟩
    · have hnx:z2.next=z.next:=by
        have:=congrArg (fun q:LR×Int=>q.1.next) h1;simp only at this;rw[show z2.next=z2.lr.next from rfl,←this];unfold zcz;split
        · rfl
        · split <;> rfl
      exact .inl ⟨R1.le (by omega),by rw[hnx];omega,by rw[hs,h1]⟩
    · exact .inr ⟨h9,hF.le (by omega) fun r hr=>by rw[hs];exact hr⟩
  by_cases hSav:x.kind=dkSav
  · have hs:zeK z.lr x=(z.lr,0,[],0):=by
      unfold zeK;rw[if_neg (by rw[hSav];decide),if_neg (by rw[hSav];decide),if_neg hFin,if_neg (by rw[hSav];decide),if_neg hAgn,if_neg hDrp,if_neg hk,if_neg (by rw[hSav];decide),if_neg (by rw[hSav];decide),if_neg (by rw[hSav];decide),if_neg (by rw[hSav];decide)]
    unfold wT at k;rw[if_neg (by rw[hSav];decide),if_neg (by rw[hSav];decide),if_neg hFin,if_neg (by rw[hSav];decide),if_neg hAgn,if_neg hDrp,if_neg hk,if_neg (by rw[hSav];decide),if_neg (by rw[hSav];decide),if_neg (by rw[hSav];decide),if_neg (by rw[hSav];decide),if_pos hSav] at k;obtain ⟨rfl,rfl,k⟩:=k;rcases zqS R (by omega) k with ⟨R1,rfl,h1⟩ | ⟨h9,hF⟩
    · exact .inl ⟨R1.le (by omega),by rw[show z2.next=z2.lr.next from rfl,h1];show z.next≤_;omega,by rw[hs,h1]⟩
    · exact .inr ⟨h9,hF.le (by omega) fun r hr=> .inl hr⟩
  obtain ⟨rfl,h⟩:=zq0 k hFin hAgn hDrp hk hSav;have U:=R.free hn;have h':=h (zwR (-1) D2);have U2:=zps U (by omega) h';exact .inl ⟨Rep.back (D0:=D2) U2.rep R.ok.2.2.1,U2.next,zwL U ht h'⟩
end Go.Proofs.YthdjckbjjfiopadGreatDoor
