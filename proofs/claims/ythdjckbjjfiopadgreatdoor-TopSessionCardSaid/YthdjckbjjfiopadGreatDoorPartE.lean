/- Several texts in one: walks and rules used by them. No condition. -/
import Derived.Test.YthdjckbjjfiopadGreatDoorPartD
import Derived.Test.YthdjckbjjfiopadGreatDoorPartB
set_option linter.unusedSimpArgs false
set_option linter.unusedVariables false
namespace Go.Proofs.YthdjckbjjfiopadGreatDoor
open Go.Sl Go.Proofs
theorem ziE {N:Nat}:∀(l:List Stp) {D:DiskM},D.now.length=N→D.kept.length=N→(wi D l).2.now.length=N∧(wi D l).2.kept.length=N
  | [],D,h1,h2=>⟨h1,h2⟩
  | x::l,D,h1,h2=>by
    have hs:(stD D x).now.length=N∧(stD D x).kept.length=N:=by
      cases x with
      | none=>
        show (yB D).now.length=N∧(yB D).kept.length=N;unfold yB;split <;> simp[zaS,wC,yY,h1,h2]
      | some z=>
        show (yC D z.1 z.2).now.length=N∧(yC D z.1 z.2).kept.length=N;unfold yC;split
        · exact ⟨h1,h2⟩
        · split <;> simp[wv,wC,yY,h1,h2]
    by_cases h0:stE D x=0
    · rw[zcJ h0];exact ziE l hs.1 hs.2
    · rw[zbU h0];exact hs
theorem zj9 {l:List Stp}{D D2:DiskM}(ho:∀x∈l,zch D.now.length x)(h:wi D (l++ [none])=(0,D2)):calm D2∧D2.now=zau D.now l:=by
  cases h1:wi D l with
  | mk e1 D1=>
    by_cases he:e1=0
    · subst he;rw[zbD h1] at h;injection h with q1 q2;have hc:=zbK (D:=D1) q1;rw[←q2];exact ⟨hc.1,hc.2.trans (zjC l ho h1)⟩
    · rw[zbA h1 he] at h;injection h with q1 _;exact absurd q1 he
def Cal (N:Nat)(D:DiskM)(h:HdM)(r0:List ChangeM)(ds:Deeds)(used:Nat):Prop:=calm D∧Inv N D h r0 ds used∧zi2 122 (N - 122) h.first D.now ds used
def Fell (N:Nat)(D:DiskM)(E Fi:Nat)(φ:List ChangeM→Prop):Prop:=∀keep,∃h r0 ds used,Inv N (ziO keep D) h r0 ds used∧φ (cur r0 ds)∧h.ep≤E∧h.first≤Fi∧zi2 122 (N - 122) h.first (zbS keep D) ds used
theorem zs2 {B j first:Nat}{s:Bytes}(h:zom B s)(h1:B≤first+j)(h2:first+j<4294967296):¬zk0 first j s:=fun ⟨t,ht⟩=>by rw[h _ h1 h2] at ht;cases ht
theorem znv {N:Nat}{D D1:DiskM}{h:HdM}{r0:List ChangeM}{ds:Deeds}{used:Nat}(I:Inv N D h r0 ds used)(hf:h.first≤900000000)(hn:D1.now=zau D.now (ckL (nxH h (cur r0 ds) (N - 122)) (yx (cur r0 ds))))(I1:Inv N D1 (nxH h (cur r0 ds) (N - 122)) (cur r0 ds) [] 0):zi2 122 (N - 122) (nxH h (cur r0 ds) (N - 122)).first D1.now [] 0:=by
  have hlg:=I1.good.log;rw[I1.len] at hlg;have hb:=I.big;have hc60:=zbV I.good.lenC I.good.okC;refine ⟨hlg,fun j _ hj=>?_⟩;have e:zfY D1.now 122 j=D.now.getD (122+j) []:=by
    show List.getD _ _ _=_;rw[hn,ziH,yL,if_neg (by simp only[nxH];omega),zsT,if_neg (by simp only[nxH];omega)]
  rw[e];exact zs2 (I.num (122+j) (by omega) (by omega)) (by simp only[nxH];omega) (by simp only[nxH];omega)
theorem zmU {N:Nat}{D:DiskM}{h:HdM}{r0:List ChangeM}{ds:Deeds}{used:Nat}(hq:calm D)(I:Inv N D h r0 ds used)(hsf:zi2 122 (N - 122) h.first D.now ds used)(hep:h.ep≤1000000)(hf:h.first≤900000000){e:Int}{D1:DiskM}(hr:wi D (ckL (nxH h (cur r0 ds) (N - 122)) (yx (cur r0 ds)))=(e,D1)):
    (e=0∧Cal N D1 (nxH h (cur r0 ds) (N - 122)) (cur r0 ds) [] 0)∨(e=9∧Fell N D1 (h.ep+1) (h.first+N) (fun x=>x=cur r0 ds)):=by
  have hb:=I.big;have hl:=I.len;have hs:=I.good.side;have hc60:=zbV I.good.lenC I.good.okC;have hokA:∀x∈ckL (nxH h (cur r0 ds) (N - 122)) (yx (cur r0 ds)),zch D.now.length x:=(by rw[hl];exact zpe (h:=h) I.good.lenC I.good.okC hb.1);have hall:AllP (fun m s=>(m<2+(1 - h.side)*60∨2+(1 - h.side)*60+60≤m)→s=D.now.getD m []) D:=AllP.calm hq.1 hq.2.1 fun m _=>rfl;have invH:∀D':DiskM,D'.now.length=N→(∀m,(m<2+(1 - h.side)*60∨2+(1 - h.side)*60+60≤m)→D'.now.getD m []=D.now.getD m [])→Inv N D' h r0 ds used:=fun D' hl' hP=>
    ⟨hl',hb,zqR I.good (by rw[hl',hl]) (by rw[hl];omega) hP,fun m h1 h2=>by rw[hP m (by omega)];exact I.num m h1 h2⟩
  have e0:ckL (nxH h (cur r0 ds) (N - 122)) (yx (cur r0 ds))=(ckW (1 - h.side) (yx (cur r0 ds)) 0 (ye (yx (cur r0 ds)))++ [none])++ [some ((h.ep+1) % 2,we (nxH h (cur r0 ds) (N - 122))),none]:=(by rw[List.append_assoc];rfl);have hokW:∀x∈ckW (1 - h.side) (yx (cur r0 ds)) 0 (ye (yx (cur r0 ds))),zch D.now.length x:=fun x hx=>hokA x (by rw[e0];simp[hx]);have fell:∀D':DiskM,(∀keep,∃h' r0' ds' used',Inv N (ziO keep D') h' r0' ds' used'∧cur r0' ds'=cur r0 ds∧h'.ep≤h.ep+1∧h'.first≤h.first+N∧zi2 122 (N - 122) h'.first (zbS keep D') ds' used')→Fell N D' (h.ep+1) (h.first+N) (fun x=>x=cur r0 ds):=fun D' H=>H;have sOld:∀K:List Bytes,(∀m,(m<2+(1 - h.side)*60∨2+(1 - h.side)*60+60≤m)→K.getD m []=D.now.getD m [])→zi2 122 (N - 122) h.first K ds used:=fun K hK=>
    zlN hsf (fun j _=>hK (122+j) (by omega)) (fun j _ _=> .inl (hK (122+j) (by omega)))
  have old:∀D':DiskM,(∀keep,(zbS keep D').length=N∧∀m,(m<2+(1 - h.side)*60∨2+(1 - h.side)*60+60≤m)→(zbS keep D').getD m []=D.now.getD m [])→Fell N D' (h.ep+1) (h.first+N) (fun x=>x=cur r0 ds):=fun D' H=>
    fell D' fun keep=>⟨h,r0,ds,used,invH (ziO keep D') (H keep).1 (H keep).2,rfl,by omega,by omega,sOld _ (H keep).2⟩
  rw[e0] at hr;cases hr1:wi D (ckW (1 - h.side) (yx (cur r0 ds)) 0 (ye (yx (cur r0 ds)))++ [none]) with
  | mk e1 D2=>
    have hP2:=hall.run (ckW (1 - h.side) (yx (cur r0 ds)) 0 (ye (yx (cur r0 ds)))++ [none]) (fun x hx=>by
      rcases List.mem_append.1 hx with hx | hx
      · exact zuV hc60 x hx
      · rw[List.mem_singleton] at hx;subst hx;trivial)
    have hln:=ziE (ckW (1 - h.side) (yx (cur r0 ds)) 0 (ye (yx (cur r0 ds)))++ [none]) hl (by rw[hq.1];exact hl);have he9:=zxt (ckW (1 - h.side) (yx (cur r0 ds)) 0 (ye (yx (cur r0 ds)))++ [none]) D (fun x hx=>hokA x (by rw[e0];exact List.mem_append_left _ hx));rw[hr1] at hP2 hln he9;simp only at hP2 hln he9;by_cases he:e1=0
    · subst he;obtain ⟨hq2,hn2⟩:=zj9 hokW hr1;rw[ztf hr1] at hr;have hbad:¬zie D2 (((h.ep+1) % 2:Nat):Int) (we (nxH h (cur r0 ds) (N - 122))):=(by unfold zie;rw[zhy,hln.1];omega);by_cases h0:wb D2=0
      · have hwe:yP D2 (((h.ep+1) % 2:Nat):Int) (we (nxH h (cur r0 ds) (N - 122)))=0:=(by unfold yP;rw[if_neg hbad,h0]);have hwd:yC D2 (((h.ep+1) % 2:Nat):Int) (we (nxH h (cur r0 ds) (N - 122)))=wv (wd D2) (((h.ep+1) % 2:Nat):Int) (we (nxH h (cur r0 ds) (N - 122))):=(by unfold yC;rw[if_neg hbad,if_pos h0]);rw[zfl hwe,hwd] at hr;generalize hD3:wv (wd D2) (((h.ep+1) % 2:Nat):Int) (we (nxH h (cur r0 ds) (N - 122)))=D3 at hr;have k3:D3.kept=D2.now:=(by rw[←hD3,←hq2.1];exact yY D2);have n3:D3.now=zau D.now (ckL (nxH h (cur r0 ds) (N - 122)) (yx (cur r0 ds))):=by
          rw[←hD3,ziH];show (wd D2).now.set ((((h.ep+1) % 2:Nat):Int)).toNat _=_;rw[wC,Int.toNat_natCast,hn2]
          rfl
        have w3:D3.wait=[((h.ep+1) % 2,yl (we (nxH h (cur r0 ds) (N - 122))))]:=by
          rw[←hD3];show (wd D2).wait++_=_;rw[wt,hq2.2.1,Int.toNat_natCast]
          rfl
        have hkn:D2.now.set ((h.ep+1) % 2) (yl (we (nxH h (cur r0 ds) (N - 122))))=zau D.now (ckL (nxH h (cur r0 ds) (N - 122)) (yx (cur r0 ds))):=(by rw[ziH,hn2];rfl);by_cases h3:wb D3=0
        · rw[zda h3,zfr] at hr;injection hr with q1 q2;have hfc:=zbK h3;left;rw[←q2];have I1:=I.new (D1:=yB D3) hep hf (hfc.2.trans n3);exact ⟨q1.symm,hfc.1,I1,znv I hf (hfc.2.trans n3) I1⟩
        · rw[zcD h3] at hr;injection hr with q1 q2;have h9:wb D3=9:=(zah D3).resolve_left h3;right;refine ⟨by rw[←q1,h9],fell D1 fun keep=>?_⟩;have k4:D1.kept=D2.now:=(by rw[←q2];unfold yB;rw[if_neg h3,yY,k3]);have w4:D1.wait=[((h.ep+1) % 2,yl (we (nxH h (cur r0 ds) (N - 122))))]:=(by rw[←q2];unfold yB;rw[if_neg h3,wt,w3]);have hrl:zbS keep D1=if kb keep 0=true then D2.now.set ((h.ep+1) % 2) (yl (we (nxH h (cur r0 ds) (N - 122)))) else D2.now:=by
            unfold zbS;rw[k4,w4]
            rfl
          by_cases hk:kb keep 0=true
          · rw[if_pos hk,hkn] at hrl;exact ⟨_,_,_,_,I.new (D1:=ziO keep D1) hep hf hrl,rfl,by simp only[nxH];omega,by simp only[nxH];omega,znv (D1:=ziO keep D1) I hf hrl (I.new (D1:=ziO keep D1) hep hf hrl)⟩
          · rw[if_neg hk] at hrl;exact ⟨h,r0,ds,used,invH (ziO keep D1) (by show (zbS keep D1).length=N;rw[hrl];exact hln.1) (fun m hm=>by show (zbS keep D1).getD m []=_;rw[hrl];exact hP2.now m hm),rfl,by omega,by omega,sOld _ (fun m hm=>by rw[hrl];exact hP2.now m hm)⟩
      · have hwe:yP D2 (((h.ep+1) % 2:Nat):Int) (we (nxH h (cur r0 ds) (N - 122)))=wb D2:=(by unfold yP;rw[if_neg hbad]);have hwd:yC D2 (((h.ep+1) % 2:Nat):Int) (we (nxH h (cur r0 ds) (N - 122)))=wd D2:=(by unfold yC;rw[if_neg hbad,if_neg h0]);rw[zdK (by rw[hwe];exact h0),hwe,hwd] at hr;injection hr with q1 q2;have h9:wb D2=9:=(zah D2).resolve_left h0;right;refine ⟨by rw[←q1,h9],old D1 fun keep=>?_⟩;have hrl:zbS keep D1=D2.now:=by
          rw[←q2];unfold zbS;rw[yY,wt,hq2.2.1,hq2.1]
          rfl
        rw[hrl];exact ⟨hln.1,hP2.now⟩
    · rw[zbA hr1 he] at hr;injection hr with q1 q2;right;refine ⟨by rw[←q1];exact he9.resolve_left he,old D1 fun keep=>?_⟩;rw[←q2];exact ⟨by rw[zgt];exact hln.2,hP2.rest keep⟩
theorem zwV {N:Nat}{D:DiskM}{h:HdM}{r0:List ChangeM}{ds:Deeds}{used:Nat}{c:List ChangeM}(C:Cal N D h r0 ds used)(hf:h.first≤900000000)(hv:zhh (N - 122) used c=0)(hfit:(zaF (cur r0 ds) c).length≤80):
    (zhG 122 (N - 122) h.first used c D=0∧Cal N (zdD 122 (N - 122) h.first used c D) h r0 (ds++ [c]) (zhp 122 (N - 122) h.first used c D))∨
    (zhG 122 (N - 122) h.first used c D=9∧Fell N (zdD 122 (N - 122) h.first used c D) h.ep h.first (fun x=>x=cur r0 ds∨x=zaF (cur r0 ds) c)):=by
  obtain ⟨hq,I,hs⟩:=C;obtain ⟨v1,v2,v3⟩:=zei hv;have hb:=I.big;have hl:=I.len;cases hr:wi D (zfn 122 (N - 122) h.first used c) with
  | mk e D'=>
    have hE:zhG 122 (N - 122) h.first used c D=e:=(by unfold zhG;rw[if_pos hv,hr]);have hD:zdD 122 (N - 122) h.first used c D=D':=(by unfold zdD;rw[if_pos hv,hr]);have hall:AllP (fun m s=>(m<122→s=D.now.getD m [])∧(122≤m→m<N→zom (h.first+(N - 122)) s)) D:=AllP.calm hq.1 hq.2.1 fun m=>⟨fun _=>rfl,fun h1 h2=>I.num m h1 h2⟩;have hP:=hall.run (zfn 122 (N - 122) h.first used c) (addP I hf hv);have hln:=ziE (zfn 122 (N - 122) h.first used c) hl (by rw[hq.1];exact hl);rw[hr] at hP hln;simp only at hP hln;rw[hE,hD];rcases zpt hq (by rw[hl];omega) hv hs hr with ⟨h0,h1,h2⟩ | ⟨h0,h1⟩
    · left;refine ⟨h0,h1,?_,?_⟩
      · rw[show zhp 122 (N - 122) h.first used c D=used+c.length+1 by unfold zhp;rw[hE,if_pos h0]];exact I.add hln.1 hP.now h2.1 (zdM I.good.lens v1) (zdM I.good.chk v3) (zgV I.good.fits hfit)
      · rw[show zhp 122 (N - 122) h.first used c D=used+c.length+1 by unfold zhp;rw[hE,if_pos h0]];exact h2
    · right;refine ⟨h0,fun keep=>?_⟩;obtain ⟨u,hu | hu⟩:=h1 keep
      · exact ⟨h,r0,ds,u,I.add (D1:=ziO keep D') ((zgt keep D').trans hln.2) (hP.rest keep) hu.1 I.good.lens I.good.chk I.good.fits, .inl rfl,Nat.le_refl _,Nat.le_refl _,hu⟩
      · exact ⟨h,r0,ds++ [c],u,I.add (D1:=ziO keep D') ((zgt keep D').trans hln.2) (hP.rest keep) hu.1 (zdM I.good.lens v1) (zdM I.good.chk v3) (zgV I.good.fits hfit), .inr (zf2 r0 ds c),Nat.le_refl _,Nat.le_refl _,hu⟩
theorem Fell.mono {N:Nat}{D:DiskM}{E E' Fi Fi':Nat}{φ ψ:List ChangeM→Prop}(h:Fell N D E Fi φ)(h1:E≤E')(h2:Fi≤Fi')(h3:∀x,φ x→ψ x):Fell N D E' Fi' ψ:=fun keep=>by
  obtain ⟨h',r',d',u',i',p',e',f',s'⟩:=h keep;exact ⟨h',r',d',u',i',h3 _ p',by omega,by omega,s'⟩
theorem zvR {N i:Nat}{D:DiskM}{h:HdM}{r0:List ChangeM}{ds:Deeds}{used:Nat}{c:List ChangeM}{e:Int}{D2:DiskM}{h2:HdM}{used2:Nat}{rows2:List ChangeM}(hok:okW N i D)(hS:S80 D)(I:Inv N D h r0 ds used)(hc:ztl D h (cur r0 ds) (N - 122) used c e D2 h2 used2 rows2):S80 D2:=by
  have hb:=I.big;rcases hc with ⟨_,_,rfl,_⟩ | ⟨_,e1,D1,h1,used1,hmid,hr⟩
  · exact hS
  · have hm:=(zo1 hmid hok hS I.good.lenC I.good.okC I.big.1 I.used_le).2.1;rcases hr with ⟨_,_,rfl,_⟩ | ⟨_,_,rfl,_⟩
    · exact hm
    · exact zo7 hm (N:=N) (by omega)
theorem zxx {N i:Nat}{D:DiskM}{h:HdM}{r0:List ChangeM}{ds:Deeds}{used:Nat}{e:Int}{D1:DiskM}(hok:okW N i D)(hS:S80 D)(I:Inv N D h r0 ds used)(hr:wi D (ckL (nxH h (cur r0 ds) (N - 122)) (yx (cur r0 ds)))=(e,D1)):okW N (i+63) D1∧S80 D1:=by
  have h1:=za3 (ckL (nxH h (cur r0 ds) (N - 122)) (yx (cur r0 ds))) i D hok;have h2:=zel _ D hS (zpe (h:=h) I.good.lenC I.good.okC I.big.1);have hc:=zbV I.good.lenC I.good.okC;rw[hr,zpY] at h1;rw[hr] at h2;exact ⟨zbv h1 (by omega),h2⟩
theorem zu7 {N:Nat}{D D1:DiskM}(hN:196≤N∧N≤260)(hl:D.now.length=N)(hr:wi D (fmL N)=(0,D1)):Cal N D1 hd1 [] [] 0:=by
  have e:fmL N=(fmW (N - 122)++ [none,some (1,we hd1)])++ [none]:=(by unfold fmL fmT;rw[List.append_assoc];rfl);have hok:=zkI hN.1;have hr2:=hr;rw[e] at hr2;have hf:=zj9 (D:=D) (fun x hx=>by rw[hl];exact hok x (by rw[e];exact List.mem_append_left _ hx)) hr2;have hn:=zjC (fmL N) (D:=D) (by rw[hl];exact hok) hr;have I:=zpL hN hl hn;have hlg:=I.good.log;rw[I.len] at hlg;refine ⟨hf.1,I,hlg,fun j _ hj=>?_⟩;have e2:zau D.now (fmL N)=(zau D.now (fmW (N - 122))).set 1 (yl (we hd1)):=(by unfold fmL;rw[za9];rfl);have e3:zfY D1.now 122 j=yl []:=by
    show List.getD _ _ _=_;rw[hn,e2,yL,if_neg (by omega),zmM,if_pos ⟨.inr (by omega),by omega⟩]
  rw[e3];rintro ⟨t,ht⟩;rw[zcr] at ht;cases ht
open _root_.Go.Proofs.Tryz
def zni (p:PutM):Bool:=decide (p.data.length≤20)
def zfq (x:ActM):Bool:=(decide (x.s.length≤100) && decide (x.puts.length≤24) && zdk x.changes 90) && x.puts.all zni
def zbm (l:List ActM)(most:Int):Bool:=decide ((l.length:Int)≤most) && l.all zfq
theorem zhT (l:List ActM)(f:Nat→ActZ)(s:Option Addr)(cap:Nat)(most:Int)(hl:l.length≤9223372036854775807)(hls:∀x∈l,x.puts.length≤9223372036854775807∧x.changes.length≤9223372036854775807)(F:List HProp):Ct Tryz.prog 19 [sl s l.length cap,I most] ([acts s l f]++F) (R1 (Bo (zbm l most)) (acts s l f::F)):=by
  show Ct Tryz.prog 19 [sl s l.length cap,I most] (acts s l f::F) _;refine Ct.of func19 rR 63 ntmps19 (by simp) fun w0=>?_;refine gS (gA rR (qb (qf (gS (gM rR (g_v (yi underlying22 rR) rR (gM rR (g_v (yz rR rR) rR (qb ?_)))))))));refine qg rR (fun h10=>?_) (fun h10=>?_)
  · simp at h10;refine gS (gA rR (qb ?_));refine qm rR rR ?_;show Bo false=_;rw[show zbm l most=false by unfold zbm;rw[decide_eq_false (by omega)];rfl]
  · simp at h10;refine qh (qf (gS (gA rR (qb (qj ?_)))));refine qD (α:=Nat) (fun k=>k≤l.length∧(l.take k).all zfq=true) (fun k=>U [(0,sl s l.length cap),(5,I k)]) (fun _=>acts s l f::F) (fun k=>l.length - k) 0 (by simp) [0,5] rfl rR ?_;rintro k ⟨hk,hall⟩;refine qf (gS (gM rR (gM rR (g_v (yi underlying22 rR) rR (g_v (qK rR rR) rR (qb ?_))))));refine qg rR (fun h14=>?_) (fun h14=>?_)
    · simp at h14;have hkn:k<l.length:=(by omega);obtain ⟨x,hx⟩:∃x,l[k]? =some x:=⟨_,List.getElem?_eq_getElem hkn⟩;have hkr:k<(zor l f).length:=(by rw[znz];exact hkn);have hb:=hls x (List.mem_of_getElem? hx);refine qh (qf (qj (qf (qf ?_))));refine zjQ s l f k hx ?_;refine qp (gM rR (gM rR (g_v (qA k underlying22 sizeOf58 rR rR rR hkn hkr) rR (g_v (yn (j:=k) 1 underlying58 rR rR sizeOf9 (by decide) rR hkr) rR (g_v (wJ (v:=Str x.s) isAgg9 rR (ze8 hx) rR) rR (g_v (wh underlying9 rR) rR (g_v (yz rR rR) rR (gM rR (qH rR rR (fun hg=>qn rR) rR rR (qH rR rR (fun hg=>qn rR) rR rR (qH rR rR (fun hg=>qA k underlying22 sizeOf58 rR rR rR hkn hkr) rR rR (qH rR rR (fun hg=>yn (j:=k) 7 underlying58 rR rR sizeOf23 (by decide) rR hkr) rR rR (qH rR rR (fun hg=>wJ (v:=sl (f k).1.1 x.puts.length (f k).1.2) isAgg23 rR (ze8 hx) rR) rR rR (qH rR rR (fun hg=>yi underlying23 rR) rR rR (qH rR rR (fun hg=>yz rR rR) rR rR (g_v (zav rR rR) rR (gM rR (qH rR rR (fun hg=>qn rR) rR rR (qH rR rR (fun hg=>qn rR) rR rR (qH rR rR (fun hg=>qA k underlying22 sizeOf58 rR rR rR hkn hkr) rR rR (qH rR rR (fun hg=>yn (j:=k) 8 underlying58 rR rR sizeOf34 (by decide) rR hkr) rR rR (qH rR rR (fun hg=>wJ (v:=sl (f k).2.1 x.changes.length (f k).2.2) isAgg34 rR (ze8 hx) rR) rR rR ?_))))))))))))))))))))));refine g_gq rR rR (fun hg=>qi (Pre:=[roL 3 (f k).2.1 (chR x.changes)]) (R:=fun F=>R1 (Bo (zdk x.changes 90)) (roL 3 (f k).2.1 (chR x.changes)::F)) call48 rR (zfk x.changes (f k).2.1 (f k).2.2 90 hb.2)) rR rR ?_;refine qH rR rR (fun hg=>wq rR) rR rR (g_v (zav rR rR) rR (qb ?_));refine qg rR (fun h41=>?_) (fun h41=>?_)
      · simp at h41;refine gS (gA rR (qb ?_));refine qm rR rR ?_;show Bo false=_;rw[show zbm l most=false by unfold zbm;rw[zf3 hx (by unfold zfq;by_cases hq:zdk x.changes 90=true <;> simp[hq] at h41 ⊢;intro h1 h2;omega)];simp]
      · simp at h41;have hlc:zdk x.changes 90=true:=h41.2;refine qh (qf ?_);refine zqI s l f k hx ?_;refine qp (gA rR (qb (qj ?_)));refine qD (α:=Nat) (fun j=>j≤x.puts.length∧(x.puts.take j).all zni=true) (fun j=>U [(0,sl s l.length cap),(5,I k),(6,I j)]) (fun _=>roL 2 (f k).1.1 (zaN x.puts)::acts s l f::F) (fun j=>x.puts.length - j) 0 (by simp) [0,5,6] rfl rR ?_;rintro j ⟨hj,hpall⟩;refine qf (gS (gM rR (gM rR (gM rR (g_v (qA k underlying22 sizeOf58 rR rR rR hkn hkr) rR (g_v (yn (j:=k) 7 underlying58 rR rR sizeOf23 (by decide) rR hkr) rR (g_v (wJ (v:=sl (f k).1.1 x.puts.length (f k).1.2) isAgg23 rR (ze8 hx) rR) rR (g_v (yi underlying23 rR) rR (g_v (qK rR rR) rR (qb ?_))))))))));refine qg rR (fun h49=>?_) (fun h49=>?_)
        · simp at h49;have hjn:j<x.puts.length:=(by omega);obtain ⟨p,hp⟩:∃p,x.puts[j]? =some p:=⟨_,List.getElem?_eq_getElem hjn⟩;have hjr:j<(zaN x.puts).length:=(by rw[ww];exact hjn);refine qh (qf (qj (gS (gM rR (gM rR (g_v (qA k underlying22 sizeOf58 rR rR rR hkn hkr) rR (g_v (yn (j:=k) 7 underlying58 rR rR sizeOf23 (by decide) rR hkr) rR (g_v (wJ (v:=sl (f k).1.1 x.puts.length (f k).1.2) isAgg23 rR (ze8 hx) rR) rR (gM rR (g_v (qA j underlying23 sizeOf44 rR rR rR hjn hjr) rR (g_v (yn (j:=j) 1 underlying44 rR rR sizeOf9 (by decide) rR hjr) rR (g_v (wJ (v:=Str p.data) isAgg9 rR (zde hp) rR) rR (g_v (wh underlying9 rR) rR (g_v (yz rR rR) rR (qb ?_)))))))))))))));refine qg rR (fun h62=>?_) (fun h62=>?_)
          · simp at h62;refine gS (gA rR (qb ?_));refine qm rR rR ?_;show Bo false=_;rw[show zbm l most=false by unfold zbm;rw[zf3 hx (by unfold zfq;rw[zf3 hp (by simp[zni];omega)];simp)];simp]
          · simp at h62;refine qh (qG (qp (gM rR (g_v (qu rR rR (w64 (by omega))) rR (gA rR (qb ?_))))));exact qo (j+1) ⟨by omega,ziR hpall hp (by simp[zni];omega)⟩ (by omega) [0,5,6] rfl rfl
        · simp at h49;obtain rfl:j=x.puts.length:=(by omega);rw[List.take_length] at hpall;refine qz rR ?_;refine qG (qp (gM rR (g_v (qu rR rR (w64 (by omega))) rR (gA rR (qb ?_)))));exact qo (k+1) ⟨by omega,ziR hall hx (by unfold zfq;rw[hlc,hpall];simp;omega)⟩ (by omega) [0,5] rfl rfl
    · simp at h14;obtain rfl:k=l.length:=(by omega);rw[List.take_length] at hall;refine qz rR ?_;refine gS (gA rR (qb ?_));refine qm rR rR ?_;show Bo true=_;rw[show zbm l most=true by unfold zbm;rw[hall,decide_eq_true (by omega)];rfl]
end Go.Proofs.YthdjckbjjfiopadGreatDoor
