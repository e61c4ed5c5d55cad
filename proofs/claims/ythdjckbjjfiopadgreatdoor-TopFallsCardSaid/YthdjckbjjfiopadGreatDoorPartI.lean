/- Several texts in one: walks and rules used by them. No condition. -/
import Derived.Test.YthdjckbjjfiopadGreatDoorPartH
import Derived.Test.YthdjckbjjfiopadGreatDoorPartA
import Derived.Test.YthdjckbjjfiopadGreatDoorPartB
set_option linter.unusedSimpArgs false
set_option linter.unusedVariables false
namespace Go.Proofs.YthdjckbjjfiopadGreatDoor
open Go.Sl Go.Proofs
theorem zge {m n:Nat→Bool}:∀{k:Nat},(∀p,p<k→m p=n p)→cM m k=cM n k
  | 0,_=>rfl
  | k+1,h=>by simp only[cM,zge (k:=k) (fun p hp=>h p (by omega)),h k (by omega)]
theorem zmq {m:Nat→Bool}:∀{k:Nat},(∀p,p<k→m p=false)→cM m k=0
  | 0,_=>rfl
  | k+1,h=>by simp[cM,zmq (k:=k) (fun p hp=>h p (by omega)),h k (by omega)]
def wnM (m:Nat→Bool)(f t:Int)(p:Nat):Bool:=m p && (decide (f≤p) && decide ((p:Int)<t))
theorem zoU {m:Nat→Bool}{f:Int}{k:Nat}(j:Nat):cM (wnM m f k) (k+j)=cM (wnM m f k) k:=by
  induction j with
  | zero=>rfl
  | succ j ih=>rw[←Nat.add_assoc,cM,ih];simp[wnM];intros;omega
theorem zwo {m:Nat→Bool}{f:Int}{k:Nat}(h:k<16):cM (wnM m f (k+1:Nat)) 16=cM (wnM m f k) 16+if m k=true∧f≤k then 1 else 0:=by
  have e1:cM (wnM m f (k+1:Nat)) 16=cM (wnM m f (k+1:Nat)) (k+1):=by
    have:=zoU (m:=m) (f:=f) (k:=k+1) (15 - k);rwa [show k+1+(15 - k)=16 by omega] at this
  have e2:cM (wnM m f k) 16=cM (wnM m f k) k:=by
    have:=zoU (m:=m) (f:=f) (k:=k) (16 - k);rwa [show k+(16 - k)=16 by omega] at this
  rw[e1,e2,cM,zge (m:=wnM m f (k+1:Nat)) (n:=wnM m f k)]
  · congr 1;simp only[wnM];by_cases h1:m k=true <;> by_cases h2:f≤(k:Int) <;> simp[h1,h2] <;> omega
  · intro p hp;simp only[wnM];rw[decide_eq_true (show (p:Int)<((k+1:Nat):Int) by omega),decide_eq_true (show (p:Int)<(k:Int) by omega)]
def zt0 (m:Nat→Bool)(f many:Int)(r:(Nat→Bool)×Int):Prop:=
  (r.2= -1∧(∀p,p<16→r.1 p=wnM m f 16 p)∧cM r.1 16≤many)∨(f<r.2∧r.2<16∧(∀p,p<16→r.1 p=wnM m f r.2 p)∧cM r.1 16=many)
theorem zuX (m:Nat→Bool)(f many:Int)(hf:0≤f)(h1:1≤many):∀(r k:Nat) (out:Nat→Bool) (n:Nat),r+k=16→(∀p,p<16→out p=wnM m f k p)→n=cM out 16→(n:Int)≤many→zt0 m f many (pg m f many r k out n)
  | 0,k,out,n,hr,ho,hn,hm=>by
    obtain rfl:k=16:=(by omega);exact .inl ⟨rfl,ho,by show (cM out 16:Int)≤many;omega⟩
  | r+1,k,out,n,hr,ho,hn,hm=>by
    have hk:k<16:=(by omega);unfold pg;have hcs:cM out 16=cM (wnM m f k) 16:=zge ho;by_cases hc:(!m k || decide ((k:Int)<f))=true
    · rw[if_pos hc];refine zuX m f many hf h1 r (k+1) out n (by omega) (fun p hp=>?_) hn hm;rw[ho p hp];simp only[wnM];by_cases hpk:p=k
      · subst hpk;simp at hc;rcases hc with hc | hc
        · simp[hc]
        · simp;intro _ h;omega
      · rw[decide_eq_decide.2 (show (p:Int)<k ↔ (p:Int)<((k+1:Nat):Int) by omega)]
    · rw[if_neg hc];simp at hc;by_cases hnm:(n:Int)=many
      · rw[if_pos hnm];refine .inr ⟨?_,by simp only;omega,ho,by show (cM out 16:Int)=many;omega⟩;by_cases hfk:f<k
        · exact hfk
        · exfalso;have:cM out 16=0:=zmq fun p hp=>by
            rw[ho p hp];simp[wnM];intro _ h;omega
          omega
      · rw[if_neg hnm];have key:∀p,p<16→(if p=k then true else out p)=wnM m f (k+1:Nat) p:=fun p hp=>by
          by_cases hpk:p=k
          · subst hpk;rw[if_pos rfl];simp[wnM,hc];omega
          · rw[if_neg hpk,ho p hp];simp only[wnM];rw[decide_eq_decide.2 (show (p:Int)<k ↔ (p:Int)<((k+1:Nat):Int) by omega)]
        refine zuX m f many hf h1 r (k+1) (fun i=>if i=k then true else out i) (n+1) (by omega) key ?_ (by omega);rw[zge key,zwo hk,if_pos (by simp[hc]),hn,hcs]
theorem zu7 (m:Nat→Bool){f many:Int}(hf:0≤f)(h1:1≤many):zt0 m f many (zey m f many):=
  zuX m f many hf h1 16 0 (fun _=>false) 0 rfl (fun p hp=>by simp[wnM]) (by rw[zmq (by simp)]) (by omega)
def zcg (V:VdM)(snap sess:Int):List Nat→RpM→Int→RpM→Prop
  | [],z,e,z2=>e=0∧z2=z
  | p::l,z,e,z2=>if (rdS V snap p).2.2≠0 then e=(rdS V snap p).2.2∧z2=z else if zbh z sess p (rdS V snap p).1≠0 then e=zbh z sess p (rdS V snap p).1∧z2=z else ∃so co,zcg V snap sess l (z.putted sess p (rdS V snap p).1 so co) e z2
def zes (m:Nat→Bool)(f:Nat):List Nat:=(List.range' f (16 - f)).filter m
theorem zla {m:Nat→Bool}{k:Nat}(h:k<16):zes m k=if m k=true then k::zes m (k+1) else zes m (k+1):=by
  unfold zes;rw[show 16 - k=(16 - (k+1))+1 by omega,List.range'_succ,List.filter_cons]
theorem znU {m:Nat→Bool}{k:Nat}(h:16≤k):zes m k=[]:=by
  unfold zes;rw[show 16 - k=0 by omega]
  rfl
theorem zlj {m q:Nat→Bool}{f t:Nat}(hft:f≤t)(ht:t≤16)(hq:∀p,p<16→q p=wnM m f t p):zes q 0++zes m t=zes m f:=by
  unfold zes;have e1:List.range' 0 (16 - 0)=List.range' 0 f++(List.range' f (t - f)++List.range' t (16 - t)):=by
    rw[show List.range' f (t - f)++List.range' t (16 - t)=List.range' f (16 - f) by
      have:=List.range'_append_1 (s:=f) (m:=t - f) (n:=16 - t);rw[show f+(t - f)=t by omega,show t - f+(16 - t)=16 - f by omega] at this;exact this]
    have:=List.range'_append_1 (s:=0) (m:=f) (n:=16 - f);rw[show 0+f=f by omega,show f+(16 - f)=16 by omega] at this;exact this.symm
  have e2:List.range' f (16 - f)=List.range' f (t - f)++List.range' t (16 - t):=by
    have:=List.range'_append_1 (s:=f) (m:=t - f) (n:=16 - t);rw[show f+(t - f)=t by omega,show t - f+(16 - t)=16 - f by omega] at this;exact this.symm
  rw[e1,e2,List.filter_append,List.filter_append,List.filter_append];have a1:(List.range' 0 f).filter q=[]:=List.filter_eq_nil_iff.2 fun p hp=>by
    rw[List.mem_range'_1] at hp;rw[hq p (by omega)];simp[wnM];omega
  have a2:(List.range' t (16 - t)).filter q=[]:=List.filter_eq_nil_iff.2 fun p hp=>by
    rw[List.mem_range'_1] at hp;rw[hq p (by omega)];simp[wnM];omega
  have a3:(List.range' f (t - f)).filter q=(List.range' f (t - f)).filter m:=List.filter_congr fun p hp=>by
    rw[List.mem_range'_1] at hp;rw[hq p (by omega)];simp[wnM];omega
  rw[a1,a2,a3];simp
theorem Rok.put {z:RpM}{id at_:Int}{d:Bytes}{so:Option Addr}{co:Nat}(R:Rok z)(hp:zbh z id at_ d=0):Rok (z.putted id at_ d so co):=by
  unfold RpM.putted;unfold zbh at hp;cases hf:fSe z.ses id with
  | none=>exact R
  | some y=>
    rw[hf] at hp;simp only at hp ⊢;obtain ⟨hy,_,_⟩:=zkK hf;have hym:=List.mem_of_getElem? hy;have h1:¬(at_<0∨y.size≤at_):=fun h=>(by rw[if_pos h] at hp;cases hp);rw[if_neg h1] at hp;have h2:¬6<d.length:=fun h=>(by rw[if_pos h] at hp;cases hp);refine ⟨R.con,R.next,fun e he=>?_,R.keyM,fun e he=>?_⟩
    · rcases zgH he with he | rfl
      · exact R.keyS e he
      · exact R.keyS y hym
    · rcases zgH he with he | rfl
      · exact R.sesS e he
      · exact ztX (R.sesS y hym) h1 h2
open _root_.Go.Proofs.Tryz
theorem zvl (q:Nat→Bool){k:Nat}(h:k<16):ztT (ofM q) (k:Int)=q k:=by
  rw[zuB (by omega),Int.toNat_natCast,zt7 q h]
theorem zrx {m:Nat→Bool}{f many:Int}(hf:0≤f∧f≤16)(h1:1≤many):∃t:Nat,f.toNat≤t∧t≤16∧zes (zey m f many).1 0++zes m t=zes m f.toNat∧(((zey m f many).2<0∧t=16)∨(f<(zey m f many).2∧(zey m f many).2=t)):=by
  rcases zu7 m hf.1 h1 with ⟨h2,h3,_⟩ | ⟨h2,h3,h4,_⟩
  · exact ⟨16,by omega,by omega,zlj (by omega) (by omega) fun p hp=>by rw[h3 p hp,show ((f.toNat:Nat):Int)=f by omega];rfl, .inl ⟨by omega,rfl⟩⟩
  · exact ⟨(zey m f many).2.toNat,by omega,by omega,zlj (by omega) (by omega) fun p hp=>by rw[h4 p hp,show ((f.toNat:Nat):Int)=f by omega,show (((zey m f many).2.toNat:Nat):Int)=(zey m f many).2 by omega], .inr ⟨h2,by omega⟩⟩
theorem zhE (bv b bd:Nat)(V:VdM)(z0:RpM)(sess snap:Int)(l:List Area)(s:Option Addr)(cap:Nat)(page:Int)(hR0:Rok z0)(hsl:V.snaps.length≤1000000)(hsz:∀s∈V.snaps,s.size≤16)(hdl:∀p,(rdS V snap p).1.length≤9223372036854775807)(hl:l.length≤1000000)(hv:okV l)(hp1:1≤page)(F:List HProp):Ct Tryz.prog 88 [ptr bv 0,ptr b 0,I sess,I snap,sl s l.length cap,I page] ([vdk bv V,rpl b bd z0,roL 2 s (qM l)]++F) (fun v L'=>∃e z2,zcg V snap sess (zes (mk l) 0) z0 e z2∧v=yK e∧L'=vdk bv V::rpl b bd z2::roL 2 s (qM l)::F):=by
  show Ct Tryz.prog 88 [ptr bv 0,ptr b 0,I sess,I snap,sl s l.length cap,I page] (vdk bv V::rpl b bd z0::roL 2 s (qM l)::F) _;refine Ct.of func88 rR 56 ntmps88 (by simp) fun w0=>?_;refine gS (gA rR (qb (gS (gA rR (qb (qf (qj ?_)))))));refine qE (α:=Int×RpM) (fun y=>y.1≤16∧Rok y.2∧∀e z2,zcg V snap sess (if y.1<0 then [] else zes (mk l) y.1.toNat) y.2 e z2→zcg V snap sess (zes (mk l) 0) z0 e z2) (fun y=>U [(0,ptr bv 0),(1,ptr b 0),(2,I sess),(3,I snap),(4,sl s l.length cap),(5,I page),(13,I y.1)]) (fun y=>vdk bv V::rpl b bd y.2::roL 2 s (qM l)::F) (fun y=>if y.1<0 then 0 else 17 - y.1.toNat) (0,z0) ⟨by simp,hR0,fun e z2 h=>h⟩ [0,1,2,3,4,5,13] rfl rR ?_;rintro ⟨fr,z1⟩ ⟨hf16,hR1,hI1⟩;simp only[] at hf16 hR1 hI1 ⊢;refine qf (gS (gM rR (g_v (zig rR rR) rR (qb ?_))));refine qg rR (fun h21=>?_) (fun h21=>?_)
  · have hfr:0≤fr∧fr≤16:=⟨by simpa using h21,hf16⟩;refine qh (qj (gS (gM rR (gM rR (gM rR ?_)))));refine g_l (qi (Pre:=[roL 2 s (qM l)]) call139 rR (zki l s cap fr page hl hv)) rR ?_;rintro _ _ ⟨s26,c26,rfl,rfl⟩;obtain ⟨t,ht1,ht2,hpos,hnx⟩:=zrx (m:=mk l) (f:=fr) (many:=page) hfr hp1;refine yB s26 ?_;generalize (zey (mk l) fr page).1=q at*;generalize (zey (mk l) fr page).2=nx at*;refine gM rR (g_v (qd (v:=sl s26 (ofM q).length c26) rR rR) rR (g_v (qd (v:=I nx) rR rR) rR (gA rR (gA rR (qb (qf (gS (gM rR (qb (qj ?_))))))))));refine qE (α:=Nat×RpM) (fun y=>y.1≤16∧Rok y.2∧∀e z2,zcg V snap sess (zes q y.1++zes (mk l) t) y.2 e z2→zcg V snap sess (zes (mk l) 0) z0 e z2) (fun y=>U [(0,ptr bv 0),(1,ptr b 0),(2,I sess),(3,I snap),(4,sl s l.length cap),(5,I page),(14,sl s26 (ofM q).length c26),(15,I nx),(29,I y.1)]) (fun y=>vdk bv V::rpl b bd y.2::roL 2 s26 (qM (ofM q))::roL 2 s (qM l)::F) (fun y=>16 - y.1) (0,z1) ⟨by simp,hR1,fun e z2 h=>hI1 e z2 (by rw[if_neg (by omega),←hpos];exact h)⟩ [0,1,2,3,4,5,14,15,29] rfl rR ?_;rintro ⟨k,z⟩ ⟨hk,hR,hI⟩;simp only[] at hk hR hI ⊢;refine gS (g_v (qJ rR rR) rR (qb (qf ?_)));refine qg rR (fun h30=>?_) (fun h30=>?_)
    · simp at h30;have hk16:k<16:=(by omega);refine qh (qf (qj (gS (gM rR (gA rR (qb (qf (gS (gM rR (gM rR ?_))))))))));refine g_l (qi (Pre:=[roL 2 s26 (qM (ofM q))]) call140 rR (zlt (ofM q) s26 c26 (k:Int) (by unfold zqi;omega) (by have:=zlJ q;omega) (zmA q))) rR ?_;rintro _ _ ⟨rfl,rfl⟩;rw[zvl q hk16];refine g_v (wo rR) rR (qb ?_);refine qg rR (fun h35=>?_) (fun h35=>?_)
      · have hqk:q k=false:=(by simpa using h35);refine qz rR ?_;refine qo (g_v (qu rR rR (w64 (by omega))) rR (gM rR (qb ?_)));exact qm (k+1,z) ⟨by simp only[];omega,hR,fun e z2 h=>hI e z2 (by rw[zla hk16,if_neg (by rw[hqk];simp)];exact h)⟩ (by simp only[];omega) [0,1,2,3,4,5,14,15,29] rfl rfl
      · have hqk:q k=true:=(by simpa using h35);have hq0:zes q k=k::zes q (k+1):=(by rw[zla hk16,if_pos hqk]);rw[hq0] at hI;refine qh (gS (gM rR (gM rR (gM rR ?_))));refine g_l (qi (Pre:=[vdk bv V]) call61 rR (zjy bv V snap (k:Int) hsl hsz)) rR ?_;rintro _ _ ⟨rfl,rfl⟩;refine gM rR (g_v (qd (v:=Str (rdS V snap (k:Int)).1) rR rR) rR (g_v (qd (v:=I (rdS V snap (k:Int)).2.1) rR rR) rR (g_v (qd (v:=yK (rdS V snap (k:Int)).2.2) rR rR) rR (gA rR (gA rR (gA rR (qb (qf (gS (gM rR (g_v (zab underlying37 rR) rR (qb ?_))))))))))));refine qg rR (fun h45=>?_) (fun h45=>?_)
        · have hrd:(rdS V snap (k:Int)).2.2=0:=(by simpa using h45);refine qo (gM rR (gM rR (gM rR (gM rR ?_))));refine g_l (qi (Pre:=[rpl b bd z]) call14 rR (zcY b bd z sess (k:Int) (rdS V snap (k:Int)).1 hR (hdl _))) rR ?_;rintro _ _ (⟨he,rfl,rfl⟩ | ⟨he,so,co,rfl,rfl⟩)
          · refine gA rR (qb (gS (gM rR (g_v (yf underlying37 rR) rR (qb ?_)))));refine qg rR (fun h52=>?_) (fun h52=>?_)
            · refine gS (gM rR (gA rR (qb ?_)));exact ql (vdk bv V::rpl b bd z::roL 2 s (qM l)::F) rfl ⟨_,z,hI _ z (by show zcg V snap sess (k::(zes q (k+1)++zes (mk l) t)) z _ z;unfold zcg;rw[if_neg (by omega),if_pos he];exact ⟨rfl,rfl⟩),rfl,rfl⟩
            · have hz:zbh z sess (k:Int) (rdS V snap (k:Int)).1=0:=(by simpa using h52);exact absurd hz he
          · refine gA rR (qb (gS (gM rR (g_v (yf underlying37 rR) rR (qb ?_)))));refine qg rR (fun h52=>?_) (fun h52=>?_)
            · simp at h52
            · refine qh (qF (qo (g_v (qu rR rR (w64 (by omega))) rR (gM rR (qb ?_)))));exact qm (k+1,z.putted sess (k:Int) (rdS V snap (k:Int)).1 so co) ⟨by simp only[];omega,hR.put he,fun e z2 h=>hI e z2 (by show zcg V snap sess (k::(zes q (k+1)++zes (mk l) t)) z e z2;unfold zcg;rw[if_neg (by omega),if_neg (by omega)];exact ⟨so,co,h⟩)⟩ (by simp only[];omega) [0,1,2,3,4,5,14,15,29] rfl rfl
        · have hrd:¬(rdS V snap (k:Int)).2.2=0:=(by simpa using h45);refine qh (gS (gM rR (g_v (yf underlying37 rR) rR (qb ?_))));refine qg rR (fun h52=>?_) (fun h52=>?_)
          · refine gS (gM rR (gA rR (qb ?_)))
            first | exact ql (vdk bv V::rpl b bd z1::roL 2 s (qM l)::F) rfl ⟨0,z1,hI1 0 z1 (by rw[if_pos hfr];exact ⟨rfl,rfl⟩),rfl,rfl⟩ | exact ql (vdk bv V::rpl b bd z::roL 2 s (qM l)::F) rfl ⟨_,z,hI _ z (by show zcg V snap sess (k::(zes q (k+1)++zes (mk l) t)) z _ z;unfold zcg;rw[if_pos hrd];exact ⟨rfl,rfl⟩),rfl,rfl⟩
          · exact absurd (by simpa using h52) hrd
    · simp at h30;obtain rfl:k=16:=(by omega);refine qz rR ?_;refine qo (gM rR (gA rR (qb (qF ?_))));refine qm (nx,z) ⟨by simp only[];omega,hR,?_⟩ ?_ [0,1,2,3,4,5,13] rfl rfl
      · intro e z2 h;refine hI e z2 ?_;rw[znU (by omega),List.nil_append];rcases hnx with ⟨h1,h2⟩ | ⟨h1,h2⟩
        · rw[h2,znU (by omega)];rw[if_pos h1] at h;exact h
        · rw[if_neg (by omega),h2] at h;simpa using h
      · simp only[];rcases hnx with ⟨h1,h2⟩ | ⟨h1,h2⟩
        · rw[if_pos h1,if_neg (by omega)];omega
        · rw[if_neg (by omega),if_neg (by omega)];omega
  · have hfr:fr<0:=(by simp at h21;omega);refine qz rR ?_;refine gS (gA rR (qb ?_))
    first | exact ql (vdk bv V::rpl b bd z1::roL 2 s (qM l)::F) rfl ⟨0,z1,hI1 0 z1 (by rw[if_pos hfr];exact ⟨rfl,rfl⟩),rfl,rfl⟩ | exact ql (vdk bv V::rpl b bd z::roL 2 s (qM l)::F) rfl ⟨_,z,hI _ z (by show zcg V snap sess (k::(zes q (k+1)++zes (mk l) t)) z _ z;unfold zcg;rw[if_pos hrd];exact ⟨rfl,rfl⟩),rfl,rfl⟩
def SameS (z z2:RpM):Prop:=z2.h=z.h∧z2.used=z.used∧z2.rows=z.rows∧z2.S=z.S∧z2.L=z.L∧z2.n=z.n∧z2.mou=z.mou∧z2.next=z.next
theorem SameS.refl (z:RpM):SameS z z:=⟨rfl,rfl,rfl,rfl,rfl,rfl,rfl,rfl⟩
theorem SameS.trans {a b c:RpM}(h:SameS a b)(k:SameS b c):SameS a c:=⟨k.1.trans h.1,k.2.1.trans h.2.1,k.2.2.1.trans h.2.2.1,k.2.2.2.1.trans h.2.2.2.1,k.2.2.2.2.1.trans h.2.2.2.2.1,k.2.2.2.2.2.1.trans h.2.2.2.2.2.1,k.2.2.2.2.2.2.1.trans h.2.2.2.2.2.2.1,k.2.2.2.2.2.2.2.trans h.2.2.2.2.2.2.2⟩
theorem zhQ (z:RpM)(id at_:Int)(d:Bytes)(so:Option Addr)(co:Nat):SameS z (z.putted id at_ d so co):=by
  unfold RpM.putted;cases fSe z.ses id with
  | none=>exact SameS.refl z
  | some e=>exact ⟨rfl,rfl,rfl,rfl,rfl,rfl,rfl,rfl⟩
theorem zgk {V:VdM}{snap sess:Int}:∀{l:List Nat} {z z2:RpM} {e:Int},Rok z→zcg V snap sess l z e z2→Rok z2∧SameS z z2
  | [],z,z2,e,R,h=>by obtain ⟨_,rfl⟩:=h;exact ⟨R,SameS.refl _⟩
  | p::l,z,z2,e,R,h=>by
    unfold zcg at h;by_cases h1:(rdS V snap p).2.2≠0
    · rw[if_pos h1] at h;obtain ⟨_,rfl⟩:=h;exact ⟨R,SameS.refl _⟩
    · rw[if_neg h1] at h;by_cases h2:zbh z sess p (rdS V snap p).1≠0
      · rw[if_pos h2] at h;obtain ⟨_,rfl⟩:=h;exact ⟨R,SameS.refl _⟩
      · rw[if_neg h2] at h;obtain ⟨so,co,h⟩:=h;obtain ⟨a,b⟩:=zgk (R.put (Decidable.not_not.1 h2)) h;exact ⟨a,(zhQ _ _ _ _ _ _).trans b⟩
theorem Dk.same {i:Nat}{D:DiskM}{z z2:RpM}(h:Dk i D z)(s:SameS z z2):Dk i D z2:=by
  obtain ⟨s1,s2,s3,_⟩:=s;exact ⟨h.ok,h.s80,by rw[s1];exact h.hd,by rw[s3];exact h.len,by rw[s3];exact h.okr,by rw[s2];exact h.used,by rw[s3];exact h.srt⟩
theorem Rok.begin {z:RpM}{a:Nat}{base disk size:Int}(R:Rok z)(hn:z.next≤999999)(hb:wm z base disk size=0):Rok (z.begun a base disk size):=by
  have hnx:=R.next;have hsz:¬(disk<1∨999<disk∨size<1∨16<size):=fun h=>(by unfold wm at hb;rw[if_pos h] at hb;cases hb);refine ⟨R.con,by show 1≤z.next+1∧z.next+1≤1000000;omega,fun e he=>?_,fun e he=>by have:=R.keyM e he;show 1≤e.key∧e.key<z.next+1;omega,fun e he=>?_⟩
  · rcases List.mem_append.1 he with he | he
    · have:=R.keyS e he;show 1≤e.key∧e.key<z.next+1;omega
    · rw[List.mem_singleton] at he;subst he;show 1≤z.next∧z.next<z.next+1;omega
  · rcases List.mem_append.1 he with he | he
    · exact R.sesS e he
    · rw[List.mem_singleton] at he;subst he;exact ⟨by show 1≤size∧size≤16;omega,by simp,fun p hp=>by cases hp⟩
theorem ztg {l:List SeE}{id:Int}(h:fSe l id=none):dSe l id=l:=by
  unfold fSe at h;unfold dSe;rw[List.find?_eq_none] at h;exact List.filter_eq_self.2 fun e he=>by have:=h e he;simpa using this
def zmW (D:DiskM)(V:VdM)(z:RpM)(disk snap base:Int)(m:Nat→Bool)(page n e:Int)(D2:DiskM)(z2:RpM):Prop:=
  if (szS V snap).2≠0 then n=0∧e=(szS V snap).2∧D2=D∧z2=z
  else if page<1 then n=0∧e=1∧D2=D∧z2=z
  else if wm z base disk (szS V snap).1≠0 then n=0∧e=wm z base disk (szS V snap).1∧D2=D∧z2=z
  else ∃a e1 z1,zcg V snap z.next (zes (mk (ofM (ltM m (szS V snap).1))) 0) (z.begun a base disk (szS V snap).1) e1 z1∧
    ((e1≠0∧n=0∧e=e1∧D2=D∧z2=z1.sess (dSe z1.ses z.next))∨
     (e1=0∧∃n1 e2 y,zod D z1 z.next n1 e2 D2 y∧((e2≠0∧n=0∧e=e2∧z2=y.sess (dSe y.ses z.next))∨(e2=0∧n=n1∧e=0∧z2=y))))
theorem zlk {z:RpM}{id:Int}(h:fSe z.ses id=none):z.sess (dSe z.ses id)=z:=by rw[ztg h];rfl
theorem zhk {ee:Bool}(bv b bd:Nat)(V:VdM)(z:RpM)(D:DiskM)(disk snap base:Int)(l:List Area)(s:Option Addr)(cap:Nat)(page:Int)(hR:Rok z)(hn:z.next≤999999)(hD:Dk 1000 D z)(hsl:V.snaps.length≤1000000)(hsz:∀s∈V.snaps,s.size≤16)(hdl:∀p,(rdS V snap p).1.length≤9223372036854775807)(hl:l.length≤1000000)(hv:okV l)(F:List HProp):Ct Tryz.prog 51 [ptr bv 0,ptr b 0,I disk,I snap,I base,sl s l.length cap,I page] ([qG ee,vdk bv V,rpl b bd z,dsk 140 142 bd (D),roL 2 s (qM l)]++F) (fun v L'=>∃n e D2 z2,zmW D V z disk snap base (mk l) page n e D2 z2∧v= .tuple #[I n,yK e]∧L'=rpl b bd (z2)::vdk bv V::dsk 140 142 bd (D2)::qG ee::roL 2 s (qM l)::F):=by
  show Ct Tryz.prog 51 [ptr bv 0,ptr b 0,I disk,I snap,I base,sl s l.length cap,I page] (qG ee::vdk bv V::rpl b bd z::dsk 140 142 bd (D)::roL 2 s (qM l)::F) _;refine Ct.of func51 rR 71 ntmps51 (by simp) fun w0=>?_;refine gS (gA rR (gA rR (qb (gS (gM rR (gM rR ?_))))));refine g_l (qi (Pre:=[vdk bv V]) call28 rR (zhr bv V snap hsl)) rR ?_;rintro _ _ ⟨rfl,rfl⟩;refine gM rR (g_v (qd (v:=I (szS V snap).1) rR rR) rR (g_v (qd (v:=yK (szS V snap).2) rR rR) rR (gA rR (gA rR (qb (qf (gS (gM rR (g_v (yf underlying37 rR) rR (qb ?_))))))))));refine qg rR (fun h27=>?_) (fun h27=>?_)
  · have hsz0:(szS V snap).2≠0:=(by simpa using h27);refine gS (gM rR (gA rR (gA rR (qb ?_))));exact ql (rpl b bd (z)::vdk bv V::dsk 140 142 bd (D)::qG ee::roL 2 s (qM l)::F) rfl ⟨0,(szS V snap).2,D,z,by unfold zmW;rw[if_pos hsz0];exact ⟨rfl,rfl,rfl,rfl⟩,rfl,rfl⟩
  · have hsz0:¬(szS V snap).2≠0:=(by simpa using h27);refine qh (qf (gS (gM rR (g_v (qJ rR rR) rR (qb ?_)))));refine qg rR (fun h30=>?_) (fun h30=>?_)
    · have hpg:page<1:=(by simpa using h30);refine gS (g_v (qB underlying108 rR rR) rR (gA rR (gA rR (qb ?_))));exact ql (rpl b bd (z)::vdk bv V::dsk 140 142 bd (D)::qG ee::roL 2 s (qM l)::F) rfl ⟨0,1,D,z,by unfold zmW;rw[if_neg hsz0,if_pos hpg];exact ⟨rfl,rfl,rfl,rfl⟩,rfl,rfl⟩
    · have hpg:¬page<1:=(by simpa using h30);refine qh (gS (gM rR (gM rR (gM rR (gM rR ?_)))));refine g_l (qi (Pre:=[rpl b bd z]) call12 rR (zb9 b bd z base disk (szS V snap).1 hR)) rR ?_;rintro _ _ (⟨hbe,rfl,rfl⟩ | ⟨hbe,a,rfl,rfl⟩)
      · refine gM rR (g_v (qd (v:=I 0) rR rR) rR (g_v (qd (v:=yK (wm z base disk (szS V snap).1)) rR rR) rR (gA rR (gA rR (qb (qf (gS (gM rR (g_v (yf underlying37 rR) rR (qb ?_))))))))));refine qg rR (fun h41=>?_) (fun h41=>?_)
        · refine gS (gM rR (gA rR (gA rR (qb ?_))));exact ql (rpl b bd (z)::vdk bv V::dsk 140 142 bd (D)::qG ee::roL 2 s (qM l)::F) rfl ⟨0,wm z base disk (szS V snap).1,D,z,by unfold zmW;rw[if_neg hsz0,if_neg hpg,if_pos hbe];exact ⟨rfl,rfl,rfl,rfl⟩,rfl,rfl⟩
        · exact absurd (by simpa using h41) hbe
      · refine gM rR (g_v (qd (v:=I z.next) rR rR) rR (g_v (qd (v:=yK 0) rR rR) rR (gA rR (gA rR (qb (qf (gS (gM rR (g_v (yf underlying37 rR) rR (qb ?_))))))))));refine qg rR (fun h41=>?_) (fun h41=>?_)
        · simp at h41
        · refine qh (gS (gM rR (gM rR (gM rR (gM rR (gM rR (gM rR ?_)))))));refine g_l (qi (Pre:=[roL 2 s (qM l)]) call89 rR (zlY l s cap (szS V snap).1 hl hv)) rR ?_;rintro _ _ ⟨s49,c49,rfl,rfl⟩;refine yB s49 ?_;refine gM rR ?_;refine g_l (qi (Pre:=[vdk bv V,rpl b bd (z.begun a base disk (szS V snap).1),roL 2 s49 (qM (ofM (ltM (mk l) (szS V snap).1)))]) call88 rR (zhE bv b bd V (z.begun a base disk (szS V snap).1) z.next snap (ofM (ltM (mk l) (szS V snap).1)) s49 c49 page (hR.begin hn hbe) hsl hsz hdl (by have:=zlJ (ltM (mk l) (szS V snap).1);omega) (zmA _) (by omega))) rR ?_;rintro _ _ ⟨e1,z1,hsn,rfl,rfl⟩;obtain ⟨hR1,hS1⟩:=zgk (hR.begin hn hbe) hsn;have hD1:Dk 1000 D z1:=Dk.same (z:=(z.begun a base disk (szS V snap).1)) ⟨hD.ok,hD.s80,hD.hd,hD.len,hD.okr,hD.used,hD.srt⟩ hS1;refine gA rR (qb (qf (gS (gM rR (g_v (yf underlying37 rR) rR (qb ?_))))));refine qg rR (fun h53=>?_) (fun h53=>?_)
          · have he1:e1≠0:=(by simpa using h53);refine gS (gM rR (gM rR ?_));refine g_l (qi (Pre:=[rpl b bd (z1)]) call15 rR (zaM b bd (z1) z.next)) rR ?_;rintro _ _ (⟨hno,rfl,rfl⟩ | ⟨w,hw,rfl,rfl⟩);rotate_left
            · refine qb (gS (gM rR (gA rR (gA rR (qb ?_)))));exact ql (rpl b bd (z1.sess (dSe z1.ses z.next))::vdk bv V::dsk 140 142 bd (D)::qG ee::roL 2 s (qM l)::F) rfl ⟨0,e1,D,z1.sess (dSe z1.ses z.next),by unfold zmW;rw[if_neg hsz0,if_neg hpg,if_neg (by omega)];exact ⟨a,e1,z1,hsn, .inl ⟨he1,rfl,rfl,rfl,rfl⟩⟩,rfl,rfl⟩
            · rw[←zlk hno];refine qb (gS (gM rR (gA rR (gA rR (qb ?_)))));exact ql (rpl b bd (z1.sess (dSe z1.ses z.next))::vdk bv V::dsk 140 142 bd (D)::qG ee::roL 2 s (qM l)::F) rfl ⟨0,e1,D,z1.sess (dSe z1.ses z.next),by unfold zmW;rw[if_neg hsz0,if_neg hpg,if_neg (by omega)];exact ⟨a,e1,z1,hsn, .inl ⟨he1,rfl,rfl,rfl,rfl⟩⟩,rfl,rfl⟩
          · have he1:e1=0:=(by simpa using h53);subst he1;refine qh (gS (gM rR (gM rR ?_)));refine g_l (qi (Pre:=[qG ee,rpl b bd z1,dsk 140 142 bd (D)]) call17 rR (zbN b bd 1000 z1 z.next hR1 D hD1 (by decide))) rR ?_;rintro _ _ ⟨n1,e2,D2,y,hf,rfl,rfl⟩;refine gM rR (g_v (qd (v:=I n1) rR rR) rR (g_v (qd (v:=yK e2) rR rR) rR (gA rR (gA rR (qb (qf (gS (gM rR (g_v (yf underlying37 rR) rR (qb ?_))))))))));refine qg rR (fun h65=>?_) (fun h65=>?_)
            · have he2:e2≠0:=(by simpa using h65);refine gS (gM rR (gM rR ?_));refine g_l (qi (Pre:=[rpl b bd (y)]) call15 rR (zaM b bd (y) z.next)) rR ?_;rintro _ _ (⟨hno,rfl,rfl⟩ | ⟨w,hw,rfl,rfl⟩);rotate_left
              · refine qb (gS (gM rR (gA rR (gA rR (qb ?_)))));exact ql (rpl b bd (y.sess (dSe y.ses z.next))::vdk bv V::dsk 140 142 bd (D2)::qG ee::roL 2 s (qM l)::F) rfl ⟨0,e2,D2,y.sess (dSe y.ses z.next),by unfold zmW;rw[if_neg hsz0,if_neg hpg,if_neg (by omega)];exact ⟨a,0,z1,hsn, .inr ⟨rfl,n1,e2,y,hf, .inl ⟨he2,rfl,rfl,rfl⟩⟩⟩,rfl,rfl⟩
              · rw[←zlk hno];refine qb (gS (gM rR (gA rR (gA rR (qb ?_)))));exact ql (rpl b bd (y.sess (dSe y.ses z.next))::vdk bv V::dsk 140 142 bd (D2)::qG ee::roL 2 s (qM l)::F) rfl ⟨0,e2,D2,y.sess (dSe y.ses z.next),by unfold zmW;rw[if_neg hsz0,if_neg hpg,if_neg (by omega)];exact ⟨a,0,z1,hsn, .inr ⟨rfl,n1,e2,y,hf, .inl ⟨he2,rfl,rfl,rfl⟩⟩⟩,rfl,rfl⟩
            · have he2:e2=0:=(by simpa using h65);subst he2;refine qh (gS (gM rR (gA rR (gA rR (qb ?_)))));exact ql (rpl b bd (y)::vdk bv V::dsk 140 142 bd (D2)::qG ee::roL 2 s (qM l)::F) rfl ⟨n1,0,D2,y,by unfold zmW;rw[if_neg hsz0,if_neg hpg,if_neg (by omega)];exact ⟨a,0,z1,hsn, .inr ⟨rfl,n1,0,y,hf, .inr ⟨rfl,rfl,rfl,rfl⟩⟩⟩,rfl,rfl⟩
theorem bldAr (x y:Int)(w:World):(Instr.build 128 #[(0,I x),(1,I y)]).run Tryz.prog w= .ok (.agg #[I x,I y]) w:=by
  simp[Instr.build,zeroValue128,runUnderlying128,sizeOf3,Instr.fill,qV,show ∀k:Int,(I k).cells=#[I k] from fun _=>rfl]
def allA:List Area:=[⟨0,16⟩]
theorem zwt:okV allA:=fun a ha=>by
  unfold allA at ha;rw[List.mem_singleton] at ha;subst ha;decide
theorem zgS {ee:Bool}(bv b bd:Nat)(V:VdM)(z:RpM)(D:DiskM)(disk snap page:Int)(hR:Rok z)(hn:z.next≤999999)(hD:Dk 1000 D z)(hsl:V.snaps.length≤1000000)(hsz:∀s∈V.snaps,s.size≤16)(hdl:∀p,(rdS V snap p).1.length≤9223372036854775807)(F:List HProp):Ct Tryz.prog 22 [ptr bv 0,ptr b 0,I disk,I snap,I page] ([qG ee,vdk bv V,rpl b bd z,dsk 140 142 bd (D)]++F) (fun v L'=>∃n e D2 z2,zmW D V z disk snap 0 (mk allA) page n e D2 z2∧v= .tuple #[I n,yK e]∧L'=rpl b bd z2::vdk bv V::dsk 140 142 bd (D2)::qG ee::F):=by
  show Ct Tryz.prog 22 [ptr bv 0,ptr b 0,I disk,I snap,I page] (qG ee::vdk bv V::rpl b bd z::dsk 140 142 bd (D)::F) _;refine Ct.of func22 rR 22 ntmps22 (by simp) fun w0=>?_;refine gS (gA rR (gA rR (qb (gS (gM rR (gM rR (gM rR (gM rR (g_v (qP rR (bldAr 0 16)) rR ?_)))))))));refine g_l (qs (qM allA) underlying119 sizeOf128 zeroValue128 rR rR rR (by simp[allA,qM];rfl) (by decide) (by decide)) rR ?_;rintro _ _ ⟨b17,rfl,rfl⟩;refine gM rR ?_;refine yB (some ⟨b17,0,none⟩) ?_;refine g_l (qi (Pre:=[qG ee,vdk bv V,rpl b bd z,dsk 140 142 bd (D),roL 2 (some ⟨b17,0,none⟩) (qM allA)]) call51 rR (zhk bv b bd V z D disk snap 0 allA (some ⟨b17,0,none⟩) 1 page hR hn hD hsl hsz hdl (by decide) zwt)) rR ?_;rintro _ _ ⟨n,e,D2,z2,hc,rfl,rfl⟩;refine g_v (qd (v:=I n) rR rR) rR (g_v (qd (v:=yK e) rR rR) rR (gA rR (gA rR (qb ?_))));exact ql (rpl b bd z2::vdk bv V::dsk 140 142 bd (D2)::qG ee::F) rfl ⟨n,e,D2,z2,hc,rfl,rfl⟩
theorem Up.begun {t:Nat}{D:DiskM}{z:RpM}{a:Nat}{base disk size:Int}(R:Up t D z)(ht:t≤90000)(hb:wm z base disk size=0):Up (t+1) D (z.begun a base disk size):=by
  have hn1:=R.rep.rok.next;have hnx:=R.next;have hsz:¬(disk<1∨999<disk∨size<1∨16<size):=fun h=>(by unfold wm at hb;rw[if_pos h] at hb;cases hb);refine ⟨R.rep.turn (by omega) _ _ _ (by omega) (fun e he=>?_) (fun e he=>by have:=R.rep.rok.keyM e he;omega),R.up,by show z.next+1≤_;omega⟩;rcases List.mem_append.1 he with he | he
  · have:=R.rep.rok.keyS e he;exact ⟨by omega,R.rep.rok.sesS e he⟩
  · rw[List.mem_singleton] at he;subst he;exact ⟨by show 1≤z.next∧z.next<z.next+1;omega,⟨by show 1≤size∧size≤16;omega,by simp,fun p hp=>by cases hp⟩⟩
theorem SameS.eq {z z1:RpM}(h:SameS z z1):z1=z.sess z1.ses:=by
  obtain ⟨h1,h2,h3,h4,h5,h6,h7,h8⟩:=h;cases z1;cases z;simp only at h1 h2 h3 h4 h5 h6 h7 h8;subst h1 h2 h3 h4 h5 h6 h7 h8
  rfl
theorem Up.same {t:Nat}{D:DiskM}{z z1:RpM}(R:Up t D z)(h:SameS z z1)(K:Rok z1):Up t D z1:=by
  have e:=h.eq;have hk:=K.keyS;have hs:=K.sesS;have hn:=R.rep.rok.next;rw[e];refine ⟨R.rep.turn (Nat.le_refl _) z1.ses z.mou z.next hn (fun y hy=>⟨?_,hs y hy⟩) R.rep.rok.keyM,R.up,R.next⟩;have:=hk y hy;rw[h.2.2.2.2.2.2.2] at this;exact this
theorem Up.abort {t:Nat}{D:DiskM}{z:RpM}(R:Up t D z)(id:Int):Up t D (z.sess (dSe z.ses id)):=zlS R (dSe z.ses id) fun e he=>(List.mem_filter.1 he).1
theorem zpF {t:Nat}{D D2:DiskM}{z z2:RpM}{id n e:Int}(R:Up t D z)(ht:t≤90000)(k:zod D z id n e D2 z2):
    (n=0∧e≠0∧D2=D∧z2=z∧(fSe z.ses id=none∧e=5∨∃s,fSe z.ses id=some s∧zgn z.S z.L z.n s.base s.disk s.size s.puts= .error e))∨
    (e=0∧Up (t+1) D2 z2∧(∃s,fSe z.ses id=some s∧zgn z.S z.L z.n s.base s.disk s.size s.puts= .ok (z2.S,z2.L,z2.n,n))∧z2.ses=dSe z.ses id∧z2.mou=z.mou∧z2.next=z.next):=by
  unfold zod at k;obtain ⟨G,hC⟩:=R.rep.rok.con;cases hf:fSe z.ses id with
  | none=>
    rw[hf] at k;simp only at k;obtain ⟨rfl,rfl,rfl,rfl⟩:=k;exact .inl ⟨rfl,by decide,rfl,rfl, .inl ⟨rfl,rfl⟩⟩
  | some s=>
    rw[hf] at k;simp only at k;split at k
    · rename_i hr;obtain ⟨rfl,rfl,rfl,rfl⟩:=k;exact .inl ⟨rfl,by have:=zmF hr;omega,rfl,rfl, .inr ⟨s,rfl,hr⟩⟩
    · rename_i S' L' n' r hr;obtain ⟨y,hk,hn,rfl⟩:=k;obtain ⟨G',hC'⟩:=ze1 hC hr;obtain ⟨rfl,R1,e1,e2,e3,e4,e5,e6⟩:=R.kept (by omega) hC' (zlv hC.v hr) hk;rw[if_pos rfl] at hn ⊢;subst hn;refine .inr ⟨rfl,R1.abort id,⟨s,rfl,?_⟩,?_,e5,e6⟩
      · show _=Except.ok (y.S,y.L,y.n,n);rw[e1,e2,e3];exact hr
      · show dSe y.ses id=_;rw[e4]
theorem zxK {t:Nat}{D D2:DiskM}{V:VdM}{z z2:RpM}{disk snap base:Int}{m:Nat→Bool}{page n e:Int}(R:Up t D z)(ht:t≤80000)(k:zmW D V z disk snap base m page n e D2 z2):Up (t+2) D2 z2:=by
  unfold zmW at k;by_cases h1:(szS V snap).2≠0
  · rw[if_pos h1] at k;obtain ⟨_,_,rfl,rfl⟩:=k;exact R.le (by omega)
  rw[if_neg h1] at k;by_cases h2:page<1
  · rw[if_pos h2] at k;obtain ⟨_,_,rfl,rfl⟩:=k;exact R.le (by omega)
  rw[if_neg h2] at k;by_cases h3:wm z base disk (szS V snap).1≠0
  · rw[if_pos h3] at k;obtain ⟨_,_,rfl,rfl⟩:=k;exact R.le (by omega)
  rw[if_neg h3] at k;have hb:wm z base disk (szS V snap).1=0:=(by omega);obtain ⟨a,e1,z1,hs,k⟩:=k;have hnx:=R.next;obtain ⟨K1,S1⟩:=zgk (R.rep.rok.begin (a:=a) (by omega) hb) hs;have R1:Up (t+1) D z1:=(R.begun (by omega) hb).same S1 K1;rcases k with ⟨_,_,_,rfl,rfl⟩ | ⟨_,n1,e2,y,hf,k⟩
  · exact (R1.abort z.next).le (by omega)
  · have R2:Up (t+2) D2 y:=by
      rcases zpF R1 (by omega) hf with ⟨_,_,rfl,rfl,_⟩ | ⟨_,h,_⟩
      · exact R1.le (by omega)
      · exact h
    rcases k with ⟨_,_,_,rfl⟩ | ⟨_,_,_,rfl⟩
    · exact R2.abort z.next
    · exact R2
def dlk (D:VdM):Prop:=(∀i,(D.blocks i).length≤6)∧∀s∈D.snaps,∀i,(s.blocks i).length≤6
theorem zvz (n:Int):dlk (zih n):=⟨fun i=>by simp[zih],fun s hs=>by simp[zih] at hs⟩
theorem zyE {D:VdM}(h:dlk D)(n:Int)(s:Bytes):dlk (wrD D n s):=by
  unfold wrD;split
  · rename_i he;have hs:s.length≤6:=by
      unfold wrE at he;split at he
      · cases he
      · unfold zur at he;split at he
        · cases he
        · omega
    refine ⟨fun i=>?_,h.2⟩;show (upd D.blocks n.toNat s i).length≤6;unfold upd;split
    · exact hs
    · exact h.1 i
  · exact h
theorem zyD {D:VdM}(h:dlk D):dlk (snD D):=by
  unfold snD;split
  · refine ⟨h.1,fun s hs=>?_⟩;rcases List.mem_append.1 hs with hs | hs
    · exact h.2 s hs
    · rw[List.mem_singleton] at hs;subst hs;exact h.1
  · exact h
theorem zxg {D:VdM}(h:dlk D)(id n:Int):(rdS D id n).1.length≤6:=by
  unfold rdS;split
  · simp
  · split
    · simp
    · unfold zgW;cases hs:D.snaps[(zc4 D.snaps id).toNat]? with
      | none=>simp
      | some s=>exact h.2 s (List.mem_of_getElem? hs) _
theorem wkF:(match zgn (mkG gZ) [] 1 0 1 3 [⟨0,[]⟩,⟨1,[120]⟩,⟨2,[]⟩] with | .ok z=>decide (z.2.2.2=1) && decide (rdE z.1 z.2.1 1 1=([120],0)) | .error _=>false)=true:=by decide+kernel
def wkV0:VdM:=wrD (zih 3) 1 [120]
def wkV:VdM:=snD wkV0
theorem wk_wr:wrE (zih 3) 1 [120]=0:=by decide+kernel
theorem wk_sn:snI wkV0=1∧snE wkV0=0:=by decide+kernel
theorem wk_sz:szS wkV 1=(3,0):=by decide+kernel
theorem wk_rd:(rdS wkV 1 0).1=[]∧(rdS wkV 1 0).2.2=0∧(rdS wkV 1 1).1=[120]∧(rdS wkV 1 1).2.2=0∧(rdS wkV 1 2).1=[]∧(rdS wkV 1 2).2.2=0:=by decide+kernel
theorem zx3:zes (mk (ofM (ltM (mk allA) 3))) 0=[0,1,2]:=by decide+kernel
theorem zwD {z:RpM}{y:SeE}(hz:z.ses=[y]){at_:Int}{d:Bytes}(h0:0≤at_∧at_<y.size)(hd:d.length≤6):zbh z y.key at_ d=0∧∀so co,(z.putted y.key at_ d so co).ses=[⟨y.key,y.a,so,co,y.base,y.disk,y.size,zhZ y.puts at_ d⟩]:=by
  have hf:fSe z.ses y.key=some y:=(by rw[hz];unfold fSe;rw[List.find?_cons_of_pos (by simp)]);have hi:sIx z.ses y.key=0:=(by rw[hz];unfold sIx;rw[List.findIdx_cons];simp);refine ⟨?_,fun so co=>?_⟩
  · unfold zbh;rw[hf];simp only;rw[if_neg (by omega),if_neg (by omega)]
  · unfold RpM.putted;rw[hf];simp only;unfold RpM.sess;rw[hi,hz]
    rfl
theorem zi5 {V:VdM}{snap:Int}{p:Nat}{l:List Nat}{z z2:RpM}{y:SeE}{e:Int}(hz:z.ses=[y])(hr:(rdS V snap p).2.2=0)(h0:(p:Int)<y.size)(hd:(rdS V snap p).1.length≤6)(h:zcg V snap y.key (p::l) z e z2):
    ∃z' so co,z'.ses=[⟨y.key,y.a,so,co,y.base,y.disk,y.size,zhZ y.puts p (rdS V snap p).1⟩]∧zcg V snap y.key l z' e z2:=by
  obtain ⟨a,b⟩:=zwD hz (at_:=(p:Int)) ⟨by omega,h0⟩ hd;unfold zcg at h;rw[if_neg (by omega),if_neg (by omega)] at h;obtain ⟨so,co,h⟩:=h;exact ⟨_,so,co,b so co,h⟩
theorem zvp {z z1:RpM}{y:SeE}{e1:Int}(hz:z.ses=[y])(hs:y.size=3)(hp:y.puts=[])(h:zcg wkV 1 y.key [0,1,2] z e1 z1):e1=0∧∃so co,z1.ses=[⟨y.key,y.a,so,co,y.base,y.disk,y.size,[⟨0,[]⟩,⟨1,[120]⟩,⟨2,[]⟩]⟩]:=by
  obtain ⟨r1,r2,r3,r4,r5,r6⟩:=wk_rd;obtain ⟨z2,s2,c2,h2,k2⟩:=zi5 hz r2 (by show (0:Int)<y.size;omega) (by show (rdS wkV 1 0).1.length≤6;rw[r1];decide) h;obtain ⟨z3,s3,c3,h3,k3⟩:=zi5 h2 r4 (by show (1:Int)<y.size;omega) (by show (rdS wkV 1 1).1.length≤6;rw[r3];decide) k2;obtain ⟨z4,s4,c4,h4,k4⟩:=zi5 h3 r6 (by show (2:Int)<y.size;omega) (by show (rdS wkV 1 2).1.length≤6;rw[r5];decide) k3;obtain ⟨rfl,rfl⟩:=k4;refine ⟨rfl,s4,c4,?_⟩;rw[h4,hp];show [(⟨_,_,_,_,_,_,_,zhZ (zhZ (zhZ [] 0 (rdS wkV 1 0).1) 1 (rdS wkV 1 1).1) 2 (rdS wkV 1 2).1⟩:SeE)]=_;rw[r1,r3,r5]
  rfl
theorem zxk {t:Nat}{D D2:DiskM}{z z2:RpM}{n e:Int}(R:Up t D z)(ht:t≤80000)(hS:z.S=mkG gZ)(hL:z.L=[])(hn:z.n=1)(hs:z.ses=[])(k:zmW D wkV z 1 1 0 (mk allA) 2 n e D2 z2):n=1∧e=0∧rdE z2.S z2.L 1 1=([120],0)∧Up (t+2) D2 z2:=by
  have U:=zxK R ht k;unfold zmW at k;rw[wk_sz] at k;simp only[] at k;rw[if_neg (by decide),if_neg (by decide)] at k;have hb:wm z 0 1 3=0:=by
    unfold wm ofE;rw[if_neg (by decide),hs]
    rfl
  rw[if_neg (by omega)] at k;obtain ⟨a,e1,z1,hsn,k⟩:=k;rw[zx3] at hsn;have hnx:=R.next;have hzb:(z.begun a 0 1 3).ses=[⟨z.next,a,none,0,0,1,3,[]⟩]:=by
    unfold RpM.begun;rw[hs]
    rfl
  obtain ⟨K1,S1⟩:=zgk (R.rep.rok.begin (a:=a) (by omega) hb) hsn;have R1:Up (t+1) D z1:=(R.begun (by omega) hb).same S1 K1;obtain ⟨rfl,so,co,hz1⟩:=zvp hzb rfl rfl hsn;rcases k with ⟨h,_⟩ | ⟨_,n1,e2,y,hf,k⟩
  · exact absurd rfl h
  have hfs:fSe z1.ses z.next=some ⟨z.next,a,so,co,0,1,3,[⟨0,[]⟩,⟨1,[120]⟩,⟨2,[]⟩]⟩:=by
    rw[hz1];unfold fSe;rw[List.find?_cons_of_pos (by simp)]
  have q1:z1.S=mkG gZ:=S1.2.2.2.1.trans hS;have q2:z1.L=[]:=S1.2.2.2.2.1.trans hL;have q3:z1.n=1:=S1.2.2.2.2.2.1.trans hn;have w:=wkF;rcases zpF R1 (by omega) hf with ⟨_,_,rfl,rfl,⟨hh,_⟩ | ⟨s,hh,hr⟩⟩ | ⟨rfl,_,⟨s,hh,hr⟩,_⟩
  · rw[hh] at hfs;cases hfs
  · rw[hh] at hfs;injection hfs with hfs;subst hfs;rw[q1,q2,q3] at hr;simp only[] at hr;rw[hr] at w;cases w
  · rw[hh] at hfs;injection hfs with hfs;subst hfs;rw[q1,q2,q3] at hr;simp only[] at hr;rw[hr] at w;simp only[Bool.and_eq_true,decide_eq_true_eq] at w;obtain ⟨w1,w2⟩:=w;rcases k with ⟨h,_⟩ | ⟨_,rfl,rfl,rfl⟩
    · exact absurd rfl h
    · exact ⟨w1,rfl,w2,U⟩
theorem zw4:wrD (zih 3) 1 [120]=wkV0:=rfl
theorem zyj:snD wkV0=wkV:=rfl
theorem zxn:dlk wkV:=zyD (zyE (zvz 3) 1 [120])
theorem zou (F:List HProp):Ct Tryz.prog 7 [] ([za5]++F) (R1 (Bo true) (za5::F)):=by
  show Ct Tryz.prog 7 [] (za5::F) _;refine Ct.of func7 rR 65 ntmps7 (by simp) fun w0=>?_;refine gS (gA rR (qb (gS ?_)));refine g_l (qi (Pre:=[za5]) call21 rR (zha)) rR ?_;rintro _ _ ⟨bd,b,D0,z0,rfl,R0,hu0,hz0,rfl⟩;have U0:Up 1 D0 z0:=⟨R0,hu0,by rw[hz0];show (1:Int)≤1+((1:Nat):Int);omega⟩;refine gM rR (g_v (qd (v:=ptr bd 0) rR rR) rR (g_v (qd (v:=ptr b 0) rR rR) rR (g_v (qd (v:=Bo true) rR rR) rR (gA rR (gA rR (gA rR (qb (gS ?_))))))));refine g_l (qi (Pre:=[]) call20 rR (zk7 3)) rR ?_;rintro _ _ (⟨hno,_,_⟩ | ⟨_,bv,rfl,rfl⟩)
  · exact absurd (by decide) hno
  refine gM rR (g_v (qd (v:=ptr bv 0) rR rR) rR (g_v (qd (v:=yK 0) rR rR) rR (gA rR (gA rR (qb (qf (gS (gM rR (g_v (wo rR) rR (gM rR (qU rR rR (by simp) (qp rR) rR (qU rR rR (by simp) (yf (T:=108) (f:=0) underlying37 rR) rR (g_v (zaH rR rR) rR (gM rR (qU rR rR (by simp) (qp rR) rR ?_)))))))))))))));refine zrs rR rR (by simp) (qi (Pre:=[vdk bv (zih 3)]) call35 rR (zh4 bv (zih 3) 1 [120] (by decide))) rR ?_;rintro _ _ ⟨rfl,rfl⟩;rw[wk_wr,zw4];refine qU rR rR (by simp) (yf (T:=108) (f:=0) underlying37 rR) rR (g_v (zaH rR rR) rR (qb ?_));refine qg rR (fun h31=>?_) (fun h31=>?_)
  · simp at h31
  · refine qh (gS (gM rR ?_));refine g_l (qi (Pre:=[vdk bv (wkV0)]) call36 rR (zjj bv wkV0 (by decide+kernel) (by decide+kernel))) rR ?_;rintro _ _ ⟨rfl,rfl⟩;rw[wk_sn.1,wk_sn.2,zyj];refine gM rR (g_v (qd (v:=I 1) rR rR) rR (g_v (qd (v:=yK 0) rR rR) rR (gA rR (gA rR (qb (gS (gM rR (gM rR (gM rR ?_)))))))));refine g_l (qi (Pre:=[za5,vdk bv (wkV),rpl b bd z0,dsk 140 142 bd (D0)]) call22 rR (zgS bv b bd wkV z0 D0 1 1 2 R0.rok (by have:=U0.next;omega) (R0.dk (by omega)) (by decide+kernel) (by decide+kernel) (fun p=>by have:=zxg zxn 1 p;omega))) rR ?_;rintro _ _ ⟨n,e,D2,z2,hc,rfl,rfl⟩;obtain ⟨rfl,rfl,hrd,U2⟩:=zxk U0 (by decide) (by rw[hz0]) (by rw[hz0]) (by rw[hz0]) (by rw[hz0]) hc;obtain ⟨G2,hC2⟩:=U2.rep.rok.con;refine gM rR (g_v (qd (v:=I 1) rR rR) rR (g_v (qd (v:=yK 0) rR rR) rR (gA rR (gA rR (qb (gS (gM rR ?_)))))));refine g_l (qi (Pre:=[rpl b bd z2]) call9 rR (wZ b bd z2 (by have:=hC2.v.len;omega))) rR ?_;rintro _ _ ⟨q,rfl,rfl⟩;refine gM rR ?_;refine g_l (qi (Pre:=[vlt q z2.S z2.L z2.n]) call37 rR (zaD q z2.S z2.L z2.n 1 1 G2 hC2.v)) rR ?_;rintro _ _ ⟨rfl,rfl⟩;rw[hrd];refine gM rR (g_v (qd (v:=Str [120]) rR rR) rR (g_v (qd (v:=yK 0) rR rR) rR (gA rR (gA rR (qb (gS (gM rR (g_v (zab (T:=108) (f:=0) underlying37 rR) rR (gM rR (qU rR rR (by simp) (qp rR) rR (qU rR rR (by simp) (zab (T:=108) (f:=0) underlying37 rR) rR (g_v (zas rR rR) rR (gM rR (qU rR rR (by simp) (qp rR) rR (qU rR rR (by simp) (zab (T:=108) (f:=0) underlying37 rR) rR (g_v (zas rR rR) rR (gM rR (qU rR rR (by simp) (qp rR) rR (qU rR rR (by simp) (zaF rR rR) rR (g_v (zas rR rR) rR (gA rR (qb ?_))))))))))))))))))))));refine qn rR rR ?_;show Bo _=Bo true;simp
theorem zye {S:SI}{L:List Pt}{n id:Int}{S':SI}{L':List Pt}{n' r:Int}(h:zh0 S L n id= .ok (S',L',n',r)):L'=L.filter (fun x=>!decide (x.id=id))∧n'=n:=by
  unfold zh0 at h;cases hf:yh L id with
  | none=>rw[hf] at h;cases h
  | some p=>
    rw[hf] at h;simp only at h;injection h with h;injection h with e1 h;injection h with e2 h;injection h with e3 e4;exact ⟨e2.symm,e3.symm⟩
theorem find_is {L:List Pt}{id:Int}:(yh L id).isSome=true ↔ ∃p∈L,p.id=id:=by
  unfold yh;rw[List.find?_isSome];simp
theorem zpG {z z2:RpM}(h1:z2.ses=z.ses)(h2:z2.mou=z.mou)(q:Int):zbk z2 q=zbk z q:=by unfold zbk;rw[h1,h2]
theorem zgt:∀{l:List Int} {t:Nat} {D D2:DiskM} {z z2:RpM} {gone:List Int} {e:Int},Up t D z→t+l.length≤90000→l.Nodup→(∀q∈l,(yh z.L q).isSome=true)→zbR l D z gone e D2 z2→
    e=0∧gone.Sublist l∧z2.L=z.L.filter (fun p=>!decide (p.id∈gone))∧z2.ses=z.ses∧z2.mou=z.mou∧z2.next=z.next∧z2.n=z.n∧∀q∈gone,zbk z q=false
  | [],t,D,D2,z,z2,gone,e,R,ht,hnd,hin,h=>by
    obtain ⟨rfl,rfl,rfl,rfl⟩:=h;refine ⟨rfl,List.Sublist.refl _,?_,rfl,rfl,rfl,rfl,fun q hq=>by cases hq⟩
    symm
    exact List.filter_eq_self.2 fun p _=>by simp
  | id::l,t,D,D2,z,z2,gone,e,R,ht,hnd,hin,h=>by
    simp only[List.length_cons] at ht;rw[List.nodup_cons] at hnd;unfold zbR at h;by_cases hu:zbk z id=true
    · rw[if_pos hu] at h;obtain ⟨a1,a2,a3⟩:=zgt R (by omega) hnd.2 (fun q hq=>hin q (List.mem_cons_of_mem _ hq)) h;exact ⟨a1,a2.cons _,a3⟩
    · rw[if_neg hu] at h;have hu0:zbk z id=false:=(by simpa using hu);have hde:zcf z id=0:=by
        unfold zcf;have:=hin id (by simp);rw[if_neg (by rw[Option.isNone_iff_eq_none];intro hn;rw[hn] at this;cases this),hu0]
        rfl
      obtain ⟨e1,D1,z1,hd,h⟩:=h;rcases zcr R.rep (by omega) hd with ⟨rfl,_,_,_,hdr,hs,hm,hx⟩ | ⟨hne,_,he,_⟩ | ⟨_,hn,_⟩
      · rcases h with ⟨hc,_⟩ | ⟨_,g',hk,hg⟩
        · exact absurd rfl hc
        obtain ⟨hL,hn⟩:=zye hdr;obtain ⟨rfl,a2,a3,a4,a5,a6,a7,a8⟩:=zgt (R.drop (by omega) hd) (by omega) hnd.2 (fun q hq=>by
          obtain ⟨p,hp,hpq⟩:=find_is.1 (hin q (List.mem_cons_of_mem _ hq));exact find_is.2 ⟨p,by rw[hL];exact List.mem_filter.2 ⟨hp,by simp;intro e;exact hnd.1 (by rw[←e,hpq];exact hq)⟩,hpq⟩) hk
        rw[if_pos rfl] at hg;subst hg;refine ⟨rfl,a2.cons_cons _,?_,a4.trans hs,a5.trans hm,a6.trans hx,a7.trans hn,fun q hq=>?_⟩
        · rw[a3,hL,List.filter_filter];refine List.filter_congr fun p _=>?_;simp only[List.mem_cons];by_cases h1:p.id=id <;> by_cases h2:p.id∈g' <;> simp[h1,h2]
        · rcases List.mem_cons.1 hq with rfl | hq
          · exact hu0
          · rw[←zpG hs hm];exact a8 q hq
      · exact absurd (he.trans hde) hne
      · exact absurd R.up hn
theorem zqR (L:List Pt)(disk many:Int):(zeH L disk many).Sublist (L.map (·.id)):=by
  unfold zeH;exact (List.take_sublist _ _).trans (List.Sublist.map _ List.filter_sublist)
theorem ids_nodup {S:SI}{L:List Pt}{n:Int}{G:Gh}(h:Vok S L n G):(L.map (·.id)).Nodup:=by
  rw[List.Nodup,List.pairwise_map];exact h.srt.imp fun h=>by omega
theorem zyc {S:SI}{L:List Pt}{n:Int}{G:Gh}(h:Vok S L n G)(disk many:Int):(zeH L disk many).Nodup∧∀q∈zeH L disk many,(yh L q).isSome=true:=by
  refine ⟨(ids_nodup h).sublist (zqR L disk many),fun q hq=>?_⟩;obtain ⟨p,hp,e⟩:=List.mem_map.1 ((zqR L disk many).subset hq);exact find_is.2 ⟨p,hp,e⟩
theorem zjJ {L:List Pt}(h:L.Pairwise fun a b=>a.id<b.id){p q:Pt}(hp:p∈L)(hq:q∈L)(e:p.id=q.id):p=q:=by
  induction L with
  | nil=>cases hp
  | cons a l ih=>
    have h':=List.pairwise_cons.1 h;rcases List.mem_cons.1 hp with rfl | gp
    · rcases List.mem_cons.1 hq with rfl | gq
      · rfl
      · have:=h'.1 q gq;omega
    · rcases List.mem_cons.1 hq with rfl | gq
      · have:=h'.1 p gp;omega
      · exact ih h'.2 gp gq
theorem Up.mounted {t:Nat}{D:DiskM}{z:RpM}{a r:Nat}{id:Int}(R:Up t D z)(ht:t≤90000):Up (t+1) D (z.mounted a r id):=by
  have hn1:=R.rep.rok.next;have hnx:=R.next;refine ⟨R.rep.turn (by omega) _ _ _ (by omega) (fun e he=>⟨by have:=R.rep.rok.keyS e he;omega,R.rep.rok.sesS e he⟩) (fun e he=>?_),R.up,by show z.next+1≤_;omega⟩;rcases List.mem_append.1 he with he | he
  · have:=R.rep.rok.keyM e he;omega
  · rw[List.mem_singleton] at he;subst he;show 1≤z.next∧z.next<z.next+1;omega
theorem Up.written {t:Nat}{D:DiskM}{z:RpM}(R:Up t D z)(k at_:Int)(d:Bytes):Up t D (z.written k at_ d):=by
  unfold RpM.written;split
  · exact R
  · rename_i m hf;obtain ⟨hy,_,_⟩:=zlo hf;refine zl6 R _ fun e he=>?_;rcases zgH he with he | rfl
    · exact R.rep.rok.keyM e he
    · exact R.rep.rok.keyM m (List.mem_of_getElem? hy)
theorem Up.put {t:Nat}{D:DiskM}{z:RpM}(R:Up t D z){k at_:Int}{d:Bytes}(h:zbh z k at_ d=0)(so:Option Addr)(co:Nat):Up t D (z.putted k at_ d so co):=R.same (zhQ z k at_ d so co) (R.rep.rok.put h)
end Go.Proofs.YthdjckbjjfiopadGreatDoor
