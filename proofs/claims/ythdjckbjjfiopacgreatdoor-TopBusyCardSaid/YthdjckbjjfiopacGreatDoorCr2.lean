/- The walk through carrier.send. No condition but the library's tables. -/
import Derived.Test.YthdjckbjjfiopacGreatDoorCr
set_option linter.unusedSimpArgs false
set_option linter.unusedVariables false
namespace Go.Proofs.YthdjckbjjfiopacGreatDoor
open _root_.Go.Proofs.Tryz
open Go.Sl Go.Proofs
theorem zuT (q:Nat→Bool){k:Nat}(h:k<16):ztz (ofM q) (k:Int)=q k:=by
  rw[zuD (by omega),Int.toNat_natCast,zsY q h]
theorem zpL {m:Nat→Bool}{f many:Int}(hf:0≤f∧f≤16)(h1:1≤many):∃t:Nat,f.toNat≤t∧t≤16∧zek (zd6 m f many).1 0++zek m t=zek m f.toNat∧(((zd6 m f many).2<0∧t=16)∨(f<(zd6 m f many).2∧(zd6 m f many).2=t)):=by
  rcases zu8 m hf.1 h1 with ⟨h2,h3,_⟩ | ⟨h2,h3,h4,_⟩
  · exact ⟨16,by omega,by omega,zkl (by omega) (by omega) fun p hp=>by rw[h3 p hp,show ((f.toNat:Nat):Int)=f by omega];rfl, .inl ⟨by omega,rfl⟩⟩
  · exact ⟨(zd6 m f many).2.toNat,by omega,by omega,zkl (by omega) (by omega) fun p hp=>by rw[h4 p hp,show ((f.toNat:Nat):Int)=f by omega,show (((zd6 m f many).2.toNat:Nat):Int)=(zd6 m f many).2 by omega], .inr ⟨h2,by omega⟩⟩
theorem zgm (bv b bd:Nat)(V:VdM)(z0:RpM)(sess snap:Int)(l:List Area)(s:Option Addr)(cap:Nat)(page:Int)(hR0:Rok z0)(hsl:V.snaps.length≤1000000)(hsz:∀s∈V.snaps,s.size≤16)(hdl:∀p,(rdS V snap p).1.length≤9223372036854775807)(hl:l.length≤1000000)(hv:okV l)(hp1:1≤page)(F:List HProp):Ct Tryz.prog 146 [ptr bv 0,ptr b 0,I sess,I snap,sl s l.length cap,I page] ([vdk bv V,rpl b bd z0,roL 2 s (qL l)]++F) (fun v L'=>∃e z2,zcc V snap sess (zek (mk l) 0) z0 e z2∧v=yE e∧L'=vdk bv V::rpl b bd z2::roL 2 s (qL l)::F):=by
  show Ct Tryz.prog 146 [ptr bv 0,ptr b 0,I sess,I snap,sl s l.length cap,I page] (vdk bv V::rpl b bd z0::roL 2 s (qL l)::F) _;refine Ct.of func146 rR 56 ntmps146 (by simp) fun w0=>?_;refine gS (gA rR (qb (gS (gA rR (qb (qf (qk ?_)))))));refine qF (α:=Int×RpM) (fun y=>y.1≤16∧Rok y.2∧∀e z2,zcc V snap sess (if y.1<0 then [] else zek (mk l) y.1.toNat) y.2 e z2→zcc V snap sess (zek (mk l) 0) z0 e z2) (fun y=>U [(0,ptr bv 0),(1,ptr b 0),(2,I sess),(3,I snap),(4,sl s l.length cap),(5,I page),(13,I y.1)]) (fun y=>vdk bv V::rpl b bd y.2::roL 2 s (qL l)::F) (fun y=>if y.1<0 then 0 else 17 - y.1.toNat) (0,z0) ⟨by simp,hR0,fun e z2 h=>h⟩ [0,1,2,3,4,5,13] rfl rR ?_;rintro ⟨fr,z1⟩ ⟨hf16,hR1,hI1⟩;simp only[] at hf16 hR1 hI1 ⊢;refine qf (gS (gM rR (g_v (zhG rR rR) rR (qb ?_))));refine qg rR (fun h21=>?_) (fun h21=>?_)
  · have hfr:0≤fr∧fr≤16:=⟨by simpa using h21,hf16⟩;refine qh (qk (gS (gM rR (gM rR (gM rR ?_)))));refine g_l (qi (Pre:=[roL 2 s (qL l)]) call188 rR (zkO l s cap fr page hl hv)) rR ?_;rintro _ _ ⟨s26,c26,rfl,rfl⟩;obtain ⟨t,ht1,ht2,hpos,hnx⟩:=zpL (m:=mk l) (f:=fr) (many:=page) hfr hp1;refine yM s26 ?_;generalize (zd6 (mk l) fr page).1=q at*;generalize (zd6 (mk l) fr page).2=nx at*;refine gM rR (g_v (qd (v:=sl s26 (ofM q).length c26) rR rR) rR (g_v (qd (v:=I nx) rR rR) rR (gA rR (gA rR (qb (qf (gS (gM rR (qb (qk ?_))))))))));refine qF (α:=Nat×RpM) (fun y=>y.1≤16∧Rok y.2∧∀e z2,zcc V snap sess (zek q y.1++zek (mk l) t) y.2 e z2→zcc V snap sess (zek (mk l) 0) z0 e z2) (fun y=>U [(0,ptr bv 0),(1,ptr b 0),(2,I sess),(3,I snap),(4,sl s l.length cap),(5,I page),(14,sl s26 (ofM q).length c26),(15,I nx),(29,I y.1)]) (fun y=>vdk bv V::rpl b bd y.2::roL 2 s26 (qL (ofM q))::roL 2 s (qL l)::F) (fun y=>16 - y.1) (0,z1) ⟨by simp,hR1,fun e z2 h=>hI1 e z2 (by rw[if_neg (by omega),←hpos];exact h)⟩ [0,1,2,3,4,5,14,15,29] rfl rR ?_;rintro ⟨k,z⟩ ⟨hk,hR,hI⟩;simp only[] at hk hR hI ⊢;refine gS (g_v (qN rR rR) rR (qb (qf ?_)));refine qg rR (fun h30=>?_) (fun h30=>?_)
    · simp at h30;have hk16:k<16:=(by omega);refine qh (qf (qk (gS (gM rR (gA rR (qb (qf (gS (gM rR (gM rR ?_))))))))));refine g_l (qi (Pre:=[roL 2 s26 (qL (ofM q))]) call189 rR (zlq (ofM q) s26 c26 (k:Int) (by unfold zoh;omega) (by have:=zlw q;omega) (zlD q))) rR ?_;rintro _ _ ⟨rfl,rfl⟩;rw[zuT q hk16];refine g_v (wn rR) rR (qb ?_);refine qg rR (fun h35=>?_) (fun h35=>?_)
      · have hqk:q k=false:=(by simpa using h35);refine qz rR ?_;refine qp (g_v (qu rR rR (w64 (by omega))) rR (gM rR (qb ?_)));exact qo (k+1,z) ⟨by simp only[];omega,hR,fun e z2 h=>hI e z2 (by rw[zkq hk16,if_neg (by rw[hqk];simp)];exact h)⟩ (by simp only[];omega) [0,1,2,3,4,5,14,15,29] rfl rfl
      · have hqk:q k=true:=(by simpa using h35);have hq0:zek q k=k::zek q (k+1):=(by rw[zkq hk16,if_pos hqk]);rw[hq0] at hI;refine qh (gS (gM rR (gM rR (gM rR ?_))));refine g_l (qi (Pre:=[vdk bv V]) call190 rR (zjg bv V snap (k:Int) hsl hsz)) rR ?_;rintro _ _ ⟨rfl,rfl⟩;refine gM rR (g_v (qd (v:=Str (rdS V snap (k:Int)).1) rR rR) rR (g_v (qd (v:=I (rdS V snap (k:Int)).2.1) rR rR) rR (g_v (qd (v:=yE (rdS V snap (k:Int)).2.2) rR rR) rR (gA rR (gA rR (gA rR (qb (qf (gS (gM rR (g_v (wE underlying29 rR) rR (qb ?_))))))))))));refine qg rR (fun h45=>?_) (fun h45=>?_)
        · have hrd:(rdS V snap (k:Int)).2.2=0:=(by simpa using h45);refine qp (gM rR (gM rR (gM rR (gM rR ?_))));refine g_l (qi (Pre:=[rpl b bd z]) call149 rR (zcJ b bd z sess (k:Int) (rdS V snap (k:Int)).1 hR (hdl _))) rR ?_;rintro _ _ (⟨he,rfl,rfl⟩ | ⟨he,so,co,rfl,rfl⟩)
          · refine gA rR (qb (gS (gM rR (g_v (qY underlying29 rR) rR (qb ?_)))));refine qg rR (fun h52=>?_) (fun h52=>?_)
            · refine gS (gM rR (gA rR (qb ?_)));exact ql (vdk bv V::rpl b bd z::roL 2 s (qL l)::F) rfl ⟨_,z,hI _ z (by show zcc V snap sess (k::(zek q (k+1)++zek (mk l) t)) z _ z;unfold zcc;rw[if_neg (by omega),if_pos he];exact ⟨rfl,rfl⟩),rfl,rfl⟩
            · have hz:zbz z sess (k:Int) (rdS V snap (k:Int)).1=0:=(by simpa using h52);exact absurd hz he
          · refine gA rR (qb (gS (gM rR (g_v (qY underlying29 rR) rR (qb ?_)))));refine qg rR (fun h52=>?_) (fun h52=>?_)
            · simp at h52
            · refine qh (qG (qp (g_v (qu rR rR (w64 (by omega))) rR (gM rR (qb ?_)))));exact qo (k+1,z.putted sess (k:Int) (rdS V snap (k:Int)).1 so co) ⟨by simp only[];omega,hR.put he,fun e z2 h=>hI e z2 (by show zcc V snap sess (k::(zek q (k+1)++zek (mk l) t)) z e z2;unfold zcc;rw[if_neg (by omega),if_neg (by omega)];exact ⟨so,co,h⟩)⟩ (by simp only[];omega) [0,1,2,3,4,5,14,15,29] rfl rfl
        · have hrd:¬(rdS V snap (k:Int)).2.2=0:=(by simpa using h45);refine qh (gS (gM rR (g_v (qY underlying29 rR) rR (qb ?_))));refine qg rR (fun h52=>?_) (fun h52=>?_)
          · refine gS (gM rR (gA rR (qb ?_)))
            first | exact ql (vdk bv V::rpl b bd z1::roL 2 s (qL l)::F) rfl ⟨0,z1,hI1 0 z1 (by rw[if_pos hfr];exact ⟨rfl,rfl⟩),rfl,rfl⟩ | exact ql (vdk bv V::rpl b bd z::roL 2 s (qL l)::F) rfl ⟨_,z,hI _ z (by show zcc V snap sess (k::(zek q (k+1)++zek (mk l) t)) z _ z;unfold zcc;rw[if_pos hrd];exact ⟨rfl,rfl⟩),rfl,rfl⟩
          · exact absurd (by simpa using h52) hrd
    · simp at h30;obtain rfl:k=16:=(by omega);refine qz rR ?_;refine qp (gM rR (gA rR (qb (qG ?_))));refine qo (nx,z) ⟨by simp only[];omega,hR,?_⟩ ?_ [0,1,2,3,4,5,13] rfl rfl
      · intro e z2 h;refine hI e z2 ?_;rw[zm7 (by omega),List.nil_append];rcases hnx with ⟨h1,h2⟩ | ⟨h1,h2⟩
        · rw[h2,zm7 (by omega)];rw[if_pos h1] at h;exact h
        · rw[if_neg (by omega),h2] at h;simpa using h
      · simp only[];rcases hnx with ⟨h1,h2⟩ | ⟨h1,h2⟩
        · rw[if_pos h1,if_neg (by omega)];omega
        · rw[if_neg (by omega),if_neg (by omega)];omega
  · have hfr:fr<0:=(by simp at h21;omega);refine qz rR ?_;refine gS (gA rR (qb ?_))
    first | exact ql (vdk bv V::rpl b bd z1::roL 2 s (qL l)::F) rfl ⟨0,z1,hI1 0 z1 (by rw[if_pos hfr];exact ⟨rfl,rfl⟩),rfl,rfl⟩ | exact ql (vdk bv V::rpl b bd z::roL 2 s (qL l)::F) rfl ⟨_,z,hI _ z (by show zcc V snap sess (k::(zek q (k+1)++zek (mk l) t)) z _ z;unfold zcc;rw[if_pos hrd];exact ⟨rfl,rfl⟩),rfl,rfl⟩
end Go.Proofs.YthdjckbjjfiopacGreatDoor
