/- The walk through repo.Keep, and what a drop does to a repo's state. No condition but the library's tables. -/
import Derived.Test.YthdjckbjjfiopacGreatDoorRp5
set_option linter.unusedSimpArgs false
set_option linter.unusedVariables false
namespace Go.Proofs.YthdjckbjjfiopacGreatDoor
open _root_.Go.Proofs.Tryz
open Go.Sl Go.Proofs
theorem zeD {t:Nat}{D D2:DiskM}{z z2:RpM}{id e:Int}(R:Rep t D z)(ht:t≤100000)(k:zdR D z id e D2 z2):
    (e=0∧Rep (t+1) D2 z2∧(upW D→upW D2)∧zbW z id=0∧zkp z.S z.L z.n id= .ok (z2.S,z2.L,z2.n,0)∧z2.ses=z.ses∧z2.mou=z.mou∧z2.next=z.next)∨(e≠0∧e≠9∧e=zbW z id∧D2=D∧z2=z)∨
    (e=9∧¬upW D∧zbW z id=0∧∃S' L',zkp z.S z.L z.n id= .ok (S',L',z.n,0)∧ztv (t+1) D2 fun x=>x=yz z.S z.L z.n∨x=yz S' L' z.n):=by
  unfold zdR at k;by_cases hd:zbW z id=0
  · rw[if_neg (by omega)] at k;obtain ⟨S',L',hdr,k⟩:=k;obtain ⟨G,hC⟩:=R.rok.con;obtain ⟨G',hC'⟩:=zne hC hdr;have hsub:∀p∈L',p∈z.L:=by
      unfold zkp at hdr;cases hf:yc z.L id with
      | none=>rw[hf] at hdr;cases hdr
      | some p=>
        rw[hf] at hdr;simp only at hdr;injection hdr with hdr;injection hdr with e1 hdr;injection hdr with e2 hdr;subst e2;exact fun q hq=>(List.mem_filter.1 hq).1
    rcases zj5 R ht hC' (P:=z.L) (by have:=hC.v.len;omega) (fun p hp=>hp) hsub k with ⟨a1,a2,a3,a4,a5,a6,a7,a8,a9⟩ | ⟨a1,a2,a3⟩
    · exact .inl ⟨a1,a2,a3,hd,by rw[a4,a5,a6];exact hdr,a7,a8,a9⟩
    · exact .inr (.inr ⟨a1,a2,hd,S',L',hdr,a3⟩)
  · rw[if_pos hd] at k;obtain ⟨rfl,rfl,rfl⟩:=k;refine .inr (.inl ⟨hd,?_,rfl,rfl,rfl⟩);unfold zbW;split
    · decide
    · split <;> decide
theorem zfo {α:Type}{l:List α}{k:Nat}{x:α}(h:l[k]? =some x):l.drop k=x::l.drop (k+1):=by
  obtain ⟨hk,e⟩:=List.getElem?_eq_some_iff.1 h;rw[←e];exact List.drop_eq_getElem_cons hk
theorem zmC:∀{l:List Int} {D D2:DiskM} {z z2:RpM} {gone:List Int} {e:Int},zco l D z gone e D2 z2→e≠0→gone=[]
  | [],_,_,_,_,_,_,h,he=>h.1
  | id::l,D,D2,z,z2,gone,e,h,he=>by
    unfold zco at h;split at h
    · exact zmC h he
    · obtain ⟨e1,D1,z1,_,h⟩:=h;rcases h with ⟨_,hg,_⟩ | ⟨_,g',_,hg⟩
      · exact hg
      · simpa [he] using hg
def KInv (l:List Int)(D0:DiskM)(z0:RpM)(k:Nat)(D:DiskM)(z:RpM)(gone:List Int):Prop:=∀g' e D2 z2,zco (l.drop k) D z g' e D2 z2→zco l D0 z0 (if e=0 then gone++g' else []) e D2 z2
theorem KInv.start {l:List Int}{D0:DiskM}{z0:RpM}:KInv l D0 z0 0 D0 z0 []:=fun g' e D2 z2 h=>by
  by_cases he:e=0
  · rw[if_pos he];exact h
  · rw[if_neg he,←zmC h he];exact h
theorem KInv.skip {l:List Int}{D0 D:DiskM}{z0 z:RpM}{k:Nat}{gone:List Int}{id:Int}(h:KInv l D0 z0 k D z gone)(hk:l[k]? =some id)(hu:zaQ z id=true):KInv l D0 z0 (k+1) D z gone:=fun g' e D2 z2 hr=>h g' e D2 z2 (by rw[zfo hk];unfold zco;rw[if_pos hu];exact hr)
theorem KInv.went {l:List Int}{D0 D D1:DiskM}{z0 z z1:RpM}{k:Nat}{gone:List Int}{id:Int}(h:KInv l D0 z0 k D z gone)(hk:l[k]? =some id)(hu:zaQ z id=false)(hd:zdR D z id 0 D1 z1):KInv l D0 z0 (k+1) D1 z1 (gone++ [id]):=fun g' e D2 z2 hr=>by
  have:=h (if e=0 then id::g' else []) e D2 z2 (by rw[zfo hk];unfold zco;rw[if_neg (by rw[hu];simp)];exact ⟨0,D1,z1,hd, .inr ⟨rfl,g',hr,rfl⟩⟩);by_cases he:e=0
  · rw[if_pos he,if_pos he] at this;rw[if_pos he];simpa using this
  · rw[if_neg he] at this ⊢;exact this
theorem KInv.err {l:List Int}{D0 D D1:DiskM}{z0 z z1:RpM}{k:Nat}{gone:List Int}{id e:Int}(h:KInv l D0 z0 k D z gone)(hk:l[k]? =some id)(hu:zaQ z id=false)(hd:zdR D z id e D1 z1)(he:e≠0):zco l D0 z0 [] e D1 z1:=by
  have:=h [] e D1 z1 (by rw[zfo hk];unfold zco;rw[if_neg (by rw[hu];simp)];exact ⟨e,D1,z1,hd, .inl ⟨he,rfl,rfl,rfl,rfl⟩⟩);rw[if_neg he] at this;exact this
theorem KInv.done {l:List Int}{D0 D:DiskM}{z0 z:RpM}{gone:List Int}(h:KInv l D0 z0 l.length D z gone):zco l D0 z0 gone 0 D z:=by
  have:=h [] 0 D z (by rw[List.drop_length];exact ⟨rfl,rfl,rfl,rfl⟩);simpa using this
theorem zfr (L:List Pt)(disk keep:Int)(h:L.length≤6):(zfw L disk keep).length≤6:=by
  unfold zfw;have:=List.length_filter_le (fun p:Pt=>decide (p.disk=disk)) L;simp only[List.length_take,List.length_map];omega
theorem zaU {ee:Bool}(b bd t:Nat)(z0:RpM)(D0:DiskM)(disk many:Int)(R0:Rep t D0 z0)(ht:t≤90000)(hm:many≤9223372036854775807)(F:List HProp):Ct Tryz.prog 36 [ptr b 0,I disk,I many] ([qE ee,rpl b bd z0,dsk 219 285 bd (D0)]++F) (fun v L'=>(many<0∧v= .tuple #[sl none 0 0,yE 1]∧L'=rpl b bd z0::dsk 219 285 bd (D0)::qE ee::F)∨(0≤many∧∃gone e D2 z2 s c,zco (zfw z0.L disk many) D0 z0 gone e D2 z2∧v= .tuple #[sl s gone.length c,yE e]∧L'=owL 3 1 s c (yW gone)::rpl b bd z2::dsk 219 285 bd (D2)::qE ee::F)):=by
  show Ct Tryz.prog 36 [ptr b 0,I disk,I many] (qE ee::rpl b bd z0::dsk 219 285 bd (D0)::F) _;obtain ⟨G0,hC⟩:=R0.rok.con;have hlen:=hC.v.len;have hel:=zfr z0.L disk many hlen;refine Ct.of func36 rR 42 ntmps36 (by simp) fun w0=>?_;refine gS (gA rR (gA rR (qb (qf (gS (gM rR (g_v (qN rR rR) rR (qb ?_))))))));refine qg rR (fun h13=>?_) (fun h13=>?_)
  · have hmn:many<0:=(by simpa using h13);refine gS (g_v (qA underlying89 rR rR) rR (gA rR (gA rR (qb ?_))));exact ql (rpl b bd z0::dsk 219 285 bd (D0)::qE ee::F) rfl (.inl ⟨hmn,rfl,rfl⟩)
  · have hmn:¬many<0:=(by simpa using h13);refine qh (gS (gA rR (qb (qf (qf ?_)))));refine wY b bd z0 ?_;intro bs bl so co bv rs rm;refine qp (gM rR (g_v (qc rR) rR (g_v (qa 1 underlying125 rR rR sizeOf24 (by decide) rR) rR (g_v (qe (v:=ptr bv 0) isAgg24 rR rR) rR (gM rR (gM rR ?_))))));refine g_l (qi (Pre:=[vlt bv z0.S z0.L z0.n]) call73 rR (zdg bv z0.S z0.L z0.n disk many (by omega) hm)) rR ?_;rintro _ _ ⟨s21,c21,rfl,rfl⟩;refine yM s21 ?_;refine g_v (yq underlying39 rR) rR (gM rR (qb ?_));refine yk b bd z0 bs bl so co bv rs rm ?_;refine yK 3 1 (yW []) rR ?_;refine qk ?_;refine qF (α:=Nat×DiskM×RpM×List Int×Option Addr×Nat) (fun y=>y.1≤(zfw z0.L disk many).length∧y.2.2.2.1.length≤y.1∧Rep (t+y.1) y.2.1 y.2.2.1∧KInv (zfw z0.L disk many) D0 z0 y.1 y.2.1 y.2.2.1 y.2.2.2.1) (fun y=>U [(0,ptr b 0),(8,sl y.2.2.2.2.1 y.2.2.2.1.length y.2.2.2.2.2),(21,sl s21 (zfw z0.L disk many).length c21),(22,I (zfw z0.L disk many).length),(23,I y.1)]) (fun y=>owL 3 1 y.2.2.2.2.1 y.2.2.2.2.2 (yW y.2.2.2.1)::rpl b bd y.2.2.1::dsk 219 285 bd y.2.1::qE ee::roL 1 s21 (yW (zfw z0.L disk many))::F) (fun y=>(zfw z0.L disk many).length - y.1) (0,D0,z0,[],none,0) ⟨by simp,by simp,by simpa using R0,KInv.start⟩ [0,8,21,22,23] rfl rR ?_;rintro ⟨k,D,z,gone,s8,c8⟩ ⟨hk,hgl,R,hI⟩;simp only[] at hk hgl R hI ⊢;refine gS (g_v (qN rR rR) rR (qb (qf ?_)));refine qg rR (fun h24=>?_) (fun h24=>?_)
    · simp at h24;have hkn:k<(zfw z0.L disk many).length:=(by omega);obtain ⟨id,hid⟩:∃id,(zfw z0.L disk many)[k]? =some id:=⟨_,List.getElem?_eq_getElem hkn⟩;refine qh (qf (qk (gS (g_v (qC k underlying39 sizeOf3 rR rR rR hkn (by rw[wj];exact hkn)) rR (g_v (yd (v:=I id) isAgg3 rR (zbO hid) rR) rR (gA rR (qb (qf (gS (gM rR (gM rR ?_)))))))))));refine g_l (qi (Pre:=[rpl b bd z]) call71 rR (zct b bd z id)) rR ?_;rintro _ _ ⟨rfl,rfl⟩;refine qb ?_;refine qg rR (fun h29=>?_) (fun h29=>?_)
      · have hus:zaQ z id=true:=h29;refine qz rR ?_;refine qp (g_v (qu rR rR (w64 (by omega))) rR (gM rR (qb ?_)));exact qo (k+1,D,z,gone,s8,c8) ⟨by simp only[];omega,by simp only[];omega,⟨R.ok,R.s80,R.cal,by have:=R.ep;simp only[];omega,by have:=R.first;simp only[];omega,R.rows,R.rok⟩,hI.skip hid hus⟩ (by simp only[];omega) [0,8,21,22,23] rfl rfl
      · have hus:zaQ z id=false:=(by simpa using h29);refine qh (gS (gM rR (gM rR ?_)));refine g_l (qi (Pre:=[qE ee,rpl b bd z,dsk 219 285 bd (D)]) call34 rR (yS b bd 1000 z id R.rok D (R.dk (by omega)) (by omega))) rR ?_;rintro _ _ ⟨e,D2,z2,hdr,rfl,rfl⟩;refine gA rR (qb (qf (gS (gM rR (g_v (qY underlying29 rR) rR (qb ?_))))));refine qg rR (fun h34=>?_) (fun h34=>?_)
        · have he:¬e=0:=(by simpa using h34);refine gS (gM rR (gA rR (gA rR (qb ?_))));refine yK 3 1 (yW []) rR ?_;exact ql (owL 3 1 none 0 (yW [])::rpl b bd z2::dsk 219 285 bd (D2)::qE ee::F) rfl (.inr ⟨by omega,[],e,D2,z2,none,0,hI.err hid hus hdr he,rfl,rfl⟩)
        · have he:e=0:=(by simpa using h34);subst he;have R2:Rep (t+k+1) D2 z2:=by
            rcases zeD R (by omega) hdr with ⟨_,h,_⟩ | ⟨h,_⟩ | ⟨h,_⟩
            · exact h
            · exact absurd rfl h
            · cases h
          refine qh (qp (gM rR (gM rR ?_)));refine g_l (qs [[I id]] underlying39 sizeOf3 zeroValue3 rR rR rR (by simp) (by decide) (by decide)) rR ?_;rintro _ _ ⟨b38,rfl,rfl⟩;refine g_l (yC underlying39 sizeOf3 zeroValue3 rfl Tryz.typeInfo3 (by decide) rfl rfl (wj _) rfl (by simp) (by intro r hr;simp at hr;subst hr;rfl) ⟨by omega,by decide,by decide⟩) rfl ?_;rintro _ _ ⟨s39,c39,rfl,rfl⟩;rw[show yW gone++ [[I id]]=yW (gone++ [id]) by simp[yW],show gone.length+1=(gone++ [id]).length by simp];refine gA rR (qb (qG (qp (g_v (qu rR rR (w64 (by omega))) rR (gM rR (qb ?_))))));exact qo (k+1,D2,z2,gone++ [id],s39,c39) ⟨by simp only[];omega,by simp only[List.length_append,List.length_cons,List.length_nil];omega,by rw[←Nat.add_assoc];exact R2,hI.went hid hus hdr⟩ (by simp only[];omega) [0,8,21,22,23] rfl rfl
    · simp at h24;obtain rfl:k=(zfw z0.L disk many).length:=(by omega);refine qz rR ?_;refine gS (gM rR (gA rR (gA rR (qb ?_))));exact ql (owL 3 1 s8 c8 (yW gone)::rpl b bd z::dsk 219 285 bd (D)::qE ee::F) rfl (.inr ⟨by omega,gone,0,D,z,s8,c8,hI.done,rfl,rfl⟩)
end Go.Proofs.YthdjckbjjfiopacGreatDoor
