/- The walk through the laws' Do: one act on a repo. No condition but the library's tables. -/
import Derived.Test.YthdjckbjjfiopacGreatDoorRp7
import Derived.Test.YthdjckbjjfiopacGreatDoorPartD
set_option linter.unusedSimpArgs false
set_option linter.unusedVariables false
namespace Go.Proofs.YthdjckbjjfiopacGreatDoor
open _root_.Tryz
open Go.Sl Go.Proofs
def dkBeg:Bytes:=[98,101,103,105,110]
def dkPut:Bytes:=[112,117,116]
def dkFin:Bytes:=[102,105,110,105,115,104]
def dkAbo:Bytes:=[97,98,111,114,116]
def dkAgn:Bytes:=[97,103,97,105,110]
def dkDrp:Bytes:=[100,114,111,112]
def dkKee:Bytes:=[107,101,101,112]
def dkMou:Bytes:=[109,111,117,110,116]
def dkUnm:Bytes:=[117,110,109,111,117,110,116]
def dkRea:Bytes:=[114,101,97,100]
def dkWri:Bytes:=[119,114,105,116,101]
def dkSav:Bytes:=[115,97,118,101]
def zkW (l:List Int):Int:=l.foldl (fun n i=>1000*n+i) 0
def zvX (D:DiskM)(z:RpM)(e:Int)(D2:DiskM)(z2:RpM):Prop:=we D (ckL (nxH z.h z.rows (200 - 122)) (yq z.rows))=(e,D2)∧((e≠0∧z2=z)∨(e=0∧∃ds used',used'≤200 - 122∧yX (z.h.first+(200 - 122)) (zi8 D2 122) (200 - 122) 0 [] [] 0=(ds,used')∧z2=⟨nxH z.h z.rows (200 - 122),used',z.rows,z.S,z.L,z.n,z.ses,z.mou,z.next⟩))
def zbf (D:DiskM)(z:RpM)(x:ActM)(n:Int)(s:Bytes)(e:Int)(D2:DiskM)(z2:RpM):Prop:=
  if x.kind=dkBeg then s=[]∧D2=D∧((wn z x.a x.b x.c≠0∧n=0∧e=wn z x.a x.b x.c∧z2=z)∨(wn z x.a x.b x.c=0∧n=z.next∧e=0∧∃a,z2=z.begun a x.a x.b x.c))
  else if x.kind=dkPut then n=0∧s=[]∧D2=D∧((zbO z x.a x.b x.s≠0∧e=zbO z x.a x.b x.s∧z2=z)∨(zbO z x.a x.b x.s=0∧e=0∧∃so co,z2=z.putted x.a x.b x.s so co))
  else if x.kind=dkFin then s=[]∧zrc D z x.a n e D2 z2
  else if x.kind=dkAbo then n=0∧s=[]∧D2=D∧((fSe z.ses x.a=none∧e=5∧z2=z)∨(∃y,fSe z.ses x.a=some y∧e=0∧z2=z.sess (dSe z.ses x.a)))
  else if x.kind=dkAgn then s=[]∧zig D z x.a n e D2 z2
  else if x.kind=dkDrp then n=0∧s=[]∧zgX D z x.a e D2 z2
  else if x.kind=dkKee then s=[]∧((x.b<0∧n=0∧e=1∧D2=D∧z2=z)∨(0≤x.b∧∃gone,zcf (zew z.L x.a x.b) D z gone e D2 z2∧n=zkW gone))
  else if x.kind=dkMou then s=[]∧D2=D∧((zcl z x.a≠0∧n=0∧e=zcl z x.a∧z2=z)∨(zcl z x.a=0∧n=z.next∧e=0∧∃a r,z2=z.mounted a r x.a))
  else if x.kind=dkUnm then n=0∧s=[]∧D2=D∧((fMo z.mou x.a=none∧e=5∧z2=z)∨(∃y,fMo z.mou x.a=some y∧e=0∧z2=z.moun (dMo z.mou x.a)))
  else if x.kind=dkRea then n=0∧s=(zbz z x.a x.b).1∧e=(zbz z x.a x.b).2∧D2=D∧z2=z
  else if x.kind=dkWri then n=0∧s=[]∧D2=D∧((zbk z x.a x.b x.s≠0∧e=zbk z x.a x.b x.s∧z2=z)∨(zbk z x.a x.b x.s=0∧e=0∧z2=z.written x.a x.b x.s))
  else if x.kind=dkSav then n=0∧s=[]∧zvX D z e D2 z2
  else n=0∧s=[]∧e=0∧D2=D∧z2=z
theorem zi7:∀{l:List Int} {D D2:DiskM} {z z2:RpM} {gone:List Int} {e:Int},zcf l D z gone e D2 z2→gone.length≤l.length∧∀g∈gone,g∈l
  | [],_,_,_,_,_,_,h=>by rw[h.1];simp
  | id::l,D,D2,z,z2,gone,e,h=>by
    unfold zcf at h;split at h
    · have:=zi7 h;exact ⟨by simp only[List.length_cons];omega,fun g hg=>List.mem_cons_of_mem _ (this.2 g hg)⟩
    · obtain ⟨e1,D1,z1,_,h⟩:=h;rcases h with ⟨_,hg,_⟩ | ⟨_,g',hk,hg⟩
      · rw[hg];simp
      · have:=zi7 hk;rw[hg];split
        · refine ⟨by simp only[List.length_cons];omega,fun g hg=>?_⟩;rcases List.mem_cons.1 hg with rfl | hg
          · simp
          · exact List.mem_cons_of_mem _ (this.2 g hg)
        · simp
theorem zp3 (l:List Int)(i:Int):zkW (l++ [i])=1000*zkW l+i:=by unfold zkW;rw[List.foldl_append];rfl
theorem zgF {l:List Int}{k:Nat}{i:Int}(h:l[k]?=some i):zkW (l.take (k+1))=1000*zkW (l.take k)+i:=by
  rw[←zp3];congr 1;rw[List.take_add_one,h]
  rfl
theorem zws {S:SI}{L:List Pt}{n:Int}{G:Gh}(hC:Con S L n G){disk many:Int}:∀g∈zew L disk many,1≤g∧g≤999:=fun g hg=>by
  unfold zew at hg;have h1:=List.mem_of_mem_take hg;obtain ⟨p,hp,rfl⟩:=List.mem_map.1 h1;have:=hC.v.pts p (List.mem_filter.1 hp).1;have:=hC.v.n1;omega
theorem zl5 {l:List Int}(h:∀g∈l,1≤g∧g≤999)(hl:l.length≤6):∀k,k≤l.length→0≤zkW (l.take k)∧zkW (l.take k)<((1000 ^ k:Nat):Int)
  | 0,_=>by simp[zkW]
  | k+1,hk=>by
    have ih:=zl5 h hl k (by omega);have hx:l[k]?=some l[k]:=List.getElem?_eq_getElem (by omega);have:=h l[k] (List.getElem_mem _);rw[zgF hx];have e:((1000 ^ (k+1):Nat):Int)=1000*((1000 ^ k:Nat):Int):=by rw[Nat.pow_succ,Int.natCast_mul];omega
    omega
theorem zqx {ee:Bool}(b bd t:Nat)(z:RpM)(D:DiskM)(x:ActM)(y:ActZ)(R:Rep t D z)(ht:t≤90000)(hxs:x.s.length≤9223372036854775807)(hxb:x.b≤9223372036854775807)(F:List HProp):Ct Tryz.prog 97 [ptr b 0, .agg (zce x y).toArray] ([qE ee,rpl b bd z,dsk 219 285 bd (D)]++F) (fun v L'=>∃n s e D2 z2,zbf D z x n s e D2 z2∧v= .tuple #[I n,Str s,yH e]∧L'=rpl b bd z2::dsk 219 285 bd (D2)::qE ee::F):=by
  show Ct Tryz.prog 97 [ptr b 0, .agg (zce x y).toArray] (qE ee::rpl b bd z::dsk 219 285 bd (D)::F) _;refine Ct.of Tryz.func97 rR 152 Tryz.ntmps97 (by simp) fun w0=>?_
  refine gS ?_;refine g_l (wR (zce x y).toArray rR rR) rR ?_;rintro _ _ ⟨b3,rfl,rfl⟩;refine gA rR (gA rR (gA rR (qb (qf (gS (g_v (qa 0 underlying86 rR rR sizeOf9 (by decide) rR) rR (g_v (qe (v:=Str x.kind) isAgg9 rR rR) rR (qb (ql (gS (g_v (zaz rR rR) rR ?_)))))))))));refine gA rR (qb ?_);refine qh rR (fun h23=>?_) (fun h23=>?_)
  · have hkBeg:x.kind=dkBeg:=by simpa [dkBeg] using h23
    refine gS (gM rR (g_v (qa 2 underlying86 rR rR sizeOf3 (by decide) rR) rR (g_v (qe (v:=I x.a) isAgg3 rR rR) rR (g_v (qa 3 underlying86 rR rR sizeOf3 (by decide) rR) rR (g_v (qe (v:=I x.b) isAgg3 rR rR) rR (g_v (qa 4 underlying86 rR rR sizeOf3 (by decide) rR) rR (g_v (qe (v:=I x.c) isAgg3 rR rR) rR ?_)))))));refine g_l (qj (Pre:=[rpl b bd z]) call35 rR (zb1 b bd z x.a x.b x.c R.rok)) rR ?_;rintro _ _ (⟨he,rfl,rfl⟩ | ⟨he,a,rfl,rfl⟩)
    · skip;refine gM rR (g_v (qd (v:=I 0) rR rR) rR (g_v (qd (v:=yH (wn z x.a x.b x.c)) rR rR) rR (gA rR (gA rR (qb (gS (gM rR (gM rR (gA rR (gA rR (gA rR (qb ?_))))))))))));exact qm (rpl b bd (z)::dsk 219 285 bd (D)::qE ee::F) rfl ⟨0,[],wn z x.a x.b x.c,D,z,by unfold zbf;rw[if_pos hkBeg];exact ⟨rfl,rfl, .inl ⟨he,rfl,rfl,rfl⟩⟩,rfl,rfl⟩
    · skip;refine gM rR (g_v (qd (v:=I z.next) rR rR) rR (g_v (qd (v:=yH 0) rR rR) rR (gA rR (gA rR (qb (gS (gM rR (gM rR (gA rR (gA rR (gA rR (qb ?_))))))))))));exact qm (rpl b bd (z.begun a x.a x.b x.c)::dsk 219 285 bd (D)::qE ee::F) rfl ⟨z.next,[],0,D,z.begun a x.a x.b x.c,by unfold zbf;rw[if_pos hkBeg];exact ⟨rfl,rfl, .inr ⟨he,rfl,rfl,a,rfl⟩⟩,rfl,rfl⟩
  · have hkBeg:¬x.kind=dkBeg:=by simpa [dkBeg] using h23
    refine gS (g_v (zaz rR rR) rR (gA rR (qb ?_)));refine qh rR (fun h38=>?_) (fun h38=>?_)
    · have hkPut:x.kind=dkPut:=by simpa [dkPut] using h38
      refine gS (gM rR (g_v (qa 2 underlying86 rR rR sizeOf3 (by decide) rR) rR (g_v (qe (v:=I x.a) isAgg3 rR rR) rR (g_v (qa 3 underlying86 rR rR sizeOf3 (by decide) rR) rR (g_v (qe (v:=I x.b) isAgg3 rR rR) rR (g_v (qa 1 underlying86 rR rR sizeOf9 (by decide) rR) rR (g_v (qe (v:=Str x.s) isAgg9 rR rR) rR ?_)))))));refine g_l (qj (Pre:=[rpl b bd z]) call149 rR (zcI b bd z x.a x.b x.s R.rok hxs)) rR ?_;rintro _ _ (⟨he,rfl,rfl⟩ | ⟨he,so,co,rfl,rfl⟩)
      · skip;refine gA rR (gA rR (gA rR (qb ?_)));exact qm (rpl b bd (z)::dsk 219 285 bd (D)::qE ee::F) rfl ⟨0,[],zbO z x.a x.b x.s,D,z,by unfold zbf;rw[if_neg hkBeg,if_pos hkPut];exact ⟨rfl,rfl,rfl, .inl ⟨he,rfl,rfl⟩⟩,rfl,rfl⟩
      · skip;refine gA rR (gA rR (gA rR (qb ?_)));exact qm (rpl b bd (z.putted x.a x.b x.s so co)::dsk 219 285 bd (D)::qE ee::F) rfl ⟨0,[],0,D,z.putted x.a x.b x.s so co,by unfold zbf;rw[if_neg hkBeg,if_pos hkPut];exact ⟨rfl,rfl,rfl, .inr ⟨he,rfl,so,co,rfl⟩⟩,rfl,rfl⟩
    · have hkPut:¬x.kind=dkPut:=by simpa [dkPut] using h38
      refine gS (g_v (zaz rR rR) rR (gA rR (qb ?_)));refine qh rR (fun h48=>?_) (fun h48=>?_)
      · have hkFin:x.kind=dkFin:=by simpa [dkFin] using h48
        refine gS (gM rR (g_v (qa 2 underlying86 rR rR sizeOf3 (by decide) rR) rR (g_v (qe (v:=I x.a) isAgg3 rR rR) rR ?_)));refine g_l (qj (Pre:=[qE ee,rpl b bd z,dsk 219 285 bd (D)]) call148 rR (zbQ b bd 1000 z x.a R.rok D (R.dk (by omega)) (by omega))) rR ?_;rintro _ _ ⟨n,e,D2,z2,hf,rfl,rfl⟩
        · skip;refine gM rR (g_v (qd (v:=I n) rR rR) rR (g_v (qd (v:=yH e) rR rR) rR (gA rR (gA rR (qb (gS (gM rR (gM rR (gA rR (gA rR (gA rR (qb ?_))))))))))));exact qm (rpl b bd (z2)::dsk 219 285 bd (D2)::qE ee::F) rfl ⟨n,[],e,D2,z2,by unfold zbf;rw[if_neg hkBeg,if_neg hkPut,if_pos hkFin];exact ⟨rfl,hf⟩,rfl,rfl⟩
      · have hkFin:¬x.kind=dkFin:=by simpa [dkFin] using h48
        refine gS (g_v (zaz rR rR) rR (gA rR (qb ?_)));refine qh rR (fun h59=>?_) (fun h59=>?_)
        · have hkAbo:x.kind=dkAbo:=by simpa [dkAbo] using h59
          refine gS (gM rR (g_v (qa 2 underlying86 rR rR sizeOf3 (by decide) rR) rR (g_v (qe (v:=I x.a) isAgg3 rR rR) rR ?_)));refine g_l (qj (Pre:=[rpl b bd z]) call37 rR (zaI b bd z x.a)) rR ?_;rintro _ _ (⟨he,rfl,rfl⟩ | ⟨w,he,rfl,rfl⟩)
          · skip;refine gA rR (gA rR (gA rR (qb ?_)));exact qm (rpl b bd (z)::dsk 219 285 bd (D)::qE ee::F) rfl ⟨0,[],5,D,z,by unfold zbf;rw[if_neg hkBeg,if_neg hkPut,if_neg hkFin,if_pos hkAbo];exact ⟨rfl,rfl,rfl, .inl ⟨he,rfl,rfl⟩⟩,rfl,rfl⟩
          · skip;refine gA rR (gA rR (gA rR (qb ?_)));exact qm (rpl b bd (z.sess (dSe z.ses x.a))::dsk 219 285 bd (D)::qE ee::F) rfl ⟨0,[],0,D,z.sess (dSe z.ses x.a),by unfold zbf;rw[if_neg hkBeg,if_neg hkPut,if_neg hkFin,if_pos hkAbo];exact ⟨rfl,rfl,rfl, .inr ⟨w,he,rfl,rfl⟩⟩,rfl,rfl⟩
        · have hkAbo:¬x.kind=dkAbo:=by simpa [dkAbo] using h59
          refine gS (g_v (zaz rR rR) rR (gA rR (qb ?_)));refine qh rR (fun h65=>?_) (fun h65=>?_)
          · have hkAgn:x.kind=dkAgn:=by simpa [dkAgn] using h65
            refine gS (gM rR (g_v (qa 2 underlying86 rR rR sizeOf3 (by decide) rR) rR (g_v (qe (v:=I x.a) isAgg3 rR rR) rR ?_)));refine g_l (qj (Pre:=[qE ee,rpl b bd z,dsk 219 285 bd (D)]) call150 rR (zen b bd 1000 z x.a R.rok D (R.dk (by omega)) (by omega))) rR ?_;rintro _ _ ⟨n,e,D2,z2,hf,rfl,rfl⟩
            · skip;refine gM rR (g_v (qd (v:=I n) rR rR) rR (g_v (qd (v:=yH e) rR rR) rR (gA rR (gA rR (qb (gS (gM rR (gM rR (gA rR (gA rR (gA rR (qb ?_))))))))))));exact qm (rpl b bd (z2)::dsk 219 285 bd (D2)::qE ee::F) rfl ⟨n,[],e,D2,z2,by unfold zbf;rw[if_neg hkBeg,if_neg hkPut,if_neg hkFin,if_neg hkAbo,if_pos hkAgn];exact ⟨rfl,hf⟩,rfl,rfl⟩
          · have hkAgn:¬x.kind=dkAgn:=by simpa [dkAgn] using h65
            refine gS (g_v (zaz rR rR) rR (gA rR (qb ?_)));refine qh rR (fun h76=>?_) (fun h76=>?_)
            · have hkDrp:x.kind=dkDrp:=by simpa [dkDrp] using h76
              refine gS (gM rR (g_v (qa 2 underlying86 rR rR sizeOf3 (by decide) rR) rR (g_v (qe (v:=I x.a) isAgg3 rR rR) rR ?_)));refine g_l (qj (Pre:=[qE ee,rpl b bd z,dsk 219 285 bd (D)]) call34 rR (zcn b bd 1000 z x.a R.rok D (R.dk (by omega)) (by omega))) rR ?_;rintro _ _ ⟨e,D2,z2,hf,rfl,rfl⟩
              · skip;refine gA rR (gA rR (gA rR (qb ?_)));exact qm (rpl b bd (z2)::dsk 219 285 bd (D2)::qE ee::F) rfl ⟨0,[],e,D2,z2,by unfold zbf;rw[if_neg hkBeg,if_neg hkPut,if_neg hkFin,if_neg hkAbo,if_neg hkAgn,if_pos hkDrp];exact ⟨rfl,rfl,hf⟩,rfl,rfl⟩
            · have hkDrp:¬x.kind=dkDrp:=by simpa [dkDrp] using h76
              refine gS (g_v (zaz rR rR) rR (gA rR (qb ?_)));refine qh rR (fun h82=>?_) (fun h82=>?_)
              · have hkKee:x.kind=dkKee:=by simpa [dkKee] using h82
                refine gS (gM rR (g_v (qa 2 underlying86 rR rR sizeOf3 (by decide) rR) rR (g_v (qe (v:=I x.a) isAgg3 rR rR) rR (g_v (qa 3 underlying86 rR rR sizeOf3 (by decide) rR) rR (g_v (qe (v:=I x.b) isAgg3 rR rR) rR ?_)))));refine g_l (qj (Pre:=[qE ee,rpl b bd z,dsk 219 285 bd (D)]) call36 rR (zcd b bd t z D x.a x.b R ht hxb)) rR ?_;rintro _ _ (⟨hm,rfl,rfl⟩ | ⟨hm,gone,e,D2,z2,s90,c90,hkp,rfl,rfl⟩)
                · obtain ⟨gone,hg0⟩:∃g:List Int,g=[]:=⟨_,rfl⟩;have hids:∀g∈gone,1≤g∧g≤999:=by rw[hg0];simp
                  have hgl:gone.length≤6:=by rw[hg0];simp
                  refine yJ 3 1 (yS gone) (by rw[hg0];rR) ?_;rw[show (sl none 0 0)=sl none gone.length 0 by rw[hg0];rfl];refine gM rR (g_v (qd (v:=sl none gone.length 0) rR rR) rR (g_v (qd (v:=yH 1) rR rR) rR (gA rR (gA rR (qb (gS (gA rR (qb (qf (gS (gA rR ?_)))))))))));refine qb (ql ?_);refine qF (α:=Nat) (fun k=>k≤(gone).length) (fun k=>U [(13,sl none (gone).length 0),(14,yH 1),(15,I (zkW ((gone).take k))),(16,I k)]) (fun k=>owL 3 1 none 0 (yS (gone))::rpl b bd z::dsk 219 285 bd (D)::qE ee::F) (fun k=>(gone).length - k) 0 (by simp) [13,14,15,16] rR rR ?_;rintro k hk;refine qf (gS (gM rR (gM rR (g_v (yk underlying39 rR) rR (g_v (qL rR rR) rR (qb ?_))))));refine qh rR (fun h96=>?_) (fun h96=>?_)
                  · simp at h96;have hkn:k<gone.length:=by omega
                    obtain ⟨i,hik⟩:∃i,gone[k]?=some i:=⟨_,List.getElem?_eq_getElem hkn⟩;have hib:=hids i (List.mem_of_getElem? hik);have hnb:=zl5 hids hgl k (by omega);have hpw:1000 ^ k≤1000 ^ 5:=Nat.pow_le_pow_right (by decide) (by omega);have hp5:1000 ^ 5=1000000000000000:=by decide
                    rw[hp5] at hpw;refine qi (qf (ql (qp (gM rR (g_v (zdc (r:=1000*zkW (gone.take k)) rR rR (w64 (by omega))) rR (gM rR (gM rR (g_v (qB k underlying39 sizeOf3 rR rR rR hkn (by rw[wl];exact hkn)) rR (g_v (ye (v:=I i) isAgg3 rR (zb5 hik) rR) rR (g_v (qu (r:=zkW (gone.take (k+1))) rR rR (by rw[zgF hik];exact w64 (by omega))) rR (gA rR (qb (qG ?_)))))))))))));refine qp (gM rR (g_v (qu rR rR (w64 (by omega))) rR (gA rR (qb ?_))));exact qo (k+1) (by omega) (by omega) [13,14,15,16] rfl rfl
                  · simp at h96;obtain rfl:k=gone.length:=by omega
                    refine qy rR ?_;refine gS (gM rR (gM rR (gA rR (gA rR (gA rR (qb ?_))))));subst hg0;exact qm (rpl b bd (z)::dsk 219 285 bd (D)::qE ee::F) rfl ⟨0,[],1,D,z,by unfold zbf;rw[if_neg hkBeg,if_neg hkPut,if_neg hkFin,if_neg hkAbo,if_neg hkAgn,if_neg hkDrp,if_pos hkKee];exact ⟨rfl, .inl ⟨hm,rfl,rfl,rfl,rfl⟩⟩,rfl,rfl⟩
                · obtain ⟨G0,hC⟩:=R.rok.con;have hks:=zi7 hkp;have hel:=zgy z.L x.a x.b hC.v.len;have hgl:gone.length≤6:=by omega
                  have hids:∀g∈gone,1≤g∧g≤999:=fun g hg=>zws hC g (hks.2 g hg)
                  refine gM rR (g_v (qd (v:=sl s90 gone.length c90) rR rR) rR (g_v (qd (v:=yH e) rR rR) rR (gA rR (gA rR (qb (gS (gA rR (qb (qf (gS (gA rR ?_)))))))))));refine qb (ql ?_);refine qF (α:=Nat) (fun k=>k≤(gone).length) (fun k=>U [(13,sl s90 (gone).length c90),(14,yH e),(15,I (zkW ((gone).take k))),(16,I k)]) (fun k=>owL 3 1 s90 c90 (yS (gone))::rpl b bd z2::dsk 219 285 bd (D2)::qE ee::F) (fun k=>(gone).length - k) 0 (by simp) [13,14,15,16] rR rR ?_;rintro k hk;refine qf (gS (gM rR (gM rR (g_v (yk underlying39 rR) rR (g_v (qL rR rR) rR (qb ?_))))));refine qh rR (fun h96=>?_) (fun h96=>?_)
                  · simp at h96;have hkn:k<gone.length:=by omega
                    obtain ⟨i,hik⟩:∃i,gone[k]?=some i:=⟨_,List.getElem?_eq_getElem hkn⟩;have hib:=hids i (List.mem_of_getElem? hik);have hnb:=zl5 hids hgl k (by omega);have hpw:1000 ^ k≤1000 ^ 5:=Nat.pow_le_pow_right (by decide) (by omega);have hp5:1000 ^ 5=1000000000000000:=by decide
                    rw[hp5] at hpw;refine qi (qf (ql (qp (gM rR (g_v (zdc (r:=1000*zkW (gone.take k)) rR rR (w64 (by omega))) rR (gM rR (gM rR (g_v (qB k underlying39 sizeOf3 rR rR rR hkn (by rw[wl];exact hkn)) rR (g_v (ye (v:=I i) isAgg3 rR (zb5 hik) rR) rR (g_v (qu (r:=zkW (gone.take (k+1))) rR rR (by rw[zgF hik];exact w64 (by omega))) rR (gA rR (qb (qG ?_)))))))))))));refine qp (gM rR (g_v (qu rR rR (w64 (by omega))) rR (gA rR (qb ?_))));exact qo (k+1) (by omega) (by omega) [13,14,15,16] rfl rfl
                  · simp at h96;obtain rfl:k=gone.length:=by omega
                    refine qy rR ?_;refine gS (gM rR (gM rR (gA rR (gA rR (gA rR (qb ?_))))));exact qm (rpl b bd (z2)::dsk 219 285 bd (D2)::qE ee::F) rfl ⟨zkW (gone.take gone.length),[],e,D2,z2,by unfold zbf;rw[if_neg hkBeg,if_neg hkPut,if_neg hkFin,if_neg hkAbo,if_neg hkAgn,if_neg hkDrp,if_pos hkKee];exact ⟨rfl, .inr ⟨hm,gone,hkp,by rw[List.take_length]⟩⟩,rfl,rfl⟩
              · have hkKee:¬x.kind=dkKee:=by simpa [dkKee] using h82
                refine gS (g_v (zaz rR rR) rR (gA rR (qb ?_)));refine qh rR (fun h108=>?_) (fun h108=>?_)
                · have hkMou:x.kind=dkMou:=by simpa [dkMou] using h108
                  refine gS (gM rR (g_v (qa 2 underlying86 rR rR sizeOf3 (by decide) rR) rR (g_v (qe (v:=I x.a) isAgg3 rR rR) rR ?_)));refine g_l (qj (Pre:=[rpl b bd z]) call27 rR (zex b bd z x.a R.rok)) rR ?_;rintro _ _ (⟨he,rfl,rfl⟩ | ⟨he,a,r,rfl,rfl⟩)
                  · skip;refine gM rR (g_v (qd (v:=I 0) rR rR) rR (g_v (qd (v:=yH (zcl z x.a)) rR rR) rR (gA rR (gA rR (qb (gS (gM rR (gM rR (gA rR (gA rR (gA rR (qb ?_))))))))))));exact qm (rpl b bd (z)::dsk 219 285 bd (D)::qE ee::F) rfl ⟨0,[],zcl z x.a,D,z,by unfold zbf;rw[if_neg hkBeg,if_neg hkPut,if_neg hkFin,if_neg hkAbo,if_neg hkAgn,if_neg hkDrp,if_neg hkKee,if_pos hkMou];exact ⟨rfl,rfl, .inl ⟨he,rfl,rfl,rfl⟩⟩,rfl,rfl⟩
                  · skip;refine gM rR (g_v (qd (v:=I z.next) rR rR) rR (g_v (qd (v:=yH 0) rR rR) rR (gA rR (gA rR (qb (gS (gM rR (gM rR (gA rR (gA rR (gA rR (qb ?_))))))))))));exact qm (rpl b bd (z.mounted a r x.a)::dsk 219 285 bd (D)::qE ee::F) rfl ⟨z.next,[],0,D,z.mounted a r x.a,by unfold zbf;rw[if_neg hkBeg,if_neg hkPut,if_neg hkFin,if_neg hkAbo,if_neg hkAgn,if_neg hkDrp,if_neg hkKee,if_pos hkMou];exact ⟨rfl,rfl, .inr ⟨he,rfl,rfl,a,r,rfl⟩⟩,rfl,rfl⟩
                · have hkMou:¬x.kind=dkMou:=by simpa [dkMou] using h108
                  refine gS (g_v (zaz rR rR) rR (gA rR (qb ?_)));refine qh rR (fun h119=>?_) (fun h119=>?_)
                  · have hkUnm:x.kind=dkUnm:=by simpa [dkUnm] using h119
                    refine gS (gM rR (g_v (qa 2 underlying86 rR rR sizeOf3 (by decide) rR) rR (g_v (qe (v:=I x.a) isAgg3 rR rR) rR ?_)));refine g_l (qj (Pre:=[rpl b bd z]) call38 rR (zdT b bd z x.a)) rR ?_;rintro _ _ (⟨he,rfl,rfl⟩ | ⟨w,he,rfl,rfl⟩)
                    · skip;refine gA rR (gA rR (gA rR (qb ?_)));exact qm (rpl b bd (z)::dsk 219 285 bd (D)::qE ee::F) rfl ⟨0,[],5,D,z,by unfold zbf;rw[if_neg hkBeg,if_neg hkPut,if_neg hkFin,if_neg hkAbo,if_neg hkAgn,if_neg hkDrp,if_neg hkKee,if_neg hkMou,if_pos hkUnm];exact ⟨rfl,rfl,rfl, .inl ⟨he,rfl,rfl⟩⟩,rfl,rfl⟩
                    · skip;refine gA rR (gA rR (gA rR (qb ?_)));exact qm (rpl b bd (z.moun (dMo z.mou x.a))::dsk 219 285 bd (D)::qE ee::F) rfl ⟨0,[],0,D,z.moun (dMo z.mou x.a),by unfold zbf;rw[if_neg hkBeg,if_neg hkPut,if_neg hkFin,if_neg hkAbo,if_neg hkAgn,if_neg hkDrp,if_neg hkKee,if_neg hkMou,if_pos hkUnm];exact ⟨rfl,rfl,rfl, .inr ⟨w,he,rfl,rfl⟩⟩,rfl,rfl⟩
                  · have hkUnm:¬x.kind=dkUnm:=by simpa [dkUnm] using h119
                    refine gS (g_v (zaz rR rR) rR (gA rR (qb ?_)));refine qh rR (fun h125=>?_) (fun h125=>?_)
                    · have hkRea:x.kind=dkRea:=by simpa [dkRea] using h125
                      refine gS (gM rR (g_v (qa 2 underlying86 rR rR sizeOf3 (by decide) rR) rR (g_v (qe (v:=I x.a) isAgg3 rR rR) rR (g_v (qa 3 underlying86 rR rR sizeOf3 (by decide) rR) rR (g_v (qe (v:=I x.b) isAgg3 rR rR) rR ?_)))));refine g_l (qj (Pre:=[rpl b bd z]) call28 rR (zcq b bd z x.a x.b R.rok)) rR ?_;rintro _ _ ⟨rfl,rfl⟩
                      · skip;refine gM rR (g_v (qd (v:=Str (zbz z x.a x.b).1) rR rR) rR (g_v (qd (v:=yH (zbz z x.a x.b).2) rR rR) rR (gA rR (gA rR (qb (gS (gM rR (gM rR (gA rR (gA rR (gA rR (qb ?_))))))))))));exact qm (rpl b bd (z)::dsk 219 285 bd (D)::qE ee::F) rfl ⟨0,(zbz z x.a x.b).1,(zbz z x.a x.b).2,D,z,by unfold zbf;rw[if_neg hkBeg,if_neg hkPut,if_neg hkFin,if_neg hkAbo,if_neg hkAgn,if_neg hkDrp,if_neg hkKee,if_neg hkMou,if_neg hkUnm,if_pos hkRea];exact ⟨rfl,rfl,rfl,rfl,rfl⟩,rfl,rfl⟩
                    · have hkRea:¬x.kind=dkRea:=by simpa [dkRea] using h125
                      refine gS (g_v (zaz rR rR) rR (gA rR (qb ?_)));refine qh rR (fun h138=>?_) (fun h138=>?_)
                      · have hkWri:x.kind=dkWri:=by simpa [dkWri] using h138
                        refine gS (gM rR (g_v (qa 2 underlying86 rR rR sizeOf3 (by decide) rR) rR (g_v (qe (v:=I x.a) isAgg3 rR rR) rR (g_v (qa 3 underlying86 rR rR sizeOf3 (by decide) rR) rR (g_v (qe (v:=I x.b) isAgg3 rR rR) rR (g_v (qa 1 underlying86 rR rR sizeOf9 (by decide) rR) rR (g_v (qe (v:=Str x.s) isAgg9 rR rR) rR ?_)))))));refine g_l (qj (Pre:=[rpl b bd z]) call30 rR (zeS b bd z x.a x.b x.s R.rok hxs)) rR ?_;rintro _ _ (⟨he,rfl,rfl⟩ | ⟨he,rfl,rfl⟩)
                        · skip;refine gA rR (gA rR (gA rR (qb ?_)));exact qm (rpl b bd (z)::dsk 219 285 bd (D)::qE ee::F) rfl ⟨0,[],zbk z x.a x.b x.s,D,z,by unfold zbf;rw[if_neg hkBeg,if_neg hkPut,if_neg hkFin,if_neg hkAbo,if_neg hkAgn,if_neg hkDrp,if_neg hkKee,if_neg hkMou,if_neg hkUnm,if_neg hkRea,if_pos hkWri];exact ⟨rfl,rfl,rfl, .inl ⟨he,rfl,rfl⟩⟩,rfl,rfl⟩
                        · skip;refine gA rR (gA rR (gA rR (qb ?_)));exact qm (rpl b bd (z.written x.a x.b x.s)::dsk 219 285 bd (D)::qE ee::F) rfl ⟨0,[],0,D,z.written x.a x.b x.s,by unfold zbf;rw[if_neg hkBeg,if_neg hkPut,if_neg hkFin,if_neg hkAbo,if_neg hkAgn,if_neg hkDrp,if_neg hkKee,if_neg hkMou,if_neg hkUnm,if_neg hkRea,if_pos hkWri];exact ⟨rfl,rfl,rfl, .inr ⟨he,rfl,rfl⟩⟩,rfl,rfl⟩
                      · have hkWri:¬x.kind=dkWri:=by simpa [dkWri] using h138
                        refine gS (g_v (zaz rR rR) rR (gA rR (qb ?_)));refine qh rR (fun h148=>?_) (fun h148=>?_)
                        · have hkSav:x.kind=dkSav:=by simpa [dkSav] using h148
                          refine gS (gM rR ?_);refine g_l (qj (Pre:=[rpl b bd z,dsk 219 285 bd (D)]) call151 rR (ze1 b bd 1000 z D (R.dk (by omega)) (by omega))) rR ?_;rintro _ _ ⟨e,D2,hrun,rfl,hcase⟩;rcases hcase with ⟨hne,rfl⟩ | ⟨he0,ds,used2,hu2,hsc,rfl⟩
                          · skip;refine gA rR (gA rR (gA rR (qb ?_)));exact qm (rpl b bd (z)::dsk 219 285 bd (D2)::qE ee::F) rfl ⟨0,[],e,D2,z,by unfold zbf;rw[if_neg hkBeg,if_neg hkPut,if_neg hkFin,if_neg hkAbo,if_neg hkAgn,if_neg hkDrp,if_neg hkKee,if_neg hkMou,if_neg hkUnm,if_neg hkRea,if_neg hkWri,if_pos hkSav];exact ⟨rfl,rfl,hrun, .inl ⟨hne,rfl⟩⟩,rfl,rfl⟩
                          · skip;refine gA rR (gA rR (gA rR (qb ?_)));exact qm (rpl b bd (⟨nxH z.h z.rows (200 - 122),used2,z.rows,z.S,z.L,z.n,z.ses,z.mou,z.next⟩)::dsk 219 285 bd (D2)::qE ee::F) rfl ⟨0,[],e,D2,⟨nxH z.h z.rows (200 - 122),used2,z.rows,z.S,z.L,z.n,z.ses,z.mou,z.next⟩,by unfold zbf;rw[if_neg hkBeg,if_neg hkPut,if_neg hkFin,if_neg hkAbo,if_neg hkAgn,if_neg hkDrp,if_neg hkKee,if_neg hkMou,if_neg hkUnm,if_neg hkRea,if_neg hkWri,if_pos hkSav];exact ⟨rfl,rfl,hrun, .inr ⟨he0,ds,used2,hu2,hsc,rfl⟩⟩,rfl,rfl⟩
                        · have hkSav:¬x.kind=dkSav:=by simpa [dkSav] using h148
                          refine qi (qG (gS (gA rR (gA rR (gA rR (qb ?_))))));exact qm (rpl b bd (z)::dsk 219 285 bd (D)::qE ee::F) rfl ⟨0,[],0,D,z,by unfold zbf;rw[if_neg hkBeg,if_neg hkPut,if_neg hkFin,if_neg hkAbo,if_neg hkAgn,if_neg hkDrp,if_neg hkKee,if_neg hkMou,if_neg hkUnm,if_neg hkRea,if_neg hkWri,if_neg hkSav];exact ⟨rfl,rfl,rfl,rfl,rfl⟩,rfl,rfl⟩
end Go.Proofs.YthdjckbjjfiopacGreatDoor
