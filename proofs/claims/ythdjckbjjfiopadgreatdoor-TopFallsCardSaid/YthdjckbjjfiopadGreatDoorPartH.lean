/- Several texts in one: walks and rules used by them. No condition. -/
import Derived.Test.YthdjckbjjfiopadGreatDoorPartG
import Derived.Test.YthdjckbjjfiopadGreatDoorPartD
import Derived.Test.YthdjckbjjfiopadGreatDoorPartB
import Derived.Test.YthdjckbjjfiopadGreatDoorPartC
import Derived.Test.YthdjckbjjfiopadGreatDoorNums
import Derived.Test.YthdjckbjjfiopadGreatDoorPartA
set_option linter.unusedSimpArgs false
set_option linter.unusedVariables false
namespace Go.Proofs.YthdjckbjjfiopadGreatDoor
open _root_.Go.Proofs.Tryz
open Go.Sl Go.Proofs
def zoc (D:DiskM)(z:RpM)(S':SI)(L':List Pt)(n':Int)(e:Int)(D2:DiskM)(z2:RpM):Prop:=∃h2 used2 rows2,ztv D z.h z.rows (200 - 122) z.used (chgR z S' L' n') e D2 h2 used2 rows2∧z2=z.kept e h2 used2 rows2 S' L' n'
theorem zvY (l:List (Int×Bytes))(q:Int):(lk (ovM l) q).getD (Str [])=Str ((ovL l q).getD []):=by rw[ztm];cases ovL l q <;> rfl
theorem ov_is (l:List (Int×Bytes))(q:Int):(lk (ovM l) q).isSome=(ovL l q).isSome:=by rw[ztm,Option.isSome_map]
def zeb (D:DiskM)(z:RpM)(id n e:Int)(D2:DiskM)(z2:RpM):Prop:=match ziJ z.S z.L z.n id with
  | .error f=>n=0∧e=f∧D2=D∧z2=z
  | .ok (S',L',n',r)=>zoc D z S' L' n' e D2 z2∧n=if e=0 then r else 0
def zcf (z:RpM)(id:Int):Int:=if (yh z.L id).isNone then 5 else if zbk z id=true then 6 else 0
def zfg (D:DiskM)(z:RpM)(id:Int)(e:Int)(D2:DiskM)(z2:RpM):Prop:=if zcf z id≠0 then e=zcf z id∧D2=D∧z2=z else ∃S' L',zh0 z.S z.L z.n id= .ok (S',L',z.n,0)∧zoc D z S' L' z.n e D2 z2
theorem zyy {z:RpM}{id:Int}(h:zcf z id=0):∃p S' L',yh z.L id=some p∧zbk z id=false∧zh0 z.S z.L z.n id= .ok (S',L',z.n,0):=by
  unfold zcf at h;cases hf:yh z.L id with
  | none=>rw[hf] at h;simp at h
  | some p=>
    rw[hf] at h;cases hu:zbk z id with
    | true=>rw[hu] at h;simp at h
    | false=>exact ⟨p,_,_,rfl,rfl,by unfold zh0;rw[hf]⟩
theorem zcq (b bd:Nat)(z:RpM)(id at_:Int)(hR:Rok z)(F:List HProp):Ct Tryz.prog 99 [ptr b 0,I id,I at_] ([rpl b bd z]++F) (R1 (.tuple #[Str (zbj z id at_).1,yK (zbj z id at_).2]) (rpl b bd z::F)):=by
  show Ct Tryz.prog 99 [ptr b 0,I id,I at_] (rpl b bd z::F) _;obtain ⟨G0,hC⟩:=hR.con;have hlen:=hC.v.len;have hnx:=hR.next;refine Ct.of func99 rR 50 ntmps99 (by simp) fun w0=>?_;refine zan b bd z ?_;intro bs bl so co bv rs rm;refine gS (gA rfl (gA rfl (qb (gS (gM rfl (g_v (qc rfl) rfl (g_v (qa 3 underlying89 rfl rfl sizeOf87 (by decide) rfl) rfl (g_v (qe (v:= .map (some rm)) isAgg87 rfl rfl) rfl (gM rfl (g_v (yF (v:= .pointer ((fMo z.mou id).map fun e=>⟨e.a,0,none⟩)) underlying87 underlying3 zeroValue167 rfl rfl (by rw[znm];cases fMo z.mou id <;> rfl)) rfl (gA rfl (qb (qf (gS (gM rfl (g_v (zgT underlying167 rfl) rfl (qb ?_)))))))))))))))));refine qg rR (fun h20=>?_) (fun h20=>?_)
  · have hno:fMo z.mou id=none:=(by simpa using h20);refine gS (g_v (qB underlying108 rR rR) rR (gA rR (gA rR (qb ?_))));refine yj b bd (z) bs bl so co bv rs rm ?_;rw[show zbj z id at_=([],5) by unfold zbj;rw[hno]];exact qn rfl rfl rfl
  · obtain ⟨e,hfe⟩:∃e,fMo z.mou id=some e:=Option.isSome_iff_exists.1 (by cases hq:fMo z.mou id with
      | none=>rw[hq] at h20;cases h20
      | some _=>rfl)
    obtain ⟨he,hek,hi⟩:=zlo hfe;rw[hfe];refine qh (qf ?_);refine zwM z.mou _ he ?_;refine yw (Lf:=[pt b (.cells #[ptr bs 0,ptr bv 0, .map (some rs), .map (some rm),I (z.next)] 89 (0,0)),pt e.a (.cells #[I e.point, .map (some e.r)] 170 (0,0))]) [(0,false),(1,false),(2,false),(3,false),(4,false),(5,false),(6,false),(7,false),(8,false),(9,true),(10,false),(11,false),(12,false),(13,false),(14,false)] (by kernel_rfl) (by kernel_rfl) rR (by kernel_rfl) ?_;refine dM rR rR rR (d_v rR (qc rR) rR (d_v rR (qa 1 underlying89 rR rR sizeOf29 (by decide) rR) rR (d_v rR (qe (v:=ptr bv 0) isAgg29 rR rR) rR (dM rR rR rR (d_v rR (qc rR) rR (d_v rR (qa 0 underlying170 rR rR sizeOf3 (by decide) rR) rR (d_v rR (qe (v:=I e.point) isAgg3 rR rR) rR (dM rR rR rR ?_))))))));refine d_l rR (qi (Pre:=[vlt bv z.S z.L z.n]) call37 rR (zaD bv z.S z.L z.n e.point at_ G0 hC.v)) rR ?_;rintro _ _ ⟨rfl,rfl⟩;refine dM rR rR rR (d_v rR (qd (v:=Str (rdE z.S z.L e.point at_).1) rR rR) rR (d_v rR (qd (v:=yK (rdE z.S z.L e.point at_).2) rR rR) rR (d_v rR (qx rR) rR (d_v rR (qx rR) rR ?_))));refine yc ?_;refine qf (gS (gM rR (g_v (yf underlying37 rR) rR (qb ?_))));refine qg rR (fun h36=>?_) (fun h36=>?_)
    · have hrd:(rdE z.S z.L e.point at_).2≠0:=(by simpa using h36);refine gS (gM rR (gA rR (gA rR (qb ?_))));refine zac (f:=moA) z.mou (mIx z.mou id) e [pt e.a (.cells #[I e.point, .map (some e.r)] 170 (0,0)),mp e.r (ovM e.over)] rfl hi ?_;rw[zbz he];refine yj b bd (z) bs bl so co bv rs rm ?_;rw[show zbj z id at_=([],(rdE z.S z.L e.point at_).2) by unfold zbj;rw[hfe];simp only;rw[if_pos hrd]];exact qn rfl rfl rfl
    · have hrd:¬(rdE z.S z.L e.point at_).2≠0:=(by simpa using h36);refine qh (gS (gM rR (g_v (qc rR) rR (g_v (qa 1 underlying170 rR rR sizeOf168 (by decide) rR) rR (g_v (qe (v:= .map (some e.r)) isAgg168 rR rR) rR (gM rR (g_v (zaJ (v:=Str ((ovL e.over at_).getD [])) (bb:=(ovL e.over at_).isSome) underlying168 underlying3 zeroValue9 rR rR (zvY _ _) (ov_is _ _)) rR (gM rR (g_v (qd (v:=Str ((ovL e.over at_).getD [])) rR rR) rR (g_v (qd (v:=Bo (ovL e.over at_).isSome) rR rR) rR (gA rR (gA rR (qb (qf (gS (gM rR (qb ?_)))))))))))))))));refine qg rR (fun h47=>?_) (fun h47=>?_)
      · obtain ⟨t,ht⟩:=Option.isSome_iff_exists.1 h47;rw[ht];refine gS (gM rR (gA rR (gA rR (qb ?_))));refine zac (f:=moA) z.mou (mIx z.mou id) e [pt e.a (.cells #[I e.point, .map (some e.r)] 170 (0,0)),mp e.r (ovM e.over)] rfl hi ?_;rw[zbz he];refine yj b bd (z) bs bl so co bv rs rm ?_;rw[show zbj z id at_=(t,0) by unfold zbj;rw[hfe];simp only;rw[if_neg hrd,ht]];exact qn rfl rfl rfl
      · have ht:ovL e.over at_=none:=(by simpa using h47);refine qh (gS (gM rR (gA rR (gA rR (qb ?_)))));refine zac (f:=moA) z.mou (mIx z.mou id) e [pt e.a (.cells #[I e.point, .map (some e.r)] 170 (0,0)),mp e.r (ovM e.over)] rfl hi ?_;rw[zbz he];refine yj b bd (z) bs bl so co bv rs rm ?_;rw[show zbj z id at_=((rdE z.S z.L e.point at_).1,0) by unfold zbj;rw[hfe];simp only;rw[if_neg hrd,ht]];exact qn rfl rfl rfl
theorem zfd (b bd:Nat)(z:RpM)(id at_:Int)(d:Bytes)(hR:Rok z)(hdl:d.length≤9223372036854775807)(F:List HProp):Ct Tryz.prog 100 [ptr b 0,I id,I at_,Str d] ([rpl b bd z]++F) (fun v L'=>(zaT z id at_ d≠0∧v=yK (zaT z id at_ d)∧L'=rpl b bd z::F)∨(zaT z id at_ d=0∧v=yK 0∧L'=rpl b bd (z.written id at_ d)::F)):=by
  show Ct Tryz.prog 100 [ptr b 0,I id,I at_,Str d] (rpl b bd z::F) _;refine Ct.of func100 rR 36 ntmps100 (by simp) fun w0=>?_;refine gS (gA rR (qb (gS (gM rR (gM rR (gM rR ?_))))));refine g_l (qi (Pre:=[rpl b bd z]) call99 rR (zcq b bd z id at_ hR)) rR ?_;rintro _ _ ⟨rfl,rfl⟩;refine gM rR (g_v (qd (v:=Str (zbj z id at_).1) rR rR) rR (g_v (qd (v:=yK (zbj z id at_).2) rR rR) rR (gA rR (gA rR (qb (qf (gS (gM rR (g_v (yf underlying37 rR) rR (qb ?_))))))))));refine qg rR (fun h19=>?_) (fun h19=>?_)
  · have hrd:(zbj z id at_).2≠0:=(by simpa using h19);refine gS (gM rR (gA rR (qb ?_)));exact ql (rpl b bd z::F) rfl (.inl ⟨by unfold zaT;rw[if_pos hrd];exact hrd,by unfold zaT;rw[if_pos hrd];rfl,rfl⟩)
  · have hrd:(zbj z id at_).2=0:=(by simpa using h19);refine qh (qf (gS (gM rR (g_v (wi underlying9 rR) rR (g_v (yA rR rR) rR (qb ?_))))));refine qg rR (fun h23=>?_) (fun h23=>?_)
    · have h6:6<d.length:=(by simp at h23;omega);refine gS (g_v (qB underlying108 rR rR) rR (gA rR (qb ?_)));exact ql (rpl b bd z::F) rfl (.inl ⟨by unfold zaT;rw[if_neg (by omega),if_pos h6];decide,by unfold zaT;rw[if_neg (by omega),if_pos h6];rfl,rfl⟩)
    · have h6:¬6<d.length:=(by simp at h23;omega);refine qh (qf ?_);refine zan b bd z ?_;intro bs bl so co bv rs rm;obtain ⟨e,hfe⟩:∃e,fMo z.mou id=some e:=by
        cases hq:fMo z.mou id with
        | none=>exact absurd (show (zbj z id at_).2=5 by unfold zbj;rw[hq]) (by omega)
        | some e=>exact ⟨e,rfl⟩
      obtain ⟨he,hek,hi⟩:=zlo hfe;refine zwM z.mou _ he ?_;refine qo (gM rR (g_v (qc rR) rR (g_v (qa 3 underlying89 rR rR sizeOf87 (by decide) rR) rR (g_v (qe (v:= .map (some rm)) isAgg87 rR rR) rR (gM rR (g_v (yF (v:=ptr e.a 0) underlying87 underlying3 zeroValue167 rR rR (by rw[znm,hfe];rfl)) rR (g_v (qc rR) rR (g_v (qa 1 underlying170 rR rR sizeOf168 (by decide) rR) rR (g_v (qe (v:= .map (some e.r)) isAgg168 rR rR) rR (gM rR (gM rR ?_)))))))))));refine yp (yg underlying168 underlying3 rR rR rR) ?_;rintro _ _ rfl;rw[zvP];refine qb (gS (gA rR (qb ?_)));refine zac (f:=moA) z.mou (mIx z.mou id) ⟨e.key,e.a,e.r,e.point,ovS e.over at_ d⟩ [pt e.a (.cells #[I e.point, .map (some e.r)] 170 (0,0)),mp e.r (ovM (ovS e.over at_ d))] rfl hi ?_;rw[←zsW (e':=⟨e.key,e.a,e.r,e.point,ovS e.over at_ d⟩) he rfl rfl];refine yj b bd (⟨z.h,z.used,z.rows,z.S,z.L,z.n,z.ses,z.mou.set (mIx z.mou id) ⟨e.key,e.a,e.r,e.point,ovS e.over at_ d⟩,z.next⟩) bs bl so co bv rs rm ?_;exact ql (rpl b bd ⟨z.h,z.used,z.rows,z.S,z.L,z.n,z.ses,z.mou.set (mIx z.mou id) ⟨e.key,e.a,e.r,e.point,ovS e.over at_ d⟩,z.next⟩::F) rfl (.inr ⟨by unfold zaT;rw[if_neg (by omega),if_neg h6],rfl,by unfold RpM.written RpM.moun;rw[hfe]⟩)
theorem zeV {ee:Bool}(b bd i:Nat)(z:RpM)(id:Int)(hR:Rok z)(D:DiskM)(hD:Dk i D z)(hi:i≤100000)(F:List HProp):Ct Tryz.prog 24 [ptr b 0,I id] ([qG ee,rpl b bd z,dsk 140 142 bd (D)]++F) (fun v L'=>∃n e D2 z2,zeb D z id n e D2 z2∧v= .tuple #[I n,yK e]∧L'=rpl b bd z2::dsk 140 142 bd (D2)::qG ee::F):=by
  show Ct Tryz.prog 24 [ptr b 0,I id] (qG ee::rpl b bd z::dsk 140 142 bd (D)::F) _;obtain ⟨G0,hC⟩:=hR.con;have hlen:=hC.v.len;have hnx:=hR.next;refine Ct.of func24 rR 29 ntmps24 (by simp) fun w0=>?_;refine gS (gA rR (gA rR (qb (qf ?_))));refine zan b bd z ?_;intro bs bl so co bv rs rm;refine qo (gM rR (g_v (qc rR) rR (g_v (qa 1 underlying89 rR rR sizeOf29 (by decide) rR) rR (g_v (qe (v:=ptr bv 0) isAgg29 rR rR) rR ?_))));refine g_l (qi (Pre:=[vlt bv z.S z.L z.n]) call38 rR (wJ bv z.S z.L z.n (by omega))) rR ?_;rintro _ _ ⟨q,rfl,rfl⟩;refine gA rR (qb ?_);refine yj b bd (z) bs bl so co bv rs rm ?_;refine gS (gM rR (gM rR ?_));refine g_l (qi (Pre:=[vlt q z.S z.L z.n]) call53 rR (zd1 q z.S z.L z.n id G0 hC.v)) rR ?_;rintro v L' hv;unfold vR at hv;rcases hr:ziJ z.S z.L z.n id with e0 | ⟨S1,L1,n1,r1⟩ <;> rw[hr] at hv <;> obtain ⟨rfl,rfl⟩:=hv
  · have he0:=zsJ hr;refine gM rR (g_v (qd (v:=I 0) rR rR) rR (g_v (qd (v:=yK e0) rR rR) rR (gA rR (gA rR (qb (qf (gS (gM rR (g_v (zab (T:=108) (f:=e0) underlying37 rR) rR (qb ?_))))))))));refine qg rR (fun h21=>?_) (fun h21=>?_)
    · simp at h21;omega
    · refine qh (qf (gS (gM rR (g_v (yf underlying37 rR) rR (qb ?_)))));refine qg rR (fun h26=>?_) (fun h26=>?_)
      · refine gS (gM rR (gA rR (gA rR (qb ?_))));exact ql (rpl b bd z::dsk 140 142 bd (D)::qG ee::F) rfl ⟨0,e0,D,z,by unfold zeb;rw[hr];exact ⟨rfl,rfl,rfl,rfl⟩,rfl,rfl⟩
      · simp at h26;omega
  · obtain ⟨G1,hC1⟩:=zeF hC hr;refine gM rR (g_v (qd (v:=I r1) rR rR) rR (g_v (qd (v:=yK 0) rR rR) rR (gA rR (gA rR (qb (qf (gS (gM rR (g_v (zab (T:=108) (f:=0) underlying37 rR) rR (qb ?_))))))))));refine qg rR (fun h21=>?_) (fun h21=>?_)
    · refine qo (gM rR (gM rR ?_));refine g_l (qi (Pre:=[qG ee,rpl b bd z,dsk 140 142 bd (D),vlt q S1 L1 n1]) call47 rR (za2 b bd q i D z (S1) (L1) (n1) G0 G1 hC hC1 hD hi)) rR ?_;rintro _ _ ⟨e,D2,h2,used2,rows2,hcom,rfl,rfl⟩;refine gA rR (qb (qf (gS (gM rR (g_v (yf underlying37 rR) rR (qb ?_))))));refine qg rR (fun h26=>?_) (fun h26=>?_)
      · have he:¬e=0:=(by simpa using h26);refine gS (gM rR (gA rR (gA rR (qb ?_))));exact ql (rpl b bd (z.kept e h2 used2 rows2 S1 L1 n1)::dsk 140 142 bd (D2)::qG ee::F) rfl ⟨0,e,D2,_,by unfold zeb;rw[hr];exact ⟨⟨h2,used2,rows2,hcom,rfl⟩,by rw[if_neg he]⟩,rfl,rfl⟩
      · have he:e=0:=(by simpa using h26);refine qh (gS (gM rR (gA rR (gA rR (qb ?_)))));exact ql (rpl b bd (z.kept e h2 used2 rows2 S1 L1 n1)::dsk 140 142 bd (D2)::qG ee::F) rfl ⟨r1,e,D2,_,by unfold zeb;rw[hr];exact ⟨⟨h2,used2,rows2,hcom,rfl⟩,by rw[if_pos he]⟩,by rw[he];rfl,rfl⟩
    · simp at h21
theorem zcn {ee:Bool}(b bd i:Nat)(z:RpM)(id:Int)(hR:Rok z)(D:DiskM)(hD:Dk i D z)(hi:i≤100000)(F:List HProp):Ct Tryz.prog 25 [ptr b 0,I id] ([qG ee,rpl b bd z,dsk 140 142 bd (D)]++F) (fun v L'=>∃e D2 z2,zfg D z id e D2 z2∧v=yK e∧L'=rpl b bd z2::dsk 140 142 bd (D2)::qG ee::F):=by
  show Ct Tryz.prog 25 [ptr b 0,I id] (qG ee::rpl b bd z::dsk 140 142 bd (D)::F) _;obtain ⟨G0,hC⟩:=hR.con;have hlen:=hC.v.len;have hnx:=hR.next;refine Ct.of func25 rR 39 ntmps25 (by simp) fun w0=>?_;refine gS (gA rR (qb (qf ?_)));refine zan b bd z ?_;intro bs bl so co bv rs rm;refine qo (gM rR (g_v (qc rR) rR (g_v (qa 1 underlying89 rR rR sizeOf29 (by decide) rR) rR (g_v (qe (v:=ptr bv 0) isAgg29 rR rR) rR (gM rR ?_)))));refine g_l (qi (Pre:=[vlt bv z.S z.L z.n]) call39 rR (yz bv z.S z.L z.n id (by omega))) rR ?_;rintro _ _ ⟨rfl,rfl⟩;refine gM rR (g_v (qd (v:= .agg (yn ((yh z.L id).getD pt0)).toArray) rR rR) rR (g_v (qd (v:=Bo (yh z.L id).isSome) rR rR) rR ?_));refine g_l (qy #[I 0,I 0,I 0,I 0] zeroValue70) rR ?_;rintro _ _ ⟨b5,rfl,rfl⟩;refine yp (qq (cs:=#[I 0,I 0,I 0,I 0]) (vs:=yn (((yh z.L id).getD pt0))) (yn (((yh z.L id).getD pt0))).toArray sizeOf70 rR rR rR rR (by simp) (qv rR)) ?_;rintro _ _ rfl;refine gA rR (qb (qf (gS (gM rR (g_v (wo rR) rR (qb ?_))))));refine qg rR (fun h19=>?_) (fun h19=>?_)
  · simp at h19;refine gS (g_v (qB underlying108 rR rR) rR (gA rR (qb ?_)));refine yj b bd (z) bs bl so co bv rs rm ?_;have hde:zcf z id=5:=(by unfold zcf;rw[h19];rfl);exact ql (rpl b bd z::dsk 140 142 bd (D)::qG ee::F) rfl ⟨5,D,z,by unfold zfg;rw[if_pos (by omega),hde];exact ⟨rfl,rfl,rfl⟩,rfl,rfl⟩
  · simp at h19;obtain ⟨p,hf⟩:=Option.isSome_iff_exists.1 h19;rw[show (yh z.L id).getD pt0=p by rw[hf];rfl];refine qh (qf (qf ?_));refine yj b bd (z) bs bl so co bv rs rm ?_;refine qo (gM rR (gM rR ?_));refine g_l (qi (Pre:=[rpl b bd z]) call54 rR (zcl b bd z id)) rR ?_;rintro _ _ ⟨rfl,rfl⟩;refine qb ?_;refine qg rR (fun h23=>?_) (fun h23=>?_)
    · have hus:zbk z id=true:=h23;refine gS (g_v (qB underlying108 rR rR) rR (gA rR (qb ?_)));have hde:zcf z id=6:=(by unfold zcf;rw[hf,hus];rfl);exact ql (rpl b bd z::dsk 140 142 bd (D)::qG ee::F) rfl ⟨6,D,z,by unfold zfg;rw[if_pos (by omega),hde];exact ⟨rfl,rfl,rfl⟩,rfl,rfl⟩
    · have hus:zbk z id=false:=(by simpa using h23);have hde:zcf z id=0:=(by unfold zcf;rw[hf,hus];rfl);refine qh (qf ?_);refine zan b bd z ?_;intro bs bl so co bv rs rm;refine qo (gM rR (g_v (qc rR) rR (g_v (qa 1 underlying89 rR rR sizeOf29 (by decide) rR) rR (g_v (qe (v:=ptr bv 0) isAgg29 rR rR) rR ?_))));refine g_l (qi (Pre:=[vlt bv z.S z.L z.n]) call38 rR (wJ bv z.S z.L z.n (by omega))) rR ?_;rintro _ _ ⟨q,rfl,rfl⟩;refine gA rR (qb ?_);refine yj b bd (z) bs bl so co bv rs rm ?_;refine gS (gM rR (gM rR ?_));refine g_l (qi (Pre:=[vlt q z.S z.L z.n]) call55 rR (zet q z.S z.L z.n id G0 hC.v)) rR ?_;obtain ⟨p1,S1,L1,hf1,hus1,hdr⟩:=zyy (z:=z) (id:=id) hde;obtain ⟨G1,hC1⟩:=zjM hC hdr;rintro v L' hv;unfold vR1 at hv;rw[hdr] at hv;obtain ⟨rfl,rfl⟩:=hv;refine gA rR (qb (qf (gS (gM rR (g_v (zab (T:=108) (f:=0) underlying37 rR) rR (qb ?_))))));refine qg rR (fun h34=>?_) (fun h34=>?_)
      · refine qo (gM rR (gM rR ?_));refine g_l (qi (Pre:=[qG ee,rpl b bd z,dsk 140 142 bd (D),vlt q S1 L1 z.n]) call47 rR (za2 b bd q i D z (S1) (L1) (z.n) G0 G1 hC hC1 hD hi)) rR ?_;rintro _ _ ⟨e,D2,h2,used2,rows2,hcom,rfl,rfl⟩;refine gA rR (qb (gS (gM rR (gA rR (qb ?_)))));exact ql (rpl b bd (z.kept e h2 used2 rows2 S1 L1 z.n)::dsk 140 142 bd (D2)::qG ee::F) rfl ⟨e,D2,_,by unfold zfg;rw[if_neg (by omega)];exact ⟨S1,L1,hdr,h2,used2,rows2,hcom,rfl⟩,rfl,rfl⟩
      · simp at h34
def zys (l:List PutM)(id:Int):Option PutM:=l.find? fun p=>decide (p.at_=id)
def ztV (l:List PutM)(id:Int):Nat:=l.findIdx fun p=>decide (p.at_=id)
def puI (l:List PutM)(id:Int):Int:=if ztV l id<l.length then (ztV l id:Int) else -1
theorem zvC {l:List PutM}{id:Int}{k:Nat}{s:PutM}(hno:∀j,j<k→∀t,l[j]? =some t→t.at_≠id)(hs:l[k]? =some s)(he:s.at_=id):puI l id=k:=by
  obtain ⟨hk,hk2⟩:=List.getElem?_eq_some_iff.1 hs;have e:ztV l id=k:=by
    unfold ztV;rw[List.findIdx_eq hk];refine ⟨by rw[hk2];simpa using he,fun j hj=>?_⟩;have:=hno j hj l[j] (List.getElem?_eq_getElem (by omega));simpa using this
  unfold puI;rw[if_pos (by omega),e]
theorem znL {l:List PutM}{id:Int}(hno:∀j,j<l.length→∀t,l[j]? =some t→t.at_≠id):puI l id= -1:=by
  unfold puI;rw[if_neg];intro h;have:=List.findIdx_getElem (w:=h);simp at this;exact hno _ h _ (List.getElem?_eq_getElem h) this
theorem zwh {l:List PutM}{id:Int}(h:¬puI l id<0):∃i s,puI l id=((i:Nat):Int)∧l[i]? =some s∧s.at_=id∧i<l.length∧zys l id=some s∧∀j,j<i→∀t,l[j]? =some t→t.at_≠id:=by
  unfold puI at h ⊢;split at h
  · rename_i hl;have hid:l[ztV l id].at_=id:=of_decide_eq_true (List.findIdx_getElem (p:=fun p:PutM=>decide (p.at_=id)) (w:=hl));have hno:∀j,j<ztV l id→∀t,l[j]? =some t→t.at_≠id:=fun j hj t ht=>by
      have h1:=List.not_of_lt_findIdx hj;obtain ⟨hj',e⟩:=List.getElem?_eq_some_iff.1 ht;subst e;simpa using h1
    refine ⟨ztV l id,l[ztV l id],by rw[if_pos hl],List.getElem?_eq_getElem hl,hid,hl,?_,hno⟩;unfold zys;rw[List.find?_eq_some_iff_getElem];refine ⟨decide_eq_true hid,_,hl,rfl,fun j hj=>?_⟩;have:=hno j hj l[j] (List.getElem?_eq_getElem (by omega));simpa using this
  · omega
structure DlU (l R:List PutM) (id:Int) (w j:Nat):Prop where
  len:R.length=l.length
  lj:j≤l.length
  lw:w≤j
  pre:R.take w=(l.take j).filter fun x=>!decide (x.at_=id)
  suf:R.drop j=l.drop j
theorem zux {l R:List PutM}{id:Int}{w j:Nat}(h:DlU l R id w j){x:PutM}(hx:R[j]? =some x):l[j]? =some x:=by
  have h1:(R.drop j)[0]? =some x:=(by simpa using hx);rw[h.suf] at h1;simpa using h1
theorem zsG {l R:List PutM}{id:Int}{w j:Nat}(h:DlU l R id w j){x:PutM}(hx:R[j]? =some x)(hid:x.at_=id):DlU l R id w (j+1):=by
  have hl:=zux h hx;have hj:=(List.getElem?_eq_some_iff.1 hl).1;refine ⟨h.len,hj,by have:=h.lw;omega,?_,?_⟩
  · rw[List.take_add_one,hl,List.filter_append,h.pre];simp[hid]
  · rw[←List.drop_drop,←List.drop_drop,h.suf]
theorem ztk {l R:List PutM}{id:Int}{w j:Nat}(h:DlU l R id w j)(hwj:w<j){x:PutM}(hx:R[j]? =some x)(hid:x.at_≠id):DlU l (R.set w x) id (w+1) (j+1):=by
  have hl:=zux h hx;have hj:=(List.getElem?_eq_some_iff.1 hl).1;have hlen:=h.len;refine ⟨by simp[hlen],hj,by omega,?_,?_⟩
  · rw[List.take_add_one (l:=l),hl,List.filter_append,←h.pre,List.take_add_one,List.take_set_of_le (Nat.le_refl _),List.getElem?_set_self (by omega)];simp[hid]
  · rw[List.drop_set_of_lt (by omega),←List.drop_drop,←List.drop_drop,h.suf]
theorem zpc {l R:List PutM}{id:Int}{w:Nat}(h:DlU l R id w l.length):R.take w=l.filter fun x=>!decide (x.at_=id):=by rw[h.pre,List.take_length]
theorem zkD {l:List PutM}{id:Int}(hno:∀j,j<l.length→∀t,l[j]? =some t→t.at_≠id):l.filter (fun x=>!decide (x.at_=id))=l:=List.filter_eq_self.2 fun a ha=>by
  obtain ⟨j,hj,rfl⟩:=List.mem_iff_getElem.1 ha;have:=hno j hj l[j] (List.getElem?_eq_getElem hj);simpa using this
theorem zqk {l:List PutM}{id:Int}(h:puI l id<0):∀j,j<l.length→∀t,l[j]? =some t→t.at_≠id:=fun j hj t ht he=>by
  unfold puI at h;split at h
  · omega
  · rename_i hl;exact hl (List.findIdx_lt_length_of_exists ⟨t,List.mem_of_getElem? ht,by simpa using he⟩)
theorem ztx {l:List PutM}{id:Int}(h:puI l id<0):puI l id= -1:=znL (zqk h)
theorem zvS (l:List PutM)(id:Int){i:Nat}(hno:∀j,j<i→∀t,l[j]? =some t→t.at_≠id){s:PutM}(hs:l[i]? =some s)(he:s.at_=id):(l.take (i+1)).filter (fun x=>!decide (x.at_=id))=l.take i:=by
  have hi:=(List.getElem?_eq_some_iff.1 hs).1;rw[List.take_add_one,hs,List.filter_append];have h1:(l.take i).filter (fun x=>!decide (x.at_=id))=l.take i:=List.filter_eq_self.2 fun a ha=>by
    obtain ⟨j,hj,rfl⟩:=List.mem_iff_getElem.1 ha;have:=hno j (by simp at hj;omega) (l.take i)[j] (by simp at hj ⊢);simpa using this
  rw[h1];simp[he]
theorem zq2 {l:List PutM}{id:Int}{i:Nat}(hno:∀j,j<i→∀t,l[j]? =some t→t.at_≠id){s:PutM}(hs:l[i]? =some s)(he:s.at_=id):DlU l l id i (i+1):=
  ⟨rfl,(List.getElem?_eq_some_iff.1 hs).1,by omega,(zvS l id hno hs he).symm,rfl⟩
theorem zsI (l:List PutM)(w:Nat)(x:PutM):(zbx l).set w (zfv x)=zbx (l.set w x):=by simp[zbx,List.map_set]
theorem zqY (l:List PutM)(w:Nat):(zbx l).take w=zbx (l.take w):=by simp[zbx,List.map_take]
theorem zu5 (n:Int)(s:Bytes)(w:World):(Instr.build 44 #[(0,I n),(1,Str s)]).run Tryz.prog w= .ok (.agg (zfv ⟨n,s⟩).toArray) w:=by
  simp[Instr.build,zeroValue44,runUnderlying44,sizeOf3,sizeOf9,Instr.fill,qV,zfv,show ∀k:Int,(I k).cells=#[I k] from fun _=>rfl,show (Str s).cells=#[Str s] from rfl]
def zbh (z:RpM)(id at_:Int)(d:Bytes):Int:=match fSe z.ses id with
  | none=>5
  | some e=>if at_<0∨e.size≤at_ then 1 else if 6<d.length then 2 else 0
def zhZ (l:List PutM)(at_:Int)(d:Bytes):List PutM:=l.filter (fun x=>!decide (x.at_=at_))++ [⟨at_,d⟩]
def RpM.putted (z:RpM)(id at_:Int)(d:Bytes)(so:Option Addr)(co:Nat):RpM:=match fSe z.ses id with
  | none=>z
  | some e=>z.sess (z.ses.set (sIx z.ses id) ⟨e.key,e.a,so,co,e.base,e.disk,e.size,zhZ e.puts at_ d⟩)
def zod (D:DiskM)(z:RpM)(id n e:Int)(D2:DiskM)(z2:RpM):Prop:=match fSe z.ses id with
  | none=>n=0∧e=5∧D2=D∧z2=z
  | some s=>match zgn z.S z.L z.n s.base s.disk s.size s.puts with
    | .error f=>n=0∧e=f∧D2=D∧z2=z
    | .ok (S',L',n',r)=>∃y,zoc D z S' L' n' e D2 y∧n=(if e=0 then r else 0)∧z2=if e=0 then y.sess (dSe y.ses id) else y
theorem zfR (x:PutM)(q:Nat)(id:Int)(F:List HProp):Ct Tryz.prog 45 [.agg (zfv x).toArray,ptr q 0] ([pt q (.cells #[I id] 3 (0,0))]++F) (R1 (Bo (decide (x.at_=id))) (pt q (.cells #[I id] 3 (0,0))::F)):=by
  show Ct Tryz.prog 45 [.agg (zfv x).toArray,ptr q 0] (pt q (.cells #[I id] 3 (0,0))::F) _;refine Ct.of func45 rR 8 ntmps45 (by simp) fun w0=>?_;refine gS ?_;refine g_l (wR (zfv x).toArray rR rR) rR ?_;rintro _ _ ⟨b2,rfl,rfl⟩;refine gA rR (qb (gS (g_v (qa 0 underlying44 rR rR sizeOf3 (by decide) rR) rR (g_v (qe (v:=I x.at_) isAgg3 rR rR) rR (g_v (qe (v:=I id) isAgg3 rR rR) rR (g_v (wh rR rR) rR (gA rR (qb ?_))))))));refine qn rR rR ?_;exact rfl
theorem zf2 (l:List PutM)(s:Option Addr)(c q:Nat)(id:Int)(hl:l.length≤1000000)(F:List HProp):Ct Tryz.prog 76 [sl s l.length c, .func (.func 45) #[] #[ptr q 0]] ([owL 44 2 s c (zbx (l)),pt q (.cells #[I id] 3 (0,0))]++F) (R1 (I (puI l id)) (owL 44 2 s c (zbx (l))::pt q (.cells #[I id] 3 (0,0))::F)):=by
  show Ct Tryz.prog 76 [sl s l.length c, .func (.func 45) #[] #[ptr q 0]] (owL 44 2 s c (zbx (l))::pt q (.cells #[I id] 3 (0,0))::F) _;refine Ct.of func76 rR 19 ntmps76 (by simp) fun w0=>?_;refine gS (gA rR (qb (qf (gS (gM rR (g_v (yo underlying23 rR) rR (gM rR (qb (qj ?_)))))))));refine qE (α:=Nat) (fun k=>k≤l.length∧∀j,j<k→∀t,l[j]? =some t→t.at_≠id) (fun k=>U [(0,sl s l.length c),(1, .func (.func 45) #[] #[ptr q 0]),(7,I l.length),(8,I k)]) (fun _=>owL 44 2 s c (zbx (l))::pt q (.cells #[I id] 3 (0,0))::F) (fun k=>l.length - k) 0 ⟨by simp,fun j hj=>absurd hj (by omega)⟩ [0,1,7,8] rfl rR ?_;rintro k ⟨hk,hno⟩;refine gS (g_v (qJ rR rR) rR (qb (qf ?_)));refine qg rR (fun h9=>?_) (fun h9=>?_)
  · simp at h9;have hkn:k<l.length:=(by omega);obtain ⟨x,hx⟩:∃x,l[k]? =some x:=⟨_,List.getElem?_eq_getElem hkn⟩;refine qh (qf (qj (gS (gM rR (gA rR (qb (gS (gM rR (gM rR (gM rR (g_v (qA (k) underlying23 sizeOf44 rR rR rR hkn (by rw[zbA];exact hkn)) rR (g_v (ym (row:=zfv x) isAgg44 sizeOf44 rR (ziW hx) rR) rR ?_))))))))))));refine g_l (zat (fi:=[]) (cap:=[ptr q 0]) (Pre:=[pt q (.cells #[I id] 3 (0,0))]) call45 rR rR (zfR x q id)) rR ?_;rintro _ _ ⟨rfl,rfl⟩;refine qb ?_;refine qg rR (fun h16=>?_) (fun h16=>?_)
    · simp at h16;refine gS (gM rR (gA rR (qb ?_)));refine qn rR rR ?_;show I _=I _;rw[zvC hno hx h16]
    · simp at h16;refine qh (qF (qo (g_v (qu rR rR (w64 (by omega))) rR (gM rR (qb ?_)))));exact qm (k+1) ⟨by omega,fun j hj t ht=>by
          rcases Nat.lt_or_ge j k with h | h
          · exact hno j h t ht
          · obtain rfl:j=k:=(by omega);rw[hx] at ht;injection ht with ht;rw[←ht];exact h16⟩ (by omega) [0,1,7,8] rfl rfl
  · simp at h9;obtain rfl:k=l.length:=(by omega);refine qz rR ?_;refine gS (gA rR (qb ?_));refine qn rR rR ?_;show I _=I _;rw[znL hno]
theorem zfI (L:List PutM)(s:Option Addr)(c q:Nat)(id:Int)(hl:L.length≤1000000)(F:List HProp):Ct Tryz.prog 44 [sl s L.length c, .func (.func 45) #[] #[ptr q 0]] ([owL 44 2 s c (zbx (L)),pt q (.cells #[I id] 3 (0,0))]++F) (R1 (sl s (L.filter fun x=>!decide (x.at_=id)).length c) (owL 44 2 s c (zbx ((L.filter fun x=>!decide (x.at_=id))))::pt q (.cells #[I id] 3 (0,0))::F)):=by
  show Ct Tryz.prog 44 [sl s L.length c, .func (.func 45) #[] #[ptr q 0]] (owL 44 2 s c (zbx (L))::pt q (.cells #[I id] 3 (0,0))::F) _;refine Ct.of func44 rR 42 ntmps44 (by simp) fun w0=>?_;refine zlM s (fun hcap=>?_);rw[zbA] at hcap;refine gS (gA rR (qb (gS (gM rR (gM rR ?_)))));refine g_l (qi (Pre:=[owL 44 2 s c (zbx (L)),pt q (.cells #[I id] 3 (0,0))]) call76 rR (zf2 L s c q id hl)) rR ?_;rintro _ _ ⟨rfl,rfl⟩;refine gA rR (qb (qf (gS (gM rR (g_v (wh rR rR) rR (qb ?_))))));refine qg rR (fun h12=>?_) (fun h12=>?_)
  · simp at h12;rw[show (L.filter fun x=>!decide (x.at_=id))=L from zkD (zqk (by omega))];refine gS (gM rR (gA rR (qb ?_)));exact qn rfl rfl rfl
  · simp at h12;obtain ⟨i,p,hi,hp,hid,hil,hf,hno⟩:=zwh (l:=L) (id:=id) (fun h=>h12 (ztx h));rw[hi];refine qh (qf (gS (gM rR (g_v (qu rR rR (w64 (by omega))) rR (gA rR (qb ?_))))));rw[show ((i:Nat):Int)+1=((i+1:Nat):Int) by omega];refine qj ?_;refine qE (α:=Nat×Nat×List PutM) (fun z=>DlU L z.2.2 id z.2.1 z.1∧z.2.1<z.1) (fun z=>U [(0,sl s L.length c),(1, .func (.func 45) #[] #[ptr q 0]),(5,I z.2.1),(6,I z.1)]) (fun z=>owL 44 2 s c (zbx z.2.2)::pt q (.cells #[I id] 3 (0,0))::F) (fun z=>L.length - z.1) (i+1,i,L) ⟨zq2 hno hp hid,by simp only[];omega⟩ [0,1,5,6] rfl rR ?_;rintro ⟨j,w,R⟩ ⟨hD,hwj⟩;simp only[] at hD hwj ⊢;have hjl0:=hD.lj;refine qf (gS (gM rR (gM rR (g_v (yo underlying23 rR) rR (g_v (qJ rR rR) rR (qb ?_))))));refine qg rR (fun h19=>?_) (fun h19=>?_)
    · simp at h19;have hjl:j<L.length:=(by omega);have hwl:w<L.length:=(by omega);obtain ⟨x,hx⟩:∃x,R[j]? =some x:=⟨_,List.getElem?_eq_getElem (by rw[hD.len];exact hjl)⟩;refine qh (qf (qj (gS (gM rR (gM rR (g_v (qA (j) underlying23 sizeOf44 rR rR rR hjl (by rw[zbA,hD.len];exact hjl)) rR (g_v (ym (row:=zfv x) isAgg44 sizeOf44 rR (ziW hx) rR) rR ?_)))))));refine g_l (qy #[I 0,Str []] zeroValue44) rR ?_;rintro _ _ ⟨b7,rfl,rfl⟩;refine yp (qq (cs:=#[I 0,Str []]) (vs:=zfv (x)) (zfv (x)).toArray sizeOf44 rR rR rR rR (by simp[zfv]) (qv rR)) ?_;rintro _ _ rfl;refine qb (gS (gM rR (g_v (qI (vs:=zfv x) isAgg44 sizeOf44 rR rR qR) rR ?_)));refine g_l (zat (fi:=[]) (cap:=[ptr q 0]) (Pre:=[pt q (.cells #[I id] 3 (0,0))]) call45 rR rR (zfR x q id)) rR ?_;rintro _ _ ⟨rfl,rfl⟩;refine g_v (wo rR) rR (qb ?_);refine qg rR (fun h29=>?_) (fun h29=>?_)
      · simp at h29;refine gS (gM rR (gM rR (g_v (qI (vs:=zfv x) isAgg44 sizeOf44 rR rR qR) rR (g_v (qA (w) underlying23 sizeOf44 rR rR rR hwl (by rw[zbA,hD.len];exact hwl)) rR ?_))));refine yp (zgO (j:=w) (vs:=zfv x) sizeOf44 rR rR rR rR (by rw[zbA,hD.len];omega) (by decide)) ?_;rintro _ _ rfl;rw[zsI];refine qb (qo (gM rR (g_v (qu rR rR (w64 (by omega))) rR (gA rR (qb (qF (qo (gM rR (g_v (qu rR rR (w64 (by omega))) rR (gA rR (qb ?_)))))))))));exact qm (j+1,w+1,R.set w x) ⟨ztk hD hwj hx h29,by simp only[];omega⟩ (by simp only[];omega) [0,1,5,6] rfl rfl
      · simp at h29;refine qh (qF (qo (gM rR (g_v (qu rR rR (w64 (by omega))) rR (gA rR (qb ?_))))));exact qm (j+1,w,R) ⟨zsG hD hx h29,by simp only[];omega⟩ (by simp only[];omega) [0,1,5,6] rfl rfl
    · simp at h19;obtain rfl:j=L.length:=(by omega);refine qz rR ?_;refine qf ?_;refine zhJ s w ?_;rw[zqY,zpc hD];have hfl:(L.filter fun x=>!decide (x.at_=id)).length=w:=(by rw[←zpc hD,List.length_take];have:=hD.len;omega);refine qo (gM rR (gM rR (g_v (zb7 (l:=w) underlying23 sizeOf44 rR rR rR (by omega)) rR ?_)));refine yp (zev (sz:=2) (l:=w) s underlying23 zeroValue44 rR rR rR (by unfold At;split;exact .inr (.inr (by omega));exact .inr (.inl rR)) (by rw[zbA];omega) (by omega)) ?_;rintro _ _ ⟨rfl,rfl⟩;refine qb (gS (gM rR (gM rR (g_v (zhU (h:=w) underlying23 sizeOf44 rR rR rR (by omega)) rR (gA rR (qb ?_))))));exact qn rfl rfl (by rw[hfl];rfl)
theorem zc1 (b:Nat)(S:SI)(L:List Pt)(n:Int)(base disk size:Int)(puts:List PutM)(sp:Option Addr)(cp:Nat)(G0:Gh)(hV:Vok S L n G0)(hpl:puts.length≤1000000)(hpd:∀p∈puts,p.data.length≤9223372036854775807)(F:List HProp):Ct Tryz.prog 46 [ptr b 0,I base,I disk,I size,sl sp puts.length cp] ([vlt b S L n,owL 44 2 sp cp (zbx puts)]++F) (vR vlt (zbV 108) b (owL 44 2 sp cp (zbx puts)::F) (zgn S L n base disk size puts)):=by
  show Ct Tryz.prog 46 [ptr b 0,I base,I disk,I size,sl sp puts.length cp] (vlt b S L n::owL 44 2 sp cp (zbx puts)::F) _;have hok:=zfW hV;have hll:=hV.len;have hn1:=hV.n1;have hrl:(L.map (·.root)).length≤8:=(by simp;omega);refine Ct.of func46 rR 102 ntmps46 (by simp) fun w0=>?_;refine gS (gA rR (gA rR (qb (qf (gS (gM rR (g_v (qJ rR rR) rR (gM rR (qK rR rR (fun hg=>qp rR) rR rR (qK rR rR (fun hg=>yA rR rR) rR rR (g_v (zaH rR rR) rR (gM rR (qK rR rR (fun hg=>qp rR) rR rR (qK rR rR (fun hg=>qJ rR rR) rR rR (g_v (zaH rR rR) rR (gM rR (qK rR rR (fun hg=>qp rR) rR rR (qK rR rR (fun hg=>yA rR rR) rR rR (g_v (zaH rR rR) rR (qb ?_))))))))))))))))))));refine qg rR (fun h31=>?_) (fun h31=>?_)
  · simp at h31;have hbd:disk<1∨999<disk∨size<1∨16<size:=(by omega);refine gS (g_v (qB underlying108 rR rR) rR (gA rR (gA rR (qb ?_))));exact zcd rfl (by unfold zgn;rw[if_pos hbd]) rfl rfl
  · simp at h31;have hbd:¬(disk<1∨999<disk∨size<1∨16<size):=(by omega);refine qh (gS (gM rR (gM rR (gM rR (gM rR ?_)))));refine g_l (qi (Pre:=[vlt b S L n]) call77 rR (zeq b S L n base disk size G0 hV (by omega))) rR ?_;rintro v L' hv;unfold vR zlD at hv;rcases hb:zdr S L base disk size with e0 | ⟨z1,z2⟩ <;> rw[hb] at hv <;> obtain ⟨rfl,rfl⟩:=hv
    · have he0:=zk5 hb;refine gM rR (g_v (qd (v:=I 0) rR rR) rR (g_v (qd (v:=zbV 108 e0) rR rR) rR (gA rR (gA rR (qb (qf (gS (gM rR (g_v (yf underlying37 rR) rR (qb ?_))))))))));refine qg rR (fun h42=>?_) (fun h42=>?_)
      · refine gS (gM rR (gA rR (gA rR (qb ?_))));exact zcd rfl (by unfold zgn;rw[if_neg hbd,hb]) rfl rfl
      · simp at h42;omega
    · obtain ⟨G2,hz,hR2,_,_⟩:=zi9 hV (by omega) hb;simp only at hz hR2;subst hz;refine zaz b (mkG G2) L n ?_;intro x s c;refine gM rR (g_v (qd (v:=I z2) rR rR) rR (g_v (qd (v:=zbV 108 0) rR rR) rR (gA rR (gA rR (qb (qf (gS (gM rR (g_v (yf underlying37 rR) rR (qb ?_))))))))));refine qg rR (fun h42=>?_) (fun h42=>?_)
      · simp at h42
      · refine qh (qf (gS (gM rR (g_v (yo underlying23 rR) rR (gM rR (qb (qj ?_)))))));refine qE (α:=Nat×Gh×Int) (fun z=>z.1≤puts.length∧Rt z.2.1 (z.2.2::L.map (·.root))∧zbQ size (mkG z.2.1,z.2.2) (puts.drop z.1)=zbQ size (mkG G2,z2) puts) (fun z=>U [(0,ptr b 0),(2,I disk),(3,I size),(12,I z.2.2),(44,sl sp puts.length cp),(45,I puts.length),(46,I z.1)]) (fun z=>pt b (.cells #[ptr x 0,sl s (L).length c,I (n)] 68 (0,0))::ixl x (mkG z.2.1)::owL 70 4 s c (ptR (L))::owL 44 2 sp cp (zbx puts)::F) (fun z=>puts.length - z.1) (0,G2,z2) ⟨by simp,hR2,by simp⟩ [0,2,3,12,44,45,46] rfl rR ?_;rintro ⟨k,G,root⟩ ⟨hk,hR,hput⟩;simp only[] at hk hR hput ⊢;have hokG:=RtOk hR (m:=200) (by simp;omega);refine gS (g_v (qJ rR rR) rR (qb (qf ?_)));refine qg rR (fun h47=>?_) (fun h47=>?_)
        · simp at h47;have hkn:k<puts.length:=(by omega);obtain ⟨p,hp⟩:∃p,puts[k]? =some p:=⟨_,List.getElem?_eq_getElem hkn⟩;have hpd1:=hpd p (List.mem_of_getElem? hp);refine qh (qf (qj (gS (g_v (qA k underlying23 sizeOf44 rR rR rR hkn (by rw[zbA];exact hkn)) rR (g_v (ym (row:=zfv p) isAgg44 sizeOf44 rR (ziW hp) rR) rR ?_)))));refine g_l (qy #[I 0,Str []] zeroValue44) rR ?_;rintro _ _ ⟨b15,rfl,rfl⟩;refine yp (qq (cs:=#[I 0,Str []]) (vs:=zfv p) (zfv p).toArray sizeOf44 rR rR rR rR (by simp[zfv]) (qv rR)) ?_;rintro _ _ rfl;refine qb (qf (gS (g_v (qa 0 underlying44 rR rR sizeOf3 (by decide) rR) rR (g_v (qe (v:=I p.at_) isAgg3 rR rR) rR (g_v (qJ rR rR) rR (gM rR (qK rR rR (fun hg=>qa 0 underlying44 rR rR sizeOf3 (by decide) rR) rR rR (qK rR rR (fun hg=>qe (v:=I p.at_) isAgg3 rR rR) rR rR (qK rR rR (fun hg=>qp rR) rR rR (qK rR rR (fun hg=>zig rR rR) rR rR (g_v (zaH rR rR) rR (qb ?_))))))))))));refine qg rR (fun h58=>?_) (fun h58=>?_)
          · simp at h58;refine gS (g_v (qB underlying108 rR rR) rR (gA rR (gA rR (qb ?_))));exact zcd rfl (by
              unfold zgn;rw[if_neg hbd,hb];simp only;rw[←hput,zeS hp];simp only[zbQ];rw[if_pos (by omega)]) rfl rfl
          · simp at h58;have han:(p.at_.toNat:Int)=p.at_:=(by omega);refine qh (qf (qf ?_));refine yw (Lf:=[pt b (.cells #[ptr x 0,sl s (L).length c,I (n)] 68 (0,0)),pt b15 (.cells (zfv p).toArray 44 (0,0))]) [(0,false),(1,false),(2,false),(3,false),(4,false),(5,false),(6,false),(8,false),(9,false),(7,true),(10,false)] (by kernel_rfl) (by kernel_rfl) rR (by kernel_rfl) ?_;refine dM rR rR rR (d_v rR (qc rR) rR (d_v rR (qa 0 underlying68 rR rR sizeOf65 (by decide) rR) rR (d_v rR (qe (v:=ptr x 0) isAgg65 rR rR) rR (dM rR rR rR (d_v rR (qa 0 underlying44 rR rR sizeOf3 (by decide) rR) rR (d_v rR (qe (v:=I (p.at_.toNat:Int)) isAgg3 rR (by rw[han];rfl)) rR (d_v rR (qa 1 underlying44 rR rR sizeOf9 (by decide) rR) rR (d_v rR (qe (v:=Str p.data) isAgg9 rR rR) rR ?_))))))));refine d_l rR (qi (Pre:=[ixl x (mkG G)]) call68 rR (zaN x (mkG G) root p.at_.toNat 200 hokG (by decide) (by omega))) rR ?_;rintro _ _ ⟨rfl,rfl⟩;refine d_v rR (zaF rR rR) rR ?_;refine yc ?_;refine qg rR (fun h70=>?_) (fun h70=>?_)
            · simp at h70;refine qz rR ?_;refine qo (g_v (qu rR rR (w64 (by omega))) rR (gM rR (qb ?_)));exact qm (k+1,G,root) ⟨by simp only[];omega,hR,by
                rw[←hput,zeS hp];simp only[zbQ];rw[if_neg (by omega),if_pos h70]⟩ (by simp only[];omega) [0,2,3,12,44,45,46] rfl rfl
            · simp at h70;refine qh (qf ?_);refine yw (Lf:=[pt b (.cells #[ptr x 0,sl s (L).length c,I (n)] 68 (0,0)),pt b15 (.cells (zfv p).toArray 44 (0,0))]) [(0,false),(1,false),(2,false),(3,false),(4,false),(5,false),(6,false),(7,false),(8,false),(9,true),(10,false),(11,false),(12,false),(13,false),(14,false)] (by kernel_rfl) (by kernel_rfl) rR (by kernel_rfl) ?_;refine dM rR rR rR (d_v rR (qc rR) rR (d_v rR (qa 0 underlying68 rR rR sizeOf65 (by decide) rR) rR (d_v rR (qe (v:=ptr x 0) isAgg65 rR rR) rR (dM rR rR rR (d_v rR (qa 0 underlying44 rR rR sizeOf3 (by decide) rR) rR (d_v rR (qe (v:=I (p.at_.toNat:Int)) isAgg3 rR (by rw[han];rfl)) rR (d_v rR (qa 1 underlying44 rR rR sizeOf9 (by decide) rR) rR (d_v rR (qe (v:=Str p.data) isAgg9 rR rR) rR ?_))))))));refine d_l rR (qi (Pre:=[ixl x (mkG G)]) call78 rR (zbZ x (mkG G) root p.at_.toNat p.data 200 hokG (by decide) (by omega) hpd1 (zpZ hR.V (zmx hR (by simp))))) rR ?_;rintro _ _ ⟨rfl,rfl⟩;refine dM rR rR rR (d_v rR (qd (v:=I (zc7 (mkG G) root p.at_.toNat p.data).1) rR rR) rR (d_v rR (qd (v:=zbV 108 (zc7 (mkG G) root p.at_.toNat p.data).2) rR rR) rR (d_v rR (qx rR) rR (d_v rR (qx rR) rR ?_))));refine yc ?_;refine qf (gS (gM rR (g_v (yf underlying37 rR) rR (qb ?_))));refine qg rR (fun h85=>?_) (fun h85=>?_)
              · simp at h85;refine gS (gM rR (gA rR (gA rR (qb ?_))));exact zcd rfl (by
                  unfold zgn;rw[if_neg hbd,hb];simp only;rw[←hput,zeS hp];simp only[zbQ,put1];rw[if_neg (by omega),if_neg h70,if_neg h85]) rfl rfl
              · simp at h85;obtain ⟨G1,G3,hu1,o1,r1,v1,hu2,hR3,_,_⟩:=zhL hR hrl (by omega) h85;rw[hu1];refine qh (gS (gM rR (g_v (qc rR) rR (g_v (qa 0 underlying68 rR rR sizeOf65 (by decide) rR) rR (g_v (qe (v:=ptr x 0) isAgg65 rR rR) rR (gM rR ?_))))));refine g_l (qi (Pre:=[ixl x (mkG G1)]) call79 rR (zaB x (mkG G1) root 200 o1 (by decide))) rR ?_;rintro _ _ ⟨rfl,rfl⟩;rw[hu2];refine qb (qo (gM rR (gA rR (qb (qF (qo (g_v (qu rR rR (w64 (by omega))) rR (gM rR (qb ?_)))))))));exact qm (k+1,G3,(zc7 (mkG G) root p.at_.toNat p.data).1) ⟨by simp only[];omega,hR3,by
                  rw[←hput,zeS hp];simp only[zbQ,put1];rw[if_neg (by omega),if_neg h70,if_pos h85,hu1,hu2]⟩ (by simp only[];omega) [0,2,3,12,44,45,46] rfl rfl
        · simp at h47;obtain rfl:k=puts.length:=(by omega);rw[List.drop_length] at hput;refine qz rR ?_;refine qf ?_;refine yk b x s c (mkG G) (L) (n) ?_;refine qo (gM rR (gM rR (gM rR (gM rR ?_))));refine g_l (qi (Pre:=[vlt b (mkG G) L n]) call80 rR (zbX b (mkG G) L n disk size root (by omega) (by omega))) rR ?_;rintro _ _ ⟨rfl,rfl⟩;refine g_v (qd (v:=I (zmk L n)) rR rR) rR (g_v (qd (v:=zbV 108 (zct L n)) rR rR) rR (gA rR (gA rR (qb ?_))));by_cases ha:zct L n=0
          · rw[show zmk L n=n by unfold zmk;rw[if_pos ha],show zjR L n disk size root=L++ [⟨n,disk,size,root⟩] by unfold zjR;rw[if_pos ha],show zs3 L n=n+1 by unfold zs3;rw[if_pos ha],ha];exact zjI (S:=mkG G) (P:=L++ [⟨n,disk,size,root⟩]) (n:=n+1) rfl (by
              unfold zgn;rw[if_neg hbd,hb];simp only;rw[←hput];simp only[zbQ];rw[if_neg (by omega)]) rfl rfl
          · rw[show zmk L n=0 by unfold zmk;rw[if_neg ha]];exact zcd rfl (by
              unfold zgn;rw[if_neg hbd,hb];simp only;rw[←hput];simp only[zbQ];rw[if_pos ha]) rfl rfl
theorem zcY (b bd:Nat)(z:RpM)(id at_:Int)(d:Bytes)(hR:Rok z)(hdl:d.length≤9223372036854775807)(F:List HProp):Ct Tryz.prog 14 [ptr b 0,I id,I at_,Str d] ([rpl b bd z]++F) (fun v L'=>(zbh z id at_ d≠0∧v=yK (zbh z id at_ d)∧L'=rpl b bd z::F)∨(zbh z id at_ d=0∧∃so co,v=yK 0∧L'=rpl b bd (z.putted id at_ d so co)::F)):=by
  show Ct Tryz.prog 14 [ptr b 0,I id,I at_,Str d] (rpl b bd z::F) _;refine Ct.of func14 rR 58 ntmps14 (by simp) fun w0=>?_;refine zan b bd z ?_;intro bs bl so co bv rs rm;refine gS ?_;refine g_l (wR #[I at_] rfl rR) rR ?_;rintro _ _ ⟨b6,rfl,rfl⟩;refine gA rfl (qb (gS (gM rfl (g_v (qc rfl) rfl (g_v (qa 2 underlying89 rfl rfl sizeOf86 (by decide) rfl) rfl (g_v (qe (v:= .map (some rs)) isAgg86 rfl rfl) rfl (gM rfl (g_v (yF (v:= .pointer ((fSe z.ses id).map fun e=>⟨e.a,0,none⟩)) underlying86 underlying3 zeroValue110 rfl rfl (by rw[znI];cases fSe z.ses id <;> rfl)) rfl (gA rfl (qb (qf (qj (gS (gM rfl (g_v (zgT underlying110 rfl) rfl (gA rfl (qb ?_)))))))))))))))));refine qg rR (fun h16=>?_) (fun h16=>?_)
  · have hno:fSe z.ses id=none:=(by simpa using h16);refine gS (g_v (qB underlying108 rR rR) rR (gA rR (qb ?_)));refine yj b bd (z) bs bl so co bv rs rm ?_;exact ql (rpl b bd (z)::F) rfl (have ho:zbh z id at_ d=5:=by unfold zbh;rw[hno]
      .inl ⟨by rw[ho];decide,by rw[ho];rfl,rfl⟩)
  · obtain ⟨e,hfe⟩:∃e,fSe z.ses id=some e:=Option.isSome_iff_exists.1 (by cases hq:fSe z.ses id with
      | none=>rw[hq] at h16;cases h16
      | some _=>rfl)
    obtain ⟨he,hek,hi⟩:=zkK hfe;rw[hfe];refine qf ?_;refine zv6 z.ses _ he ?_;refine yw (Lf:=[pt e.a (.cells #[I e.base,I e.disk,I e.size,sl e.so (e.puts.length) e.co] 112 (0,0)),pt b6 (.cells #[I at_] 3 (0,0))]) [(0,false),(1,false),(2,false),(3,false),(4,false),(5,false),(6,false),(7,false),(8,false),(9,false),(10,false)] (by kernel_rfl) (by kernel_rfl) rR (by kernel_rfl) ?_;refine d_v rR (qe (v:=I at_) isAgg3 rR rR) rR (d_v rR (qJ rR rR) rR (dM rR rR rR (zbW rR rR rR (fun hg=>qe (v:=I at_) isAgg3 rR rR) rR rR (zbW rR rR rR (fun hg=>qp rR) rR rR (zbW rR rR rR (fun hg=>qc rR) rR rR (zbW rR rR rR (fun hg=>qa 2 underlying112 rR rR sizeOf3 (by decide) rR) rR rR (zbW rR rR rR (fun hg=>qe (v:=I e.size) isAgg3 rR rR) rR rR (zbW rR rR rR (fun hg=>zig rR rR) rR rR (d_v rR (zaH rR rR) rR (d_v rR (qx rR) rR ?_))))))))));refine yc ?_;refine qg rR (fun h20=>?_) (fun h20=>?_)
    · have hbd:at_<0∨e.size≤at_:=(by simp at h20;omega);refine gS (g_v (qB underlying108 rR rR) rR (gA rR (qb ?_)));refine zac (f:=seA) z.ses (sIx z.ses id) e [pt e.a (.cells #[I e.base,I e.disk,I e.size,sl e.so e.puts.length e.co] 112 (0,0)),owL 44 2 e.so e.co (zbx e.puts)] rfl hi ?_;rw[zbz he];refine yj b bd (z) bs bl so co bv rs rm ?_;have ho:zbh z id at_ d=1:=(by unfold zbh;rw[hfe];simp only;rw[if_pos hbd]);exact ql (rpl b bd z::F) rfl (.inl ⟨by rw[ho];decide,by rw[ho];rfl,rfl⟩)
    · have hbd:¬(at_<0∨e.size≤at_):=(by simp at h20;omega);refine gS (gM rR (g_v (wi underlying9 rR) rR (g_v (yA rR rR) rR (gA rR (qb ?_)))));refine qg rR (fun h32=>?_) (fun h32=>?_)
      · have h6:6<d.length:=(by simp at h32;omega);refine gS (g_v (qB underlying108 rR rR) rR (gA rR (qb ?_)));refine zac (f:=seA) z.ses (sIx z.ses id) e [pt e.a (.cells #[I e.base,I e.disk,I e.size,sl e.so e.puts.length e.co] 112 (0,0)),owL 44 2 e.so e.co (zbx e.puts)] rfl hi ?_;rw[zbz he];refine yj b bd (z) bs bl so co bv rs rm ?_;have ho:zbh z id at_ d=2:=(by unfold zbh;rw[hfe];simp only;rw[if_neg hbd,if_pos h6]);exact ql (rpl b bd z::F) rfl (.inl ⟨by rw[ho];decide,by rw[ho];rfl,rfl⟩)
      · have h6:¬6<d.length:=(by simp at h32;omega);have hps:=(hR.putS e (List.mem_of_getElem? he)).1;have hfl:=List.length_filter_le (fun x:PutM=>!decide (x.at_=at_)) e.puts;refine qh (qF (gS (gM rR (gM rR (g_v (qc rR) rR (g_v (qa 3 underlying112 rR rR sizeOf23 (by decide) rR) rR (g_v (qe (v:=sl e.so e.puts.length e.co) isAgg23 rR rR) rR (g_v (wQ rR rR) rR ?_))))))));refine g_l (qi (Pre:=[owL 44 2 e.so e.co (zbx (e.puts)),pt b6 (.cells #[I at_] 3 (0,0))]) call44 rR (zfI e.puts e.so e.co b6 at_ (by omega))) rR ?_;rintro _ _ ⟨rfl,rfl⟩;refine g_v (qc rR) rR (g_v (qa 3 underlying112 rR rR sizeOf23 (by decide) rR) rR ?_);refine yp (qH #[I e.base,I e.disk,I e.size,sl e.so (e.puts.filter fun x=>!decide (x.at_=at_)).length e.co] sizeOf23 rR rR rR (by simp) rR) ?_;rintro _ _ rfl;refine qb (qf ?_);refine zcJ (Lf:=[pt e.a (.cells #[I e.base,I e.disk,I e.size,sl e.so ((e.puts.filter fun x=>!decide (x.at_=at_)).length) e.co] 112 (0,0)),pt b6 (.cells #[I at_] 3 (0,0))]) [(0,false),(1,false),(2,false),(3,false),(4,false),(5,false),(6,false),(7,false),(8,true),(9,true),(10,false),(11,false)] 12 rR (by kernel_rfl) (by kernel_rfl) rR (by kernel_rfl) (by kernel_rfl) ?_;refine dM rR rR rR (dM rR rR rR (d_v rR (qc rR) rR (d_v rR (qa 3 underlying112 rR rR sizeOf23 (by decide) rR) rR (d_v rR (qe (v:=sl e.so (e.puts.filter fun x=>!decide (x.at_=at_)).length e.co) isAgg23 rR rR) rR (d_v rR (qe (v:=I at_) isAgg3 rR rR) rR (dM rR rR rR (d_v rR (qP rR (zu5 at_ d)) rR ?_)))))));refine d_l rR (qs (zbx [⟨at_,d⟩]) underlying23 sizeOf44 zeroValue44 rR rR rR (by simp[zbx,zfv]) (by decide) (by decide)) rR ?_;rintro _ _ ⟨b54,rfl,rfl⟩;refine d_l rR (yC underlying23 sizeOf44 zeroValue44 rR Tryz.typeInfo44 (by decide) rR rR (zbA _) rR (by simp[zbx,zfv]) (by simp[zbx,zfv,Go.Sl.ones,Go.Sl.one]) ⟨by omega,by decide,by decide⟩) rR ?_;rintro _ _ ⟨s55,c55,rfl,rfl⟩;refine d_v rR (qc rR) rR (d_v rR (qa 3 underlying112 rR rR sizeOf23 (by decide) rR) rR ?_);refine yc ?_;refine yp (qH #[I e.base,I e.disk,I e.size,sl s55 ((e.puts.filter fun x=>!decide (x.at_=at_)).length+1) c55] sizeOf23 rR rR rR (by simp) rR) ?_;rintro _ _ rfl;refine qb (gS (gA rR (qb ?_)));rw[show zbx (e.puts.filter fun x=>!decide (x.at_=at_))++zbx [⟨at_,d⟩]=zbx (zhZ e.puts at_ d) by simp[zbx,zhZ],show (e.puts.filter fun x=>!decide (x.at_=at_)).length+1=(zhZ e.puts at_ d).length by simp[zhZ]];refine zac (f:=seA) z.ses (sIx z.ses id) (⟨e.key,e.a,s55,c55,e.base,e.disk,e.size,zhZ e.puts at_ d⟩:SeE) [pt e.a (.cells #[I e.base,I e.disk,I e.size,sl s55 (zhZ e.puts at_ d).length c55] 112 (0,0)),owL 44 2 s55 c55 (zbx (zhZ e.puts at_ d))] rfl hi ?_;rw[←ztw (e':=(⟨e.key,e.a,s55,c55,e.base,e.disk,e.size,zhZ e.puts at_ d⟩:SeE)) he rfl rfl]
        refine yj b bd (⟨z.h,z.used,z.rows,z.S,z.L,z.n,z.ses.set (sIx z.ses id) ⟨e.key,e.a,s55,c55,e.base,e.disk,e.size,zhZ e.puts at_ d⟩,z.mou,z.next⟩) bs bl so co bv rs rm ?_;exact ql (rpl b bd ⟨z.h,z.used,z.rows,z.S,z.L,z.n,z.ses.set (sIx z.ses id) ⟨e.key,e.a,s55,c55,e.base,e.disk,e.size,zhZ e.puts at_ d⟩,z.mou,z.next⟩::F) rfl (.inr ⟨by unfold zbh;rw[hfe];simp only;rw[if_neg hbd,if_neg h6],s55,c55,rfl,by unfold RpM.putted RpM.sess;rw[hfe]⟩)
theorem zpL {S:SI}{L:List Pt}{n:Int}{G:Gh}(h:Con S L n G):∀c∈qY S L n,c.key≠ []∧c.key.length≤8∧c.val.length≤48∧c.gone=false:=fun c hc=>by
  have w:=h.wr;unfold qY at hc;rcases List.mem_append.1 hc with hc | hc
  · rcases List.mem_append.1 hc with hc | hc
    · rcases List.mem_append.1 hc with hc | hc
      · unfold zaL at hc;obtain ⟨q,hq,rfl⟩:=List.mem_map.1 hc;obtain ⟨hq1,hq2⟩:=mem_ids.1 hq;obtain ⟨x,hx⟩:=Option.isSome_iff_exists.1 hq2;have hb:=w.b q x hx;have h1:=yS (n:=q) (by omega);have h2:=yS (n:=x.2) (by omega);rw[show gB S.B q=x by unfold gB;rw[hx];rfl];refine ⟨by simp[zwQ],?_,?_,rfl⟩ <;> simp only[zwQ,List.length_cons,List.length_append] <;> omega
      · unfold zaS at hc;obtain ⟨q,hq,rfl⟩:=List.mem_map.1 hc;obtain ⟨hq1,hq2⟩:=mem_ids.1 hq;have hb:=zu1 h.sm q;have h1:=yS (n:=q) (by omega);have h2:=zgm (n:=gN S.N q) (by omega) (fun k hk=>by have:=hb.2 k hk;omega) 4 (by omega);rw[zrI] at h2;refine ⟨by simp[zwO],?_,?_,rfl⟩ <;> simp only[zwO,List.length_cons] <;> omega
    · obtain ⟨p,hp,rfl⟩:=List.mem_map.1 hc;have hb:=w.p p hp;have h1:=yS (n:=p.id) (by omega);have h2:=yS (n:=p.disk) (by omega);have h3:=yS (n:=p.size) (by omega);have h4:=yS (n:=p.root) (by omega);refine ⟨by simp[zj8],?_,?_,rfl⟩ <;> simp only[zj8,List.length_cons,List.length_append] <;> omega
  · rw[List.mem_singleton] at hc;subst hc;have h1:=wa (n:=n) (by have:=w.n1;omega);refine ⟨by simp[zoR],?_,?_,rfl⟩ <;> simp only[zoR,List.length_cons,List.length_nil] <;> omega
theorem zwd {l:List ChangeM}{c x:ChangeM}:x∈apS l c ↔ (x=c∧c.gone=false)∨(x∈l∧x.key≠c.key):=by
  unfold apS;simp only[List.mem_append,List.mem_filter];constructor
  · rintro ((⟨h1,h2⟩ | h) | ⟨h1,h2⟩)
    · exact .inr ⟨h1,zc3 h2⟩
    · split at h
      · cases h
      · rename_i hg;exact .inl ⟨List.mem_singleton.1 h,by simpa using hg⟩
    · exact .inr ⟨h1,fun e=>zc3 h2 e.symm⟩
  · rintro (⟨rfl,hg⟩ | ⟨h1,h2⟩)
    · exact .inl (.inr (by rw[if_neg (by simp[hg])];simp))
    · rcases zgK x.key c.key with h | h | h
      · exact .inl (.inl ⟨h1,h⟩)
      · exact absurd h h2
      · exact .inr ⟨h1,h⟩
theorem zm3:∀{c l:List ChangeM} {x:ChangeM},srt c→(x∈zaG l c ↔ (x∈c∧x.gone=false)∨(x∈l∧∀y∈c,y.key≠x.key))
  | [],l,x,_=>by simp[zaG]
  | d::c,l,x,h=>by
    have h':=List.pairwise_cons.1 h;show x∈zaG (apS l d) c ↔ _;rw[zm3 h'.2,zwd];constructor
    · rintro (⟨h1,h2⟩ | ⟨⟨rfl,h2⟩ | ⟨h1,h2⟩,h3⟩)
      · exact .inl ⟨List.mem_cons_of_mem _ h1,h2⟩
      · exact .inl ⟨List.mem_cons_self ..,h2⟩
      · refine .inr ⟨h1,fun y hy=>?_⟩;rcases List.mem_cons.1 hy with rfl | hy
        · exact Ne.symm h2
        · exact h3 y hy
    · rintro (⟨h1,h2⟩ | ⟨h1,h2⟩)
      · rcases List.mem_cons.1 h1 with rfl | h1
        · exact .inr ⟨.inl ⟨rfl,h2⟩,fun y hy e=>zc3 (h'.1 y hy) e.symm⟩
        · exact .inl ⟨h1,h2⟩
      · exact .inr ⟨.inr ⟨h1,Ne.symm (h2 d (by simp))⟩,fun y hy=>h2 y (List.mem_cons_of_mem _ hy)⟩
theorem zlW:∀{l:List ChangeM},srt l→∀{x y:ChangeM},x∈l→y∈l→x.key=y.key→x=y
  | a::l,h,x,y,hx,hy,e=>by
    have h':=List.pairwise_cons.1 h;rcases List.mem_cons.1 hx with rfl | gx
    · rcases List.mem_cons.1 hy with rfl | gy
      · rfl
      · exact absurd e (zc3 (h'.1 y gy))
    · rcases List.mem_cons.1 hy with rfl | gy
      · exact absurd e.symm (zc3 (h'.1 x gx))
      · exact zlW h'.2 gx gy e
theorem zyB {a b:List ChangeM}(ha:srt a)(hb:srt b)(hg:∀x∈b,x.gone=false):zaG a (mg a b)=b:=by
  refine zl2 (zjo ha _).1 hb fun x=>?_;rw[zm3 (zhm ha hb),zdu ha hb];constructor
  · rintro (⟨h1,h2⟩ | ⟨h1,h2⟩)
    · rcases h1 with ⟨y,hy,rfl,_⟩ | ⟨h1,_⟩
      · cases h2
      · exact h1
    · refine Decidable.byContradiction fun hx=>?_;by_cases hk:∃y∈b,y.key=x.key
      · obtain ⟨y,hy,hyk⟩:=hk;by_cases hya:y∈a
        · rw[zlW ha hya h1 hyk] at hy;exact hx hy
        · exact h2 y ((zdu ha hb y).2 (.inr ⟨hy,hya⟩)) hyk
      · exact h2 (goneC x) ((zdu ha hb _).2 (.inl ⟨x,h1,rfl,fun y hy e=>hk ⟨y,hy,e⟩⟩)) rfl
  · intro hx;by_cases hxa:x∈a
    · refine .inr ⟨hxa,fun y hy e=>?_⟩;rcases (zdu ha hb y).1 hy with ⟨z,hz,rfl,hn⟩ | ⟨h1,h2⟩
      · exact hn x hx e.symm
      · rw[zlW hb h1 hx e] at h2;exact h2 hxa
    · exact .inl ⟨.inr ⟨hx,hxa⟩,hg x hx⟩
theorem znh:∀{c:List ChangeM},(∀x∈c,zbt x=0)→zeh c=0
  | [],_=>rfl
  | x::c,h=>by
    unfold zeh;rw[if_pos (h x (by simp))];exact znh fun y hy=>h y (List.mem_cons_of_mem _ hy)
theorem zxi {a b:List ChangeM}(ha:srt a)(hb:srt b)(za:∀c∈a,c.key≠ []∧c.key.length≤8∧c.val.length≤48∧c.gone=false)(zb:∀c∈b,c.key≠ []∧c.key.length≤8∧c.val.length≤48∧c.gone=false):∀x∈mg a b,zbt x=0:=fun x hx=>by
  unfold zbt;rcases (zdu ha hb x).1 hx with ⟨y,hy,rfl,_⟩ | ⟨h1,_⟩
  · have h:=za y hy;rw[if_neg (by simp[goneC,h.1]),if_neg (by simp[goneC];omega)]
  · have h:=zb x h1;rw[if_neg (by simp[h.1,h.2.2.2]),if_neg (by omega)]
theorem zmH:∀{l m:List Bytes},l.Nodup→(∀q∈l,q∈m)→l.length≤m.length
  | [],_,_,_=>by simp
  | a::l,m,hl,h=>by
    rw[List.nodup_cons] at hl;have h1:=zmH (l:=l) (m:=m.erase a) hl.2 fun q hq=>by
      have hne:q≠a:=fun e=>hl.1 (e ▸ hq);exact (List.mem_erase_of_ne hne).2 (h q (List.mem_cons_of_mem _ hq))
    have h2:=List.length_erase_of_mem (h a (by simp));have h3:=List.length_pos_of_mem (h a (by simp));simp only[List.length_cons];omega
def zqK (P:List Pt):List Bytes:=((List.range 40).map fun k=>98::thr ((k+1:Nat):Int))++((List.range 24).map fun k=>110::thr ((k+1:Nat):Int))++P.map (fun p=>112::thr p.id)++ [[120]]
theorem zuu {S:SI}{L:List Pt}{n:Int}{P:List Pt}(hP:∀p∈L,p∈P):∀c∈qY S L n,c.key∈zqK P:=fun c hc=>by
  unfold qY at hc;unfold zqK;simp only[List.mem_append] at hc ⊢;rcases hc with ((hc | hc) | hc) | hc
  · unfold zaL at hc;obtain ⟨q,hq,rfl⟩:=List.mem_map.1 hc;obtain ⟨hq1,_⟩:=mem_ids.1 hq;exact .inl (.inl (.inl (List.mem_map.2 ⟨q.toNat - 1,by rw[List.mem_range];omega,by rw[show ((q.toNat - 1+1:Nat):Int)=q by omega];rfl⟩)))
  · unfold zaS at hc;obtain ⟨q,hq,rfl⟩:=List.mem_map.1 hc;obtain ⟨hq1,_⟩:=mem_ids.1 hq;exact .inl (.inl (.inr (List.mem_map.2 ⟨q.toNat - 1,by rw[List.mem_range];omega,by rw[show ((q.toNat - 1+1:Nat):Int)=q by omega];rfl⟩)))
  · obtain ⟨p,hp,rfl⟩:=List.mem_map.1 hc;exact .inl (.inr (List.mem_map.2 ⟨p,hP p hp,rfl⟩))
  · rw[List.mem_singleton] at hc;subst hc;exact .inr (by simp[zoR])
theorem zwi {S S':SI}{L L' P:List Pt}{n n':Int}{G G':Gh}(hC:Con S L n G)(hC':Con S' L' n' G')(hP:P.length≤7)(h1:∀p∈L,p∈P)(h2:∀p∈L',p∈P):(mg (qY S L n) (qY S' L' n')).length≤72:=by
  have ha:=zcM hC.wr;have hb:=zcM hC'.wr;have hs:=zhm ha hb;have hn:((mg (qY S L n) (qY S' L' n')).map (·.key)).Nodup:=by
    rw[List.Nodup,List.pairwise_map];exact hs.imp fun h=>zc3 h
  have hm:=zmH hn (m:=zqK P) fun q hq=>by
    obtain ⟨x,hx,rfl⟩:=List.mem_map.1 hq;rcases (zdu ha hb x).1 hx with ⟨y,hy,rfl,_⟩ | ⟨hy,_⟩
    · exact zuu h1 y hy
    · exact zuu h2 x hy
  rw[List.length_map] at hm;have:(zqK P).length=40+24+P.length+1:=(by simp[zqK];omega);omega
theorem zuP {S S':SI}{L L' P:List Pt}{n n':Int}{G G':Gh}(hC:Con S L n G)(hC':Con S' L' n' G')(hP:P.length≤7)(h1:∀p∈L,p∈P)(h2:∀p∈L',p∈P):cmV (200 - 122) (qY S L n) (mg (qY S L n) (qY S' L' n'))=0∧zaG (qY S L n) (mg (qY S L n) (qY S' L' n'))=qY S' L' n':=by
  have ha:=zcM hC.wr;have hb:=zcM hC'.wr;have hl:=zwi hC hC' hP h1 h2;have e:=zyB ha hb fun x hx=>(zpL hC' x hx).2.2.2;have hr:=zgz (S:=S') (n:=n') hC'.v.len;refine ⟨?_,e⟩;unfold cmV;rw[if_neg (by omega),if_neg (by rw[znh (zxi ha hb (zpL hC) (zpL hC'))];simp),e,if_neg (by omega)]
theorem zqO {N:Nat}{D:DiskM}{h:HdM}{r0:List ChangeM}{ds:Deeds}{used:Nat}{c:List ChangeM}{e:Int}{D2:DiskM}{h2:HdM}{used2:Nat}{rows2:List ChangeM}(C:Cal N D h r0 ds used)(hep:h.ep≤900000)(hf:h.first≤800000000)(h0':cmV (N - 122) (cur r0 ds) c=0)(hc:ztv D h (cur r0 ds) (N - 122) used c e D2 h2 used2 rows2):
    (e=0∧h2.ep≤h.ep+1∧h2.first≤h.first+N∧∃r2 d2,Cal N D2 h2 r2 d2 used2∧cur r2 d2=rows2∧rows2=zaG (cur r0 ds) c)∨
    (e=9∧Fell N D2 (h.ep+1) (h.first+N) (fun x=>x=cur r0 ds∨x=zaG (cur r0 ds) c)):=by
  obtain ⟨hq,I,hs⟩:=C;have hb:=I.big;rcases hc with ⟨hne,rfl,rfl,rfl,rfl,rfl⟩ | ⟨h0,e1,D1,h1,used1,hmid,hrest⟩
  · exact absurd h0' hne
  · obtain ⟨c1,c2,c3,c4⟩:=cm0 h0;have hm:(e1=0∧h1.ep≤h.ep+1∧h1.first≤h.first+N∧c.length+1≤N - 122 - used1∧∃r1 d1,Cal N D1 h1 r1 d1 used1∧cur r1 d1=cur r0 ds)∨(e1=9∧Fell N D1 (h.ep+1) (h.first+N) (fun x=>x=cur r0 ds)):=by
      rcases hmid with ⟨hroom,hrun,hck⟩ | ⟨hroom,rfl,rfl,rfl,rfl⟩
      · rcases zjh hq I hs (by omega) (by omega) hrun with ⟨rfl,C1⟩ | ⟨h9,F⟩
        · rcases hck with ⟨hx,_⟩ | ⟨_,rfl,_,d',hsc⟩
          · exact absurd rfl hx
          · have hlg:=C1.2.1.good.log;rw[C1.2.1.len] at hlg;have hu:=(zeU hsc hlg).2;subst hu;exact .inl ⟨rfl,by simp only[nxH];omega,by simp only[nxH];omega,by omega,_,_,C1,rfl⟩
        · exact .inr ⟨h9,F⟩
      · exact .inl ⟨rfl,by omega,by omega,by omega,r0,ds,⟨hq,I,hs⟩,rfl⟩
    rcases hm with ⟨rfl,m1,m2,m3,r1,d1,C1,hcur⟩ | ⟨h9,F⟩
    · rcases hrest with ⟨hx,_⟩ | ⟨_,rfl,rfl,rfl,rfl,rfl⟩
      · exact absurd rfl hx
      · have hv:zgs (N - 122) used1 c=0:=(by rw[zlL c1 m3];exact c2);rcases zxF C1 (by omega) hv (by rw[hcur];exact c3) with ⟨a1,a2⟩ | ⟨a1,a2⟩
        · exact .inl ⟨a1,m1,m2,r1,d1++ [c],a2,by rw[if_pos a1,zgp,hcur],by rw[if_pos a1]⟩
        · refine .inr (⟨a1,fun keep=>?_⟩);obtain ⟨h',r',d',u',i',p',e',f',s'⟩:=a2 keep;rw[hcur] at p';exact ⟨h',r',d',u',i',p',by omega,by omega,s'⟩
    · rcases hrest with ⟨_,rfl,rfl,rfl,rfl,rfl⟩ | ⟨hx,_⟩
      · refine .inr (⟨h9,fun keep=>?_⟩);obtain ⟨h',r',d',u',i',p',e',f'⟩:=F keep;exact ⟨h',r',d',u',i', .inl p',e',f'⟩
      · rw[h9] at hx;cases hx
structure Rep (t:Nat) (D:DiskM) (z:RpM):Prop where
  ok:okW 200 1000 D
  s80:S80 D
  cal:∃r0 ds,Cal 200 D z.h r0 ds z.used∧cur r0 ds=z.rows
  ep:z.h.ep≤1+2*t
  first:z.h.first≤1+400*t
  rows:z.rows=qY z.S z.L z.n
  rok:Rok z
theorem zjm {N i:Nat}{D:DiskM}(h:okW N i D)(c:calm D):okW N 1000 D:=⟨h.1,h.2.1,h.2.2.1,h.2.2.2.1,by rw[c.2.1];simp⟩
theorem Rep.dk {t:Nat}{D:DiskM}{z:RpM}(R:Rep t D z)(ht:t≤100000):Dk 1000 D z:=by
  obtain ⟨r0,ds,C,hc⟩:=R.cal;have:=R.ep;have:=R.first;exact ⟨R.ok,R.s80,⟨by omega,C.2.1.good.side,C.2.1.good.first.1,by omega⟩,by rw[←hc];exact C.2.1.good.lenC,by rw[←hc];exact C.2.1.good.okC,C.2.1.used_le,by rw[←hc];exact C.2.1.good.srtC⟩
def Fallen (t:Nat)(D:DiskM)(φ:List ChangeM→Prop):Prop:=okW 200 2000 D∧S80 D∧Fell 200 D (1+2*t) (1+400*t) φ
theorem ze9 {t:Nat}{D D2:DiskM}{z z2:RpM}{S':SI}{L' P:List Pt}{n' e:Int}{G':Gh}(R:Rep t D z)(ht:t≤100000)(hC':Con S' L' n' G')(hP:P.length≤7)(h1:∀p∈z.L,p∈P)(h2:∀p∈L',p∈P)(k:zoc D z S' L' n' e D2 z2):
    (e=0∧Rep (t+1) D2 z2∧(upW D→upW D2)∧z2.S=S'∧z2.L=L'∧z2.n=n'∧z2.ses=z.ses∧z2.mou=z.mou∧z2.next=z.next)∨(e=9∧¬upW D∧Fallen (t+1) D2 fun x=>x=qY z.S z.L z.n∨x=qY S' L' n'):=by
  obtain ⟨h2',used2,rows2,hc,rfl⟩:=k;obtain ⟨r0,ds,C,hcur⟩:=R.cal;obtain ⟨G,hC⟩:=R.rok.con;obtain ⟨hcm,hap⟩:=zuP hC hC' hP h1 h2;have hep:=R.ep;have hfi:=R.first;unfold chgR at hc;rw[←hcur] at hc;have hcr:cur r0 ds=qY z.S z.L z.n:=hcur.trans R.rows;have hok2:=zuw R.ok R.s80 C.2.1 hc;have hs2:=zwl R.ok R.s80 C.2.1 hc;have hup:upW D→e=0∧upW D2:=fun hu=>by
    obtain ⟨c1,c2,_⟩:=zuh hu R.s80 C.2.1 (by omega) (by omega) hc;rw[hcr,hcm] at c1;exact ⟨c1,c2⟩
  rcases zqO C (by omega) (by omega) (by rw[hcr];exact hcm) hc with ⟨rfl,b1,b2,r2,d2,C2,e2,e3⟩ | ⟨h9,hF⟩
  · refine .inl ⟨rfl,?_,fun hu=>(hup hu).2,?_⟩
    · have hkz:z.kept 0 h2' used2 rows2 S' L' n'=⟨h2',used2,rows2,S',L',n',z.ses,z.mou,z.next⟩:=(by unfold RpM.kept;rw[if_pos rfl]);rw[hkz];exact ⟨zjm hok2 C2.1,hs2,⟨r2,d2,C2,e2⟩,by show h2'.ep≤_;omega,by show h2'.first≤_;omega,by show rows2=_;rw[e3,hcr,hap],⟨⟨G',hC'⟩,R.rok.next,R.rok.keyS,R.rok.keyM,R.rok.sesS⟩⟩
    · unfold RpM.kept;rw[if_pos rfl];exact ⟨rfl,rfl,rfl,rfl,rfl,rfl⟩
  · subst h9;refine .inr ⟨rfl,fun hu=>by have:=(hup hu).1;omega,zaW hok2 (by omega),hs2,?_⟩;rw[hcr,hap] at hF;exact hF.mono (by omega) (by omega) fun x hx=>hx
def zbR:List Int→DiskM→RpM→List Int→Int→DiskM→RpM→Prop
  | [],D,z,gone,e,D2,z2=>gone=[]∧e=0∧D2=D∧z2=z
  | id::l,D,z,gone,e,D2,z2=>if zbk z id=true then zbR l D z gone e D2 z2 else ∃e1 D1 z1,zfg D z id e1 D1 z1∧((e1≠0∧gone=[]∧e=e1∧D2=D1∧z2=z1)∨(e1=0∧∃g',zbR l D1 z1 g' e D2 z2∧gone=if e=0 then id::g' else []))
theorem zbN {ee:Bool}(b bd i:Nat)(z:RpM)(id:Int)(hR:Rok z)(D:DiskM)(hD:Dk i D z)(hib:i≤100000)(F:List HProp):Ct Tryz.prog 17 [ptr b 0,I id] ([qG ee,rpl b bd z,dsk 140 142 bd (D)]++F) (fun v L'=>∃n f D2 z2,zod D z id n f D2 z2∧v= .tuple #[I n,yK f]∧L'=rpl b bd z2::dsk 140 142 bd (D2)::qG ee::F):=by
  show Ct Tryz.prog 17 [ptr b 0,I id] (qG ee::rpl b bd z::dsk 140 142 bd (D)::F) _;obtain ⟨G0,hC⟩:=hR.con;have hlen:=hC.v.len;have hnx:=hR.next;refine Ct.of func17 rR 59 ntmps17 (by simp) fun w0=>?_;refine zan b bd z ?_;intro bs bl so co bv rs rm;refine gS (gA rfl (gA rfl (qb (gS (gM rfl (g_v (qc rfl) rfl (g_v (qa 2 underlying89 rfl rfl sizeOf86 (by decide) rfl) rfl (g_v (qe (v:= .map (some rs)) isAgg86 rfl rfl) rfl (gM rfl (g_v (yF (v:= .pointer ((fSe z.ses id).map fun e=>⟨e.a,0,none⟩)) underlying86 underlying3 zeroValue110 rfl rfl (by rw[znI];cases fSe z.ses id <;> rfl)) rfl (gA rfl (qb (qf (gS (gM rfl (g_v (zgT underlying110 rfl) rfl (qb ?_)))))))))))))))));refine qg rR (fun h17=>?_) (fun h17=>?_)
  · have hno:fSe z.ses id=none:=(by simpa using h17);refine gS (g_v (qB underlying108 rR rR) rR (gA rR (gA rR (qb ?_))));refine yj b bd (z) bs bl so co bv rs rm ?_;exact ql (rpl b bd z::dsk 140 142 bd (D)::qG ee::F) rfl ⟨0,5,D,z,by unfold zod;rw[hno];exact ⟨rfl,rfl,rfl,rfl⟩,rfl,rfl⟩
  · obtain ⟨e,hfe⟩:∃e,fSe z.ses id=some e:=Option.isSome_iff_exists.1 (by cases hq:fSe z.ses id with
      | none=>rw[hq] at h17;cases h17
      | some _=>rfl)
    obtain ⟨he,hek,hi⟩:=zkK hfe;rw[hfe];refine qh (qf ?_);have hps:=hR.putS e (List.mem_of_getElem? he);refine qo (gM rR (g_v (qc rR) rR (g_v (qa 1 underlying89 rR rR sizeOf29 (by decide) rR) rR (g_v (qe (v:=ptr bv 0) isAgg29 rR rR) rR ?_))));refine g_l (qi (Pre:=[vlt bv z.S z.L z.n]) call38 rR (wJ bv z.S z.L z.n (by omega))) rR ?_;rintro _ _ ⟨q,rfl,rfl⟩;refine gA rR (qb (qf ?_));refine zv6 z.ses _ he ?_;refine yw (Lf:=[pt e.a (.cells #[I e.base,I e.disk,I e.size,sl e.so e.puts.length e.co] 112 (0,0))]) [(0,false),(1,false),(2,false),(3,false),(4,false),(5,false),(6,false),(7,false),(8,false),(9,false),(10,false),(11,false),(12,false),(13,false),(14,false),(15,false),(16,false),(17,true),(18,false),(19,false),(20,false),(21,false),(22,false)] (by kernel_rfl) (by kernel_rfl) rR (by kernel_rfl) ?_;refine dM rR rR rR (dM rR rR rR (d_v rR (qc rR) rR (d_v rR (qa 0 underlying112 rR rR sizeOf3 (by decide) rR) rR (d_v rR (qe (v:=I e.base) isAgg3 rR rR) rR (dM rR rR rR (d_v rR (qc rR) rR (d_v rR (qa 1 underlying112 rR rR sizeOf3 (by decide) rR) rR (d_v rR (qe (v:=I e.disk) isAgg3 rR rR) rR (dM rR rR rR (d_v rR (qc rR) rR (d_v rR (qa 2 underlying112 rR rR sizeOf3 (by decide) rR) rR (d_v rR (qe (v:=I e.size) isAgg3 rR rR) rR (dM rR rR rR (d_v rR (qc rR) rR (d_v rR (qa 3 underlying112 rR rR sizeOf23 (by decide) rR) rR (d_v rR (qe (v:=sl e.so e.puts.length e.co) isAgg23 rR rR) rR ?_))))))))))))))));refine d_l rR (qi (Pre:=[vlt q z.S z.L z.n,owL 44 2 e.so e.co (zbx (e.puts))]) call46 rR (zc1 q z.S z.L z.n e.base e.disk e.size e.puts e.so e.co G0 hC.v (by omega) (fun p hp=>by have:=hps.2 p hp;omega))) rR ?_;rintro v L' hv;unfold vR at hv;rcases hr:zgn z.S z.L z.n e.base e.disk e.size e.puts with e0 | ⟨S1,L1,n1,r1⟩ <;> rw[hr] at hv <;> obtain ⟨rfl,rfl⟩:=hv
    · have he0:=zmF hr;refine dM rR rR rR (d_v rR (qd (v:=I 0) rR rR) rR (d_v rR (qd (v:=yK e0) rR rR) rR (d_v rR (qx rR) rR (d_v rR (qx rR) rR ?_))));refine yc ?_;refine qf (gS (gM rR (g_v (zab (T:=108) (f:=e0) underlying37 rR) rR (qb ?_))));refine qg rR (fun h46=>?_) (fun h46=>?_)
      · simp at h46;omega
      · refine qh (qf (gS (gM rR (g_v (yf underlying37 rR) rR (qb ?_)))));refine qg rR (fun h51=>?_) (fun h51=>?_)
        · refine gS (gM rR (gA rR (gA rR (qb ?_))));refine zac (f:=seA) z.ses (sIx z.ses id) e [pt e.a (.cells #[I e.base,I e.disk,I e.size,sl e.so e.puts.length e.co] 112 (0,0)),owL 44 2 e.so e.co (zbx e.puts)] rfl hi ?_;rw[zbz he];refine yj b bd (z) bs bl so co bv rs rm ?_;exact ql (rpl b bd z::dsk 140 142 bd (D)::qG ee::F) rfl ⟨0,e0,D,z,by unfold zod;rw[hfe];simp only;rw[hr];simp,rfl,rfl⟩
        · simp at h51;omega
    · obtain ⟨G1,hC1⟩:=ze1 hC hr;refine dM rR rR rR (d_v rR (qd (v:=I r1) rR rR) rR (d_v rR (qd (v:=yK 0) rR rR) rR (d_v rR (qx rR) rR (d_v rR (qx rR) rR ?_))));refine yc ?_;refine qf (gS (gM rR (g_v (zab (T:=108) (f:=0) underlying37 rR) rR (qb ?_))));refine qg rR (fun h46=>?_) (fun h46=>?_)
      · refine zac (f:=seA) z.ses (sIx z.ses id) e [pt e.a (.cells #[I e.base,I e.disk,I e.size,sl e.so e.puts.length e.co] 112 (0,0)),owL 44 2 e.so e.co (zbx e.puts)] rfl hi ?_;rw[zbz he];refine yj b bd (z) bs bl so co bv rs rm ?_;refine qo (gM rR (gM rR ?_));refine g_l (qi (Pre:=[qG ee,rpl b bd z,dsk 140 142 bd (D),vlt q S1 L1 n1]) call47 rR (za2 b bd q i D z S1 L1 n1 G0 G1 hC hC1 hD hib)) rR ?_;rintro _ _ ⟨f,D2,h2,used2,rows2,hcom,rfl,rfl⟩;refine gA rR (qb (qf (gS (gM rR (g_v (yf underlying37 rR) rR (qb ?_))))));refine qg rR (fun h51=>?_) (fun h51=>?_)
        · have he:¬f=0:=(by simpa using h51);refine gS (gM rR (gA rR (gA rR (qb ?_))));exact ql (rpl b bd (z.kept f h2 used2 rows2 S1 L1 n1)::dsk 140 142 bd (D2)::qG ee::F) rfl ⟨0,f,D2,_,by unfold zod;rw[hfe];simp only;rw[hr];exact ⟨_,⟨h2,used2,rows2,hcom,rfl⟩,by rw[if_neg he],by rw[if_neg he]⟩,rfl,rfl⟩
        · have he:f=0:=(by simpa using h51);rw[show z.kept f h2 used2 rows2 S1 L1 n1=⟨h2,used2,rows2,S1,L1,n1,z.ses,z.mou,z.next⟩ by unfold RpM.kept;rw[if_pos he]];refine qh (qf ?_);refine zan b bd ⟨h2,used2,rows2,S1,L1,n1,z.ses,z.mou,z.next⟩ ?_;intro bs bl so co bv rs rm;dsimp only;refine qo (gM rR (g_v (qc rR) rR (g_v (qa 2 underlying89 rR rR sizeOf86 (by decide) rR) rR (g_v (qe (v:= .map (some rs)) isAgg86 rR rR) rR (gM rR ?_)))));refine yp (zb0 underlying86 underlying3 rR rR) ?_;rintro _ _ ⟨rfl,rfl⟩;rw[znb];refine zje (f:=seA) z.ses (dSe z.ses id) List.filter_sublist ?_;refine qb (gS (gM rR (gA rR (gA rR (qb ?_)))));refine yj b bd (⟨h2,used2,rows2,S1,L1,n1,dSe z.ses id,z.mou,z.next⟩) bs bl so co bv rs rm ?_;exact ql (rpl b bd ⟨h2,used2,rows2,S1,L1,n1,dSe z.ses id,z.mou,z.next⟩::dsk 140 142 bd (D2)::qG ee::F) rfl ⟨r1,f,D2,_,by unfold zod;rw[hfe];simp only;rw[hr];exact ⟨_,⟨h2,used2,rows2,hcom,rfl⟩,by rw[if_pos he],by rw[if_pos he];unfold RpM.kept RpM.sess;rw[if_pos he]⟩,by rw[he];rfl,rfl⟩
      · simp at h46
theorem zfq (b bd i:Nat)(z:RpM)(D:DiskM)(hD:Dk i D z)(hib:i≤100000)(F:List HProp):Ct Tryz.prog 101 [ptr b 0] ([rpl b bd z,dsk 140 142 bd (D)]++F) (fun v L'=>∃e D1,wg D (ckL (nxH z.h z.rows (200 - 122)) (yv z.rows))=(e,D1)∧v=yK e∧((e≠0∧L'=rpl b bd z::dsk 140 142 bd (D1)::F)∨(e=0∧∃ds used',used'≤200 - 122∧wd (z.h.first+(200 - 122)) (zjz D1 122) (200 - 122) 0 [] [] 0=(ds,used')∧L'=rpl b bd ⟨nxH z.h z.rows (200 - 122),used',z.rows,z.S,z.L,z.n,z.ses,z.mou,z.next⟩::dsk 140 142 bd (D1)::F))):=by
  show Ct Tryz.prog 101 [ptr b 0] (rpl b bd z::dsk 140 142 bd (D)::F) _;refine Ct.of func101 rR 8 ntmps101 (by simp) fun w0=>?_;refine zan b bd z ?_;intro bs bl so co bv rs rm;refine gS (gA rR (qb (gS (gM rR (g_v (qc rR) rR (g_v (qa 0 underlying89 rR rR sizeOf85 (by decide) rR) rR (g_v (qe (v:=ptr bs 0) isAgg85 rR rR) rR ?_)))))));refine g_l (qi (Pre:=[pt bs (.cells (stC bd (z.h) bl so (z.rows.length) co) 180 (0,0)),pt bl (.cells (lgC bd 122 (200 - 122) (z.h.first) (z.used)) 222 (0,0)),dsk 140 142 bd (D),roL 3 so (chR z.rows)]) call129 rfl (zbL bs bd z.h bl so co z.rows 200 i z.used D hD.ok hib hD.s80 (by decide) hD.hd hD.len hD.okr)) rfl ?_;rintro _ _ ⟨e,D1,hrun,hcase⟩;rcases hcase with ⟨hne,rfl,rfl⟩ | ⟨he0,bl2,ds,used2,hu2,hsc,rfl,rfl⟩
  · refine gA rR (qb ?_);refine yj b bd (z) bs bl so co bv rs rm ?_;exact ql (rpl b bd z::dsk 140 142 bd (D1)::F) rfl ⟨e,D1,hrun,rfl, .inl ⟨hne,rfl⟩⟩
  · rw[show z.h.first+(200 - 122)=(nxH z.h z.rows (200 - 122)).first from rfl];refine gA rR (qb ?_);refine yj b bd (⟨nxH z.h z.rows (200 - 122),used2,z.rows,z.S,z.L,z.n,z.ses,z.mou,z.next⟩) bs bl2 so co bv rs rm ?_;exact ql (rpl b bd ⟨nxH z.h z.rows (200 - 122),used2,z.rows,z.S,z.L,z.n,z.ses,z.mou,z.next⟩::dsk 140 142 bd (D1)::F) rfl ⟨e,D1,hrun,by rw[he0];rfl, .inr ⟨he0,ds,used2,hu2,hsc,rfl⟩⟩
theorem zcr {t:Nat}{D D2:DiskM}{z z2:RpM}{id e:Int}(R:Rep t D z)(ht:t≤100000)(k:zfg D z id e D2 z2):
    (e=0∧Rep (t+1) D2 z2∧(upW D→upW D2)∧zcf z id=0∧zh0 z.S z.L z.n id= .ok (z2.S,z2.L,z2.n,0)∧z2.ses=z.ses∧z2.mou=z.mou∧z2.next=z.next)∨(e≠0∧e≠9∧e=zcf z id∧D2=D∧z2=z)∨
    (e=9∧¬upW D∧zcf z id=0∧∃S' L',zh0 z.S z.L z.n id= .ok (S',L',z.n,0)∧Fallen (t+1) D2 fun x=>x=qY z.S z.L z.n∨x=qY S' L' z.n):=by
  unfold zfg at k;by_cases hd:zcf z id=0
  · rw[if_neg (by omega)] at k;obtain ⟨S',L',hdr,k⟩:=k;obtain ⟨G,hC⟩:=R.rok.con;obtain ⟨G',hC'⟩:=zjM hC hdr;have hsub:∀p∈L',p∈z.L:=by
      unfold zh0 at hdr;cases hf:yh z.L id with
      | none=>rw[hf] at hdr;cases hdr
      | some p=>
        rw[hf] at hdr;simp only at hdr;injection hdr with hdr;injection hdr with e1 hdr;injection hdr with e2 hdr;subst e2;exact fun q hq=>(List.mem_filter.1 hq).1
    rcases ze9 R ht hC' (P:=z.L) (by have:=hC.v.len;omega) (fun p hp=>hp) hsub k with ⟨a1,a2,a3,a4,a5,a6,a7,a8,a9⟩ | ⟨a1,a2,a3⟩
    · exact .inl ⟨a1,a2,a3,hd,by rw[a4,a5,a6];exact hdr,a7,a8,a9⟩
    · exact .inr (.inr ⟨a1,a2,hd,S',L',hdr,a3⟩)
  · rw[if_pos hd] at k;obtain ⟨rfl,rfl,rfl⟩:=k;refine .inr (.inl ⟨hd,?_,rfl,rfl,rfl⟩);unfold zcf;split
    · decide
    · split <;> decide
theorem zfn {α:Type}{l:List α}{k:Nat}{x:α}(h:l[k]? =some x):l.drop k=x::l.drop (k+1):=by
  obtain ⟨hk,e⟩:=List.getElem?_eq_some_iff.1 h;rw[←e];exact List.drop_eq_getElem_cons hk
theorem znw:∀{l:List Int} {D D2:DiskM} {z z2:RpM} {gone:List Int} {e:Int},zbR l D z gone e D2 z2→e≠0→gone=[]
  | [],_,_,_,_,_,_,h,he=>h.1
  | id::l,D,D2,z,z2,gone,e,h,he=>by
    unfold zbR at h;split at h
    · exact znw h he
    · obtain ⟨e1,D1,z1,_,h⟩:=h;rcases h with ⟨_,hg,_⟩ | ⟨_,g',_,hg⟩
      · exact hg
      · simpa [he] using hg
def KInv (l:List Int)(D0:DiskM)(z0:RpM)(k:Nat)(D:DiskM)(z:RpM)(gone:List Int):Prop:=∀g' e D2 z2,zbR (l.drop k) D z g' e D2 z2→zbR l D0 z0 (if e=0 then gone++g' else []) e D2 z2
theorem KInv.start {l:List Int}{D0:DiskM}{z0:RpM}:KInv l D0 z0 0 D0 z0 []:=fun g' e D2 z2 h=>by
  by_cases he:e=0
  · rw[if_pos he];exact h
  · rw[if_neg he,←znw h he];exact h
theorem KInv.skip {l:List Int}{D0 D:DiskM}{z0 z:RpM}{k:Nat}{gone:List Int}{id:Int}(h:KInv l D0 z0 k D z gone)(hk:l[k]? =some id)(hu:zbk z id=true):KInv l D0 z0 (k+1) D z gone:=fun g' e D2 z2 hr=>h g' e D2 z2 (by rw[zfn hk];unfold zbR;rw[if_pos hu];exact hr)
theorem KInv.went {l:List Int}{D0 D D1:DiskM}{z0 z z1:RpM}{k:Nat}{gone:List Int}{id:Int}(h:KInv l D0 z0 k D z gone)(hk:l[k]? =some id)(hu:zbk z id=false)(hd:zfg D z id 0 D1 z1):KInv l D0 z0 (k+1) D1 z1 (gone++ [id]):=fun g' e D2 z2 hr=>by
  have:=h (if e=0 then id::g' else []) e D2 z2 (by rw[zfn hk];unfold zbR;rw[if_neg (by rw[hu];simp)];exact ⟨0,D1,z1,hd, .inr ⟨rfl,g',hr,rfl⟩⟩);by_cases he:e=0
  · rw[if_pos he,if_pos he] at this;rw[if_pos he];simpa using this
  · rw[if_neg he] at this ⊢;exact this
theorem KInv.err {l:List Int}{D0 D D1:DiskM}{z0 z z1:RpM}{k:Nat}{gone:List Int}{id e:Int}(h:KInv l D0 z0 k D z gone)(hk:l[k]? =some id)(hu:zbk z id=false)(hd:zfg D z id e D1 z1)(he:e≠0):zbR l D0 z0 [] e D1 z1:=by
  have:=h [] e D1 z1 (by rw[zfn hk];unfold zbR;rw[if_neg (by rw[hu];simp)];exact ⟨e,D1,z1,hd, .inl ⟨he,rfl,rfl,rfl,rfl⟩⟩);rw[if_neg he] at this;exact this
theorem KInv.done {l:List Int}{D0 D:DiskM}{z0 z:RpM}{gone:List Int}(h:KInv l D0 z0 l.length D z gone):zbR l D0 z0 gone 0 D z:=by
  have:=h [] 0 D z (by rw[List.drop_length];exact ⟨rfl,rfl,rfl,rfl⟩);simpa using this
theorem zgX (L:List Pt)(disk keep:Int)(h:L.length≤6):(zeH L disk keep).length≤6:=by
  unfold zeH;have:=List.length_filter_le (fun p:Pt=>decide (p.disk=disk)) L;simp only[List.length_take,List.length_map];omega
theorem zfp {ee:Bool}(b bd t:Nat)(z0:RpM)(D0:DiskM)(disk many:Int)(R0:Rep t D0 z0)(ht:t≤90000)(hm:many≤9223372036854775807)(F:List HProp):Ct Tryz.prog 26 [ptr b 0,I disk,I many] ([qG ee,rpl b bd z0,dsk 140 142 bd (D0)]++F) (fun v L'=>(many<0∧v= .tuple #[sl none 0 0,yK 1]∧L'=rpl b bd z0::dsk 140 142 bd (D0)::qG ee::F)∨(0≤many∧∃gone e D2 z2 s c,zbR (zeH z0.L disk many) D0 z0 gone e D2 z2∧v= .tuple #[sl s gone.length c,yK e]∧L'=owL 3 1 s c (yY gone)::rpl b bd z2::dsk 140 142 bd (D2)::qG ee::F)):=by
  show Ct Tryz.prog 26 [ptr b 0,I disk,I many] (qG ee::rpl b bd z0::dsk 140 142 bd (D0)::F) _;obtain ⟨G0,hC⟩:=R0.rok.con;have hlen:=hC.v.len;have hel:=zgX z0.L disk many hlen;refine Ct.of func26 rR 42 ntmps26 (by simp) fun w0=>?_;refine gS (gA rR (gA rR (qb (qf (gS (gM rR (g_v (qJ rR rR) rR (qb ?_))))))));refine qg rR (fun h13=>?_) (fun h13=>?_)
  · have hmn:many<0:=(by simpa using h13);refine gS (g_v (qB underlying108 rR rR) rR (gA rR (gA rR (qb ?_))));exact ql (rpl b bd z0::dsk 140 142 bd (D0)::qG ee::F) rfl (.inl ⟨hmn,rfl,rfl⟩)
  · have hmn:¬many<0:=(by simpa using h13);refine qh (gS (gA rR (qb (qf (qf ?_)))));refine zan b bd z0 ?_;intro bs bl so co bv rs rm;refine qo (gM rR (g_v (qc rR) rR (g_v (qa 1 underlying89 rR rR sizeOf29 (by decide) rR) rR (g_v (qe (v:=ptr bv 0) isAgg29 rR rR) rR (gM rR (gM rR ?_))))));refine g_l (qi (Pre:=[vlt bv z0.S z0.L z0.n]) call56 rR (zdw bv z0.S z0.L z0.n disk many (by omega) hm)) rR ?_;rintro _ _ ⟨s21,c21,rfl,rfl⟩;refine yB s21 ?_;refine g_v (yo underlying61 rR) rR (gM rR (qb ?_));refine yj b bd z0 bs bl so co bv rs rm ?_;refine yG 3 1 (yY []) rR ?_;refine qj ?_;refine qE (α:=Nat×DiskM×RpM×List Int×Option Addr×Nat) (fun y=>y.1≤(zeH z0.L disk many).length∧y.2.2.2.1.length≤y.1∧Rep (t+y.1) y.2.1 y.2.2.1∧KInv (zeH z0.L disk many) D0 z0 y.1 y.2.1 y.2.2.1 y.2.2.2.1) (fun y=>U [(0,ptr b 0),(8,sl y.2.2.2.2.1 y.2.2.2.1.length y.2.2.2.2.2),(21,sl s21 (zeH z0.L disk many).length c21),(22,I (zeH z0.L disk many).length),(23,I y.1)]) (fun y=>owL 3 1 y.2.2.2.2.1 y.2.2.2.2.2 (yY y.2.2.2.1)::rpl b bd y.2.2.1::dsk 140 142 bd y.2.1::qG ee::roL 1 s21 (yY (zeH z0.L disk many))::F) (fun y=>(zeH z0.L disk many).length - y.1) (0,D0,z0,[],none,0) ⟨by simp,by simp,by simpa using R0,KInv.start⟩ [0,8,21,22,23] rfl rR ?_;rintro ⟨k,D,z,gone,s8,c8⟩ ⟨hk,hgl,R,hI⟩;simp only[] at hk hgl R hI ⊢;refine gS (g_v (qJ rR rR) rR (qb (qf ?_)));refine qg rR (fun h24=>?_) (fun h24=>?_)
    · simp at h24;have hkn:k<(zeH z0.L disk many).length:=(by omega);obtain ⟨id,hid⟩:∃id,(zeH z0.L disk many)[k]? =some id:=⟨_,List.getElem?_eq_getElem hkn⟩;refine qh (qf (qj (gS (g_v (qA k underlying61 sizeOf3 rR rR rR hkn (by rw[wu];exact hkn)) rR (g_v (yd (v:=I id) isAgg3 rR (zcK hid) rR) rR (gA rR (qb (qf (gS (gM rR (gM rR ?_)))))))))));refine g_l (qi (Pre:=[rpl b bd z]) call54 rR (zcl b bd z id)) rR ?_;rintro _ _ ⟨rfl,rfl⟩;refine qb ?_;refine qg rR (fun h29=>?_) (fun h29=>?_)
      · have hus:zbk z id=true:=h29;refine qz rR ?_;refine qo (g_v (qu rR rR (w64 (by omega))) rR (gM rR (qb ?_)));exact qm (k+1,D,z,gone,s8,c8) ⟨by simp only[];omega,by simp only[];omega,⟨R.ok,R.s80,R.cal,by have:=R.ep;simp only[];omega,by have:=R.first;simp only[];omega,R.rows,R.rok⟩,hI.skip hid hus⟩ (by simp only[];omega) [0,8,21,22,23] rfl rfl
      · have hus:zbk z id=false:=(by simpa using h29);refine qh (gS (gM rR (gM rR ?_)));refine g_l (qi (Pre:=[qG ee,rpl b bd z,dsk 140 142 bd (D)]) call25 rR (zcn b bd 1000 z id R.rok D (R.dk (by omega)) (by omega))) rR ?_;rintro _ _ ⟨e,D2,z2,hdr,rfl,rfl⟩;refine gA rR (qb (qf (gS (gM rR (g_v (yf underlying37 rR) rR (qb ?_))))));refine qg rR (fun h34=>?_) (fun h34=>?_)
        · have he:¬e=0:=(by simpa using h34);refine gS (gM rR (gA rR (gA rR (qb ?_))));refine yG 3 1 (yY []) rR ?_;exact ql (owL 3 1 none 0 (yY [])::rpl b bd z2::dsk 140 142 bd (D2)::qG ee::F) rfl (.inr ⟨by omega,[],e,D2,z2,none,0,hI.err hid hus hdr he,rfl,rfl⟩)
        · have he:e=0:=(by simpa using h34);subst he;have R2:Rep (t+k+1) D2 z2:=by
            rcases zcr R (by omega) hdr with ⟨_,h,_⟩ | ⟨h,_⟩ | ⟨h,_⟩
            · exact h
            · exact absurd rfl h
            · cases h
          refine qh (qo (gM rR (gM rR ?_)));refine g_l (qs [[I id]] underlying61 sizeOf3 zeroValue3 rR rR rR (by simp) (by decide) (by decide)) rR ?_;rintro _ _ ⟨b38,rfl,rfl⟩;refine g_l (yC underlying61 sizeOf3 zeroValue3 rfl Tryz.typeInfo3 (by decide) rfl rfl (wu _) rfl (by simp) (by intro r hr;simp at hr;subst hr;rfl) ⟨by omega,by decide,by decide⟩) rfl ?_;rintro _ _ ⟨s39,c39,rfl,rfl⟩;rw[show yY gone++ [[I id]]=yY (gone++ [id]) by simp[yY],show gone.length+1=(gone++ [id]).length by simp];refine gA rR (qb (qF (qo (g_v (qu rR rR (w64 (by omega))) rR (gM rR (qb ?_))))));exact qm (k+1,D2,z2,gone++ [id],s39,c39) ⟨by simp only[];omega,by simp only[List.length_append,List.length_cons,List.length_nil];omega,by rw[←Nat.add_assoc];exact R2,hI.went hid hus hdr⟩ (by simp only[];omega) [0,8,21,22,23] rfl rfl
    · simp at h24;obtain rfl:k=(zeH z0.L disk many).length:=(by omega);refine qz rR ?_;refine gS (gM rR (gA rR (gA rR (qb ?_))));exact ql (owL 3 1 s8 c8 (yY gone)::rpl b bd z::dsk 140 142 bd (D)::qG ee::F) rfl (.inr ⟨by omega,gone,0,D,z,s8,c8,hI.done,rfl,rfl⟩)
open Go Go.Sl Go.Proofs
def fD (N:Nat):DiskM:=(wg (zfP N) (fmL N)).2
theorem zgJ (N:Nat):(zfP N).now.length=N:=by simp[zfP]
theorem zuN (N:Nat):S80 (zfP N):=⟨fun x hx=>by simp[zfP] at hx;rw[hx.2];simp[zbK],fun x hx=>by simp[zfP] at hx;rw[hx.2];simp[zbK],fun t ht=>by simp[zfP] at ht⟩
theorem zqG (N:Nat):upW (zfP N):=⟨rfl,rfl⟩
theorem ztZ {N:Nat}(hN:196≤N):wg (zfP N) (fmL N)=(0,fD N):=Prod.ext (zeC _ _ (zqG N) (by rw[zgJ];exact zkt hN)).1 rfl
theorem zx7 {N:Nat}(hN:196≤N):upW (fD N):=(zeC _ _ (zqG N) (by rw[zgJ];exact zkt hN)).2.1
theorem zxJ {N:Nat}(hN:196≤N∧N≤260):Inv N (fD N) hd1 [] [] 0:=zqW hN (zgJ N) (zeC _ _ (zqG N) (by rw[zgJ];exact zkt hN.1)).2.2
theorem zmU {N:Nat}(hN:196≤N):S80 (fD N):=zen _ _ (zuN N) (zkt hN)
theorem zxW {N:Nat}(hN:196≤N∧N≤260):okW N 300 (fD N):=zaW (za4 (fmL N) 0 (zfP N) (zrg N)) (by unfold fmL fmT;rw[List.length_append,zgB];simp only[List.length_cons,List.length_nil];omega)
theorem zup {N:Nat}{D:DiskM}{h:HdM}{r0:List ChangeM}{ds:Deeds}{used:Nat}(I:Inv N D h r0 ds used):(zfH D.now).ep≠0:=by
  rw[I.good.best];have:=I.good.ep;omega
end Go.Proofs.YthdjckbjjfiopadGreatDoor
namespace Go.Proofs.YthdjckbjjfiopadGreatDoor
open _root_.Go.Proofs.Tryz
open Go.Sl Go.Proofs
def zxp (D:DiskM)(h:HdM)(used:Nat):Prop:=okW 200 1000 D∧S80 D∧upW D∧(∃r0 ds,Cal 200 D h r0 ds used∧cur r0 ds=qY (mkG gZ) [] 1)∧h.ep≤3∧h.first≤401
theorem zuJ:qY (mkG gZ) [] 1=[⟨[120],[48,48,49],false⟩]:=by
  have h1:ids 40 (mkG gZ).B=[]:=zyx fun q hq=>(by have:=(mem_ids.1 hq).2;cases this);have h2:ids 24 (mkG gZ).N=[]:=zyx fun q hq=>(by have:=(mem_ids.1 hq).2;cases this);have h3:thr 1=[48,48,49]:=zlm (u:=1) (by decide);unfold qY zaL zaS zoR;rw[h1,h2,h3]
  rfl
theorem zsz {e:Int}{D2:DiskM}{h2:HdM}{used2:Nat}{rows2:List ChangeM}(hc:ztv (fD 200) hd1 (cur [] []) (200 - 122) 0 (qY (mkG gZ) [] 1) e D2 h2 used2 rows2):e=0∧zxp D2 h2 used2:=by
  have C:Cal 200 (fD 200) hd1 [] [] 0:=zu8 (by decide) (zgJ 200) (ztZ (by decide));have hcm:cmV (200 - 122) (cur [] []) (qY (mkG gZ) [] 1)=0:=(by rw[zuJ];decide);have hu:=zuh (zx7 (by decide)) (zmU (by decide)) C.2.1 (by decide) (by decide) hc;have hk:=zuw (zxW (by decide)) (zmU (by decide)) C.2.1 hc;rcases zqO C (by decide) (by decide) hcm hc with ⟨rfl,b1,b2,r2,d2,C2,e2,e3⟩ | ⟨h9,_⟩
  · refine ⟨rfl,zaW hk (by omega),hu.2.2.1,hu.2.1,⟨r2,d2,C2,?_⟩,?_,?_⟩
    · rw[e2,e3,zuJ];decide
    · have:hd1.ep≤2:=(by decide);omega
    · have:hd1.first≤201:=(by decide);omega
  · rw[hu.1,hcm] at h9;cases h9
theorem bldRp (bs bv rs rm:Nat)(w:World):(Instr.build 89 #[(0,ptr bs 0),(1,ptr bv 0),(2, .map (some rs)),(3, .map (some rm)),(4,I 1)]).run Tryz.prog w= .ok (.agg #[ptr bs 0,ptr bv 0, .map (some rs), .map (some rm),I 1]) w:=by
  simp[Instr.build,zeroValue89,runUnderlying89,sizeOf3,sizeOf85,sizeOf29,sizeOf86,sizeOf87,Instr.fill,qV,show ∀k:Int,(I k).cells=#[I k] from fun _=>rfl,show ∀k:Nat,(ptr k 0).cells=#[ptr k 0] from fun _=>rfl,show ∀r:Nat,(Value.map (some r)).cells=#[.map (some r)] from fun _=>rfl]
theorem zik {ee:Bool}(bd:Nat)(F:List HProp):Ct Tryz.prog 50 [ptr bd 0] ([qG ee,dsk 140 142 bd (zfP 200)]++F) (fun v L'=>∃D2 h2 used2,zxp D2 h2 used2∧v=yK 0∧L'=dsk 140 142 bd (D2)::qG ee::F):=by
  show Ct Tryz.prog 50 [ptr bd 0] (qG ee::dsk 140 142 bd (zfP 200)::F) _;have fd_inv:=zxJ (N:=200) (by decide);refine Ct.of func50 rR 22 ntmps50 (by simp) fun w0=>?_;refine gS (gA rR (qb (gS (gM rR ?_))));refine g_l (qi (Pre:=[dsk 140 142 bd (zfP 200)]) call86 rR (zhH bd 200 0 (zfP 200) (zrg 200) (by decide) (by decide))) rR ?_;rintro _ _ (⟨h1,_,_⟩ | ⟨_,e,D1,hr,rfl,rfl⟩)
  · exact absurd h1 (by decide)
  rw[ztZ (by decide)] at hr;injection hr with q1 q2;subst q1 q2;refine gA rR (qb (qf (gS (gM rR (g_v (yf underlying37 rR) rR (qb ?_))))));refine qg rR (fun h8=>?_) (fun h8=>?_)
  · simp at h8
  · refine qh (gS (gM rR ?_));refine g_l (qi (Pre:=[dsk 140 142 bd (fD 200)]) call63 rR (zeZ bd 200 (fD 200) (fd_inv.len) (by omega) ((zmU (by decide)).2.1) (hd1) ([]) ([]) (0) (fun _ _ _=>fd_inv.good))) rR ?_;rintro _ _ (⟨hdn,_,_⟩ | ⟨_,h196,_,_⟩ | ⟨_,_,he0,_,_⟩ | ⟨_,_,_,bs,bl,so,co,rfl,rfl⟩)
    · rw[(zx7 (by decide)).1] at hdn;cases hdn
    · exact absurd h196 (by decide)
    · exact absurd he0 (zup fd_inv)
    refine gM rR (g_v (qd (v:=ptr bs 0) rR rR) rR (g_v (qd (v:=yK 0) rR rR) rR (gA rR (gA rR (qb (qf (gS (gM rR (g_v (yf (T:=108) (f:=0) underlying37 rR) rR (qb ?_))))))))));refine qg rR (fun h16=>?_) (fun h16=>?_)
    · simp at h16
    · refine qh (gS (gM rR ?_));refine g_l (qi (Pre:=[]) call87 rR (zks)) rR ?_;rintro _ _ ⟨p0,rfl,rfl⟩;refine g_l (qi (Pre:=[qG ee,vlt p0 (mkG gZ) [] 1]) call11 rR (zcG (ee:=ee) p0 (mkG gZ) [] 1 Con_z.sm)) rR ?_;rintro _ _ ⟨s20,c20,rfl,rfl⟩;refine yB s20 ?_;refine g_l (qi (Pre:=[pt bs (.cells (stC bd (hd1) bl so ((cur [] []).length) co) 180 (0,0)),pt bl (.cells (lgC bd 122 (200 - 122) (hd1.first) (0)) 222 (0,0)),dsk 140 142 bd (fD 200),roL 3 so (chR (cur [] [])),roL 3 s20 (chR (qY (mkG gZ) [] 1))]) call81 rfl (zdz bs bd hd1 bl so co (cur [] []) 200 300 0 (fD 200) (zxW (by decide)) (by decide) (zmU (by decide)) (by decide) (by decide) (by decide) (fd_inv.good.okC) (by decide) (fd_inv.good.srtC) (qY (mkG gZ) [] 1) s20 c20 (by rw[zuJ];decide))) rfl ?_;rintro _ _ ⟨e,D2,h2,used2,rows2,bl2,s2,cap2,hcom,rfl,rfl⟩;obtain ⟨rfl,hok⟩:=zsz hcom;refine gA rR (qb ?_);exact ql (dsk 140 142 bd (D2)::qG ee::F) rfl ⟨D2,h2,used2,hok,rfl,rfl⟩
theorem zc8 (bd:Nat)(D:DiskM)(hx:HdM)(r0:List ChangeM)(ds:Deeds)(used:Nat)(S:SI)(L:List Pt)(n:Int)(G:Gh)(hdn:D.down=false)(hI:Inv 200 D hx r0 ds used)(hS:S80 D)(hcur:cur r0 ds=qY S L n)(hC:Con S L n G)(F:List HProp):Ct Tryz.prog 33 [ptr bd 0] ([za5,dsk 140 142 bd (D)]++F) (fun v L'=>∃b,v= .tuple #[ptr b 0,yK 0]∧L'=rpl b bd ⟨hx,used,qY S L n,S,L,n,[],[],1⟩::dsk 140 142 bd (D)::za5::F):=by
  show Ct Tryz.prog 33 [ptr bd 0] (za5::dsk 140 142 bd (D)::F) _;have hlen:=hC.v.len;have hrow:=zgz (S:=S) (n:=n) hlen;refine Ct.of func33 rR 30 ntmps33 (by simp) fun w0=>?_;refine gS (gA rR (gA rR (qb (gS (gM rR ?_)))));refine g_l (qi (Pre:=[dsk 140 142 bd (D)]) call63 rR (zeZ bd 200 (D) (hI.len) (by omega) (hS.2.1) (hx) (r0) (ds) (used) (fun _ _ _=>hI.good))) rR ?_;rintro _ _ (⟨hd2,_,_⟩ | ⟨_,h196,_,_⟩ | ⟨_,_,he0,_,_⟩ | ⟨_,_,_,bs,bl,so,co,rfl,rfl⟩)
  · rw[hdn] at hd2;cases hd2
  · exact absurd h196 (by decide)
  · exact absurd he0 (zup hI)
  rw[hcur];refine gM rR (g_v (qd (v:=ptr bs 0) rR rR) rR (g_v (qd (v:=yK 0) rR rR) rR (gA rR (gA rR (qb (qf (gS (gM rR (g_v (yf (T:=108) (f:=0) underlying37 rR) rR (qb ?_))))))))));refine qg rR (fun h13=>?_) (fun h13=>?_)
  · simp at h13
  · refine qh (gS (gM rR ?_));refine g_l (qi (Pre:=[pt bs (.cells (stC bd (hx) bl so ((qY S L n).length) co) 180 (0,0)),roL 3 so (chR (qY S L n))]) call65 rR (ziV bs bd hx bl so co (qY S L n) (by omega))) rR ?_;rintro _ _ ⟨s17,c17,rfl,rfl⟩;refine yB s17 ?_;refine g_l (qi (Pre:=[za5,roL 3 s17 (chR (qY S L n))]) call64 rR (zic (qY S L n) s17 c17 (by omega) (keyle hC))) rR ?_;rintro _ _ (⟨st,q3,hps,hw,rfl,rfl⟩ | ⟨hno,rfl,rfl⟩);rotate_left
    · exact absurd (ze6 hC).2 (hno _ (ze6 hC).1)
    rw[(ze6 hC).1] at hps;injection hps with hps;subst hps;change Go.Sl.G _ _ _ (vlt q3 S L n::_);refine gM rR (g_v (qd (v:=ptr q3 0) rR rR) rR (g_v (qd (v:=yK 0) rR rR) rR (gA rR (gA rR (qb (qf (gS (gM rR (g_v (yf (T:=108) (f:=0) underlying37 rR) rR (qb ?_))))))))));refine qg rR (fun h22=>?_) (fun h22=>?_)
    · simp at h22
    · refine qh (gS (gM rR (gM rR ?_)));refine g_l (zaP) rR ?_;rintro _ _ ⟨b26,rfl,rfl⟩;refine g_l (zaP) rR ?_;rintro _ _ ⟨b27,rfl,rfl⟩;refine g_v (qP rR (bldRp bs q3 b26 b27)) rR ?_;refine g_l (wR #[ptr bs 0,ptr q3 0, .map (some b26), .map (some b27),I 1] rfl rR) rR ?_;rintro _ _ ⟨b29,rfl,rfl⟩;refine gA rR (gA rR (qb ?_));refine zga b26 (zdY []) (.refl _) ?_;refine zga b27 (zdR []) (.refl _) ?_;refine znN seA ?_;refine znN moA ?_;refine yj b29 bd ⟨hx,used,qY S L n,S,L,n,[],[],1⟩ bs bl so co q3 b26 b27 ?_;exact ql (rpl b29 bd ⟨hx,used,qY S L n,S,L,n,[],[],1⟩::dsk 140 142 bd (D)::za5::F) rfl ⟨b29,rfl,rfl⟩
theorem zha (F:List HProp):Ct Tryz.prog 21 [] ([za5]++F) (fun v L'=>∃bd b D z,v= .tuple #[ptr bd 0,ptr b 0,Bo true]∧Rep 1 D z∧upW D∧z=⟨z.h,z.used,qY (mkG gZ) [] 1,mkG gZ,[],1,[],[],1⟩∧L'=rpl b bd z::dsk 140 142 bd (D)::za5::F):=by
  show Ct Tryz.prog 21 [] (za5::F) _;refine Ct.of func21 rR 34 ntmps21 (by simp) fun w0=>?_;refine gS (gA rR (gA rR (gA rR (qb (gS ?_)))));refine g_l (qi (Pre:=[]) call49 rR (zl7 200)) rR ?_;rintro _ _ (⟨hno,_,_⟩ | ⟨_,bd,rfl,rfl⟩)
  · exact absurd (by omega) hno
  rw[show ((200:Int)).toNat=200 from rfl];refine gM rR (g_v (qd (v:=ptr bd 0) rR rR) rR (g_v (qd (v:=yK 0) rR rR) rR (gA rR (gA rR (qb (qf (gS (gM rR (g_v (yf (T:=108) (f:=0) underlying37 rR) rR (gM rR (qU rR rR (by simp) (qp rR) rR (qU rR rR (by simp) (zgT underlying25 rR) rR (g_v (zaH rR rR) rR (gM rR (qU rR rR (by simp) (qp rR) rR ?_)))))))))))))));refine zrs rR rR (by simp) (qi (Pre:=[za5,dsk 140 142 bd (zfP 200)]) call50 rR (zik bd)) rR ?_;rintro _ _ ⟨D2,h2,used2,hok,rfl,rfl⟩;obtain ⟨r2,d2,C2,hcu⟩:=hok.2.2.2.1;refine qU rR rR (by simp) (yf (T:=108) (f:=0) underlying37 rR) rR (g_v (zaH rR rR) rR (qb ?_));refine qg rR (fun h20=>?_) (fun h20=>?_)
  · simp at h20
  · refine qh (gS (gM rR ?_));refine g_l (qi (Pre:=[za5,dsk 140 142 bd (D2)]) call33 rR (zc8 bd D2 h2 r2 d2 used2 (mkG gZ) [] 1 gZ hok.2.2.1.1 C2.2.1 hok.2.1 hcu Con_z)) rR ?_;rintro _ _ ⟨b,rfl,rfl⟩;refine gM rR (g_v (qd (v:=ptr b 0) rR rR) rR (g_v (qd (v:=yK 0) rR rR) rR (gA rR (gA rR (qb (gS (gM rR (gM rR (gM rR (g_v (zab (T:=108) (f:=0) underlying37 rR) rR (gM rR (qU rR rR (by simp) (qp rR) rR (qU rR rR (by simp) (zwC underlying26 rR) rR (g_v (zas rR rR) rR (gA rR (gA rR (gA rR (qb ?_))))))))))))))))));exact ql (rpl b bd ⟨h2,used2,qY (mkG gZ) [] 1,mkG gZ,[],1,[],[],1⟩::dsk 140 142 bd (D2)::za5::F) rfl ⟨bd,b,D2,⟨h2,used2,qY (mkG gZ) [] 1,mkG gZ,[],1,[],[],1⟩,rfl,⟨hok.1,hok.2.1,⟨r2,d2,C2,hcu⟩,by have:=hok.2.2.2.2.1;show h2.ep≤_;omega,hok.2.2.2.2.2,rfl,⟨⟨gZ,Con_z⟩,by show (1:Int)≤1∧(1:Int)≤1000000;omega,(fun e he=>by cases he),(fun e he=>by cases he),(fun e he=>by cases he)⟩⟩,hok.2.2.1,rfl,rfl⟩
def dkBeg:Bytes:=[98,101,103,105,110]
def dkPut:Bytes:=[112,117,116]
def dkFin:Bytes:=[102,105,110,105,115,104]
def dkAbo:Bytes:=[97,98,111,114,116]
def dkAgn:Bytes:=[97,103,97,105,110]
def dkDrp:Bytes:=[100,114,111,112]
def dkKee:Bytes:=[107,101,101,112]
def dkMou:Bytes:=[109,111,117,110,116]
def dkUnm:Bytes:=[117,110,109,111,117,110,116]
def dkRea:Bytes:=[114,101,97,100]
def dkWri:Bytes:=[119,114,105,116,101]
def dkSav:Bytes:=[115,97,118,101]
def zka (l:List Int):Int:=l.foldl (fun n i=>1000*n+i) 0
def zwc (D:DiskM)(z:RpM)(e:Int)(D2:DiskM)(z2:RpM):Prop:=wg D (ckL (nxH z.h z.rows (200 - 122)) (yv z.rows))=(e,D2)∧((e≠0∧z2=z)∨(e=0∧∃ds used',used'≤200 - 122∧wd (z.h.first+(200 - 122)) (zjz D2 122) (200 - 122) 0 [] [] 0=(ds,used')∧z2=⟨nxH z.h z.rows (200 - 122),used',z.rows,z.S,z.L,z.n,z.ses,z.mou,z.next⟩))
def wT (D:DiskM)(z:RpM)(x:ActM)(n:Int)(s:Bytes)(e:Int)(D2:DiskM)(z2:RpM):Prop:=
  if x.kind=dkBeg then s=[]∧D2=D∧((wm z x.a x.b x.c≠0∧n=0∧e=wm z x.a x.b x.c∧z2=z)∨(wm z x.a x.b x.c=0∧n=z.next∧e=0∧∃a,z2=z.begun a x.a x.b x.c))
  else if x.kind=dkPut then n=0∧s=[]∧D2=D∧((zbh z x.a x.b x.s≠0∧e=zbh z x.a x.b x.s∧z2=z)∨(zbh z x.a x.b x.s=0∧e=0∧∃so co,z2=z.putted x.a x.b x.s so co))
  else if x.kind=dkFin then s=[]∧zod D z x.a n e D2 z2
  else if x.kind=dkAbo then n=0∧s=[]∧D2=D∧((fSe z.ses x.a=none∧e=5∧z2=z)∨(∃y,fSe z.ses x.a=some y∧e=0∧z2=z.sess (dSe z.ses x.a)))
  else if x.kind=dkAgn then s=[]∧zeb D z x.a n e D2 z2
  else if x.kind=dkDrp then n=0∧s=[]∧zfg D z x.a e D2 z2
  else if x.kind=dkKee then s=[]∧((x.b<0∧n=0∧e=1∧D2=D∧z2=z)∨(0≤x.b∧∃gone,zbR (zeH z.L x.a x.b) D z gone e D2 z2∧n=zka gone))
  else if x.kind=dkMou then s=[]∧D2=D∧((zbO z x.a≠0∧n=0∧e=zbO z x.a∧z2=z)∨(zbO z x.a=0∧n=z.next∧e=0∧∃a r,z2=z.mounted a r x.a))
  else if x.kind=dkUnm then n=0∧s=[]∧D2=D∧((fMo z.mou x.a=none∧e=5∧z2=z)∨(∃y,fMo z.mou x.a=some y∧e=0∧z2=z.moun (dMo z.mou x.a)))
  else if x.kind=dkRea then n=0∧s=(zbj z x.a x.b).1∧e=(zbj z x.a x.b).2∧D2=D∧z2=z
  else if x.kind=dkWri then n=0∧s=[]∧D2=D∧((zaT z x.a x.b x.s≠0∧e=zaT z x.a x.b x.s∧z2=z)∨(zaT z x.a x.b x.s=0∧e=0∧z2=z.written x.a x.b x.s))
  else if x.kind=dkSav then n=0∧s=[]∧zwc D z e D2 z2
  else n=0∧s=[]∧e=0∧D2=D∧z2=z
theorem zi2:∀{l:List Int} {D D2:DiskM} {z z2:RpM} {gone:List Int} {e:Int},zbR l D z gone e D2 z2→gone.length≤l.length∧∀g∈gone,g∈l
  | [],_,_,_,_,_,_,h=>by rw[h.1];simp
  | id::l,D,D2,z,z2,gone,e,h=>by
    unfold zbR at h;split at h
    · have:=zi2 h;exact ⟨by simp only[List.length_cons];omega,fun g hg=>List.mem_cons_of_mem _ (this.2 g hg)⟩
    · obtain ⟨e1,D1,z1,_,h⟩:=h;rcases h with ⟨_,hg,_⟩ | ⟨_,g',hk,hg⟩
      · rw[hg];simp
      · have:=zi2 hk;rw[hg];split
        · refine ⟨by simp only[List.length_cons];omega,fun g hg=>?_⟩;rcases List.mem_cons.1 hg with rfl | hg
          · simp
          · exact List.mem_cons_of_mem _ (this.2 g hg)
        · simp
theorem zrj (l:List Int)(i:Int):zka (l++ [i])=1000*zka l+i:=by unfold zka;rw[List.foldl_append];rfl
theorem zgQ {l:List Int}{k:Nat}{i:Int}(h:l[k]? =some i):zka (l.take (k+1))=1000*zka (l.take k)+i:=by
  rw[←zrj];congr 1;rw[List.take_add_one,h]
  rfl
theorem zwV {S:SI}{L:List Pt}{n:Int}{G:Gh}(hC:Con S L n G){disk many:Int}:∀g∈zeH L disk many,1≤g∧g≤999:=fun g hg=>by
  unfold zeH at hg;have h1:=List.mem_of_mem_take hg;obtain ⟨p,hp,rfl⟩:=List.mem_map.1 h1;have:=hC.v.pts p (List.mem_filter.1 hp).1;have:=hC.v.n1;omega
theorem zl0 {l:List Int}(h:∀g∈l,1≤g∧g≤999)(hl:l.length≤6):∀k,k≤l.length→0≤zka (l.take k)∧zka (l.take k)<((1000 ^ k:Nat):Int)
  | 0,_=>by simp[zka]
  | k+1,hk=>by
    have ih:=zl0 h hl k (by omega);have hx:l[k]? =some l[k]:=List.getElem?_eq_getElem (by omega);have:=h l[k] (List.getElem_mem _);rw[zgQ hx];have e:((1000 ^ (k+1):Nat):Int)=1000*((1000 ^ k:Nat):Int):=(by rw[Nat.pow_succ,Int.natCast_mul];omega);omega
theorem zqr {ee:Bool}(b bd t:Nat)(z:RpM)(D:DiskM)(x:ActM)(y:ActZ)(R:Rep t D z)(ht:t≤90000)(hxs:x.s.length≤9223372036854775807)(hxb:x.b≤9223372036854775807)(F:List HProp):Ct Tryz.prog 62 [ptr b 0, .agg (zcv x y).toArray] ([qG ee,rpl b bd z,dsk 140 142 bd (D)]++F) (fun v L'=>∃n s e D2 z2,wT D z x n s e D2 z2∧v= .tuple #[I n,Str s,yK e]∧L'=rpl b bd z2::dsk 140 142 bd (D2)::qG ee::F):=by
  show Ct Tryz.prog 62 [ptr b 0, .agg (zcv x y).toArray] (qG ee::rpl b bd z::dsk 140 142 bd (D)::F) _;refine Ct.of func62 rR 152 ntmps62 (by simp) fun w0=>?_;refine gS ?_;refine g_l (wR (zcv x y).toArray rR rR) rR ?_;rintro _ _ ⟨b3,rfl,rfl⟩;refine gA rR (gA rR (gA rR (qb (qf (gS (g_v (qa 0 underlying58 rR rR sizeOf9 (by decide) rR) rR (g_v (qe (v:=Str x.kind) isAgg9 rR rR) rR (qb (qj (gS (g_v (zaF rR rR) rR (gA rR (qb ?_)))))))))))));refine qg rR (fun h23=>?_) (fun h23=>?_)
  · have hkBeg:x.kind=dkBeg:=(by simpa [dkBeg] using h23);refine gS (gM rR (g_v (qa 2 underlying58 rR rR sizeOf3 (by decide) rR) rR (g_v (qe (v:=I x.a) isAgg3 rR rR) rR (g_v (qa 3 underlying58 rR rR sizeOf3 (by decide) rR) rR (g_v (qe (v:=I x.b) isAgg3 rR rR) rR (g_v (qa 4 underlying58 rR rR sizeOf3 (by decide) rR) rR (g_v (qe (v:=I x.c) isAgg3 rR rR) rR ?_)))))));refine g_l (qi (Pre:=[rpl b bd z]) call12 rR (zb9 b bd z x.a x.b x.c R.rok)) rR ?_;rintro _ _ (⟨he,rfl,rfl⟩ | ⟨he,a,rfl,rfl⟩)
    · refine gM rR (g_v (qd (v:=I 0) rR rR) rR (g_v (qd (v:=yK (wm z x.a x.b x.c)) rR rR) rR (gA rR (gA rR (qb (gS (gM rR (gM rR (gA rR (gA rR (gA rR (qb ?_))))))))))));exact ql (rpl b bd (z)::dsk 140 142 bd (D)::qG ee::F) rfl ⟨0,[],wm z x.a x.b x.c,D,z,by unfold wT;rw[if_pos hkBeg];exact ⟨rfl,rfl, .inl ⟨he,rfl,rfl,rfl⟩⟩,rfl,rfl⟩
    · refine gM rR (g_v (qd (v:=I z.next) rR rR) rR (g_v (qd (v:=yK 0) rR rR) rR (gA rR (gA rR (qb (gS (gM rR (gM rR (gA rR (gA rR (gA rR (qb ?_))))))))))));exact ql (rpl b bd (z.begun a x.a x.b x.c)::dsk 140 142 bd (D)::qG ee::F) rfl ⟨z.next,[],0,D,z.begun a x.a x.b x.c,by unfold wT;rw[if_pos hkBeg];exact ⟨rfl,rfl, .inr ⟨he,rfl,rfl,a,rfl⟩⟩,rfl,rfl⟩
  · have hkBeg:¬x.kind=dkBeg:=(by simpa [dkBeg] using h23);refine gS (g_v (zaF rR rR) rR (gA rR (qb ?_)));refine qg rR (fun h38=>?_) (fun h38=>?_)
    · have hkPut:x.kind=dkPut:=(by simpa [dkPut] using h38);refine gS (gM rR (g_v (qa 2 underlying58 rR rR sizeOf3 (by decide) rR) rR (g_v (qe (v:=I x.a) isAgg3 rR rR) rR (g_v (qa 3 underlying58 rR rR sizeOf3 (by decide) rR) rR (g_v (qe (v:=I x.b) isAgg3 rR rR) rR (g_v (qa 1 underlying58 rR rR sizeOf9 (by decide) rR) rR (g_v (qe (v:=Str x.s) isAgg9 rR rR) rR ?_)))))));refine g_l (qi (Pre:=[rpl b bd z]) call14 rR (zcY b bd z x.a x.b x.s R.rok hxs)) rR ?_;rintro _ _ (⟨he,rfl,rfl⟩ | ⟨he,so,co,rfl,rfl⟩)
      · refine gA rR (gA rR (gA rR (qb ?_)));exact ql (rpl b bd (z)::dsk 140 142 bd (D)::qG ee::F) rfl ⟨0,[],zbh z x.a x.b x.s,D,z,by unfold wT;rw[if_neg hkBeg,if_pos hkPut];exact ⟨rfl,rfl,rfl, .inl ⟨he,rfl,rfl⟩⟩,rfl,rfl⟩
      · refine gA rR (gA rR (gA rR (qb ?_)));exact ql (rpl b bd (z.putted x.a x.b x.s so co)::dsk 140 142 bd (D)::qG ee::F) rfl ⟨0,[],0,D,z.putted x.a x.b x.s so co,by unfold wT;rw[if_neg hkBeg,if_pos hkPut];exact ⟨rfl,rfl,rfl, .inr ⟨he,rfl,so,co,rfl⟩⟩,rfl,rfl⟩
    · have hkPut:¬x.kind=dkPut:=(by simpa [dkPut] using h38);refine gS (g_v (zaF rR rR) rR (gA rR (qb ?_)));refine qg rR (fun h48=>?_) (fun h48=>?_)
      · have hkFin:x.kind=dkFin:=(by simpa [dkFin] using h48);refine gS (gM rR (g_v (qa 2 underlying58 rR rR sizeOf3 (by decide) rR) rR (g_v (qe (v:=I x.a) isAgg3 rR rR) rR ?_)));refine g_l (qi (Pre:=[qG ee,rpl b bd z,dsk 140 142 bd (D)]) call17 rR (zbN b bd 1000 z x.a R.rok D (R.dk (by omega)) (by omega))) rR ?_;rintro _ _ ⟨n,e,D2,z2,hf,rfl,rfl⟩
        · refine gM rR (g_v (qd (v:=I n) rR rR) rR (g_v (qd (v:=yK e) rR rR) rR (gA rR (gA rR (qb (gS (gM rR (gM rR (gA rR (gA rR (gA rR (qb ?_))))))))))));exact ql (rpl b bd (z2)::dsk 140 142 bd (D2)::qG ee::F) rfl ⟨n,[],e,D2,z2,by unfold wT;rw[if_neg hkBeg,if_neg hkPut,if_pos hkFin];exact ⟨rfl,hf⟩,rfl,rfl⟩
      · have hkFin:¬x.kind=dkFin:=(by simpa [dkFin] using h48);refine gS (g_v (zaF rR rR) rR (gA rR (qb ?_)));refine qg rR (fun h59=>?_) (fun h59=>?_)
        · have hkAbo:x.kind=dkAbo:=(by simpa [dkAbo] using h59);refine gS (gM rR (g_v (qa 2 underlying58 rR rR sizeOf3 (by decide) rR) rR (g_v (qe (v:=I x.a) isAgg3 rR rR) rR ?_)));refine g_l (qi (Pre:=[rpl b bd z]) call15 rR (zaM b bd z x.a)) rR ?_;rintro _ _ (⟨he,rfl,rfl⟩ | ⟨w,he,rfl,rfl⟩)
          · refine gA rR (gA rR (gA rR (qb ?_)));exact ql (rpl b bd (z)::dsk 140 142 bd (D)::qG ee::F) rfl ⟨0,[],5,D,z,by unfold wT;rw[if_neg hkBeg,if_neg hkPut,if_neg hkFin,if_pos hkAbo];exact ⟨rfl,rfl,rfl, .inl ⟨he,rfl,rfl⟩⟩,rfl,rfl⟩
          · refine gA rR (gA rR (gA rR (qb ?_)));exact ql (rpl b bd (z.sess (dSe z.ses x.a))::dsk 140 142 bd (D)::qG ee::F) rfl ⟨0,[],0,D,z.sess (dSe z.ses x.a),by unfold wT;rw[if_neg hkBeg,if_neg hkPut,if_neg hkFin,if_pos hkAbo];exact ⟨rfl,rfl,rfl, .inr ⟨w,he,rfl,rfl⟩⟩,rfl,rfl⟩
        · have hkAbo:¬x.kind=dkAbo:=(by simpa [dkAbo] using h59);refine gS (g_v (zaF rR rR) rR (gA rR (qb ?_)));refine qg rR (fun h65=>?_) (fun h65=>?_)
          · have hkAgn:x.kind=dkAgn:=(by simpa [dkAgn] using h65);refine gS (gM rR (g_v (qa 2 underlying58 rR rR sizeOf3 (by decide) rR) rR (g_v (qe (v:=I x.a) isAgg3 rR rR) rR ?_)));refine g_l (qi (Pre:=[qG ee,rpl b bd z,dsk 140 142 bd (D)]) call24 rR (zeV b bd 1000 z x.a R.rok D (R.dk (by omega)) (by omega))) rR ?_;rintro _ _ ⟨n,e,D2,z2,hf,rfl,rfl⟩
            · refine gM rR (g_v (qd (v:=I n) rR rR) rR (g_v (qd (v:=yK e) rR rR) rR (gA rR (gA rR (qb (gS (gM rR (gM rR (gA rR (gA rR (gA rR (qb ?_))))))))))));exact ql (rpl b bd (z2)::dsk 140 142 bd (D2)::qG ee::F) rfl ⟨n,[],e,D2,z2,by unfold wT;rw[if_neg hkBeg,if_neg hkPut,if_neg hkFin,if_neg hkAbo,if_pos hkAgn];exact ⟨rfl,hf⟩,rfl,rfl⟩
          · have hkAgn:¬x.kind=dkAgn:=(by simpa [dkAgn] using h65);refine gS (g_v (zaF rR rR) rR (gA rR (qb ?_)));refine qg rR (fun h76=>?_) (fun h76=>?_)
            · have hkDrp:x.kind=dkDrp:=(by simpa [dkDrp] using h76);refine gS (gM rR (g_v (qa 2 underlying58 rR rR sizeOf3 (by decide) rR) rR (g_v (qe (v:=I x.a) isAgg3 rR rR) rR ?_)));refine g_l (qi (Pre:=[qG ee,rpl b bd z,dsk 140 142 bd (D)]) call25 rR (zcn b bd 1000 z x.a R.rok D (R.dk (by omega)) (by omega))) rR ?_;rintro _ _ ⟨e,D2,z2,hf,rfl,rfl⟩
              · refine gA rR (gA rR (gA rR (qb ?_)));exact ql (rpl b bd (z2)::dsk 140 142 bd (D2)::qG ee::F) rfl ⟨0,[],e,D2,z2,by unfold wT;rw[if_neg hkBeg,if_neg hkPut,if_neg hkFin,if_neg hkAbo,if_neg hkAgn,if_pos hkDrp];exact ⟨rfl,rfl,hf⟩,rfl,rfl⟩
            · have hkDrp:¬x.kind=dkDrp:=(by simpa [dkDrp] using h76);refine gS (g_v (zaF rR rR) rR (gA rR (qb ?_)));refine qg rR (fun h82=>?_) (fun h82=>?_)
              · have hkKee:x.kind=dkKee:=(by simpa [dkKee] using h82);refine gS (gM rR (g_v (qa 2 underlying58 rR rR sizeOf3 (by decide) rR) rR (g_v (qe (v:=I x.a) isAgg3 rR rR) rR (g_v (qa 3 underlying58 rR rR sizeOf3 (by decide) rR) rR (g_v (qe (v:=I x.b) isAgg3 rR rR) rR ?_)))));refine g_l (qi (Pre:=[qG ee,rpl b bd z,dsk 140 142 bd (D)]) call26 rR (zfp b bd t z D x.a x.b R ht hxb)) rR ?_;rintro _ _ (⟨hm,rfl,rfl⟩ | ⟨hm,gone,e,D2,z2,s90,c90,hkp,rfl,rfl⟩)
                · obtain ⟨gone,hg0⟩:∃g:List Int,g=[]:=⟨_,rfl⟩;have hids:∀g∈gone,1≤g∧g≤999:=(by rw[hg0];simp);have hgl:gone.length≤6:=(by rw[hg0];simp);refine yG 3 1 (yY gone) (by rw[hg0];rfl) ?_;rw[show (sl none 0 0)=sl none gone.length 0 by rw[hg0];rfl];refine gM rR (g_v (qd (v:=sl none gone.length 0) rR rR) rR (g_v (qd (v:=yK 1) rR rR) rR (gA rR (gA rR (qb (gS (gA rR (qb (qf (gS (gA rR (qb (qj ?_)))))))))))));refine qE (α:=Nat) (fun k=>k≤(gone).length) (fun k=>U [(13,sl none (gone).length 0),(14,yK 1),(15,I (zka ((gone).take k))),(16,I k)]) (fun k=>owL 3 1 none 0 (yY (gone))::rpl b bd z::dsk 140 142 bd (D)::qG ee::F) (fun k=>(gone).length - k) 0 (by simp) [13,14,15,16] rfl rR ?_;rintro k hk;refine qf (gS (gM rR (gM rR (g_v (yo underlying61 rR) rR (g_v (qJ rR rR) rR (qb ?_))))));refine qg rR (fun h96=>?_) (fun h96=>?_)
                  · simp at h96;have hkn:k<gone.length:=(by omega);obtain ⟨i,hik⟩:∃i,gone[k]? =some i:=⟨_,List.getElem?_eq_getElem hkn⟩;have hib:=hids i (List.mem_of_getElem? hik);have hnb:=zl0 hids hgl k (by omega);have hpw:1000 ^ k≤1000 ^ 5:=Nat.pow_le_pow_right (by decide) (by omega);have hp5:1000 ^ 5=1000000000000000:=(by decide);rw[hp5] at hpw;refine qh (qf (qj (qo (gM rR (g_v (zdk (r:=1000*zka (gone.take k)) rR rR (w64 (by omega))) rR (gM rR (gM rR (g_v (qA k underlying61 sizeOf3 rR rR rR hkn (by rw[wu];exact hkn)) rR (g_v (yd (v:=I i) isAgg3 rR (zcK hik) rR) rR (g_v (qu (r:=zka (gone.take (k+1))) rR rR (by rw[zgQ hik];exact w64 (by omega))) rR (gA rR (qb (qF (qo (gM rR (g_v (qu rR rR (w64 (by omega))) rR (gA rR (qb ?_))))))))))))))))));exact qm (k+1) (by omega) (by omega) [13,14,15,16] rfl rfl
                  · simp at h96;obtain rfl:k=gone.length:=(by omega);refine qz rR ?_;refine gS (gM rR (gM rR (gA rR (gA rR (gA rR (qb ?_))))));subst hg0;exact ql (rpl b bd (z)::dsk 140 142 bd (D)::qG ee::F) rfl ⟨0,[],1,D,z,by unfold wT;rw[if_neg hkBeg,if_neg hkPut,if_neg hkFin,if_neg hkAbo,if_neg hkAgn,if_neg hkDrp,if_pos hkKee];exact ⟨rfl, .inl ⟨hm,rfl,rfl,rfl,rfl⟩⟩,rfl,rfl⟩
                · obtain ⟨G0,hC⟩:=R.rok.con;have hks:=zi2 hkp;have hel:=zgX z.L x.a x.b hC.v.len;have hgl:gone.length≤6:=(by omega);have hids:∀g∈gone,1≤g∧g≤999:=fun g hg=>zwV hC g (hks.2 g hg);refine gM rR (g_v (qd (v:=sl s90 gone.length c90) rR rR) rR (g_v (qd (v:=yK e) rR rR) rR (gA rR (gA rR (qb (gS (gA rR (qb (qf (gS (gA rR (qb (qj ?_)))))))))))));refine qE (α:=Nat) (fun k=>k≤(gone).length) (fun k=>U [(13,sl s90 (gone).length c90),(14,yK e),(15,I (zka ((gone).take k))),(16,I k)]) (fun k=>owL 3 1 s90 c90 (yY (gone))::rpl b bd z2::dsk 140 142 bd (D2)::qG ee::F) (fun k=>(gone).length - k) 0 (by simp) [13,14,15,16] rfl rR ?_;rintro k hk;refine qf (gS (gM rR (gM rR (g_v (yo underlying61 rR) rR (g_v (qJ rR rR) rR (qb ?_))))));refine qg rR (fun h96=>?_) (fun h96=>?_)
                  · simp at h96;have hkn:k<gone.length:=(by omega);obtain ⟨i,hik⟩:∃i,gone[k]? =some i:=⟨_,List.getElem?_eq_getElem hkn⟩;have hib:=hids i (List.mem_of_getElem? hik);have hnb:=zl0 hids hgl k (by omega);have hpw:1000 ^ k≤1000 ^ 5:=Nat.pow_le_pow_right (by decide) (by omega);have hp5:1000 ^ 5=1000000000000000:=(by decide);rw[hp5] at hpw;refine qh (qf (qj (qo (gM rR (g_v (zdk (r:=1000*zka (gone.take k)) rR rR (w64 (by omega))) rR (gM rR (gM rR (g_v (qA k underlying61 sizeOf3 rR rR rR hkn (by rw[wu];exact hkn)) rR (g_v (yd (v:=I i) isAgg3 rR (zcK hik) rR) rR (g_v (qu (r:=zka (gone.take (k+1))) rR rR (by rw[zgQ hik];exact w64 (by omega))) rR (gA rR (qb (qF (qo (gM rR (g_v (qu rR rR (w64 (by omega))) rR (gA rR (qb ?_))))))))))))))))));exact qm (k+1) (by omega) (by omega) [13,14,15,16] rfl rfl
                  · simp at h96;obtain rfl:k=gone.length:=(by omega);refine qz rR ?_;refine gS (gM rR (gM rR (gA rR (gA rR (gA rR (qb ?_))))));exact ql (rpl b bd (z2)::dsk 140 142 bd (D2)::qG ee::F) rfl ⟨zka (gone.take gone.length),[],e,D2,z2,by unfold wT;rw[if_neg hkBeg,if_neg hkPut,if_neg hkFin,if_neg hkAbo,if_neg hkAgn,if_neg hkDrp,if_pos hkKee];exact ⟨rfl, .inr ⟨hm,gone,hkp,by rw[List.take_length]⟩⟩,rfl,rfl⟩
              · have hkKee:¬x.kind=dkKee:=(by simpa [dkKee] using h82);refine gS (g_v (zaF rR rR) rR (gA rR (qb ?_)));refine qg rR (fun h108=>?_) (fun h108=>?_)
                · have hkMou:x.kind=dkMou:=(by simpa [dkMou] using h108);refine gS (gM rR (g_v (qa 2 underlying58 rR rR sizeOf3 (by decide) rR) rR (g_v (qe (v:=I x.a) isAgg3 rR rR) rR ?_)));refine g_l (qi (Pre:=[rpl b bd z]) call97 rR (zeM b bd z x.a R.rok)) rR ?_;rintro _ _ (⟨he,rfl,rfl⟩ | ⟨he,a,r,rfl,rfl⟩)
                  · refine gM rR (g_v (qd (v:=I 0) rR rR) rR (g_v (qd (v:=yK (zbO z x.a)) rR rR) rR (gA rR (gA rR (qb (gS (gM rR (gM rR (gA rR (gA rR (gA rR (qb ?_))))))))))));exact ql (rpl b bd (z)::dsk 140 142 bd (D)::qG ee::F) rfl ⟨0,[],zbO z x.a,D,z,by unfold wT;rw[if_neg hkBeg,if_neg hkPut,if_neg hkFin,if_neg hkAbo,if_neg hkAgn,if_neg hkDrp,if_neg hkKee,if_pos hkMou];exact ⟨rfl,rfl, .inl ⟨he,rfl,rfl,rfl⟩⟩,rfl,rfl⟩
                  · refine gM rR (g_v (qd (v:=I z.next) rR rR) rR (g_v (qd (v:=yK 0) rR rR) rR (gA rR (gA rR (qb (gS (gM rR (gM rR (gA rR (gA rR (gA rR (qb ?_))))))))))));exact ql (rpl b bd (z.mounted a r x.a)::dsk 140 142 bd (D)::qG ee::F) rfl ⟨z.next,[],0,D,z.mounted a r x.a,by unfold wT;rw[if_neg hkBeg,if_neg hkPut,if_neg hkFin,if_neg hkAbo,if_neg hkAgn,if_neg hkDrp,if_neg hkKee,if_pos hkMou];exact ⟨rfl,rfl, .inr ⟨he,rfl,rfl,a,r,rfl⟩⟩,rfl,rfl⟩
                · have hkMou:¬x.kind=dkMou:=(by simpa [dkMou] using h108);refine gS (g_v (zaF rR rR) rR (gA rR (qb ?_)));refine qg rR (fun h119=>?_) (fun h119=>?_)
                  · have hkUnm:x.kind=dkUnm:=(by simpa [dkUnm] using h119);refine gS (gM rR (g_v (qa 2 underlying58 rR rR sizeOf3 (by decide) rR) rR (g_v (qe (v:=I x.a) isAgg3 rR rR) rR ?_)));refine g_l (qi (Pre:=[rpl b bd z]) call98 rR (zd7 b bd z x.a)) rR ?_;rintro _ _ (⟨he,rfl,rfl⟩ | ⟨w,he,rfl,rfl⟩)
                    · refine gA rR (gA rR (gA rR (qb ?_)));exact ql (rpl b bd (z)::dsk 140 142 bd (D)::qG ee::F) rfl ⟨0,[],5,D,z,by unfold wT;rw[if_neg hkBeg,if_neg hkPut,if_neg hkFin,if_neg hkAbo,if_neg hkAgn,if_neg hkDrp,if_neg hkKee,if_neg hkMou,if_pos hkUnm];exact ⟨rfl,rfl,rfl, .inl ⟨he,rfl,rfl⟩⟩,rfl,rfl⟩
                    · refine gA rR (gA rR (gA rR (qb ?_)));exact ql (rpl b bd (z.moun (dMo z.mou x.a))::dsk 140 142 bd (D)::qG ee::F) rfl ⟨0,[],0,D,z.moun (dMo z.mou x.a),by unfold wT;rw[if_neg hkBeg,if_neg hkPut,if_neg hkFin,if_neg hkAbo,if_neg hkAgn,if_neg hkDrp,if_neg hkKee,if_neg hkMou,if_pos hkUnm];exact ⟨rfl,rfl,rfl, .inr ⟨w,he,rfl,rfl⟩⟩,rfl,rfl⟩
                  · have hkUnm:¬x.kind=dkUnm:=(by simpa [dkUnm] using h119);refine gS (g_v (zaF rR rR) rR (gA rR (qb ?_)));refine qg rR (fun h125=>?_) (fun h125=>?_)
                    · have hkRea:x.kind=dkRea:=(by simpa [dkRea] using h125);refine gS (gM rR (g_v (qa 2 underlying58 rR rR sizeOf3 (by decide) rR) rR (g_v (qe (v:=I x.a) isAgg3 rR rR) rR (g_v (qa 3 underlying58 rR rR sizeOf3 (by decide) rR) rR (g_v (qe (v:=I x.b) isAgg3 rR rR) rR ?_)))));refine g_l (qi (Pre:=[rpl b bd z]) call99 rR (zcq b bd z x.a x.b R.rok)) rR ?_;rintro _ _ ⟨rfl,rfl⟩
                      · refine gM rR (g_v (qd (v:=Str (zbj z x.a x.b).1) rR rR) rR (g_v (qd (v:=yK (zbj z x.a x.b).2) rR rR) rR (gA rR (gA rR (qb (gS (gM rR (gM rR (gA rR (gA rR (gA rR (qb ?_))))))))))));exact ql (rpl b bd (z)::dsk 140 142 bd (D)::qG ee::F) rfl ⟨0,(zbj z x.a x.b).1,(zbj z x.a x.b).2,D,z,by unfold wT;rw[if_neg hkBeg,if_neg hkPut,if_neg hkFin,if_neg hkAbo,if_neg hkAgn,if_neg hkDrp,if_neg hkKee,if_neg hkMou,if_neg hkUnm,if_pos hkRea];exact ⟨rfl,rfl,rfl,rfl,rfl⟩,rfl,rfl⟩
                    · have hkRea:¬x.kind=dkRea:=(by simpa [dkRea] using h125);refine gS (g_v (zaF rR rR) rR (gA rR (qb ?_)));refine qg rR (fun h138=>?_) (fun h138=>?_)
                      · have hkWri:x.kind=dkWri:=(by simpa [dkWri] using h138);refine gS (gM rR (g_v (qa 2 underlying58 rR rR sizeOf3 (by decide) rR) rR (g_v (qe (v:=I x.a) isAgg3 rR rR) rR (g_v (qa 3 underlying58 rR rR sizeOf3 (by decide) rR) rR (g_v (qe (v:=I x.b) isAgg3 rR rR) rR (g_v (qa 1 underlying58 rR rR sizeOf9 (by decide) rR) rR (g_v (qe (v:=Str x.s) isAgg9 rR rR) rR ?_)))))));refine g_l (qi (Pre:=[rpl b bd z]) call100 rR (zfd b bd z x.a x.b x.s R.rok hxs)) rR ?_;rintro _ _ (⟨he,rfl,rfl⟩ | ⟨he,rfl,rfl⟩)
                        · refine gA rR (gA rR (gA rR (qb ?_)));exact ql (rpl b bd (z)::dsk 140 142 bd (D)::qG ee::F) rfl ⟨0,[],zaT z x.a x.b x.s,D,z,by unfold wT;rw[if_neg hkBeg,if_neg hkPut,if_neg hkFin,if_neg hkAbo,if_neg hkAgn,if_neg hkDrp,if_neg hkKee,if_neg hkMou,if_neg hkUnm,if_neg hkRea,if_pos hkWri];exact ⟨rfl,rfl,rfl, .inl ⟨he,rfl,rfl⟩⟩,rfl,rfl⟩
                        · refine gA rR (gA rR (gA rR (qb ?_)));exact ql (rpl b bd (z.written x.a x.b x.s)::dsk 140 142 bd (D)::qG ee::F) rfl ⟨0,[],0,D,z.written x.a x.b x.s,by unfold wT;rw[if_neg hkBeg,if_neg hkPut,if_neg hkFin,if_neg hkAbo,if_neg hkAgn,if_neg hkDrp,if_neg hkKee,if_neg hkMou,if_neg hkUnm,if_neg hkRea,if_pos hkWri];exact ⟨rfl,rfl,rfl, .inr ⟨he,rfl,rfl⟩⟩,rfl,rfl⟩
                      · have hkWri:¬x.kind=dkWri:=(by simpa [dkWri] using h138);refine gS (g_v (zaF rR rR) rR (gA rR (qb ?_)));refine qg rR (fun h148=>?_) (fun h148=>?_)
                        · have hkSav:x.kind=dkSav:=(by simpa [dkSav] using h148);refine gS (gM rR ?_);refine g_l (qi (Pre:=[rpl b bd z,dsk 140 142 bd (D)]) call101 rR (zfq b bd 1000 z D (R.dk (by omega)) (by omega))) rR ?_;rintro _ _ ⟨e,D2,hrun,rfl,hcase⟩;rcases hcase with ⟨hne,rfl⟩ | ⟨he0,ds,used2,hu2,hsc,rfl⟩
                          · refine gA rR (gA rR (gA rR (qb ?_)));exact ql (rpl b bd (z)::dsk 140 142 bd (D2)::qG ee::F) rfl ⟨0,[],e,D2,z,by unfold wT;rw[if_neg hkBeg,if_neg hkPut,if_neg hkFin,if_neg hkAbo,if_neg hkAgn,if_neg hkDrp,if_neg hkKee,if_neg hkMou,if_neg hkUnm,if_neg hkRea,if_neg hkWri,if_pos hkSav];exact ⟨rfl,rfl,hrun, .inl ⟨hne,rfl⟩⟩,rfl,rfl⟩
                          · refine gA rR (gA rR (gA rR (qb ?_)));exact ql (rpl b bd (⟨nxH z.h z.rows (200 - 122),used2,z.rows,z.S,z.L,z.n,z.ses,z.mou,z.next⟩)::dsk 140 142 bd (D2)::qG ee::F) rfl ⟨0,[],e,D2,⟨nxH z.h z.rows (200 - 122),used2,z.rows,z.S,z.L,z.n,z.ses,z.mou,z.next⟩,by unfold wT;rw[if_neg hkBeg,if_neg hkPut,if_neg hkFin,if_neg hkAbo,if_neg hkAgn,if_neg hkDrp,if_neg hkKee,if_neg hkMou,if_neg hkUnm,if_neg hkRea,if_neg hkWri,if_pos hkSav];exact ⟨rfl,rfl,hrun, .inr ⟨he0,ds,used2,hu2,hsc,rfl⟩⟩,rfl,rfl⟩
                        · have hkSav:¬x.kind=dkSav:=(by simpa [dkSav] using h148);refine qh (qF (gS (gA rR (gA rR (gA rR (qb ?_))))));exact ql (rpl b bd (z)::dsk 140 142 bd (D)::qG ee::F) rfl ⟨0,[],0,D,z,by unfold wT;rw[if_neg hkBeg,if_neg hkPut,if_neg hkFin,if_neg hkAbo,if_neg hkAgn,if_neg hkDrp,if_neg hkKee,if_neg hkMou,if_neg hkUnm,if_neg hkRea,if_neg hkWri,if_neg hkSav];exact ⟨rfl,rfl,rfl,rfl,rfl⟩,rfl,rfl⟩
theorem Rep.le {t t':Nat}{D:DiskM}{z:RpM}(R:Rep t D z)(h:t≤t'):Rep t' D z:=⟨R.ok,R.s80,R.cal,by have:=R.ep;omega,by have:=R.first;omega,R.rows,R.rok⟩
theorem ztX {e:SeE}{at_:Int}{d:Bytes}{so:Option Addr}{co:Nat}(h:SOk e)(ha:¬(at_<0∨e.size≤at_))(hd:¬6<d.length):SOk ⟨e.key,e.a,so,co,e.base,e.disk,e.size,zhZ e.puts at_ d⟩:=by
  refine ⟨h.size,?_,fun p hp=>?_⟩
  · show ((zhZ e.puts at_ d).map (·.at_)).Nodup;unfold zhZ;rw[List.map_append,List.nodup_append];refine ⟨List.Nodup.sublist (List.Sublist.map _ List.filter_sublist) h.nodup,by simp,fun a ha b hb=>?_⟩;obtain ⟨p,hp,rfl⟩:=List.mem_map.1 ha;have h1:=(List.mem_filter.1 hp).2;simp at h1 hb;rw[hb];exact h1
  · have hp:p∈zhZ e.puts at_ d:=hp;unfold zhZ at hp;rcases List.mem_append.1 hp with hp | hp
    · exact h.rng p (List.mem_filter.1 hp).1
    · rw[List.mem_singleton] at hp;subst hp;exact ⟨by show 0≤at_∧at_<e.size;omega,by show d.length≤6;omega⟩
theorem Rep.turn {t t':Nat}{D:DiskM}{z:RpM}(R:Rep t D z)(h:t≤t')(ses:List SeE)(mou:List MoE)(next:Int)(hn:1≤next∧next≤1000000)(hs:∀e∈ses,(1≤e.key∧e.key<next)∧SOk e)(hm:∀e∈mou,1≤e.key∧e.key<next):Rep t' D ⟨z.h,z.used,z.rows,z.S,z.L,z.n,ses,mou,next⟩:=
  ⟨R.ok,R.s80,R.cal,by have:=R.ep;show z.h.ep≤_;omega,by have:=R.first;show z.h.first≤_;omega,R.rows,⟨R.rok.con,hn,fun e he=>(hs e he).1,hm,fun e he=>(hs e he).2⟩⟩
theorem zgH {α:Type}{l:List α}{i:Nat}{a x:α}(h:x∈l.set i a):x∈l∨x=a:=List.mem_or_eq_of_mem_set h
theorem zlv {S:SI}{L:List Pt}{n base disk size:Int}{puts:List PutM}{G:Gh}{S':SI}{L':List Pt}{n' r:Int}(h:Vok S L n G)(e:zgn S L n base disk size puts= .ok (S',L',n',r)):∀p∈L,p∈L':=fun p hp=>by
  obtain ⟨_,_,_,_,e1,_⟩:=zjg h e;rw[e1];exact List.mem_append_left _ hp
theorem zlX {S:SI}{L:List Pt}{n id:Int}{G:Gh}{S':SI}{L':List Pt}{n' r:Int}(h:Vok S L n G)(e:ziJ S L n id= .ok (S',L',n',r)):∀p∈L,p∈L':=fun p hp=>by
  obtain ⟨_,_,_,_,_,e1,_⟩:=zjf h e;rw[e1];exact List.mem_append_left _ hp
structure Up (t:Nat) (D:DiskM) (z:RpM):Prop where
  rep:Rep t D z
  up:upW D
  next:z.next≤1+t
theorem Up.le {t t':Nat}{D:DiskM}{z:RpM}(R:Up t D z)(h:t≤t'):Up t' D z:=⟨R.rep.le h,R.up,by have:=R.next;omega⟩
theorem Up.drop {t:Nat}{D D2:DiskM}{z z2:RpM}{id e:Int}(R:Up t D z)(ht:t≤90000)(k:zfg D z id e D2 z2):Up (t+1) D2 z2:=by
  rcases zcr R.rep (by omega) k with ⟨_,h1,h2,_,_,_,_,h3⟩ | ⟨_,_,_,rfl,rfl⟩ | ⟨_,h,_⟩
  · exact ⟨h1,h2 R.up,by rw[h3];have:=R.next;omega⟩
  · exact R.le (by omega)
  · exact absurd R.up h
theorem Up.keep:∀{l:List Int} {t:Nat} {D D2:DiskM} {z z2:RpM} {gone:List Int} {e:Int},Up t D z→t+l.length≤90000→zbR l D z gone e D2 z2→Up (t+l.length) D2 z2
  | [],t,_,_,_,_,_,_,R,_,h=>by obtain ⟨_,_,rfl,rfl⟩:=h;exact R
  | id::l,t,D,D2,z,z2,gone,e,R,ht,h=>by
    simp only[List.length_cons] at ht ⊢;unfold zbR at h;split at h
    · exact (Up.keep R (by omega) h).le (by omega)
    · obtain ⟨e1,D1,z1,hd,h⟩:=h;have R1:=R.drop (by omega) hd;rcases h with ⟨_,_,_,rfl,rfl⟩ | ⟨_,g',hk,_⟩
      · exact R1.le (by omega)
      · exact (Up.keep R1 (by omega) hk).le (by omega)
theorem Up.kept {t:Nat}{D D2:DiskM}{z z2:RpM}{S':SI}{L':List Pt}{n' e:Int}{G':Gh}(R:Up t D z)(ht:t≤90000)(hC':Con S' L' n' G')(h1:∀p∈z.L,p∈L')(k:zoc D z S' L' n' e D2 z2):e=0∧Up (t+1) D2 z2∧z2.S=S'∧z2.L=L'∧z2.n=n'∧z2.ses=z.ses∧z2.mou=z.mou∧z2.next=z.next:=by
  rcases ze9 R.rep (by omega) hC' (P:=L') (by have:=hC'.v.len;omega) h1 (fun p hp=>hp) k with ⟨a1,a2,a3,a4,a5,a6,a7,a8,a9⟩ | ⟨_,h,_⟩
  · exact ⟨a1,⟨a2,a3 R.up,by rw[a9];have:=R.next;omega⟩,a4,a5,a6,a7,a8,a9⟩
  · exact absurd R.up h
theorem Up.save {t:Nat}{D D2:DiskM}{z z2:RpM}{e:Int}(R:Up t D z)(ht:t≤90000)(k:zwc D z e D2 z2):Up (t+1) D2 z2:=by
  obtain ⟨hr,k⟩:=k;obtain ⟨r0,ds,C,hcur⟩:=R.rep.cal;have hep:=R.rep.ep;have hfi:=R.rep.first;rw[←hcur] at hr;have hs:=zui R.rep.ok R.rep.s80 C.2.1 hr;obtain ⟨D1,q1,q2,q3⟩:=zvI R.up C.2.1 (by omega) (by omega);rw[q1] at hr;injection hr with h1 h2;subst h1 h2;rcases zjh C.1 C.2.1 C.2.2 (by omega) (by omega) q1 with ⟨_,C1⟩ | ⟨h9,_⟩
  · rcases k with ⟨hx,_⟩ | ⟨_,d',u',_,hsc,rfl⟩
    · exact absurd rfl hx
    · have hlg:=C1.2.1.good.log;rw[C1.2.1.len] at hlg;have hu:=(zeU hsc hlg).2;subst hu;rw[hcur] at C1;exact ⟨⟨zjm hs.1 C1.1,hs.2,⟨z.rows,[],C1,rfl⟩,by show z.h.ep+1≤_;omega,by show z.h.first+(200 - 122)≤_;omega,R.rep.rows,⟨R.rep.rok.con,R.rep.rok.next,R.rep.rok.keyS,R.rep.rok.keyM,R.rep.rok.sesS⟩⟩,q2,by have:=R.next;show z.next≤_;omega⟩
  · cases h9
theorem zlS {t:Nat}{D:DiskM}{z:RpM}(R:Up t D z)(l:List SeE)(h:∀e∈l,e∈z.ses):Up t D (z.sess l):=
  ⟨R.rep.turn (Nat.le_refl _) l z.mou z.next R.rep.rok.next (fun e he=>⟨R.rep.rok.keyS e (h e he),R.rep.rok.sesS e (h e he)⟩) R.rep.rok.keyM,R.up,R.next⟩
theorem zl6 {t:Nat}{D:DiskM}{z:RpM}(R:Up t D z)(l:List MoE)(h:∀e∈l,1≤e.key∧e.key<z.next):Up t D (z.moun l):=
  ⟨R.rep.turn (Nat.le_refl _) z.ses l z.next R.rep.rok.next (fun e he=>⟨R.rep.rok.keyS e he,R.rep.rok.sesS e he⟩) h,R.up,R.next⟩
theorem zps {t:Nat}{D D2:DiskM}{z z2:RpM}{x:ActM}{n e:Int}{s:Bytes}(R:Up t D z)(ht:t≤80000)(k:wT D z x n s e D2 z2):Up (t+7) D2 z2:=by
  have hnx:=R.next;have hn1:=R.rep.rok.next;obtain ⟨G,hC⟩:=R.rep.rok.con;have hlen:=hC.v.len;unfold wT at k;by_cases hkBeg:x.kind=dkBeg
  · rw[if_pos hkBeg] at k;obtain ⟨_,rfl,⟨_,_,_,rfl⟩ | ⟨hb,_,_,a,rfl⟩⟩:=k
    · exact R.le (by omega)
    · have hsz:¬(x.b<1∨999<x.b∨x.c<1∨16<x.c):=fun h=>(by unfold wm at hb;rw[if_pos h] at hb;cases hb);refine ⟨R.rep.turn (by omega) _ _ _ (by omega) (fun e he=>?_) (fun e he=>by have:=R.rep.rok.keyM e he;omega),R.up,by show z.next+1≤_;omega⟩;rcases List.mem_append.1 he with he | he
      · have:=R.rep.rok.keyS e he;exact ⟨by omega,R.rep.rok.sesS e he⟩
      · rw[List.mem_singleton] at he;subst he;exact ⟨by show 1≤z.next∧z.next<z.next+1;omega,⟨by show 1≤x.c∧x.c≤16;omega,by simp,fun p hp=>by cases hp⟩⟩
  rw[if_neg hkBeg] at k;by_cases hkPut:x.kind=dkPut
  · rw[if_pos hkPut] at k;obtain ⟨_,_,rfl,⟨_,_,rfl⟩ | ⟨hp,_,so,co,rfl⟩⟩:=k
    · exact R.le (by omega)
    · unfold RpM.putted;unfold zbh at hp;cases hf:fSe z.ses x.a with
      | none=>exact R.le (by omega)
      | some y=>
        rw[hf] at hp;simp only at hp ⊢;obtain ⟨hy,_,_⟩:=zkK hf;have hym:=List.mem_of_getElem? hy;have h1:¬(x.b<0∨y.size≤x.b):=fun h=>(by rw[if_pos h] at hp;cases hp);rw[if_neg h1] at hp;have h2:¬6<x.s.length:=fun h=>(by rw[if_pos h] at hp;cases hp);refine ⟨R.rep.turn (by omega) _ _ _ hn1 (fun e he=>?_) R.rep.rok.keyM,R.up,by show z.next≤_;omega⟩;rcases zgH he with he | rfl
        · exact ⟨R.rep.rok.keyS e he,R.rep.rok.sesS e he⟩
        · exact ⟨R.rep.rok.keyS y hym,ztX (R.rep.rok.sesS y hym) h1 h2⟩
  rw[if_neg hkPut] at k;by_cases hkFin:x.kind=dkFin
  · rw[if_pos hkFin] at k;obtain ⟨_,k⟩:=k;unfold zod at k;split at k
    · obtain ⟨_,_,rfl,rfl⟩:=k;exact R.le (by omega)
    · split at k
      · obtain ⟨_,_,rfl,rfl⟩:=k;exact R.le (by omega)
      · rename_i hr;obtain ⟨y,hk,_,rfl⟩:=k;obtain ⟨G',hC'⟩:=ze1 hC hr;obtain ⟨rfl,R1,_,_,_,e4,_⟩:=R.kept (by omega) hC' (zlv hC.v hr) hk;rw[if_pos rfl];exact (zlS R1 (dSe y.ses x.a) fun e he=>(List.mem_filter.1 he).1).le (by omega)
  rw[if_neg hkFin] at k;by_cases hkAbo:x.kind=dkAbo
  · rw[if_pos hkAbo] at k;obtain ⟨_,_,rfl,⟨_,_,rfl⟩ | ⟨y,_,_,rfl⟩⟩:=k
    · exact R.le (by omega)
    · exact (zlS R (dSe z.ses x.a) fun e he=>(List.mem_filter.1 he).1).le (by omega)
  rw[if_neg hkAbo] at k;by_cases hkAgn:x.kind=dkAgn
  · rw[if_pos hkAgn] at k;obtain ⟨_,k⟩:=k;unfold zeb at k;split at k
    · obtain ⟨_,_,rfl,rfl⟩:=k;exact R.le (by omega)
    · rename_i hr;obtain ⟨hk,_⟩:=k;obtain ⟨G',hC'⟩:=zeF hC hr;exact (R.kept (by omega) hC' (zlX hC.v hr) hk).2.1.le (by omega)
  rw[if_neg hkAgn] at k;by_cases hkDrp:x.kind=dkDrp
  · rw[if_pos hkDrp] at k;exact (R.drop (by omega) k.2.2).le (by omega)
  rw[if_neg hkDrp] at k;by_cases hkKee:x.kind=dkKee
  · rw[if_pos hkKee] at k;obtain ⟨_,⟨_,_,_,rfl,rfl⟩ | ⟨_,gone,hk,_⟩⟩:=k
    · exact R.le (by omega)
    · have hel:=zgX z.L x.a x.b hlen;exact (Up.keep R (by omega) hk).le (by omega)
  rw[if_neg hkKee] at k;by_cases hkMou:x.kind=dkMou
  · rw[if_pos hkMou] at k;obtain ⟨_,rfl,⟨_,_,_,rfl⟩ | ⟨hb,_,_,a,r,rfl⟩⟩:=k
    · exact R.le (by omega)
    · refine ⟨R.rep.turn (by omega) _ _ _ (by omega) (fun e he=>⟨by have:=R.rep.rok.keyS e he;omega,R.rep.rok.sesS e he⟩) (fun e he=>?_),R.up,by show z.next+1≤_;omega⟩;rcases List.mem_append.1 he with he | he
      · have:=R.rep.rok.keyM e he;omega
      · rw[List.mem_singleton] at he;subst he;show 1≤z.next∧z.next<z.next+1;omega
  rw[if_neg hkMou] at k;by_cases hkUnm:x.kind=dkUnm
  · rw[if_pos hkUnm] at k;obtain ⟨_,_,rfl,⟨_,_,rfl⟩ | ⟨y,_,_,rfl⟩⟩:=k
    · exact R.le (by omega)
    · exact (zl6 R (dMo z.mou x.a) fun e he=>R.rep.rok.keyM e (List.mem_filter.1 he).1).le (by omega)
  rw[if_neg hkUnm] at k;by_cases hkRea:x.kind=dkRea
  · rw[if_pos hkRea] at k;obtain ⟨_,_,_,rfl,rfl⟩:=k;exact R.le (by omega)
  rw[if_neg hkRea] at k;by_cases hkWri:x.kind=dkWri
  · rw[if_pos hkWri] at k;obtain ⟨_,_,rfl,⟨_,_,rfl⟩ | ⟨_,_,rfl⟩⟩:=k
    · exact R.le (by omega)
    · unfold RpM.written;split
      · exact R.le (by omega)
      · rename_i m hf;obtain ⟨hy,_,_⟩:=zlo hf;refine (zl6 R _ fun e he=>?_).le (by omega);rcases zgH he with he | rfl
        · exact R.rep.rok.keyM e he
        · exact R.rep.rok.keyM m (List.mem_of_getElem? hy)
  rw[if_neg hkWri] at k;by_cases hkSav:x.kind=dkSav
  · rw[if_pos hkSav] at k;exact (R.save (by omega) k.2.2).le (by omega)
  rw[if_neg hkSav] at k;obtain ⟨_,_,_,rfl,rfl⟩:=k;exact R.le (by omega)
theorem zva {l:List ActM}{m:Int}{x:ActM}(h:zbY l m=true)(hx:x∈l):x.s.length≤100:=by
  unfold zbY at h;simp only[Bool.and_eq_true,List.all_eq_true] at h;have:=h.2 x hx;unfold zfx at this;simp only[Bool.and_eq_true,decide_eq_true_eq,List.all_eq_true] at this;have:=this.1.1.1;omega
theorem zu9 {ee:Bool}(b bd t:Nat)(z:RpM)(D:DiskM)(x:ActM)(y:ActZ)(R:Rep t D z)(ht:t≤90000)(hxs:x.s.length≤9223372036854775807)(hxb:x.b≤9223372036854775807)(F:List HProp):Ct Tryz.prog 30 [ptr b 0, .agg (zcv x y).toArray] ([qG ee,rpl b bd z,dsk 140 142 bd (D)]++F) (fun v L'=>∃n s e D2 z2,wT D z x n s e D2 z2∧v= .tuple #[I n,Str s,yK e]∧L'=rpl b bd z2::dsk 140 142 bd (D2)::qG ee::F):=by
  show Ct Tryz.prog 30 [ptr b 0, .agg (zcv x y).toArray] (qG ee::rpl b bd z::dsk 140 142 bd (D)::F) _;refine Ct.of func30 rR 20 ntmps30 (by simp) fun w0=>?_;refine gS ?_;refine g_l (wR (zcv x y).toArray rR rR) rR ?_;rintro _ _ ⟨b3,rfl,rfl⟩;refine gA rR (gA rR (gA rR (qb (gS (gM rR (g_v (qI (vs:=zcv x y) isAgg58 sizeOf58 rR rR qR) rR ?_))))));refine g_l (qi (Pre:=[qG ee,rpl b bd z,dsk 140 142 bd (D)]) call62 rR (zqr b bd t z D x y R ht hxs hxb)) rR ?_;rintro _ _ ⟨n,s,e,D2,z2,hd,rfl,rfl⟩;refine gM rR (g_v (qd (v:=I n) rR rR) rR (g_v (qd (v:=Str s) rR rR) rR (g_v (qd (v:=yK e) rR rR) rR (gA rR (gA rR (gA rR (qb (gS (gM rR (gM rR (gM rR (gA rR (gA rR (gA rR (qb ?_)))))))))))))));exact ql (rpl b bd z2::dsk 140 142 bd (D2)::qG ee::F) rfl ⟨n,s,e,D2,z2,hd,rfl,rfl⟩
def zwN:Int→List Area→Int
  | e,[]=>e
  | _,a::l=>zwN (a.fr+a.many) l
theorem zsO (e:Int)(l:List Area)(x:Area):zwN e (l++ [x])=x.fr+x.many:=by
  induction l generalizing e with
  | nil=>rfl
  | cons a l ih=>exact ih _
theorem zjT (e:Int)(l:List Area)(x:Area):ztC e (l++ [x])=0 ↔ ztC e l=0∧(0≤x.fr∧1≤x.many∧x.fr+x.many≤16)∧zwN e l<x.fr:=by
  induction l generalizing e with
  | nil=>
    simp only[List.nil_append,ztC,zwN,true_and];split
    · constructor
      · intro h;omega
      · intro h;omega
    · split
      · constructor
        · intro h;omega
        · intro h;omega
      · constructor
        · intro h;omega
        · intro h;rfl
  | cons a l ih=>
    simp only[List.cons_append,ztC,zwN];split
    · constructor
      · intro h;omega
      · intro h;omega
    · split
      · constructor
        · intro h;omega
        · intro h;omega
      · exact ih _
theorem zpJ {l:List Area}(h:0<l.length):∃r,l=r++ [zd6 l]:=by
  refine ⟨l.dropLast,?_⟩;have hne:l≠ []:=(by intro e;subst e;simp at h);have:zd6 l=l.getLast hne:=by
    unfold zd6;rw[List.getD_eq_getElem?_getD,List.getElem?_eq_getElem (by omega),List.getLast_eq_getElem]
    rfl
  rw[this,List.dropLast_concat_getLast]
theorem zgU (m:Nat→Bool):∀k,k≤16→ztC (-1) (zbo m k)=0∧∀p:Nat,mk (zbo m k) p=(m p && decide (p<k))
  | 0,_=>⟨rfl,fun p=>by simp[zbo,mk]⟩
  | k+1,hk=>by
    obtain ⟨h1,h2⟩:=zgU m k (by omega);obtain ⟨h3,h4⟩:=zgh m k;simp only[zbo,zmz];generalize zbo m k=l at*;by_cases hm:m k=true
    · rw[if_pos hm];by_cases hc:0<l.length∧(zd6 l).fr+(zd6 l).many=k
      · rw[if_pos hc];obtain ⟨r,hr⟩:=zpJ hc.1;generalize zd6 l=x at*;subst hr;rw[zjT] at h1;have e:(r++ [x]).set ((r++ [x]).length - 1) ⟨x.fr,x.many+1⟩=r++ [⟨x.fr,x.many+1⟩]:=(by simp[List.set_append]);rw[e];refine ⟨(zjT _ _ _).2 ⟨h1.1,by simp only;omega,h1.2.2⟩,fun p=>?_⟩;have hp:=h2 p;simp only[mk,List.any_append,List.any_cons,List.any_nil,Bool.or_false] at hp ⊢;by_cases hpk:p=k
        · subst hpk;have:decide (x.fr≤(p:Int)∧(p:Int)<x.fr+(x.many+1))=true:=decide_eq_true (by omega);simp[this,hm]
        · have e1:decide (x.fr≤(p:Int)∧(p:Int)<x.fr+(x.many+1))=decide (x.fr≤(p:Int)∧(p:Int)<x.fr+x.many):=decide_eq_decide.2 (by omega);have e2:decide (p<k+1)=decide (p<k):=decide_eq_decide.2 (by omega);rw[e1,e2,hp]
      · rw[if_neg hc];have hend:zwN (-1) l<k:=by
          by_cases h0:0<l.length
          · obtain ⟨r,hr⟩:=zpJ h0;have hx:=h4 (zd6 l) (List.mem_of_getElem? (zdQ h0));rw[hr,zsO];omega
          · have:l=[]:=List.length_eq_zero_iff.1 (by omega);subst this;show (-1:Int)<k;omega
        refine ⟨(zjT _ _ _).2 ⟨h1,by simp only;omega,hend⟩,fun p=>?_⟩;have hp:=h2 p;simp only[mk,List.any_append,List.any_cons,List.any_nil,Bool.or_false] at hp ⊢;rw[hp];by_cases hpk:p=k
        · subst hpk;simp[hm];omega
        · have e1:decide ((k:Int)≤(p:Int)∧(p:Int)<(k:Int)+1)=false:=decide_eq_false (by omega);have e2:decide (p<k+1)=decide (p<k):=decide_eq_decide.2 (by omega);rw[e1,e2,Bool.or_false]
    · rw[if_neg hm];refine ⟨h1,fun p=>?_⟩;rw[h2];by_cases hpk:p=k
      · subst hpk;simp[hm]
      · have e2:decide (p<k+1)=decide (p<k):=decide_eq_decide.2 (by omega);rw[e2]
theorem zwn (m:Nat→Bool):ztC (-1) (ofM m)=0:=(zgU m 16 (Nat.le_refl _)).1
theorem zt7 (m:Nat→Bool){p:Nat}(h:p<16):mk (ofM m) p=m p:=by
  rw[(zgU m 16 (Nat.le_refl _)).2 p];simp[h]
theorem zmA (m:Nat→Bool):okV (ofM m):=(zuk (zwn m)).1
theorem zo9 {m n:Nat→Bool}(h:∀p,p<16→m p=n p):ofM m=ofM n:=zeD h 16 (Nat.le_refl _)
theorem zuB {l:List Area}{n:Int}(h0:0≤n):ztT l n=mk l n.toNat:=by
  simp only[ztT,mk,show (n.toNat:Int)=n by omega]
structure SnapM where
  id:Int
  time:Int
  size:Int
  blocks:Nat→Bytes
  dirty:Nat→Bool
structure VdM where
  size:Int
  blocks:Nat→Bytes
  dirty:Nat→Bool
  time:Int
  next:Int
  snaps:List SnapM
abbrev Loc:=Option Addr×Nat
def s16 (B:Nat→Bytes):List Value:=[Str (B 0),Str (B 1),Str (B 2),Str (B 3),Str (B 4),Str (B 5),Str (B 6),Str (B 7),Str (B 8),Str (B 9),Str (B 10),Str (B 11),Str (B 12),Str (B 13),Str (B 14),Str (B 15)]
def m16 (m:Nat→Bool):List Value:=[Bo (m 0),Bo (m 1),Bo (m 2),Bo (m 3),Bo (m 4),Bo (m 5),Bo (m 6),Bo (m 7),Bo (m 8),Bo (m 9),Bo (m 10),Bo (m 11),Bo (m 12),Bo (m 13),Bo (m 14),Bo (m 15)]
def vdC (sz:Int)(B:Nat→Bytes)(sd:Value)(tm nx:Int)(ss:Value):Array Value:=#[I sz,Str (B 0),Str (B 1),Str (B 2),Str (B 3),Str (B 4),Str (B 5),Str (B 6),Str (B 7),Str (B 8),Str (B 9),Str (B 10),Str (B 11),Str (B 12),Str (B 13),Str (B 14),Str (B 15),sd,I tm,I nx,ss]
def zsk (x:SnapM)(sd:Value):List Value:=let B:=x.blocks; [I x.id,I x.time,I x.size,Str (B 0),Str (B 1),Str (B 2),Str (B 3),Str (B 4),Str (B 5),Str (B 6),Str (B 7),Str (B 8),Str (B 9),Str (B 10),Str (B 11),Str (B 12),Str (B 13),Str (B 14),Str (B 15),sd]
def zn1 (x:SnapM×Loc):List Value:=zsk x.1 (sl x.2.1 (ofM x.1.dirty).length x.2.2)
def wU (l:List (SnapM×Loc)):List (List Value):=l.map zn1
theorem zfa (l:List (SnapM×Loc)):(wU l).length=l.length:=by simp[wU]
theorem zjk {l:List (SnapM×Loc)}{k:Nat}{x:SnapM×Loc}(h:l[k]? =some x):(wU l)[k]? =some (zn1 x):=by simp[wU,h]
theorem zmT (x:SnapM×Loc):(zn1 x).length=20:=rfl
def upd (B:Nat→Bytes)(j:Nat)(x:Bytes):Nat→Bytes:=fun i=>if i=j then x else B i
theorem zk3 (sz tm nx:Int)(B:Nat→Bytes)(sd sd' ss:Value):(vdC sz B sd tm nx ss).setIfInBounds 17 sd'=vdC sz B sd' tm nx ss:=rfl
theorem ztE (sz x tm nx:Int)(B:Nat→Bytes)(sd ss:Value):(vdC sz B sd tm nx ss).setIfInBounds 19 (I x)=vdC sz B sd tm x ss:=rfl
theorem zrM (sz tm nx:Int)(B:Nat→Bytes)(sd ss ss':Value):(vdC sz B sd tm nx ss).setIfInBounds 20 ss'=vdC sz B sd tm nx ss':=rfl
theorem zhK (sz tm nx:Int)(B:Nat→Bytes)(sd ss:Value):(vdC sz B sd tm nx ss).size=21:=rfl
theorem zwb (sz tm nx:Int)(B:Nat→Bytes)(sd ss:Value)(x:Bytes):∀j,j<16→(vdC sz B sd tm nx ss).setIfInBounds (0+1+j*1) (Str x)=vdC sz (upd B j x) sd tm nx ss
  :=fun j h=>match j,h with
    | 0,_=>rfl
    | 1,_=>rfl
    | 2,_=>rfl
    | 3,_=>rfl
    | 4,_=>rfl
    | 5,_=>rfl
    | 6,_=>rfl
    | 7,_=>rfl
    | 8,_=>rfl
    | 9,_=>rfl
    | 10,_=>rfl
    | 11,_=>rfl
    | 12,_=>rfl
    | 13,_=>rfl
    | 14,_=>rfl
    | 15,_=>rfl
    | k+16,h=>absurd h (by omega)
def zek (l:List (SnapM×Loc)):HProp:=fun m=>∀x∈l,roL 2 x.2.1 (qM (ofM x.1.dirty)) m
theorem zmJ {sz:Nat}{s:Option Addr}{rows:List (List Value)}{m n:Res}(h:roL sz s rows m)(hs:Res.sub m n):roL sz s rows n:=by
  rcases h with h | ⟨b,off,o,h1,h2,h3⟩
  · exact .inl h
  · exact .inr ⟨b,off,o,h1,hs b _ h2,h3⟩
def vdP (b:Nat)(D:VdM)(z:Loc×Loc×List (SnapM×Loc)):List HProp:=
  [pt b (.cells (vdC D.size D.blocks (sl z.1.1 (ofM D.dirty).length z.1.2) D.time D.next (sl z.2.1.1 z.2.2.length z.2.1.2)) 122 (0,0)),roL 2 z.1.1 (qM (ofM D.dirty)),owL 135 20 z.2.1.1 z.2.1.2 (wU z.2.2),zek z.2.2,zcZ (z.2.2.map Prod.fst=D.snaps)]
def vdk (b:Nat)(D:VdM):HProp:=hx (vdP b D)
section
variable {c:Cx}{E:Env}{L:List HProp}{K:List KI}
theorem zdE {F:List HProp}(b:Nat)(D:VdM)[R:Rem L (vdk b D) F](k:∀sd cd ss cs gl,gl.map Prod.fst=D.snaps→G c K E (pt b (.cells (vdC D.size D.blocks (sl sd (ofM D.dirty).length cd) D.time D.next (sl ss gl.length cs)) 122 (0,0))::roL 2 sd (qM (ofM D.dirty))::owL 135 20 ss cs (wU gl)::zek gl::F)):G c K E L:=fun a w hE hS=>by
  obtain ⟨z,hz⟩:=(R.sat hS).hx;obtain ⟨⟨sd,cd⟩,⟨ss,cs⟩,gl⟩:=z;have h2:Sat c.w0 w (pt b (.cells (vdC D.size D.blocks (sl sd (ofM D.dirty).length cd) D.time D.next (sl ss gl.length cs)) 122 (0,0))::roL 2 sd (qM (ofM D.dirty))::owL 135 20 ss cs (wU gl)::zek gl::zcZ (gl.map Prod.fst=D.snaps)::F):=hz;have r:Rem (pt b (.cells (vdC D.size D.blocks (sl sd (ofM D.dirty).length cd) D.time D.next (sl ss gl.length cs)) 122 (0,0))::roL 2 sd (qM (ofM D.dirty))::owL 135 20 ss cs (wU gl)::zek gl::zcZ (gl.map Prod.fst=D.snaps)::F) (zcZ (gl.map Prod.fst=D.snaps)) (pt b (.cells (vdC D.size D.blocks (sl sd (ofM D.dirty).length cd) D.time D.next (sl ss gl.length cs)) 122 (0,0))::roL 2 sd (qM (ofM D.dirty))::owL 135 20 ss cs (wU gl)::zek gl::F):=inferInstance;have h3:=r.sat h2;exact k _ _ _ _ _ h3.pure_.1 a w hE h3.pure_.2
theorem zax {F:List HProp}(C:Array Value)(rd rs:List (List Value))(sd:Option Addr)(cd:Nat)(ss:Option Addr)(cs:Nat)(gl:List (SnapM×Loc))(b:Nat)(D:VdM)(hC:C=vdC D.size D.blocks (sl sd (ofM D.dirty).length cd) D.time D.next (sl ss gl.length cs))(hrd:rd=qM (ofM D.dirty))(hrs:rs=wU gl)(hgl:gl.map Prod.fst=D.snaps)
    [S:Split L [pt b (.cells C 122 (0,0)),roL 2 sd rd,owL 135 20 ss cs rs,zek gl] F] (k:G c K E (vdk b D::F)):G c K E L:=fun a w hE hS=>by
  subst hC hrd hrs;refine k a w hE ?_;have h1:Sat c.w0 w ([pt b (.cells (vdC D.size D.blocks (sl sd (ofM D.dirty).length cd) D.time D.next (sl ss gl.length cs)) 122 (0,0)),roL 2 sd (qM (ofM D.dirty)),owL 135 20 ss cs (wU gl),zek gl]++F):=S.sat hS;have h2:=Sat.pure_mk hgl h1;have sp:Split (zcZ (gl.map Prod.fst=D.snaps)::pt b (.cells (vdC D.size D.blocks (sl sd (ofM D.dirty).length cd) D.time D.next (sl ss gl.length cs)) 122 (0,0))::roL 2 sd (qM (ofM D.dirty))::owL 135 20 ss cs (wU gl)::zek gl::F) [pt b (.cells (vdC D.size D.blocks (sl sd (ofM D.dirty).length cd) D.time D.next (sl ss gl.length cs)) 122 (0,0)),roL 2 sd (qM (ofM D.dirty)),owL 135 20 ss cs (wU gl),zek gl,zcZ (gl.map Prod.fst=D.snaps)] F:=inferInstance;exact Sat.hx_mk (A:=vdP b D) ((sd,cd),(ss,cs),gl) (sp.sat h2)
theorem zsF (k:G c K E (zek []::L)):G c K E L:=fun a w hE hS=>k a w hE ((Sat.pure_mk (φ:=True) trivial hS).weak fun m _=>fun x hx=>nomatch hx)
theorem zof {F F2:List HProp}(gl gl':List (SnapM×Loc))(x:SnapM×Loc)(h:∀y∈gl',y∈gl∨y=x)[R:Rem L (zek gl) F][R2:Rem F (roL 2 x.2.1 (qM (ofM x.1.dirty))) F2](k:G c K E (zek gl'::F2)):G c K E L:=fun a w hE hS=>by
  have h1:=R.sat hS;have r2:Rem (zek gl::F) (roL 2 x.2.1 (qM (ofM x.1.dirty))) (zek gl::F2):=inferInstance;have h2:Sat c.w0 w (roL 2 x.2.1 (qM (ofM x.1.dirty))::zek gl::F2):=r2.sat h1;refine k a w hE (h2.two.weak fun m hm=>?_);obtain ⟨m1,m2,hd,s1,s2,ha,hb⟩:=hm;intro y hy;rcases h y hy with hy | rfl
  · exact zmJ (hb y hy) s2
  · exact zmJ ha s1
end
def zih (n:Int):VdM:=⟨n,fun _=>[],fun _=>false,0,1,[]⟩
def zvr (ok:Prop)(Ev:Int→Value)(A:Nat→HProp)(F:List HProp):Value→List HProp→Prop:=fun v L'=>(¬ok∧v= .tuple #[.pointer none,Ev 1]∧L'=F)∨(ok∧∃b,v= .tuple #[ptr b 0,Ev 0]∧L'=A b::F)
section
variable {c:Cx}{E:Env}{L:List HProp}{K:List KI}
theorem zol {Ev:Int→Value}{ok:Prop}{A:Nat→HProp}{F:List HProp}{vs:List Value}(hR:c.R=zvr ok Ev A F)(hr:zbn E c.fn.results.toList=some vs)(hn:¬ok)(hv:tup vs= .tuple #[.pointer none,Ev 1])[S:Sub L F](hds:c.n.ds=[]:=by rfl):G c (.code .ret::K) E L:=
  fun a w hE hS=>wp_ret (yb (qw (hds:=hds) hr hE (S.sat hS) (by rw[hR];exact .inl ⟨hn,hv,rfl⟩)))
theorem zoC {Ev:Int→Value}{ok:Prop}{A:Nat→HProp}{F:List HProp}{vs:List Value}(b:Nat)(hR:c.R=zvr ok Ev A F)(hr:zbn E c.fn.results.toList=some vs)(hn:ok)(hv:tup vs= .tuple #[ptr b 0,Ev 0])[S:Sub L (A b::F)](hds:c.n.ds=[]:=by rfl):G c (.code .ret::K) E L:=
  fun a w hE hS=>wp_ret (yb (qw (hds:=hds) hr hE (S.sat hS) (by rw[hR];exact .inr ⟨hn,b,hv,rfl⟩)))
end
def zoy (l:List SnapM)(id:Int):Nat:=l.findIdx fun s=>decide (s.id=id)
def zc4 (l:List SnapM)(id:Int):Int:=if zoy l id<l.length then (zoy l id:Int) else -1
theorem zq4 {l:List SnapM}{id:Int}{k:Nat}{s:SnapM}(hno:∀j,j<k→∀t,l[j]? =some t→t.id≠id)(hs:l[k]? =some s)(he:s.id=id):zc4 l id=k:=by
  obtain ⟨hk,hk2⟩:=List.getElem?_eq_some_iff.1 hs;have e:zoy l id=k:=by
    unfold zoy;rw[List.findIdx_eq hk];refine ⟨by rw[hk2];simpa using he,fun j hj=>?_⟩;simpa using hno j hj _ (List.getElem?_eq_getElem (by omega))
  unfold zc4;rw[e,if_pos hk]
theorem zoB {l:List SnapM}{id:Int}(hno:∀j,j<l.length→∀t,l[j]? =some t→t.id≠id):zc4 l id= -1:=by
  unfold zc4;rw[if_neg];intro h;have:=List.findIdx_getElem (w:=h);simp at this;exact hno _ h _ (List.getElem?_eq_getElem h) this
theorem zkp {l:List SnapM}{id:Int}(h:¬zc4 l id<0):∃i s,zc4 l id=((i:Nat):Int)∧l[i]? =some s∧s.id=id∧i<l.length:=by
  unfold zc4 at h ⊢;split at h
  · rename_i hl;refine ⟨zoy l id,l[zoy l id],by rw[if_pos hl],List.getElem?_eq_getElem hl,?_,hl⟩;have:=List.findIdx_getElem (w:=hl);simp only[decide_eq_true_eq] at this;exact this
  · omega
theorem zyg {gl:List (SnapM×Loc)}{l:List SnapM}(h:gl.map Prod.fst=l){i:Nat}{s:SnapM}(hs:l[i]? =some s):∃q,gl[i]? =some (s,q):=by
  subst h;simp only[List.getElem?_map,Option.map_eq_some_iff] at hs;obtain ⟨⟨y,q⟩,h1,rfl⟩:=hs;exact ⟨q,h1⟩
theorem zm2 {gl:List (SnapM×Loc)}{l:List SnapM}(h:gl.map Prod.fst=l):gl.length=l.length:=by subst h;simp
def zml (m:Nat→Bool)(fr mn:Int):Nat→Bool:=fun p=>m p || decide (fr≤(p:Int)∧(p:Int)<fr+mn)
theorem zrY (m:Nat→Bool)(fr mn:Int):ofM (orM (mk (ofM m)) (mk [⟨fr,mn⟩]))=ofM (zml m fr mn):=zo9 fun p hp=>by
  unfold orM zml;rw[zt7 m hp];simp[mk]
def markD (D:VdM)(fr mn:Int):VdM:=if 0<mn then ⟨D.size,D.blocks,zml D.dirty fr mn,D.time,D.next,D.snaps⟩ else D
def zur (s:Bytes):Int:=if 6<s.length then 2 else 0
def wrE (D:VdM)(n:Int)(s:Bytes):Int:=if n<0∨D.size≤n then 1 else zur s
def wrD (D:VdM)(n:Int)(s:Bytes):VdM:=if wrE D n s=0 then ⟨D.size,upd D.blocks n.toNat s,zml D.dirty n 1,D.time,D.next,D.snaps⟩ else D
theorem zk7 (n:Int)(F:List HProp):Ct Tryz.prog 20 [I n] ([]++F) (zvr (1≤n∧n≤16) yK (fun b=>vdk b (zih n)) F):=by
  show Ct Tryz.prog 20 [I n] (F) _;refine Ct.of func20 rR 14 ntmps20 (by simp) fun w0=>?_;refine gS (gA rR (gA rR (qb (qf (gS (gM rR (g_v (qJ rR rR) rR (gM rR (qK rR rR (fun hg=>qp rR) rR rR (qK rR rR (fun hg=>yA rR rR) rR rR (g_v (zaH rR rR) rR (qb ?_))))))))))));refine qg rR (fun h9=>?_) (fun h9=>?_)
  · simp at h9;refine gS (g_v (qB underlying108 rR rR) rR (gA rR (gA rR (qb ?_))));exact zol rfl rfl (by omega) rfl
  · simp at h9;refine qh (gS (gM rR (g_v (qP rR (zoG _ rR _ rR)) rR ?_)));refine g_l (wR (vdC n (fun _=>[]) (sl none 0 0) 0 1 (sl none 0 0)) rR rR) rR ?_;rintro _ _ ⟨b13,rfl,rfl⟩;refine gA rR (gA rR (qb ?_));refine zlG 2 (qM (ofM fun _=>false)) rR ?_;refine yG 135 20 (wU []) rR ?_;refine zsF ?_;refine zax (vdC n (fun _=>[]) (sl none 0 0) 0 1 (sl none 0 0)) (qM (ofM fun _=>false)) (wU []) none 0 none 0 ([]) b13 ((zih n)) rR rR rR rR ?_;exact zoC b13 rfl rfl (by omega) rfl
-- (*counterfoil/vdisk.Disk).Size is not in this seat
theorem zh9 (s:Bytes)(F:List HProp):Ct Tryz.prog 66 [Str s] ([]++F) (R1 (yK (zur s)) F):=by
  show Ct Tryz.prog 66 [Str s] (F) _;refine Ct.of func66 rR 7 ntmps66 (by simp) fun w0=>?_;refine gS (gA rR (qb (qf (gS (gM rR (g_v (wi underlying9 rR) rR (g_v (yA rR rR) rR (qb ?_))))))));refine qg rR (fun h5=>?_) (fun h5=>?_)
  · simp at h5;refine gS (g_v (qB underlying108 rR rR) rR (gA rR (qb ?_)));refine qn rR rR ?_;show _=yK _;rw[show zur s=2 by unfold zur;rw[if_pos (by omega)]]
    rfl
  · simp at h5;refine qh (gS (gA rR (qb ?_)));refine qn rR rR ?_;show _=yK _;rw[show zur s=0 by unfold zur;rw[if_neg (by omega)]]
    rfl
theorem zh7 (x:SnapM×Loc)(q:Nat)(id:Int)(F:List HProp):Ct Tryz.prog 96 [.agg (zn1 x).toArray,ptr q 0] ([pt q (.cells #[I id] 3 (0,0))]++F) (R1 (Bo (decide (x.1.id=id))) (pt q (.cells #[I id] 3 (0,0))::F)):=by
  show Ct Tryz.prog 96 [.agg (zn1 x).toArray,ptr q 0] (pt q (.cells #[I id] 3 (0,0))::F) _;refine Ct.of func96 rR 8 ntmps96 (by simp) fun w0=>?_;refine gS ?_;refine g_l (wR (zn1 x).toArray rR rR) rR ?_;rintro _ _ ⟨b2,rfl,rfl⟩;refine gA rR (qb (gS (g_v (qa 0 underlying135 rR rR sizeOf3 (by decide) rR) rR (g_v (qe (v:=I x.1.id) isAgg3 rR rR) rR (g_v (qe (v:=I id) isAgg3 rR rR) rR (g_v (wh rR rR) rR (gA rR (qb ?_))))))));refine qn rR rR ?_;exact rfl
theorem zfl (gl:List (SnapM×Loc))(ss:Option Addr)(cs q:Nat)(id:Int)(hgl:gl.length≤1000000)(F:List HProp):Ct Tryz.prog 95 [sl ss gl.length cs, .func (.func 96) #[] #[ptr q 0]] ([owL 135 20 ss cs (wU gl),pt q (.cells #[I id] 3 (0,0))]++F) (R1 (I (zc4 (gl.map Prod.fst) id)) (owL 135 20 ss cs (wU gl)::pt q (.cells #[I id] 3 (0,0))::F)):=by
  show Ct Tryz.prog 95 [sl ss gl.length cs, .func (.func 96) #[] #[ptr q 0]] (owL 135 20 ss cs (wU gl)::pt q (.cells #[I id] 3 (0,0))::F) _;refine Ct.of func95 rR 19 ntmps95 (by simp) fun w0=>?_;refine gS (gA rR (qb (qf (gS (gM rR (g_v (yo underlying120 rR) rR (gM rR (qb (qj ?_)))))))));refine qE (α:=Nat) (fun k=>k≤gl.length∧∀j,j<k→∀t,(gl.map Prod.fst)[j]? =some t→t.id≠id) (fun k=>U [(0,sl ss gl.length cs),(1, .func (.func 96) #[] #[ptr q 0]),(7,I gl.length),(8,I k)]) (fun _=>owL 135 20 ss cs (wU gl)::pt q (.cells #[I id] 3 (0,0))::F) (fun k=>gl.length - k) 0 ⟨by simp,fun j hj=>absurd hj (by omega)⟩ [0,1,7,8] rfl rR ?_;rintro k ⟨hk,hno⟩;refine gS (g_v (qJ rR rR) rR (qb (qf ?_)));refine qg rR (fun h9=>?_) (fun h9=>?_)
  · simp at h9;have hkn:k<gl.length:=(by omega);obtain ⟨x,hx⟩:∃x,gl[k]? =some x:=⟨_,List.getElem?_eq_getElem hkn⟩;have hkr:k<(wU gl).length:=(by rw[zfa];exact hkn);have hx2:(gl.map Prod.fst)[k]? =some x.1:=(by simp[hx]);refine qh (qf (qj (gS (gM rR (gA rR (qb (gS (gM rR (gM rR (gM rR (g_v (qA k underlying120 sizeOf135 rR rR rR hkn hkr) rR (g_v (ym (row:=zn1 x) isAgg135 sizeOf135 rR (zjk hx) rR) rR ?_))))))))))));refine g_l (zat (fi:=[]) (cap:=[ptr q 0]) (Pre:=[pt q (.cells #[I id] 3 (0,0))]) call96 rR rR (zh7 x q id)) rR ?_;rintro _ _ ⟨rfl,rfl⟩;refine qb ?_;refine qg rR (fun h16=>?_) (fun h16=>?_)
    · simp at h16;refine gS (gM rR (gA rR (qb ?_)));refine qn rR rR ?_;show I _=I _;rw[zq4 hno hx2 h16]
    · simp at h16;refine qh (qF (qo (g_v (qu rR rR (w64 (by omega))) rR (gM rR (qb ?_)))));exact qm (k+1) ⟨by omega,fun j hj t ht=>by
          rcases Nat.lt_or_ge j k with h | h
          · exact hno j h t ht
          · obtain rfl:j=k:=(by omega);rw[hx2] at ht;injection ht with ht;rw[←ht];exact h16⟩ (by omega) [0,1,7,8] rfl rfl
  · simp at h9;obtain rfl:k=gl.length:=(by omega);refine qz rR ?_;refine gS (gA rR (qb ?_));refine qn rR rR ?_;show I _=I _;rw[zoB (by simpa using hno)]
theorem zeN (b:Nat)(D:VdM)(id:Int)(hs:D.snaps.length≤1000000)(F:List HProp):Ct Tryz.prog 60 [ptr b 0,I id] ([vdk b (D)]++F) (R1 (I (zc4 D.snaps id)) (vdk b (D)::F)):=by
  show Ct Tryz.prog 60 [ptr b 0,I id] (vdk b (D)::F) _;refine Ct.of func60 rR 11 ntmps60 (by simp) fun w0=>?_;refine zdE b (D) ?_;intro sd cd ss cs gl hgl;have hln:=zm2 hgl;refine gS ?_;refine g_l (wR #[I id] rfl rR) rR ?_;rintro _ _ ⟨b3,rfl,rfl⟩;refine gA rR (qb (gS (gM rR (g_v (qc rR) rR (g_v (qa 20 underlying122 rR rR sizeOf120 (by decide) rR) rR (g_v (qe (v:=sl ss gl.length cs) isAgg120 rR rR) rR (g_v (wQ rR rR) rR ?_)))))));refine g_l (qi (Pre:=[owL 135 20 ss cs (wU gl),pt b3 (.cells #[I id] 3 (0,0))]) call95 rR (zfl gl ss cs b3 id (by omega))) rR ?_;rintro _ _ ⟨rfl,rfl⟩;rw[hgl];refine gA rR (qb ?_);refine zax (vdC ((D).size) ((D).blocks) (sl sd (ofM (D).dirty).length cd) ((D).time) ((D).next) (sl ss gl.length cs)) (qM (ofM (D).dirty)) (wU gl) sd cd ss cs (gl) b ((D)) rR rR rR hgl ?_;exact qn rfl rfl rfl
theorem zjw (b:Nat)(D:VdM)(fr mn:Int)(h0:0≤fr)(h1:fr+mn≤16)(F:List HProp):Ct Tryz.prog 67 [ptr b 0,I fr,I mn] ([vdk b (D)]++F) (R1 (.tuple #[]) (vdk b (markD D fr mn)::F)):=by
  show Ct Tryz.prog 67 [ptr b 0,I fr,I mn] (vdk b (D)::F) _;refine Ct.of func67 rR 20 ntmps67 (by simp) fun w0=>?_;refine zdE b (D) ?_;intro sd cd ss cs gl hgl;refine gS (gM rR (g_v (yA rR rR) rR (qb ?_)));refine qg rR (fun h7=>?_) (fun h7=>?_)
  · simp at h7;refine qo (gM rR (gM rR (g_v (qc rR) rR (g_v (qa 17 underlying122 rR rR sizeOf119 (by decide) rR) rR (g_v (qe (v:=sl sd (ofM D.dirty).length cd) isAgg119 rR rR) rR (gM rR (gM rR (g_v (qP rR (ziu _ rR _ rR)) rR ?_))))))));refine g_l (qs (qM [⟨fr,mn⟩]) underlying119 sizeOf128 zeroValue128 rR rR rR (by simp[qM,zvD]) (by decide) (by decide)) rR ?_;rintro _ _ ⟨b16,rfl,rfl⟩;refine yB (some ⟨b16,0,none⟩) ?_;refine g_l (qi (Pre:=[roL 2 sd (qM (ofM D.dirty)),roL 2 (some ⟨b16,0,none⟩) (qM [⟨fr,mn⟩])]) call90 rR (zjN (ofM D.dirty) [⟨fr,mn⟩] sd (some ⟨b16,0,none⟩) cd 1 (zlJ _) (by simp) (zmA _) (by simp[okV];omega))) rR ?_;rintro _ _ ⟨s17,c17,rfl,rfl⟩;rw[zrY];refine yB s17 ?_;refine g_v (qc rR) rR (g_v (qa 17 underlying122 rR rR sizeOf119 (by decide) rR) rR ?_);refine yp (qH (vdC ((D).size) ((D).blocks) (sl s17 (ofM (zml D.dirty fr mn)).length c17) ((D).time) ((D).next) (sl ss gl.length cs)) sizeOf119 rR rR rR (by rw[zhK];decide) (zk3 _ _ _ _ _ _ _)) ?_;rintro _ _ rfl;refine qb ?_;refine zax (vdC ((D).size) ((D).blocks) (sl s17 (ofM (zml D.dirty fr mn)).length c17) ((D).time) ((D).next) (sl ss gl.length cs)) (qM (ofM (zml D.dirty fr mn))) (wU gl) s17 c17 ss cs (gl) b ((markD D fr mn)) (by unfold markD;rw[if_pos h7]) (by unfold markD;rw[if_pos h7]) rR (by unfold markD;rw[if_pos h7];exact hgl) ?_;exact zck rfl rfl rfl
  · simp at h7;refine qh ?_;refine zax (vdC ((D).size) ((D).blocks) (sl sd (ofM (D).dirty).length cd) ((D).time) ((D).next) (sl ss gl.length cs)) (qM (ofM (D).dirty)) (wU gl) sd cd ss cs (gl) b ((D)) rR rR rR hgl ?_;rw[show vdk b D=vdk b (markD D fr mn) by unfold markD;rw[if_neg (by omega)]];exact zck rfl rfl rfl
theorem zh4 (b:Nat)(D:VdM)(n:Int)(s:Bytes)(hz:D.size≤16)(F:List HProp):Ct Tryz.prog 35 [ptr b 0,I n,Str s] ([vdk b (D)]++F) (R1 (yK (wrE D n s)) (vdk b (wrD D n s)::F)):=by
  show Ct Tryz.prog 35 [ptr b 0,I n,Str s] (vdk b (D)::F) _;refine Ct.of func35 rR 33 ntmps35 (by simp) fun w0=>?_;refine zdE b (D) ?_;intro sd cd ss cs gl hgl;refine gS (gA rR (qb (qf (gS (gM rR (g_v (qJ rR rR) rR (gM rR (qK rR rR (fun hg=>qp rR) rR rR (qK rR rR (fun hg=>qp rR) rR rR (qK rR rR (fun hg=>qc rR) rR rR (qK rR rR (fun hg=>qa 0 underlying122 rR rR sizeOf3 (by decide) rR) rR rR (qK rR rR (fun hg=>qe (v:=I D.size) isAgg3 rR rR) rR rR (qK rR rR (fun hg=>zig rR rR) rR rR (g_v (zaH rR rR) rR (qb ?_)))))))))))))));refine qg rR (fun h17=>?_) (fun h17=>?_)
  · simp at h17;have hw:wrE D n s=1:=(by unfold wrE;rw[if_pos (by omega)]);refine gS (g_v (qB underlying108 rR rR) rR (gA rR (qb ?_)));refine zax (vdC ((D).size) ((D).blocks) (sl sd (ofM (D).dirty).length cd) ((D).time) ((D).next) (sl ss gl.length cs)) (qM (ofM (D).dirty)) (wU gl) sd cd ss cs (gl) b ((D)) rR rR rR hgl ?_;rw[show vdk b D=vdk b (wrD D n s) by unfold wrD;rw[if_neg (by omega)]];exact qn rfl rfl (by rw[hw];rfl)
  · simp at h17;have hw:wrE D n s=zur s:=(by unfold wrE;rw[if_neg (by omega)]);refine qh (gS (gM rR ?_));refine g_l (qi (Pre:=[]) call66 rR (zh9 s)) rR ?_;rintro _ _ ⟨rfl,rfl⟩;refine gA rR (qb (qf (gS (gM rR (g_v (zab underlying37 rR) rR (qb ?_))))));refine qg rR (fun h22=>?_) (fun h22=>?_)
    · simp at h22;refine gS (gM rR (gM rR (gM rR (g_v (qc rR) rR (g_v (qa 1 underlying122 rR rR sizeOf41 (by decide) rR) rR (g_v (zcx n.toNat underlying41 sizeOf9 rR rR (by omega) (by omega)) rR ?_))))));refine yp (qH (vdC ((D).size) (upd D.blocks n.toNat s) (sl sd (ofM (D).dirty).length cd) ((D).time) ((D).next) (sl ss gl.length cs)) sizeOf9 rR rR rR (by rw[zhK];omega) (zwb _ _ _ _ _ _ _ _ (by omega))) ?_;rintro _ _ rfl;refine qb ?_;refine zax (vdC ((D).size) (upd D.blocks n.toNat s) (sl sd (ofM (D).dirty).length cd) ((D).time) ((D).next) (sl ss gl.length cs)) (qM (ofM D.dirty)) (wU gl) sd cd ss cs (gl) b ((⟨D.size,upd D.blocks n.toNat s,D.dirty,D.time,D.next,D.snaps⟩)) rR rR rR hgl ?_;refine qo (gM rR (gM rR ?_));refine g_l (qi (Pre:=[vdk b (⟨D.size,upd D.blocks n.toNat s,D.dirty,D.time,D.next,D.snaps⟩)]) call67 rR (zjw b ⟨D.size,upd D.blocks n.toNat s,D.dirty,D.time,D.next,D.snaps⟩ n 1 (by omega) (by omega))) rR ?_;rintro _ _ ⟨rfl,rfl⟩;refine qb (gS (gM rR (gA rR (qb ?_))));rw[show markD ⟨D.size,upd D.blocks n.toNat s,D.dirty,D.time,D.next,D.snaps⟩ n 1=wrD D n s by unfold markD wrD;rw[if_pos (by decide),if_pos (by omega)]];exact qn rfl rfl (by rw[hw];rfl)
    · simp at h22;refine qh (gS (gM rR (gA rR (qb ?_))));refine zax (vdC ((D).size) ((D).blocks) (sl sd (ofM (D).dirty).length cd) ((D).time) ((D).next) (sl ss gl.length cs)) (qM (ofM (D).dirty)) (wU gl) sd cd ss cs (gl) b ((D)) rR rR rR hgl ?_;rw[show vdk b D=vdk b (wrD D n s) by unfold wrD;rw[if_neg (by omega)]];exact qn rfl rfl (by rw[hw];rfl)
def snE (D:VdM):Int:=if D.snaps.length=5∨999<D.next then 8 else 0
def snI (D:VdM):Int:=if snE D=0 then D.next else 0
def snD (D:VdM):VdM:=if snE D=0 then ⟨D.size,D.blocks,fun _=>false,D.time,D.next+1,D.snaps++ [⟨D.next,D.time,D.size,D.blocks,D.dirty⟩]⟩ else D
theorem ztr {T:TypeId}{f:Nat×Nat}(sz tm nx:Int)(B:Nat→Bytes)(sd ss:Value):∀k v,(s16 B)[k]? =some v→yl (.cells (vdC sz B sd tm nx ss) T f) (0+1+k)=some v
  :=fun k v h=>match k,h with
    | 0,h=>h
    | 1,h=>h
    | 2,h=>h
    | 3,h=>h
    | 4,h=>h
    | 5,h=>h
    | 6,h=>h
    | 7,h=>h
    | 8,h=>h
    | 9,h=>h
    | 10,h=>h
    | 11,h=>h
    | 12,h=>h
    | 13,h=>h
    | 14,h=>h
    | 15,h=>h
    | k+16,h=>by simp[s16] at h
theorem zve {T:TypeId}{f:Nat×Nat}(x:SnapM×Loc):∀j,j<16→yl (.cells (zn1 x).toArray T f) (0+3+j*1)=some (Str (x.1.blocks j))
  :=fun j h=>match j,h with
    | 0,_=>rfl
    | 1,_=>rfl
    | 2,_=>rfl
    | 3,_=>rfl
    | 4,_=>rfl
    | 5,_=>rfl
    | 6,_=>rfl
    | 7,_=>rfl
    | 8,_=>rfl
    | 9,_=>rfl
    | 10,_=>rfl
    | 11,_=>rfl
    | 12,_=>rfl
    | 13,_=>rfl
    | 14,_=>rfl
    | 15,_=>rfl
    | k+16,h=>absurd h (by omega)
theorem zwr (id tm sz:Int)(B:Nat→Bytes)(m:Nat→Bool)(sd:Value)(h:Go.Sl.one sd=true)(w:World):(Instr.build 135 #[(0,I id),(1,I tm),(2,I sz),(3, .agg (s16 B).toArray),(4,sd)]).run Tryz.prog w= .ok (.agg (zsk ⟨id,tm,sz,B,m⟩ sd).toArray) w:=by
  simp[Instr.build,zeroValue135,runUnderlying135,sizeOf3,sizeOf41,sizeOf119,Instr.fill,qV,sl,qS h,s16,zsk,qS (show Go.Sl.one (I id)=true from rfl),qS (show Go.Sl.one (I tm)=true from rfl),qS (show Go.Sl.one (I sz)=true from rfl)]
def zgW (D:VdM)(i:Nat):SnapM:=(D.snaps[i]?).getD ⟨0,0,0,fun _=>[],fun _=>false⟩
theorem zhP {D:VdM}{i:Nat}{s:SnapM}(h:D.snaps[i]? =some s):zgW D i=s:=by unfold zgW;rw[h];rfl
def rdS (D:VdM)(id n:Int):Bytes×Int×Int:=if zc4 D.snaps id<0 then ([],0,5) else if n<0∨(zgW D (zc4 D.snaps id).toNat).size≤n then ([],0,1) else ((zgW D (zc4 D.snaps id).toNat).blocks n.toNat,(zgW D (zc4 D.snaps id).toNat).size,0)
def szS (D:VdM)(id:Int):Int×Int:=if zc4 D.snaps id<0 then (0,5) else ((zgW D (zc4 D.snaps id).toNat).size,0)
theorem zjj (b:Nat)(D:VdM)(hs:D.snaps.length≤1000000)(hn: -9223372036854775808≤D.next)(F:List HProp):Ct Tryz.prog 36 [ptr b 0] ([vdk b (D)]++F) (R1 (.tuple #[I (snI D),yK (snE D)]) (vdk b (snD D)::F)):=by
  show Ct Tryz.prog 36 [ptr b 0] (vdk b (D)::F) _;refine Ct.of func36 rR 61 ntmps36 (by simp) fun w0=>?_;refine zdE b (D) ?_;intro sd cd ss cs gl hgl;have hln:=zm2 hgl;refine gS (gA rR (gA rR (qb (qf (gS (gM rR (g_v (qc rR) rR (g_v (qa 20 underlying122 rR rR sizeOf120 (by decide) rR) rR (g_v (qe (v:=sl ss gl.length cs) isAgg120 rR rR) rR (g_v (yo underlying120 rR) rR (g_v (wh rR rR) rR (gM rR (qK rR rR (fun hg=>qp rR) rR rR (qK rR rR (fun hg=>qc rR) rR rR (qK rR rR (fun hg=>qa 19 underlying122 rR rR sizeOf3 (by decide) rR) rR rR (qK rR rR (fun hg=>qe (v:=I D.next) isAgg3 rR rR) rR rR (qK rR rR (fun hg=>yA rR rR) rR rR (g_v (zaH rR rR) rR (qb ?_)))))))))))))))))));refine qg rR (fun h17=>?_) (fun h17=>?_)
  · simp at h17;have hw:snE D=8:=(by unfold snE;rw[if_pos (by omega)]);refine gS (g_v (qB underlying108 rR rR) rR (gA rR (gA rR (qb ?_))));refine zax (vdC ((D).size) ((D).blocks) (sl sd (ofM (D).dirty).length cd) ((D).time) ((D).next) (sl ss gl.length cs)) (qM (ofM (D).dirty)) (wU gl) sd cd ss cs (gl) b ((D)) rR rR rR hgl ?_;rw[show vdk b D=vdk b (snD D) by unfold snD;rw[if_neg (by omega)]];exact qn rfl rfl (by rw[show snI D=0 by unfold snI;rw[if_neg (by omega)],hw];rfl)
  · simp at h17;have hw:snE D=0:=(by unfold snE;rw[if_neg (by omega)]);refine qh (gS (gM rR (g_v (qc rR) rR (g_v (qa 19 underlying122 rR rR sizeOf3 (by decide) rR) rR (g_v (qe (v:=I D.next) isAgg3 rR rR) rR (gA rR (qb (gS (gM rR (g_v (qc rR) rR (g_v (qa 19 underlying122 rR rR sizeOf3 (by decide) rR) rR (g_v (qe (v:=I D.next) isAgg3 rR rR) rR (g_v (qu rR rR (w64 (by omega))) rR (g_v (qc rR) rR (g_v (qa 19 underlying122 rR rR sizeOf3 (by decide) rR) rR ?_)))))))))))))));refine yp (qH (vdC ((D).size) ((D).blocks) (sl sd (ofM (D).dirty).length cd) ((D).time) (D.next+1) (sl ss gl.length cs)) sizeOf3 rR rR rR (by rw[zhK];decide) (ztE _ _ _ _ _ _ _)) ?_;rintro _ _ rfl;refine qb (qf ?_);refine zcJ (Lf:=pt b (.cells (vdC ((D).size) ((D).blocks) (sl sd (ofM (D).dirty).length cd) ((D).time) (D.next+1) (sl ss gl.length cs)) 122 (0,0))::F) [(0,false),(1,false),(2,false),(3,false),(4,false),(5,false),(6,false),(7,false),(8,false),(9,false),(10,false),(11,false),(12,false),(13,false),(14,false),(15,false),(16,false),(17,false),(18,false),(19,false),(20,false),(21,false),(22,false),(23,true),(24,true),(25,false),(26,false)] 27 rR (by kernel_rfl) (by kernel_rfl) rR (by kernel_rfl) (by kernel_rfl) ?_;refine dM rR rR rR (dM rR rR rR (d_v rR (qc rR) rR (d_v rR (qa 20 underlying122 rR rR sizeOf120 (by decide) rR) rR (d_v rR (qe (v:=sl ss gl.length cs) isAgg120 rR rR) rR (dM rR rR rR (dM rR rR rR (d_v rR (qc rR) rR (d_v rR (qa 18 underlying122 rR rR sizeOf3 (by decide) rR) rR (d_v rR (qe (v:=I D.time) isAgg3 rR rR) rR (dM rR rR rR (d_v rR (qc rR) rR (d_v rR (qa 0 underlying122 rR rR sizeOf3 (by decide) rR) rR (d_v rR (qe (v:=I D.size) isAgg3 rR rR) rR (dM rR rR rR (d_v rR (qc rR) rR (d_v rR (qa 1 underlying122 rR rR sizeOf41 (by decide) rR) rR (d_v rR (qI (vs:=s16 D.blocks) isAgg41 sizeOf41 rR rR (ztr _ _ _ _ _ _)) rR (dM rR rR rR (d_v rR (qc rR) rR (d_v rR (qa 17 underlying122 rR rR sizeOf119 (by decide) rR) rR (d_v rR (qe (v:=sl sd (ofM D.dirty).length cd) isAgg119 rR rR) rR (d_v rR (qP rR (zwr D.next D.time D.size D.blocks D.dirty (sl sd (ofM D.dirty).length cd) rR)) rR ?_))))))))))))))))))))));refine d_l rR (qs [zn1 (⟨D.next,D.time,D.size,D.blocks,D.dirty⟩,(sd,cd))] underlying120 sizeOf135 zeroValue135 rR rR rR (by simp[zmT]) (by decide) (by decide)) rR ?_;rintro _ _ ⟨b53,rfl,rfl⟩;refine d_l rR (yC underlying120 sizeOf135 zeroValue135 rR Tryz.typeInfo135 (by decide) rR rR (by rw[zfa]) rR (by simp[zmT]) (by simp[zn1,zsk,Go.Sl.ones,Go.Sl.one,sl]) ⟨by omega,by decide,by decide⟩) rR ?_;rintro _ _ ⟨s54,c54,rfl,rfl⟩;rw[show wU gl++ [zn1 (⟨D.next,D.time,D.size,D.blocks,D.dirty⟩,(sd,cd))]=wU (gl++ [(⟨D.next,D.time,D.size,D.blocks,D.dirty⟩,(sd,cd))]) by simp[wU]]
    refine d_v rR (qc rR) rR (d_v rR (qa 20 underlying122 rR rR sizeOf120 (by decide) rR) rR ?_);refine yc ?_;refine yp (qH (vdC ((D).size) ((D).blocks) (sl sd (ofM (D).dirty).length cd) ((D).time) (D.next+1) (sl s54 (gl.length+1) c54)) sizeOf120 rR rR rR (by rw[zhK];decide) (zrM _ _ _ _ _ _ _)) ?_;rintro _ _ rfl;refine qb (gS (gM rR (g_v (qc rR) rR (g_v (qa 17 underlying122 rR rR sizeOf119 (by decide) rR) rR ?_))));refine yp (qH (vdC ((D).size) ((D).blocks) (sl none 0 0) ((D).time) (D.next+1) (sl s54 (gl.length+1) c54)) sizeOf119 rR rR rR (by rw[zhK];decide) (zk3 _ _ _ _ _ _ _)) ?_;rintro _ _ rfl;refine qb (gS (gM rR (gA rR (gA rR (qb ?_)))));refine zof gl (gl++ [(⟨D.next,D.time,D.size,D.blocks,D.dirty⟩,(sd,cd))]) (⟨D.next,D.time,D.size,D.blocks,D.dirty⟩,(sd,cd)) (fun y hy=>by simpa using hy) ?_;refine zlG 2 (qM (ofM fun _=>false)) rR ?_;refine zax (vdC ((D).size) ((D).blocks) (sl none 0 0) ((D).time) (D.next+1) (sl s54 (gl.length+1) c54)) (qM (ofM fun _=>false)) (wU (gl++ [(⟨D.next,D.time,D.size,D.blocks,D.dirty⟩,(sd,cd))])) none 0 s54 c54 ((gl++ [(⟨D.next,D.time,D.size,D.blocks,D.dirty⟩,(sd,cd))])) b ((⟨D.size,D.blocks,fun _=>false,D.time,D.next+1,D.snaps++ [⟨D.next,D.time,D.size,D.blocks,D.dirty⟩]⟩)) (by simp[ofM,zbo,sl];try rfl) rR rR (by simp[hgl]) ?_;rw[show vdk b ⟨D.size,D.blocks,fun _=>false,D.time,D.next+1,D.snaps++ [⟨D.next,D.time,D.size,D.blocks,D.dirty⟩]⟩=vdk b (snD D) by unfold snD;rw[if_pos hw]];exact qn rfl rfl (by rw[show snI D=D.next by unfold snI;rw[if_pos hw],hw];rfl)
theorem zjy (b:Nat)(D:VdM)(id n:Int)(hsl:D.snaps.length≤1000000)(hsz:∀s∈D.snaps,s.size≤16)(F:List HProp):Ct Tryz.prog 61 [ptr b 0,I id,I n] ([vdk b (D)]++F) (R1 (.tuple #[Str (rdS D id n).1,I (rdS D id n).2.1,yK (rdS D id n).2.2]) (vdk b (D)::F)):=by
  show Ct Tryz.prog 61 [ptr b 0,I id,I n] (vdk b (D)::F) _;refine Ct.of func61 rR 39 ntmps61 (by simp) fun w0=>?_;refine gS (gA rR (gA rR (gA rR (qb (gS (gM rR (gM rR ?_)))))));refine g_l (qi (Pre:=[vdk b (D)]) call60 rR (zeN b D id (by omega))) rR ?_;rintro _ _ ⟨rfl,rfl⟩;refine gA rR (qb (qf (gS (gM rR (g_v (qJ rR rR) rR (qb ?_))))));refine qg rR (fun h15=>?_) (fun h15=>?_)
  · simp at h15;refine gS (g_v (qB underlying108 rR rR) rR (gA rR (gA rR (gA rR (qb ?_)))));exact qn rfl rfl (by rw[show rdS D id n=([],0,5) by unfold rdS;rw[if_pos (by omega)]];rfl)
  · simp at h15;obtain ⟨i,s,hfi,hs,hid,hil⟩:=zkp (show ¬zc4 D.snaps id<0 by omega);rw[hfi];refine zdE b (D) ?_;intro sd cd ss cs gl hgl;have hln:=zm2 hgl;obtain ⟨q,hx⟩:=zyg hgl hs;have hkn:i<gl.length:=(by omega);have hkr:i<(wU gl).length:=(by rw[zfa];exact hkn);refine qh (gS (gM rR (g_v (qc rR) rR (g_v (qa 20 underlying122 rR rR sizeOf120 (by decide) rR) rR (g_v (qe (v:=sl ss gl.length cs) isAgg120 rR rR) rR (gM rR (g_v (qA i underlying120 sizeOf135 rR rR rR hkn hkr) rR (g_v (ym (row:=zn1 (s,q)) isAgg135 sizeOf135 rR (zjk hx) rR) rR ?_))))))));refine g_l (qy #[I 0,I 0,I 0,Str [],Str [],Str [],Str [],Str [],Str [],Str [],Str [],Str [],Str [],Str [],Str [],Str [],Str [],Str [],Str [],sl none 0 0] zeroValue135) rR ?_;rintro _ _ ⟨b10,rfl,rfl⟩;refine yp (qq (cs:=#[I 0,I 0,I 0,Str [],Str [],Str [],Str [],Str [],Str [],Str [],Str [],Str [],Str [],Str [],Str [],Str [],Str [],Str [],Str [],sl none 0 0]) (vs:=zn1 (s,q)) (zn1 (s,q)).toArray sizeOf135 rR rR rR rR (by simp) (qC rR)) ?_;rintro _ _ rfl;refine qb (qf (gS (gM rR (g_v (qJ rR rR) rR (gM rR (qK rR rR (fun hg=>qp rR) rR rR (qK rR rR (fun hg=>qa 2 underlying135 rR rR sizeOf3 (by decide) rR) rR rR (qK rR rR (fun hg=>qe (v:=I s.size) isAgg3 rR rR) rR rR (qK rR rR (fun hg=>zig rR rR) rR rR (g_v (zaH rR rR) rR (qb ?_)))))))))));refine qg rR (fun h31=>?_) (fun h31=>?_)
    · simp at h31;refine gS (g_v (qB underlying108 rR rR) rR (gA rR (gA rR (gA rR (qb ?_)))));refine zax (vdC ((D).size) ((D).blocks) (sl sd (ofM (D).dirty).length cd) ((D).time) ((D).next) (sl ss gl.length cs)) (qM (ofM (D).dirty)) (wU gl) sd cd ss cs (gl) b ((D)) rR rR rR hgl ?_;exact qn rfl rfl (by rw[show rdS D id n=([],0,1) by unfold rdS;rw[if_neg (by omega),hfi,Int.toNat_natCast,zhP hs,if_pos (by omega)]];rfl)
    · simp at h31;have hs16:=hsz s (List.mem_of_getElem? hs);refine qh (qf ?_);refine wS [(0,false),(1,false),(2,false),(3,false),(4,false),(5,false),(6,false),(7,false),(8,false)] (by kernel_rfl) (by kernel_rfl) rR (by kernel_rfl) ?_;refine dM rR rR rR (d_v rR (qa 3 underlying135 rR rR sizeOf41 (by decide) rR) rR (d_v rR (zcx n.toNat underlying41 sizeOf9 rR rR (by omega) (by omega)) rR (d_v rR (qe (v:=Str (s.blocks n.toNat)) isAgg9 rR (zve _ _ (by omega))) rR (d_v rR (qa 2 underlying135 rR rR sizeOf3 (by decide) rR) rR (d_v rR (qe (v:=I s.size) isAgg3 rR rR) rR (d_v rR (qx rR) rR (d_v rR (qx rR) rR (d_v rR (qx rR) rR ?_))))))));refine yc ?_;refine zax (vdC ((D).size) ((D).blocks) (sl sd (ofM (D).dirty).length cd) ((D).time) ((D).next) (sl ss gl.length cs)) (qM (ofM (D).dirty)) (wU gl) sd cd ss cs (gl) b ((D)) rR rR rR hgl ?_;exact qn rfl rfl (by rw[show rdS D id n=(s.blocks n.toNat,s.size,0) by unfold rdS;rw[if_neg (by omega),hfi,Int.toNat_natCast,zhP hs,if_neg (by omega)]];rfl)
theorem zhr (b:Nat)(D:VdM)(id:Int)(hsl:D.snaps.length≤1000000)(F:List HProp):Ct Tryz.prog 28 [ptr b 0,I id] ([vdk b (D)]++F) (R1 (.tuple #[I (szS D id).1,yK (szS D id).2]) (vdk b (D)::F)):=by
  show Ct Tryz.prog 28 [ptr b 0,I id] (vdk b (D)::F) _;refine Ct.of func28 rR 21 ntmps28 (by simp) fun w0=>?_;refine gS (gA rR (gA rR (qb (gS (gM rR (gM rR ?_))))));refine g_l (qi (Pre:=[vdk b (D)]) call60 rR (zeN b D id (by omega))) rR ?_;rintro _ _ ⟨rfl,rfl⟩;refine gA rR (qb (qf (gS (gM rR (g_v (qJ rR rR) rR (qb ?_))))));refine qg rR (fun h11=>?_) (fun h11=>?_)
  · simp at h11;refine gS (g_v (qB underlying108 rR rR) rR (gA rR (gA rR (qb ?_))));exact qn rfl rfl (by rw[show szS D id=(0,5) by unfold szS;rw[if_pos (by omega)]];rfl)
  · simp at h11;obtain ⟨i,s,hfi,hs,hid,hil⟩:=zkp (show ¬zc4 D.snaps id<0 by omega);rw[hfi];refine zdE b (D) ?_;intro sd cd ss cs gl hgl;have hln:=zm2 hgl;obtain ⟨q,hx⟩:=zyg hgl hs;have hkn:i<gl.length:=(by omega);have hkr:i<(wU gl).length:=(by rw[zfa];exact hkn);refine qh (gS (gM rR (g_v (qc rR) rR (g_v (qa 20 underlying122 rR rR sizeOf120 (by decide) rR) rR (g_v (qe (v:=sl ss gl.length cs) isAgg120 rR rR) rR (gM rR (g_v (qA i underlying120 sizeOf135 rR rR rR hkn hkr) rR (g_v (ye (j:=_) 2 underlying135 rR rR sizeOf3 (by decide) rR (by assumption)) rR (g_v (wC (v:=I s.size) isAgg3 rR (zjk hx) rR) rR (gA rR (gA rR (qb ?_))))))))))));refine zax (vdC ((D).size) ((D).blocks) (sl sd (ofM (D).dirty).length cd) ((D).time) ((D).next) (sl ss gl.length cs)) (qM (ofM (D).dirty)) (wU gl) sd cd ss cs (gl) b ((D)) rR rR rR hgl ?_;exact qn rfl rfl (by rw[show szS D id=(s.size,0) by unfold szS;rw[if_neg (by omega),hfi,Int.toNat_natCast,zhP hs]];rfl)
-- (*counterfoil/vdisk.Disk).Snaps is not in this seat
end Go.Proofs.YthdjckbjjfiopadGreatDoor
