/- Walks through package repo: reading, writing, what changes the vault. No condition but the library's tables. -/
import Derived.Test.YthdjckbjjfiopacGreatDoorRp2
set_option linter.unusedSimpArgs false
set_option linter.unusedVariables false
namespace Go.Proofs.YthdjckbjjfiopacGreatDoor
open _root_.Tryz
open Go.Sl Go.Proofs
def zra (D:DiskM)(z:RpM)(S':SI)(L':List Pt)(n':Int)(e:Int)(D2:DiskM)(z2:RpM):Prop:=∃h2 used2 rows2,ztr D z.h z.rows (200 - 122) z.used (chgR z S' L' n') e D2 h2 used2 rows2∧z2=z.kept e h2 used2 rows2 S' L' n'
theorem zug (l:List (Int×Bytes))(q:Int):(lk (ovM l) q).getD (Str [])=Str ((ovL l q).getD []):=by rw[zrt];cases ovL l q <;> rfl
theorem ov_is (l:List (Int×Bytes))(q:Int):(lk (ovM l) q).isSome=(ovL l q).isSome:=by rw[zrt,Option.isSome_map]
def zig (D:DiskM)(z:RpM)(id n e:Int)(D2:DiskM)(z2:RpM):Prop:=match zlr z.S z.L z.n id with
  | .error f=>n=0∧e=f∧D2=D∧z2=z
  | .ok (S',L',n',r)=>zra D z S' L' n' e D2 z2∧n=if e=0 then r else 0
def zc7 (z:RpM)(id:Int):Int:=if (yA z.L id).isNone then 5 else if zbS z id=true then 6 else 0
def zgX (D:DiskM)(z:RpM)(id:Int)(e:Int)(D2:DiskM)(z2:RpM):Prop:=if zc7 z id≠0 then e=zc7 z id∧D2=D∧z2=z else ∃S' L',zky z.S z.L z.n id= .ok (S',L',z.n,0)∧zra D z S' L' z.n e D2 z2
theorem zwb {z:RpM}{id:Int}(h:zc7 z id=0):∃p S' L',yA z.L id=some p∧zbS z id=false∧zky z.S z.L z.n id= .ok (S',L',z.n,0):=by
  unfold zc7 at h;cases hf:yA z.L id with
  | none=>rw[hf] at h;simp at h
  | some p=>
    rw[hf] at h;cases hu:zbS z id with
    | true=>rw[hu] at h;simp at h
    | false=>exact ⟨p,_,_,rfl,rfl,by unfold zky;rw[hf]⟩
theorem zcq (b bd:Nat)(z:RpM)(id at_:Int)(hR:Rok z)(F:List HProp):Ct Tryz.prog 28 [ptr b 0,I id,I at_] ([rpl b bd z]++F) (R1 (.tuple #[Str (zbz z id at_).1,yH (zbz z id at_).2]) (rpl b bd z::F)):=by
  show Ct Tryz.prog 28 [ptr b 0,I id,I at_] (rpl b bd z::F) _;obtain ⟨G0,hC⟩:=hR.con;have hlen:=hC.v.len;have hnx:=hR.next;refine Ct.of Tryz.func28 rR 50 Tryz.ntmps28 (by simp) fun w0=>?_
  refine wZ b bd z ?_;intro bs bl so co bv rs rm;refine gS (gA rfl (gA rfl (qb (gS (gM rfl (g_v (qc rfl) rfl (g_v (qa 3 underlying125 rfl rfl sizeOf123 (by decide) rfl) rfl (g_v (qe (v:= .map (some rm)) isAgg123 rfl rfl) rfl (gM rfl (g_v (yC (v:= .pointer ((fMo z.mou id).map fun e=>⟨e.a,0,none⟩)) underlying123 underlying3 zeroValue127 rfl rfl (by rw[zmv];cases fMo z.mou id <;> rfl)) rfl (gA rfl ?_)))))))))));refine qb (qf (gS (gM rR (g_v (zgp underlying127 rR) rR (qb ?_)))));refine qh rR (fun h20=>?_) (fun h20=>?_)
  · have hno:fMo z.mou id=none:=by simpa using h20
    refine gS (g_v (qA underlying89 rR rR) rR (gA rR (gA rR (qb ?_))));refine yi b bd (z) bs bl so co bv rs rm ?_;rw[show zbz z id at_=([],5) by unfold zbz;rw[hno]];exact qn rfl rfl rfl
  · obtain ⟨e,hfe⟩:∃e,fMo z.mou id=some e:=Option.isSome_iff_exists.1 (by cases hq:fMo z.mou id with
      | none=>rw[hq] at h20;cases h20
      | some _=>rfl)
    obtain ⟨he,hek,hi⟩:=zmX hfe;rw[hfe];refine qi (qf ?_);refine zuv z.mou _ he ?_;refine yr (Lf:=[pt b (.cells #[ptr bs 0,ptr bv 0, .map (some rs), .map (some rm),I (z.next)] 125 (0,0)),pt e.a (.cells #[I e.point, .map (some e.r)] 130 (0,0))]) [(0,false),(1,false),(2,false),(3,false),(4,false),(5,false),(6,false),(7,false),(8,false),(9,true),(10,false),(11,false),(12,false),(13,false),(14,false)] (by kernel_rfl) (by kernel_rfl) rR (by kernel_rfl) ?_;refine d_v rR (qg rR) rR (d_v rR (qc rR) rR (d_v rR (qa 1 underlying125 rR rR sizeOf24 (by decide) rR) rR (d_v rR (qe (v:=ptr bv 0) isAgg24 rR rR) rR (d_v rR (qg rR) rR (d_v rR (qc rR) rR (d_v rR (qa 0 underlying130 rR rR sizeOf3 (by decide) rR) rR (d_v rR (qe (v:=I e.point) isAgg3 rR rR) rR (d_v rR (qg rR) rR ?_))))))));refine d_l rR (qj (Pre:=[vlt bv z.S z.L z.n]) call32 rR (zbF bv z.S z.L z.n e.point at_ G0 hC.v)) rR ?_;rintro _ _ ⟨rfl,rfl⟩;refine d_v rR (qg rR) rR (d_v rR (qd (v:=Str (rdE z.S z.L e.point at_).1) rR rR) rR (d_v rR (qd (v:=yH (rdE z.S z.L e.point at_).2) rR rR) rR (d_v rR (qw rR) rR (d_v rR (qw rR) rR ?_))));refine qZ ?_;refine qf (gS (gM rR (g_v (yf underlying29 rR) rR (qb ?_))));refine qh rR (fun h36=>?_) (fun h36=>?_)
    · have hrd:(rdE z.S z.L e.point at_).2≠0:=by simpa using h36
      refine gS (gM rR (gA rR (gA rR (qb ?_))));refine zab (f:=moA) z.mou (mIx z.mou id) e [pt e.a (.cells #[I e.point, .map (some e.r)] 130 (0,0)),mp e.r (ovM e.over)] rR hi ?_;rw[zbw he];refine yi b bd (z) bs bl so co bv rs rm ?_;rw[show zbz z id at_=([],(rdE z.S z.L e.point at_).2) by unfold zbz;rw[hfe];simp only;rw[if_pos hrd]];exact qn rfl rfl rfl
    · have hrd:¬(rdE z.S z.L e.point at_).2≠0:=by simpa using h36
      refine qi (gS (gM rR (g_v (qc rR) rR (g_v (qa 1 underlying130 rR rR sizeOf128 (by decide) rR) rR (g_v (qe (v:= .map (some e.r)) isAgg128 rR rR) rR (gM rR (g_v (zaA (v:=Str ((ovL e.over at_).getD [])) (bb:=(ovL e.over at_).isSome) underlying128 underlying3 zeroValue9 rR rR (zug _ _) (ov_is _ _)) rR (gM rR (g_v (qd (v:=Str ((ovL e.over at_).getD [])) rR rR) rR (g_v (qd (v:=Bo (ovL e.over at_).isSome) rR rR) rR (gA rR (gA rR ?_))))))))))));refine qb (qf (gS (gM rR (qb ?_))));refine qh rR (fun h47=>?_) (fun h47=>?_)
      · obtain ⟨t,ht⟩:=Option.isSome_iff_exists.1 h47;rw[ht];refine gS (gM rR (gA rR (gA rR (qb ?_))));refine zab (f:=moA) z.mou (mIx z.mou id) e [pt e.a (.cells #[I e.point, .map (some e.r)] 130 (0,0)),mp e.r (ovM e.over)] rR hi ?_;rw[zbw he];refine yi b bd (z) bs bl so co bv rs rm ?_;rw[show zbz z id at_=(t,0) by unfold zbz;rw[hfe];simp only;rw[if_neg hrd,ht]];exact qn rfl rfl rfl
      · have ht:ovL e.over at_=none:=by simpa using h47
        refine qi (gS (gM rR (gA rR (gA rR (qb ?_)))));refine zab (f:=moA) z.mou (mIx z.mou id) e [pt e.a (.cells #[I e.point, .map (some e.r)] 130 (0,0)),mp e.r (ovM e.over)] rR hi ?_;rw[zbw he];refine yi b bd (z) bs bl so co bv rs rm ?_;rw[show zbz z id at_=((rdE z.S z.L e.point at_).1,0) by unfold zbz;rw[hfe];simp only;rw[if_neg hrd,ht]];exact qn rfl rfl rfl
theorem zeS (b bd:Nat)(z:RpM)(id at_:Int)(d:Bytes)(hR:Rok z)(hdl:d.length≤9223372036854775807)(F:List HProp):Ct Tryz.prog 30 [ptr b 0,I id,I at_,Str d] ([rpl b bd z]++F) (fun v L'=>(zbk z id at_ d≠0∧v=yH (zbk z id at_ d)∧L'=rpl b bd z::F)∨(zbk z id at_ d=0∧v=yH 0∧L'=rpl b bd (z.written id at_ d)::F)):=by
  show Ct Tryz.prog 30 [ptr b 0,I id,I at_,Str d] (rpl b bd z::F) _;refine Ct.of Tryz.func30 rR 36 Tryz.ntmps30 (by simp) fun w0=>?_
  refine gS (gA rR (qb (gS (gM rR (gM rR (gM rR ?_))))));refine g_l (qj (Pre:=[rpl b bd z]) call28 rR (zcq b bd z id at_ hR)) rR ?_;rintro _ _ ⟨rfl,rfl⟩;refine gM rR (g_v (qd (v:=Str (zbz z id at_).1) rR rR) rR (g_v (qd (v:=yH (zbz z id at_).2) rR rR) rR (gA rR (gA rR (qb (qf (gS (gM rR (g_v (yf underlying29 rR) rR (qb ?_))))))))));refine qh rR (fun h19=>?_) (fun h19=>?_)
  · have hrd:(zbz z id at_).2≠0:=by simpa using h19
    refine gS (gM rR (gA rR (qb ?_)));exact qm (rpl b bd z::F) rfl (.inl ⟨by unfold zbk;rw[if_pos hrd];exact hrd,by unfold zbk;rw[if_pos hrd];rfl,rfl⟩)
  · have hrd:(zbz z id at_).2=0:=by simpa using h19
    refine qi (qf (gS (gM rR (g_v (wc underlying9 rR) rR (g_v (yv rR rR) rR (qb ?_))))));refine qh rR (fun h23=>?_) (fun h23=>?_)
    · have h6:6<d.length:=by simp at h23;omega
      refine gS (g_v (qA underlying89 rR rR) rR (gA rR (qb ?_)));exact qm (rpl b bd z::F) rfl (.inl ⟨by unfold zbk;rw[if_neg (by omega),if_pos h6];decide,by unfold zbk;rw[if_neg (by omega),if_pos h6];rfl,rfl⟩)
    · have h6:¬6<d.length:=by simp at h23;omega
      refine qi (qf ?_);refine wZ b bd z ?_;intro bs bl so co bv rs rm;obtain ⟨e,hfe⟩:∃e,fMo z.mou id=some e:=by
        cases hq:fMo z.mou id with
        | none=>exact absurd (show (zbz z id at_).2=5 by unfold zbz;rw[hq]) (by omega)
        | some e=>exact ⟨e,rfl⟩
      obtain ⟨he,hek,hi⟩:=zmX hfe;refine zuv z.mou _ he ?_;refine qp (gM rR (g_v (qc rR) rR (g_v (qa 3 underlying125 rR rR sizeOf123 (by decide) rR) rR (g_v (qe (v:= .map (some rm)) isAgg123 rR rR) rR (gM rR (g_v (yC (v:=ptr e.a 0) underlying123 underlying3 zeroValue127 rR rR (by rw[zmv,hfe];rR)) rR (g_v (qc rR) rR (g_v (qa 1 underlying130 rR rR sizeOf128 (by decide) rR) rR (g_v (qe (v:= .map (some e.r)) isAgg128 rR rR) rR (gM rR (gM rR ?_)))))))))));refine yp (yc underlying128 underlying3 rR rR rR) ?_;rintro _ _ rfl;rw[zu1];refine qb (gS (gA rR (qb ?_)));refine zab (f:=moA) z.mou (mIx z.mou id) ⟨e.key,e.a,e.r,e.point,ovS e.over at_ d⟩ [pt e.a (.cells #[I e.point, .map (some e.r)] 130 (0,0)),mp e.r (ovM (ovS e.over at_ d))] rR hi ?_;rw[←zrA (e':=⟨e.key,e.a,e.r,e.point,ovS e.over at_ d⟩) he rfl rfl];refine yi b bd (⟨z.h,z.used,z.rows,z.S,z.L,z.n,z.ses,z.mou.set (mIx z.mou id) ⟨e.key,e.a,e.r,e.point,ovS e.over at_ d⟩,z.next⟩) bs bl so co bv rs rm ?_;exact qm (rpl b bd ⟨z.h,z.used,z.rows,z.S,z.L,z.n,z.ses,z.mou.set (mIx z.mou id) ⟨e.key,e.a,e.r,e.point,ovS e.over at_ d⟩,z.next⟩::F) rfl (.inr ⟨by unfold zbk;rw[if_neg (by omega),if_neg h6],rfl,by unfold RpM.written RpM.moun;rw[hfe]⟩)
theorem zen {ee:Bool}(b bd i:Nat)(z:RpM)(id:Int)(hR:Rok z)(D:DiskM)(hD:Dk i D z)(hi:i≤100000)(F:List HProp):Ct Tryz.prog 150 [ptr b 0,I id] ([qE ee,rpl b bd z,dsk 219 285 bd (D)]++F) (fun v L'=>∃n e D2 z2,zig D z id n e D2 z2∧v= .tuple #[I n,yH e]∧L'=rpl b bd z2::dsk 219 285 bd (D2)::qE ee::F):=by
  show Ct Tryz.prog 150 [ptr b 0,I id] (qE ee::rpl b bd z::dsk 219 285 bd (D)::F) _;obtain ⟨G0,hC⟩:=hR.con;have hlen:=hC.v.len;have hnx:=hR.next;refine Ct.of Tryz.func150 rR 29 Tryz.ntmps150 (by simp) fun w0=>?_
  refine gS (gA rR (gA rR (qb (qf ?_))));refine wZ b bd z ?_;intro bs bl so co bv rs rm;refine qp (gM rR (g_v (qc rR) rR (g_v (qa 1 underlying125 rR rR sizeOf24 (by decide) rR) rR (g_v (qe (v:=ptr bv 0) isAgg24 rR rR) rR ?_))));refine g_l (qj (Pre:=[vlt bv z.S z.L z.n]) call12 rR (wE bv z.S z.L z.n (by omega))) rR ?_;rintro _ _ ⟨q,rfl,rfl⟩;refine gA rR (qb ?_);refine yi b bd (z) bs bl so co bv rs rm ?_;refine gS (gM rR (gM rR ?_));refine g_l (qj (Pre:=[vlt q z.S z.L z.n]) call13 rR (zdS q z.S z.L z.n id G0 hC.v)) rR ?_;rintro v L' hv;unfold vR at hv;rcases hr:zlr z.S z.L z.n id with e0 | ⟨S1,L1,n1,r1⟩ <;> rw[hr] at hv <;> obtain ⟨rfl,rfl⟩:=hv
  · have he0:=zr3 hr;refine gM rR (g_v (qd (v:=I 0) rR rR) rR (g_v (qd (v:=yH e0) rR rR) rR (gA rR (gA rR (qb (qf (gS (gM rR (g_v (wW (T:=89) (f:=e0) underlying29 rR) rR (qb ?_))))))))));refine qh rR (fun h21=>?_) (fun h21=>?_)
    · simp at h21;omega
    · skip;refine qi (qf (gS (gM rR (g_v (yf underlying29 rR) rR (qb ?_)))));refine qh rR (fun h26=>?_) (fun h26=>?_)
      · skip;refine gS (gM rR (gA rR (gA rR (qb ?_))));exact qm (rpl b bd z::dsk 219 285 bd (D)::qE ee::F) rfl ⟨0,e0,D,z,by unfold zig;rw[hr];exact ⟨rfl,rfl,rfl,rfl⟩,rfl,rfl⟩
      · simp at h26;omega
  · obtain ⟨G1,hC1⟩:=zny hC hr;refine gM rR (g_v (qd (v:=I r1) rR rR) rR (g_v (qd (v:=yH 0) rR rR) rR (gA rR (gA rR (qb (qf (gS (gM rR (g_v (wW (T:=89) (f:=0) underlying29 rR) rR (qb ?_))))))))));refine qh rR (fun h21=>?_) (fun h21=>?_)
    · skip;refine qp (gM rR (gM rR ?_));refine g_l (qj (Pre:=[qE ee,rpl b bd z,dsk 219 285 bd (D),vlt q S1 L1 n1]) call72 rR (zaS b bd q i D z (S1) (L1) (n1) G0 G1 hC hC1 hD hi)) rR ?_;rintro _ _ ⟨e,D2,h2,used2,rows2,hcom,rfl,rfl⟩;refine gA rR (qb (qf (gS (gM rR (g_v (yf underlying29 rR) rR (qb ?_))))));refine qh rR (fun h26=>?_) (fun h26=>?_)
      · have he:¬e=0:=by simpa using h26
        refine gS (gM rR (gA rR (gA rR (qb ?_))));exact qm (rpl b bd (z.kept e h2 used2 rows2 S1 L1 n1)::dsk 219 285 bd (D2)::qE ee::F) rfl ⟨0,e,D2,_,by unfold zig;rw[hr];exact ⟨⟨h2,used2,rows2,hcom,rfl⟩,by rw[if_neg he]⟩,rfl,rfl⟩
      · have he:e=0:=by simpa using h26
        refine qi (gS (gM rR (gA rR (gA rR (qb ?_)))));exact qm (rpl b bd (z.kept e h2 used2 rows2 S1 L1 n1)::dsk 219 285 bd (D2)::qE ee::F) rfl ⟨r1,e,D2,_,by unfold zig;rw[hr];exact ⟨⟨h2,used2,rows2,hcom,rfl⟩,by rw[if_pos he]⟩,by rw[he];rfl,rfl⟩
    · simp at h21
theorem zcn {ee:Bool}(b bd i:Nat)(z:RpM)(id:Int)(hR:Rok z)(D:DiskM)(hD:Dk i D z)(hi:i≤100000)(F:List HProp):Ct Tryz.prog 34 [ptr b 0,I id] ([qE ee,rpl b bd z,dsk 219 285 bd (D)]++F) (fun v L'=>∃e D2 z2,zgX D z id e D2 z2∧v=yH e∧L'=rpl b bd z2::dsk 219 285 bd (D2)::qE ee::F):=by
  show Ct Tryz.prog 34 [ptr b 0,I id] (qE ee::rpl b bd z::dsk 219 285 bd (D)::F) _;obtain ⟨G0,hC⟩:=hR.con;have hlen:=hC.v.len;have hnx:=hR.next;refine Ct.of Tryz.func34 rR 39 Tryz.ntmps34 (by simp) fun w0=>?_
  refine gS (gA rR (qb (qf ?_)));refine wZ b bd z ?_;intro bs bl so co bv rs rm;refine qp (gM rR (g_v (qc rR) rR (g_v (qa 1 underlying125 rR rR sizeOf24 (by decide) rR) rR (g_v (qe (v:=ptr bv 0) isAgg24 rR rR) rR (gM rR ?_)))));refine g_l (qj (Pre:=[vlt bv z.S z.L z.n]) call33 rR (yG bv z.S z.L z.n id (by omega))) rR ?_;rintro _ _ ⟨rfl,rfl⟩;refine gM rR (g_v (qd (v:= .agg (yj ((yA z.L id).getD pt0)).toArray) rR rR) rR (g_v (qd (v:=Bo (yA z.L id).isSome) rR rR) rR ?_));refine g_l (qz #[I 0,I 0,I 0,I 0] zeroValue55) rR ?_;rintro _ _ ⟨b5,rfl,rfl⟩;refine yp (qr (cs:=#[I 0,I 0,I 0,I 0]) (vs:=yj (((yA z.L id).getD pt0))) (yj (((yA z.L id).getD pt0))).toArray sizeOf55 rR rR rR rR (by simp) (qv rR)) ?_;rintro _ _ rfl;refine gA rR (qb (qf (gS (gM rR (g_v (ww rR) rR (qb ?_))))));refine qh rR (fun h19=>?_) (fun h19=>?_)
  · simp at h19;refine gS (g_v (qA underlying89 rR rR) rR (gA rR (qb ?_)));refine yi b bd (z) bs bl so co bv rs rm ?_;have hde:zc7 z id=5:=by unfold zc7;rw[h19];rfl
    exact qm (rpl b bd z::dsk 219 285 bd (D)::qE ee::F) rfl ⟨5,D,z,by unfold zgX;rw[if_pos (by omega),hde];exact ⟨rfl,rfl,rfl⟩,rfl,rfl⟩
  · simp at h19;obtain ⟨p,hf⟩:=Option.isSome_iff_exists.1 h19;rw[show (yA z.L id).getD pt0=p by rw[hf];rfl];refine qi (qf (qf ?_));refine yi b bd (z) bs bl so co bv rs rm ?_;refine qp (gM rR (gM rR ?_));refine g_l (qj (Pre:=[rpl b bd z]) call71 rR (zcs b bd z id)) rR ?_;rintro _ _ ⟨rfl,rfl⟩;refine qb ?_;refine qh rR (fun h23=>?_) (fun h23=>?_)
    · have hus:zbS z id=true:=h23;refine gS (g_v (qA underlying89 rR rR) rR (gA rR (qb ?_)));have hde:zc7 z id=6:=by unfold zc7;rw[hf,hus];rfl
      exact qm (rpl b bd z::dsk 219 285 bd (D)::qE ee::F) rfl ⟨6,D,z,by unfold zgX;rw[if_pos (by omega),hde];exact ⟨rfl,rfl,rfl⟩,rfl,rfl⟩
    · have hus:zbS z id=false:=by simpa using h23
      have hde:zc7 z id=0:=by unfold zc7;rw[hf,hus];rfl
      refine qi (qf ?_);refine wZ b bd z ?_;intro bs bl so co bv rs rm;refine qp (gM rR (g_v (qc rR) rR (g_v (qa 1 underlying125 rR rR sizeOf24 (by decide) rR) rR (g_v (qe (v:=ptr bv 0) isAgg24 rR rR) rR ?_))));refine g_l (qj (Pre:=[vlt bv z.S z.L z.n]) call12 rR (wE bv z.S z.L z.n (by omega))) rR ?_;rintro _ _ ⟨q,rfl,rfl⟩;refine gA rR (qb ?_);refine yi b bd (z) bs bl so co bv rs rm ?_;refine gS (gM rR (gM rR ?_));refine g_l (qj (Pre:=[vlt q z.S z.L z.n]) call20 rR (zd3 q z.S z.L z.n id G0 hC.v)) rR ?_;obtain ⟨p1,S1,L1,hf1,hus1,hdr⟩:=zwb (z:=z) (id:=id) hde;obtain ⟨G1,hC1⟩:=znl hC hdr;rintro v L' hv;unfold vR1 at hv;rw[hdr] at hv;obtain ⟨rfl,rfl⟩:=hv;refine gA rR (qb (qf (gS (gM rR (g_v (wW (T:=89) (f:=0) underlying29 rR) rR (qb ?_))))));refine qh rR (fun h34=>?_) (fun h34=>?_)
      · skip;refine qp (gM rR (gM rR ?_));refine g_l (qj (Pre:=[qE ee,rpl b bd z,dsk 219 285 bd (D),vlt q S1 L1 z.n]) call72 rR (zaS b bd q i D z (S1) (L1) (z.n) G0 G1 hC hC1 hD hi)) rR ?_;rintro _ _ ⟨e,D2,h2,used2,rows2,hcom,rfl,rfl⟩;refine gA rR (qb (gS (gM rR (gA rR (qb ?_)))));exact qm (rpl b bd (z.kept e h2 used2 rows2 S1 L1 z.n)::dsk 219 285 bd (D2)::qE ee::F) rfl ⟨e,D2,_,by unfold zgX;rw[if_neg (by omega)];exact ⟨S1,L1,hdr,h2,used2,rows2,hcom,rfl⟩,rfl,rfl⟩
      · simp at h34
end Go.Proofs.YthdjckbjjfiopacGreatDoor
