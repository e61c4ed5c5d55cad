/- Walks through repo.Format, repo.Open and what opens a repo. No condition but the library's tables. -/
import Derived.Test.YthdjckbjjfiopacGreatDoorRp6
import Derived.Test.YthdjckbjjfiopacGreatDoorStT
set_option linter.unusedSimpArgs false
set_option linter.unusedVariables false
namespace Go.Proofs.YthdjckbjjfiopacGreatDoor
open _root_.Go.Proofs.Tryz
open Go.Sl Go.Proofs
def zvL (D:DiskM)(h:HdM)(used:Nat):Prop:=okW 200 1000 D∧S80 D∧upW D∧(∃r0 ds,Cal 200 D h r0 ds used∧cur r0 ds=yz (mkG gZ) [] 1)∧h.ep≤3∧h.first≤401
theorem zuE:yz (mkG gZ) [] 1=[⟨[120],[48,48,49],false⟩]:=by
  have h1:ids 40 (mkG gZ).B=[]:=zwG fun q hq=>(by have:=(mem_ids.1 hq).2;cases this);have h2:ids 24 (mkG gZ).N=[]:=zwG fun q hq=>(by have:=(mem_ids.1 hq).2;cases this);have h3:thr 1=[48,48,49]:=zkr (u:=1) (by decide);unfold yz zaG zaK zoj;rw[h1,h2,h3]
  rfl
theorem zrg {e:Int}{D2:DiskM}{h2:HdM}{used2:Nat}{rows2:List ChangeM}(hc:zte (fD 200) hd1 (cur [] []) (200 - 122) 0 (yz (mkG gZ) [] 1) e D2 h2 used2 rows2):e=0∧zvL D2 h2 used2:=by
  have C:Cal 200 (fD 200) hd1 [] [] 0:=zvt (by decide) (zg8 200) (zs0 (by decide));have hcm:cmV (200 - 122) (cur [] []) (yz (mkG gZ) [] 1)=0:=(by rw[zuE];decide);have hu:=ztk (zvS (by decide)) (zmx (by decide)) C.2.1 (by decide) (by decide) hc;have hk:=ztf (zwZ (by decide)) (zmx (by decide)) C.2.1 hc;rcases zq2 C (by decide) (by decide) hcm hc with ⟨rfl,b1,b2,r2,d2,C2,e2,e3⟩ | ⟨h9,_⟩
  · refine ⟨rfl,zbn hk (by omega),hu.2.2.1,hu.2.1,⟨r2,d2,C2,?_⟩,?_,?_⟩
    · rw[e2,e3,zuE];decide
    · have:hd1.ep≤2:=(by decide);omega
    · have:hd1.first≤201:=(by decide);omega
  · rw[hu.1,hcm] at h9;cases h9
theorem bldRp (bs bv rs rm:Nat)(w:World):(Instr.build 125 #[(0,ptr bs 0),(1,ptr bv 0),(2, .map (some rs)),(3, .map (some rm)),(4,I 1)]).run Tryz.prog w= .ok (.agg #[ptr bs 0,ptr bv 0, .map (some rs), .map (some rm),I 1]) w:=by
  simp[Instr.build,zeroValue125,runUnderlying125,sizeOf3,sizeOf121,sizeOf24,sizeOf122,sizeOf123,Instr.fill,qV,show ∀k:Int,(I k).cells=#[I k] from fun _=>rfl,show ∀k:Nat,(ptr k 0).cells=#[ptr k 0] from fun _=>rfl,show ∀r:Nat,(Value.map (some r)).cells=#[.map (some r)] from fun _=>rfl]
theorem zhR {ee:Bool}(bd:Nat)(F:List HProp):Ct Tryz.prog 93 [ptr bd 0] ([qE ee,dsk 219 285 bd (zfE 200)]++F) (fun v L'=>∃D2 h2 used2,zvL D2 h2 used2∧v=yE 0∧L'=dsk 219 285 bd (D2)::qE ee::F):=by
  show Ct Tryz.prog 93 [ptr bd 0] (qE ee::dsk 219 285 bd (zfE 200)::F) _;have fd_inv:=zxi (N:=200) (by decide);refine Ct.of func93 rR 22 ntmps93 (by simp) fun w0=>?_;refine gS (gA rR (qb (gS (gM rR ?_))));refine g_l (qi (Pre:=[dsk 219 285 bd (zfE 200)]) call143 rR (zgj bd 200 0 (zfE 200) (zo1 200) (by decide) (by decide))) rR ?_;rintro _ _ (⟨h1,_,_⟩ | ⟨_,e,D1,hr,rfl,rfl⟩)
  · exact absurd h1 (by decide)
  rw[zs0 (by decide)] at hr;injection hr with q1 q2;subst q1 q2;refine gA rR (qb (qf (gS (gM rR (g_v (qY underlying29 rR) rR (qb ?_))))));refine qg rR (fun h8=>?_) (fun h8=>?_)
  · simp at h8
  · refine qh (gS (gM rR ?_));refine g_l (qi (Pre:=[dsk 219 285 bd (fD 200)]) call74 rR (zeo bd 200 (fD 200) (fd_inv.len) (by omega) ((zmx (by decide)).2.1) (hd1) ([]) ([]) (0) (fun _ _ _=>fd_inv.good))) rR ?_;rintro _ _ (⟨hdn,_,_⟩ | ⟨_,h196,_,_⟩ | ⟨_,_,he0,_,_⟩ | ⟨_,_,_,bs,bl,so,co,rfl,rfl⟩)
    · rw[(zvS (by decide)).1] at hdn;cases hdn
    · exact absurd h196 (by decide)
    · exact absurd he0 (ztp fd_inv)
    refine gM rR (g_v (qd (v:=ptr bs 0) rR rR) rR (g_v (qd (v:=yE 0) rR rR) rR (gA rR (gA rR (qb (qf (gS (gM rR (g_v (qY (T:=89) (f:=0) underlying29 rR) rR (qb ?_))))))))));refine qg rR (fun h16=>?_) (fun h16=>?_)
    · simp at h16
    · refine qh (gS (gM rR ?_));refine g_l (qi (Pre:=[]) call41 rR (zkX)) rR ?_;rintro _ _ ⟨p0,rfl,rfl⟩;refine g_l (qi (Pre:=[qE ee,vlt p0 (mkG gZ) [] 1]) call15 rR (zcw (ee:=ee) p0 (mkG gZ) [] 1 Con_z.sm)) rR ?_;rintro _ _ ⟨s20,c20,rfl,rfl⟩;refine yM s20 ?_;refine g_l (qi (Pre:=[pt bs (.cells (stC bd (hd1) bl so ((cur [] []).length) co) 179 (0,0)),pt bl (.cells (lgC bd 122 (200 - 122) (hd1.first) (0)) 228 (0,0)),dsk 219 285 bd (fD 200),roL 3 so (chR (cur [] [])),roL 3 s20 (chR (yz (mkG gZ) [] 1))]) call99 rfl (zc5 bs bd hd1 bl so co (cur [] []) 200 300 0 (fD 200) (zwZ (by decide)) (by decide) (zmx (by decide)) (by decide) (by decide) (by decide) (fd_inv.good.okC) (by decide) (fd_inv.good.srtC) (yz (mkG gZ) [] 1) s20 c20 (by rw[zuE];decide))) rfl ?_;rintro _ _ ⟨e,D2,h2,used2,rows2,bl2,s2,cap2,hcom,rfl,rfl⟩;obtain ⟨rfl,hok⟩:=zrg hcom;refine gA rR (qb ?_);exact ql (dsk 219 285 bd (D2)::qE ee::F) rfl ⟨D2,h2,used2,hok,rfl,rfl⟩
theorem zkw (bd:Nat)(D:DiskM)(hx:HdM)(r0:List ChangeM)(ds:Deeds)(used:Nat)(S:SI)(L:List Pt)(n:Int)(G:Gh)(hdn:D.down=false)(hI:Inv 200 D hx r0 ds used)(hS:S80 D)(hcur:cur r0 ds=yz S L n)(hC:Con S L n G)(F:List HProp):Ct Tryz.prog 40 [ptr bd 0] ([zan,dsk 219 285 bd (D)]++F) (fun v L'=>∃b,v= .tuple #[ptr b 0,yE 0]∧L'=rpl b bd ⟨hx,used,yz S L n,S,L,n,[],[],1⟩::dsk 219 285 bd (D)::zan::F):=by
  show Ct Tryz.prog 40 [ptr bd 0] (zan::dsk 219 285 bd (D)::F) _;have hlen:=hC.v.len;have hrow:=zf5 (S:=S) (n:=n) hlen;refine Ct.of func40 rR 30 ntmps40 (by simp) fun w0=>?_;refine gS (gA rR (gA rR (qb (gS (gM rR ?_)))));refine g_l (qi (Pre:=[dsk 219 285 bd (D)]) call74 rR (zeo bd 200 (D) (hI.len) (by omega) (hS.2.1) (hx) (r0) (ds) (used) (fun _ _ _=>hI.good))) rR ?_;rintro _ _ (⟨hd2,_,_⟩ | ⟨_,h196,_,_⟩ | ⟨_,_,he0,_,_⟩ | ⟨_,_,_,bs,bl,so,co,rfl,rfl⟩)
  · rw[hdn] at hd2;cases hd2
  · exact absurd h196 (by decide)
  · exact absurd he0 (ztp hI)
  rw[hcur];refine gM rR (g_v (qd (v:=ptr bs 0) rR rR) rR (g_v (qd (v:=yE 0) rR rR) rR (gA rR (gA rR (qb (qf (gS (gM rR (g_v (qY (T:=89) (f:=0) underlying29 rR) rR (qb ?_))))))))));refine qg rR (fun h13=>?_) (fun h13=>?_)
  · simp at h13
  · refine qh (gS (gM rR ?_));refine g_l (qi (Pre:=[pt bs (.cells (stC bd (hx) bl so ((yz S L n).length) co) 179 (0,0)),roL 3 so (chR (yz S L n))]) call75 rR (zix bs bd hx bl so co (yz S L n) (by omega))) rR ?_;rintro _ _ ⟨s17,c17,rfl,rfl⟩;refine yM s17 ?_;refine g_l (qi (Pre:=[zan,roL 3 s17 (chR (yz S L n))]) call22 rR (zhH (yz S L n) s17 c17 (by omega) (keyle hC))) rR ?_;rintro _ _ (⟨st,q3,hps,hw,rfl,rfl⟩ | ⟨hno,rfl,rfl⟩);rotate_left
    · exact absurd (ziU hC).2 (hno _ (ziU hC).1)
    rw[(ziU hC).1] at hps;injection hps with hps;subst hps;change Go.Sl.G _ _ _ (vlt q3 S L n::_);refine gM rR (g_v (qd (v:=ptr q3 0) rR rR) rR (g_v (qd (v:=yE 0) rR rR) rR (gA rR (gA rR (qb (qf (gS (gM rR (g_v (qY (T:=89) (f:=0) underlying29 rR) rR (qb ?_))))))))));refine qg rR (fun h22=>?_) (fun h22=>?_)
    · simp at h22
    · refine qh (gS (gM rR (gM rR ?_)));refine g_l (zaP) rR ?_;rintro _ _ ⟨b26,rfl,rfl⟩;refine g_l (zaP) rR ?_;rintro _ _ ⟨b27,rfl,rfl⟩;refine g_v (qO rR (bldRp bs q3 b26 b27)) rR ?_;refine g_l (wQ #[ptr bs 0,ptr q3 0, .map (some b26), .map (some b27),I 1] rfl rR) rR ?_;rintro _ _ ⟨b29,rfl,rfl⟩;refine gA rR (gA rR (qb ?_));refine zfR b26 (zdx []) (.refl _) ?_;refine zfR b27 (zdD []) (.refl _) ?_;refine zmp seA ?_;refine zmp moA ?_;refine yk b29 bd ⟨hx,used,yz S L n,S,L,n,[],[],1⟩ bs bl so co q3 b26 b27 ?_;exact ql (rpl b29 bd ⟨hx,used,yz S L n,S,L,n,[],[],1⟩::dsk 219 285 bd (D)::zan::F) rfl ⟨b29,rfl,rfl⟩
theorem zg9 (F:List HProp):Ct Tryz.prog 61 [] ([zan]++F) (fun v L'=>∃bd b D z,v= .tuple #[ptr bd 0,ptr b 0,Bo true]∧Rep 1 D z∧upW D∧z=⟨z.h,z.used,yz (mkG gZ) [] 1,mkG gZ,[],1,[],[],1⟩∧L'=rpl b bd z::dsk 219 285 bd (D)::zan::F):=by
  show Ct Tryz.prog 61 [] (zan::F) _;refine Ct.of func61 rR 34 ntmps61 (by simp) fun w0=>?_;refine gS (gA rR (gA rR (gA rR (qb (gS ?_)))));refine g_l (qi (Pre:=[]) call92 rR (zl2 200)) rR ?_;rintro _ _ (⟨hno,_,_⟩ | ⟨_,bd,rfl,rfl⟩)
  · exact absurd (by omega) hno
  rw[show ((200:Int)).toNat=200 from rfl];refine gM rR (g_v (qd (v:=ptr bd 0) rR rR) rR (g_v (qd (v:=yE 0) rR rR) rR (gA rR (gA rR (qb (qf (gS (gM rR (g_v (qY (T:=89) (f:=0) underlying29 rR) rR (gM rR (qU rR rR (by simp) (qn rR) rR (qU rR rR (by simp) (zg6 underlying61 rR) rR (g_v (zar rR rR) rR (gM rR (qU rR rR (by simp) (qn rR) rR ?_)))))))))))))));refine zrX rR rR (by simp) (qi (Pre:=[zan,dsk 219 285 bd (zfE 200)]) call93 rR (zhR bd)) rR ?_;rintro _ _ ⟨D2,h2,used2,hok,rfl,rfl⟩;obtain ⟨r2,d2,C2,hcu⟩:=hok.2.2.2.1;refine qU rR rR (by simp) (qY (T:=89) (f:=0) underlying29 rR) rR (g_v (zar rR rR) rR (qb ?_));refine qg rR (fun h20=>?_) (fun h20=>?_)
  · simp at h20
  · refine qh (gS (gM rR ?_));refine g_l (qi (Pre:=[zan,dsk 219 285 bd (D2)]) call40 rR (zkw bd D2 h2 r2 d2 used2 (mkG gZ) [] 1 gZ hok.2.2.1.1 C2.2.1 hok.2.1 hcu Con_z)) rR ?_;rintro _ _ ⟨b,rfl,rfl⟩;refine gM rR (g_v (qd (v:=ptr b 0) rR rR) rR (g_v (qd (v:=yE 0) rR rR) rR (gA rR (gA rR (qb (gS (gM rR (gM rR (gM rR (g_v (wE (T:=89) (f:=0) underlying29 rR) rR (gM rR (qU rR rR (by simp) (qn rR) rR (qU rR rR (by simp) (zvA underlying62 rR) rR (g_v (zao rR rR) rR (gA rR (gA rR (gA rR (qb ?_))))))))))))))))));exact ql (rpl b bd ⟨h2,used2,yz (mkG gZ) [] 1,mkG gZ,[],1,[],[],1⟩::dsk 219 285 bd (D2)::zan::F) rfl ⟨bd,b,D2,⟨h2,used2,yz (mkG gZ) [] 1,mkG gZ,[],1,[],[],1⟩,rfl,⟨hok.1,hok.2.1,⟨r2,d2,C2,hcu⟩,by have:=hok.2.2.2.2.1;show h2.ep≤_;omega,hok.2.2.2.2.2,rfl,⟨⟨gZ,Con_z⟩,by show (1:Int)≤1∧(1:Int)≤1000000;omega,(fun e he=>by cases he),(fun e he=>by cases he),(fun e he=>by cases he)⟩⟩,hok.2.2.1,rfl,rfl⟩
end Go.Proofs.YthdjckbjjfiopacGreatDoor
