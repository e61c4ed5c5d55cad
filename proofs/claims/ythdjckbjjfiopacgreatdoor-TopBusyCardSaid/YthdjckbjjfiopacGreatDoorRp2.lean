/- Walks through package repo: sessions that begin and end, mounts, what is read and written there. No condition. -/
import Derived.Test.YthdjckbjjfiopacGreatDoorRp
set_option linter.unusedSimpArgs false
set_option linter.unusedVariables false
namespace Go.Proofs.YthdjckbjjfiopacGreatDoor
open _root_.Go.Proofs.Tryz
open Go.Sl Go.Proofs
theorem zjt {α:Type}(p:α→Bool):∀l:List α,l.find? p=l[l.findIdx p]?
  | []=>rfl
  | a::l=>by
    rw[List.find?_cons,List.findIdx_cons];cases h:p a with
    | true=>simp
    | false=>simpa using zjt p l
def sIx (l:List SeE)(id:Int):Nat:=l.findIdx fun e=>decide (e.key=id)
def mIx (l:List MoE)(id:Int):Nat:=l.findIdx fun e=>decide (e.key=id)
theorem zka {l:List SeE}{id:Int}{e:SeE}(h:fSe l id=some e):l[sIx l id]? =some e∧e.key=id∧sIx l id<l.length:=by
  have h1:=h;unfold fSe at h1;rw[zjt] at h1;have h2:=List.find?_some h;exact ⟨h1,by simpa using h2,(List.getElem?_eq_some_iff.1 h1).1⟩
theorem zkm {l:List MoE}{id:Int}{e:MoE}(h:fMo l id=some e):l[mIx l id]? =some e∧e.key=id∧mIx l id<l.length:=by
  have h1:=h;unfold fMo at h1;rw[zjt] at h1;have h2:=List.find?_some h;exact ⟨h1,by simpa using h2,(List.getElem?_eq_some_iff.1 h1).1⟩
def ofE (L:List Pt)(base disk:Int):Int:=if base=0 then 0 else match yc L base with
  | none=>5
  | some p=>if p.disk≠disk then 3 else 0
def wm (z:RpM)(base disk size:Int):Int:=if disk<1∨999<disk∨size<1∨16<size then 1 else if ofE z.L base disk≠0 then ofE z.L base disk else if z.ses.length=3 then 8 else 0
def RpM.sess (z:RpM)(l:List SeE):RpM:=⟨z.h,z.used,z.rows,z.S,z.L,z.n,l,z.mou,z.next⟩
def RpM.moun (z:RpM)(l:List MoE):RpM:=⟨z.h,z.used,z.rows,z.S,z.L,z.n,z.ses,l,z.next⟩
def RpM.begun (z:RpM)(a:Nat)(base disk size:Int):RpM:=⟨z.h,z.used,z.rows,z.S,z.L,z.n,z.ses++ [⟨z.next,a,none,0,base,disk,size,[]⟩],z.mou,z.next+1⟩
def RpM.mounted (z:RpM)(a r:Nat)(id:Int):RpM:=⟨z.h,z.used,z.rows,z.S,z.L,z.n,z.ses,z.mou++ [⟨z.next,a,r,id,[]⟩],z.next+1⟩
def zb5 (z:RpM)(id:Int):Int:=match yc z.L id with
  | none=>5
  | some _=>if z.mou.length=3 then 8 else 0
def zbA (z:RpM)(id at_:Int):Bytes×Int:=match fMo z.mou id with
  | none=>([],5)
  | some m=>if (rdE z.S z.L m.point at_).2≠0 then ([],(rdE z.S z.L m.point at_).2) else match ovL m.over at_ with
    | some d=>(d,0)
    | none=>((rdE z.S z.L m.point at_).1,0)
def zbl (z:RpM)(id at_:Int)(d:Bytes):Int:=if (zbA z id at_).2≠0 then (zbA z id at_).2 else if 6<d.length then 2 else 0
def RpM.written (z:RpM)(id at_:Int)(d:Bytes):RpM:=match fMo z.mou id with
  | none=>z
  | some m=>z.moun (z.mou.set (mIx z.mou id) ⟨m.key,m.a,m.r,m.point,ovS m.over at_ d⟩)
theorem bldSe (x y k:Int)(w:World):(Instr.build 139 #[(0,I x),(1,I y),(2,I k)]).run Tryz.prog w= .ok (.agg #[I x,I y,I k,sl none 0 0]) w:=by
  simp[Instr.build,zeroValue139,runUnderlying139,sizeOf3,Instr.fill,qV,sl,show ∀k:Int,(I k).cells=#[I k] from fun _=>rfl]
theorem bldMo (x:Int)(r:Nat)(w:World):(Instr.build 130 #[(0,I x),(1, .map (some r))]).run Tryz.prog w= .ok (.agg #[I x, .map (some r)]) w:=by
  simp[Instr.build,zeroValue130,runUnderlying130,sizeOf3,sizeOf128,Instr.fill,qV,show ∀k:Int,(I k).cells=#[I k] from fun _=>rfl,show (Value.map (some r)).cells=#[.map (some r)] from rfl]
theorem zaI (b bd:Nat)(z:RpM)(base disk size:Int)(hR:Rok z)(F:List HProp):Ct Tryz.prog 35 [ptr b 0,I base,I disk,I size] ([rpl b bd z]++F) (fun v L'=>(wm z base disk size≠0∧v= .tuple #[I 0,yE (wm z base disk size)]∧L'=rpl b bd z::F)∨(wm z base disk size=0∧∃a,v= .tuple #[I z.next,yE 0]∧L'=rpl b bd (z.begun a base disk size)::F)):=by
  show Ct Tryz.prog 35 [ptr b 0,I base,I disk,I size] (rpl b bd z::F) _;obtain ⟨G0,hC⟩:=hR.con;have hlen:=hC.v.len;have hnx:=hR.next;refine Ct.of func35 rR 67 ntmps35 (by simp) fun w0=>?_;refine wY b bd z ?_;intro bs bl so co bv rs rm;refine gS (gA rR (gA rR (qb (qf (gS (gM rR (g_v (qN rR rR) rR (gM rR (qI rR rR (fun hg=>qn rR) rR rR (qI rR rR (fun hg=>yw rR rR) rR rR (g_v (zar rR rR) rR (gM rR (qI rR rR (fun hg=>qn rR) rR rR (qI rR rR (fun hg=>qN rR rR) rR rR (g_v (zar rR rR) rR (gM rR (qI rR rR (fun hg=>qn rR) rR rR (qI rR rR (fun hg=>yw rR rR) rR rR (g_v (zar rR rR) rR (qb ?_))))))))))))))))))));refine qg rR (fun h26=>?_) (fun h26=>?_)
  · have hbd:disk<1∨999<disk∨size<1∨16<size:=(by simp at h26;omega);refine gS (g_v (qA underlying89 rR rR) rR (gA rR (gA rR (qb ?_))));refine yk b bd (z) bs bl so co bv rs rm ?_;exact ql (rpl b bd (z)::F) rfl (.inl ⟨by unfold wm;rw[if_pos hbd];decide,by unfold wm;rw[if_pos hbd];rfl,rfl⟩)
  · have hbd:¬(disk<1∨999<disk∨size<1∨16<size):=(by simp at h26;omega);refine qh (qf (gS (gM rR (g_v (zdV rR rR) rR (qb ?_)))));refine zjO (α:=Unit) (fun _=>ofE z.L base disk=0) (fun _=>U [(0,ptr b 0),(1,I base),(2,I disk),(3,I size)]) (fun _=>pt b (.cells #[ptr bs 0,ptr bv 0, .map (some rs), .map (some rm),I (z.next)] 125 (0,0))::pt bs (.cells (stC bd (z.h) bl so (z.rows.length) co) 179 (0,0))::pt bl (.cells (lgC bd 122 (200 - 122) (z.h.first) (z.used)) 228 (0,0))::roL 3 so (chR z.rows)::vlt bv z.S z.L z.n::mp rs (zdx z.ses)::big seA z.ses::mp rm (zdD z.mou)::big moA z.mou::F) ?_ ?_
    · refine qg rR (fun h29=>?_) (fun h29=>?_)
      · simp at h29;refine gS (gM rR (g_v (qc rR) rR (g_v (qa 1 underlying125 rR rR sizeOf24 (by decide) rR) rR (g_v (qe (v:=ptr bv 0) isAgg24 rR rR) rR (gM rR ?_)))));refine g_l (qi (Pre:=[vlt bv z.S z.L z.n]) call33 rR (qZ bv z.S z.L z.n base (by omega))) rR ?_;rintro _ _ ⟨rfl,rfl⟩;refine gM rR (g_v (qd (v:= .agg (yh ((yc z.L base).getD pt0)).toArray) rR rR) rR (g_v (qd (v:=Bo (yc z.L base).isSome) rR rR) rR ?_));refine g_l (qy #[I 0,I 0,I 0,I 0] zeroValue55) rR ?_;rintro _ _ ⟨b10,rfl,rfl⟩;refine yr (qr (cs:=#[I 0,I 0,I 0,I 0]) (vs:=yh (((yc z.L base).getD pt0))) (yh (((yc z.L base).getD pt0))).toArray sizeOf55 rR rR rR rR (by simp) (qv rR)) ?_;rintro _ _ rfl;refine gA rR (qb (qf (gS (gM rR (g_v (wn rR) rR (qb ?_))))));refine qg rR (fun h40=>?_) (fun h40=>?_)
        · simp at h40;refine gS (g_v (qA underlying89 rR rR) rR (gA rR (gA rR (qb ?_))));refine yk b bd (z) bs bl so co bv rs rm ?_;exact ql (rpl b bd (z)::F) rfl (have ho:ofE z.L base disk=5:=by unfold ofE;rw[if_neg h29,h40]
            .inl ⟨by unfold wm;rw[if_neg hbd,if_pos (by omega),ho];decide,by unfold wm;rw[if_neg hbd,if_pos (by omega),ho];rfl,rfl⟩)
        · simp at h40;obtain ⟨p,hf⟩:=Option.isSome_iff_exists.1 h40;rw[show (yc z.L base).getD pt0=p by rw[hf];rfl];refine qh (gS (g_v (qa 1 underlying55 rR rR sizeOf3 (by decide) rR) rR (g_v (qe (v:=I p.disk) isAgg3 rR rR) rR (gM rR (g_v (zdV rR rR) rR (qb ?_))))));refine qg rR (fun h45=>?_) (fun h45=>?_)
          · simp at h45;refine gS (g_v (qA underlying89 rR rR) rR (gA rR (gA rR (qb ?_))));refine yk b bd (z) bs bl so co bv rs rm ?_;exact ql (rpl b bd (z)::F) rfl (have ho:ofE z.L base disk=3:=by unfold ofE;rw[if_neg h29,hf];simp only;rw[if_pos (by omega)]
              .inl ⟨by unfold wm;rw[if_neg hbd,if_pos (by omega),ho];decide,by unfold wm;rw[if_neg hbd,if_pos (by omega),ho];rfl,rfl⟩)
          · simp at h45;refine qh ?_;exact zaD () (by unfold ofE;rw[if_neg h29,hf];simp only;rw[if_neg (by omega)]) [0,1,2,3] rfl rfl
      · simp at h29;refine qh ?_;exact zaD () (by unfold ofE;rw[if_pos h29]) [0,1,2,3] rfl rfl
    rintro _ hof;refine qf (gS (gM rR (g_v (qc rR) rR (g_v (qa 2 underlying125 rR rR sizeOf122 (by decide) rR) rR (g_v (qe (v:= .map (some rs)) isAgg122 rR rR) rR (g_v (zd2 underlying122 rR) rR (g_v (yR rR rR) rR (qb ?_))))))));refine qg rR (fun h52=>?_) (fun h52=>?_)
    · have hfull:z.ses.length=3:=(by simp[zdx] at h52;omega);refine gS (g_v (qA underlying89 rR rR) rR (gA rR (gA rR (qb ?_))));refine yk b bd (z) bs bl so co bv rs rm ?_;exact ql (rpl b bd (z)::F) rfl (.inl ⟨by unfold wm;rw[if_neg hbd,if_neg (by omega),if_pos hfull];decide,by unfold wm;rw[if_neg hbd,if_neg (by omega),if_pos hfull];rfl,rfl⟩)
    · have hfull:¬z.ses.length=3:=(by simp[zdx] at h52;omega);refine qh (gS (gM rR ?_));refine g_l (qi (Pre:=[pt b (.cells #[ptr bs 0,ptr bv 0, .map (some rs), .map (some rm),I (z.next)] 125 (0,0))]) call67 rR (zbJ b (ptr bs 0) (ptr bv 0) (.map (some rs)) (.map (some rm)) z.next (by omega))) rR ?_;rintro _ _ ⟨rfl,rfl⟩;refine gA rR (qb (gS (gM rR (g_v (qc rR) rR (g_v (qa 2 underlying125 rR rR sizeOf122 (by decide) rR) rR (g_v (qe (v:= .map (some rs)) isAgg122 rR rR) rR (gM rR (gM rR (gM rR (gM rR (g_v (qO rR (bldSe base disk size)) rR ?_)))))))))));refine g_l (wQ #[I base,I disk,I size,sl none 0 0] rfl rR) rR ?_;rintro _ _ ⟨b65,rfl,rfl⟩;refine yr (yf underlying122 underlying3 rR rR rR) ?_;rintro _ _ rfl;rw[zrx (l:=z.ses) (e:=(⟨z.next,b65,none,0,base,disk,size,[]⟩:SeE)) (fun x hx=>by have:=hR.keyS x hx;show x.key≠z.next;omega)];refine yK 81 2 (zbr []) rR ?_;refine zmN (f:=seA) z.ses (⟨z.next,b65,none,0,base,disk,size,[]⟩:SeE) [pt b65 (.cells #[I base,I disk,I size,sl none 0 0] 139 (0,0)),owL 81 2 none 0 (zbr [])] rfl ?_;refine qb (gS (gM rR (gA rR (gA rR (qb ?_)))));refine yk b bd (⟨z.h,z.used,z.rows,z.S,z.L,z.n,z.ses++ [⟨z.next,b65,none,0,base,disk,size,[]⟩],z.mou,z.next+1⟩) bs bl so co bv rs rm ?_;exact ql (rpl b bd (⟨z.h,z.used,z.rows,z.S,z.L,z.n,z.ses++ [⟨z.next,b65,none,0,base,disk,size,[]⟩],z.mou,z.next+1⟩)::F) rfl (.inr ⟨by unfold wm;rw[if_neg hbd,if_neg (by omega),if_neg hfull],b65,rfl,rfl⟩)
theorem wW (b bd:Nat)(z:RpM)(id:Int)(F:List HProp):Ct Tryz.prog 37 [ptr b 0,I id] ([rpl b bd z]++F) (fun v L'=>(fSe z.ses id=none∧v=yE 5∧L'=rpl b bd z::F)∨(∃e,fSe z.ses id=some e∧v=yE 0∧L'=rpl b bd (z.sess (dSe z.ses id))::F)):=by
  show Ct Tryz.prog 37 [ptr b 0,I id] (rpl b bd z::F) _;refine Ct.of func37 rR 18 ntmps37 (by simp) fun w0=>?_;refine wY b bd z ?_;intro bs bl so co bv rs rm;refine gS (gA rfl (qb (qf (gS (gM rfl (g_v (qc rfl) rfl (g_v (qa 2 underlying125 rfl rfl sizeOf122 (by decide) rfl) rfl (g_v (qe (v:= .map (some rs)) isAgg122 rfl rfl) rfl (gM rfl (g_v (yD (v:= .pointer ((fSe z.ses id).map fun e=>⟨e.a,0,none⟩)) underlying122 underlying3 zeroValue137 rfl rfl (by rw[zme];cases fSe z.ses id <;> rfl)) rfl (g_v (zg6 underlying137 rfl) rfl (qb ?_))))))))))));refine qg rR (fun h11=>?_) (fun h11=>?_)
  · have hno:fSe z.ses id=none:=(by simpa using h11);refine gS (g_v (qA underlying89 rR rR) rR (gA rR (qb ?_)));refine yk b bd (z) bs bl so co bv rs rm ?_;exact ql (rpl b bd (z)::F) rfl (.inl ⟨hno,rfl,rfl⟩)
  · obtain ⟨e,hfe⟩:∃e,fSe z.ses id=some e:=Option.isSome_iff_exists.1 (by cases hq:fSe z.ses id with
      | none=>rw[hq] at h11;cases h11
      | some _=>rfl)
    obtain ⟨he,hek,hi⟩:=zka hfe;rw[hfe];refine qh (gS (gM rR (g_v (qc rR) rR (g_v (qa 2 underlying125 rR rR sizeOf122 (by decide) rR) rR (g_v (qe (v:= .map (some rs)) isAgg122 rR rR) rR (gM rR ?_))))));refine yr (zbX underlying122 underlying3 rR rR) ?_;rintro _ _ ⟨rfl,rfl⟩;rw[znr];refine zjB (f:=seA) z.ses (dSe z.ses id) List.filter_sublist ?_;refine qb (gS (gA rR (qb ?_)));refine yk b bd (⟨z.h,z.used,z.rows,z.S,z.L,z.n,dSe z.ses id,z.mou,z.next⟩) bs bl so co bv rs rm ?_;exact ql (rpl b bd (⟨z.h,z.used,z.rows,z.S,z.L,z.n,dSe z.ses id,z.mou,z.next⟩)::F) rfl (.inr ⟨e,rfl,rfl,rfl⟩)
theorem zbq (b bd:Nat)(z:RpM)(id:Int)(F:List HProp):Ct Tryz.prog 38 [ptr b 0,I id] ([rpl b bd z]++F) (fun v L'=>(fMo z.mou id=none∧v=yE 5∧L'=rpl b bd z::F)∨(∃e,fMo z.mou id=some e∧v=yE 0∧L'=rpl b bd (z.moun (dMo z.mou id))::F)):=by
  show Ct Tryz.prog 38 [ptr b 0,I id] (rpl b bd z::F) _;refine Ct.of func38 rR 18 ntmps38 (by simp) fun w0=>?_;refine wY b bd z ?_;intro bs bl so co bv rs rm;refine gS (gA rfl (qb (qf (gS (gM rfl (g_v (qc rfl) rfl (g_v (qa 3 underlying125 rfl rfl sizeOf123 (by decide) rfl) rfl (g_v (qe (v:= .map (some rm)) isAgg123 rfl rfl) rfl (gM rfl (g_v (yD (v:= .pointer ((fMo z.mou id).map fun e=>⟨e.a,0,none⟩)) underlying123 underlying3 zeroValue127 rfl rfl (by rw[zms];cases fMo z.mou id <;> rfl)) rfl (g_v (zg6 underlying127 rfl) rfl (qb ?_))))))))))));refine qg rR (fun h11=>?_) (fun h11=>?_)
  · have hno:fMo z.mou id=none:=(by simpa using h11);refine gS (g_v (qA underlying89 rR rR) rR (gA rR (qb ?_)));refine yk b bd (z) bs bl so co bv rs rm ?_;exact ql (rpl b bd (z)::F) rfl (.inl ⟨hno,rfl,rfl⟩)
  · obtain ⟨e,hfe⟩:∃e,fMo z.mou id=some e:=Option.isSome_iff_exists.1 (by cases hq:fMo z.mou id with
      | none=>rw[hq] at h11;cases h11
      | some _=>rfl)
    obtain ⟨he,hek,hi⟩:=zkm hfe;rw[hfe];refine qh (gS (gM rR (g_v (qc rR) rR (g_v (qa 3 underlying125 rR rR sizeOf123 (by decide) rR) rR (g_v (qe (v:= .map (some rm)) isAgg123 rR rR) rR (gM rR ?_))))));refine yr (zbX underlying123 underlying3 rR rR) ?_;rintro _ _ ⟨rfl,rfl⟩;rw[zru];refine zjB (f:=moA) z.mou (dMo z.mou id) List.filter_sublist ?_;refine qb (gS (gA rR (qb ?_)));refine yk b bd (⟨z.h,z.used,z.rows,z.S,z.L,z.n,z.ses,dMo z.mou id,z.next⟩) bs bl so co bv rs rm ?_;exact ql (rpl b bd (⟨z.h,z.used,z.rows,z.S,z.L,z.n,z.ses,dMo z.mou id,z.next⟩)::F) rfl (.inr ⟨e,rfl,rfl,rfl⟩)
theorem zb1 (b bd:Nat)(z:RpM)(id:Int)(hR:Rok z)(F:List HProp):Ct Tryz.prog 27 [ptr b 0,I id] ([rpl b bd z]++F) (fun v L'=>(zb5 z id≠0∧v= .tuple #[I 0,yE (zb5 z id)]∧L'=rpl b bd z::F)∨(zb5 z id=0∧∃a r,v= .tuple #[I z.next,yE 0]∧L'=rpl b bd (z.mounted a r id)::F)):=by
  show Ct Tryz.prog 27 [ptr b 0,I id] (rpl b bd z::F) _;obtain ⟨G0,hC⟩:=hR.con;have hlen:=hC.v.len;have hnx:=hR.next;refine Ct.of func27 rR 40 ntmps27 (by simp) fun w0=>?_;refine wY b bd z ?_;intro bs bl so co bv rs rm;refine gS (gA rR (gA rR (qb (gS (gM rR (g_v (qc rR) rR (g_v (qa 1 underlying125 rR rR sizeOf24 (by decide) rR) rR (g_v (qe (v:=ptr bv 0) isAgg24 rR rR) rR (gM rR ?_)))))))));refine g_l (qi (Pre:=[vlt bv z.S z.L z.n]) call33 rR (qZ bv z.S z.L z.n id (by omega))) rR ?_;rintro _ _ ⟨rfl,rfl⟩;refine gM rR (g_v (qd (v:= .agg (yh ((yc z.L id).getD pt0)).toArray) rR rR) rR (g_v (qd (v:=Bo (yc z.L id).isSome) rR rR) rR ?_));refine g_l (qy #[I 0,I 0,I 0,I 0] zeroValue55) rR ?_;rintro _ _ ⟨b6,rfl,rfl⟩;refine yr (qr (cs:=#[I 0,I 0,I 0,I 0]) (vs:=yh (((yc z.L id).getD pt0))) (yh (((yc z.L id).getD pt0))).toArray sizeOf55 rR rR rR rR (by simp) (qv rR)) ?_;rintro _ _ rfl;refine gA rR (qb (qf (gS (gM rR (g_v (wn rR) rR (qb ?_))))));refine qg rR (fun h19=>?_) (fun h19=>?_)
  · simp at h19;refine gS (g_v (qA underlying89 rR rR) rR (gA rR (gA rR (qb ?_))));refine yk b bd (z) bs bl so co bv rs rm ?_;exact ql (rpl b bd (z)::F) rfl (have ho:zb5 z id=5:=by unfold zb5;rw[h19]
      .inl ⟨by rw[ho];decide,by rw[ho];rfl,rfl⟩)
  · simp at h19;obtain ⟨p,hf⟩:=Option.isSome_iff_exists.1 h19;rw[show (yc z.L id).getD pt0=p by rw[hf];rfl];refine qh (qf (gS (gM rR (g_v (qc rR) rR (g_v (qa 3 underlying125 rR rR sizeOf123 (by decide) rR) rR (g_v (qe (v:= .map (some rm)) isAgg123 rR rR) rR (g_v (zd2 underlying123 rR) rR (g_v (yR rR rR) rR (qb ?_)))))))));refine qg rR (fun h26=>?_) (fun h26=>?_)
    · have hfull:z.mou.length=3:=(by simp[zdD] at h26;omega);refine gS (g_v (qA underlying89 rR rR) rR (gA rR (gA rR (qb ?_))));refine yk b bd (z) bs bl so co bv rs rm ?_;exact ql (rpl b bd (z)::F) rfl (have ho:zb5 z id=8:=by unfold zb5;rw[hf];simp only;rw[if_pos hfull]
        .inl ⟨by rw[ho];decide,by rw[ho];rfl,rfl⟩)
    · have hfull:¬z.mou.length=3:=(by simp[zdD] at h26;omega);refine qh (gS (gM rR ?_));refine g_l (qi (Pre:=[pt b (.cells #[ptr bs 0,ptr bv 0, .map (some rs), .map (some rm),I (z.next)] 125 (0,0))]) call67 rR (zbJ b (ptr bs 0) (ptr bv 0) (.map (some rs)) (.map (some rm)) z.next (by omega))) rR ?_;rintro _ _ ⟨rfl,rfl⟩;refine gA rR (qb (gS (gM rR (g_v (qc rR) rR (g_v (qa 3 underlying125 rR rR sizeOf123 (by decide) rR) rR (g_v (qe (v:= .map (some rm)) isAgg123 rR rR) rR (gM rR (gM rR ?_))))))));refine g_l (zaP) rR ?_;rintro _ _ ⟨b36,rfl,rfl⟩;refine g_v (qO rR (bldMo id b36)) rR ?_;refine g_l (wQ #[I id, .map (some b36)] rfl rR) rR ?_;rintro _ _ ⟨b38,rfl,rfl⟩;refine yr (yf underlying123 underlying3 rR rR rR) ?_;rintro _ _ rfl;rw[zsH (l:=z.mou) (e:=(⟨z.next,b38,b36,id,[]⟩:MoE)) (fun x hx=>by have:=hR.keyM x hx;show x.key≠z.next;omega)];refine zmN (f:=moA) z.mou (⟨z.next,b38,b36,id,[]⟩:MoE) [pt b38 (.cells #[I id, .map (some b36)] 130 (0,0)),mp b36 []] rfl ?_;refine qb (gS (gM rR (gA rR (gA rR (qb ?_)))));refine yk b bd (⟨z.h,z.used,z.rows,z.S,z.L,z.n,z.ses,z.mou++ [⟨z.next,b38,b36,id,[]⟩],z.next+1⟩) bs bl so co bv rs rm ?_;exact ql (rpl b bd (⟨z.h,z.used,z.rows,z.S,z.L,z.n,z.ses,z.mou++ [⟨z.next,b38,b36,id,[]⟩],z.next+1⟩)::F) rfl (.inr ⟨by unfold zb5;rw[hf];simp only;rw[if_neg hfull],b38,b36,rfl,by unfold RpM.mounted;rfl⟩)
end Go.Proofs.YthdjckbjjfiopacGreatDoor
