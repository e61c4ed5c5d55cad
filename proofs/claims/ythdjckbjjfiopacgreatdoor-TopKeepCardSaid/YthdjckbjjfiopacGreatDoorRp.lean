/- Walks through package repo: what zhD a vault, who uses a point, sessions and mounts that begin and end. No condition but the library's tables. -/
import Derived.Test.YthdjckbjjfiopacGreatDoorRpM
set_option linter.unusedSimpArgs false
set_option linter.unusedVariables false
namespace Go.Proofs.YthdjckbjjfiopacGreatDoor
open _root_.Tryz
open Go.Sl Go.Proofs
structure Dk (i:Nat) (D:DiskM) (z:RpM):Prop where
  ok:okW 200 i D
  s80:S80 D
  hd:z.h.ep≤1000000∧z.h.side≤1∧1≤z.h.first∧z.h.first≤1000000000
  len:z.rows.length≤80
  okr:∀r∈z.rows,okR r
  used:z.used≤200 - 122
  srt:srt z.rows
def RpM.kept (z:RpM)(e:Int)(h:HdM)(used:Nat)(rows:List ChangeM)(S:SI)(L:List Pt)(n:Int):RpM:=if e=0 then ⟨h,used,rows,S,L,n,z.ses,z.mou,z.next⟩ else ⟨h,used,rows,z.S,z.L,z.n,z.ses,z.mou,z.next⟩
def chgR (z:RpM)(S:SI)(L:List Pt)(n:Int):List ChangeM:=mg (yy z.S z.L z.n) (yy S L n)
theorem zo1:∀{l:List SeE},((zdu l).map (·.1)).Nodup→∀{e e':SeE},e∈l→e'∈l→e.key=e'.key→e=e'
  | [],_,e,e',h,_,_=>by cases h
  | a::l,hn,e,e',h,h',hk=>by
    simp only[zdu,List.map_cons,List.nodup_cons,List.mem_map] at hn;rcases List.mem_cons.1 h with rfl | g
    · rcases List.mem_cons.1 h' with rfl | g'
      · rfl
      · exact absurd ⟨_,⟨e',g',rfl⟩,hk.symm⟩ hn.1
    · rcases List.mem_cons.1 h' with rfl | g'
      · exact absurd ⟨_,⟨e,g,rfl⟩,hk⟩ hn.1
      · exact zo1 (by simpa [zdu] using hn.2) g g' hk
theorem zqo:∀{l:List MoE},((zdy l).map (·.1)).Nodup→∀{e e':MoE},e∈l→e'∈l→e.key=e'.key→e=e'
  | [],_,e,e',h,_,_=>by cases h
  | a::l,hn,e,e',h,h',hk=>by
    simp only[zdy,List.map_cons,List.nodup_cons,List.mem_map] at hn;rcases List.mem_cons.1 h with rfl | g
    · rcases List.mem_cons.1 h' with rfl | g'
      · rfl
      · exact absurd ⟨_,⟨e',g',rfl⟩,hk.symm⟩ hn.1
    · rcases List.mem_cons.1 h' with rfl | g'
      · exact absurd ⟨_,⟨e,g,rfl⟩,hk⟩ hn.1
      · exact zqo (by simpa [zdy] using hn.2) g g' hk
theorem zvT {l:List SeE}(hn:((zdu l).map (·.1)).Nodup){done rest rest':MM}{p:Int×Value}(hp:(done++rest).Perm (zdu l))(hq:rest.Perm (p::rest')):(∃i e,l[i]?=some e∧p=(e.key,ptr e.a 0)∧i<l.length)∧((done++ [p])++rest').Perm (zdu l):=by
  have h1:(done++p::rest').Perm (zdu l):=(hq.append_left done).symm.trans hp;refine ⟨?_,by simpa using h1⟩;have hm:p∈zdu l:=h1.mem_iff.1 (by simp);unfold zdu at hm;obtain ⟨e,he,rfl⟩:=List.mem_map.1 hm;obtain ⟨i,hi⟩:=List.getElem?_of_mem he;exact ⟨i,e,hi,rfl,(List.getElem?_eq_some_iff.1 hi).1⟩
theorem zvJ {l:List MoE}(hn:((zdy l).map (·.1)).Nodup){done rest rest':MM}{p:Int×Value}(hp:(done++rest).Perm (zdy l))(hq:rest.Perm (p::rest')):(∃i e,l[i]?=some e∧p=(e.key,ptr e.a 0)∧i<l.length)∧((done++ [p])++rest').Perm (zdy l):=by
  have h1:(done++p::rest').Perm (zdy l):=(hq.append_left done).symm.trans hp;refine ⟨?_,by simpa using h1⟩;have hm:p∈zdy l:=h1.mem_iff.1 (by simp);unfold zdy at hm;obtain ⟨e,he,rfl⟩:=List.mem_map.1 hm;obtain ⟨i,hi⟩:=List.getElem?_of_mem he;exact ⟨i,e,hi,rfl,(List.getElem?_eq_some_iff.1 hi).1⟩
def zbS (z:RpM)(id:Int):Bool:=z.ses.any (fun e=>decide (e.base=id)) || z.mou.any fun e=>decide (e.point=id)
theorem zbC (b:Nat)(v1 v2 v3 v4:Value)(nx:Int)(hnx:0≤nx∧nx≤1000000000)(F:List HProp):Ct Tryz.prog 67 [ptr b 0] ([pt b (.cells #[v1,v2,v3,v4,I nx] 125 (0,0))]++F) (R1 (I nx) (pt b (.cells #[v1,v2,v3,v4,I (nx+1)] 125 (0,0))::F)):=by
  show Ct Tryz.prog 67 [ptr b 0] (pt b (.cells #[v1,v2,v3,v4,I nx] 125 (0,0))::F) _;refine Ct.of Tryz.func67 rR 15 Tryz.ntmps67 (by simp) fun w0=>?_
  refine gS (gA rR (qb (gS (gM rR (g_v (qc rR) rR (g_v (qa 4 underlying125 rR rR sizeOf3 (by decide) rR) rR (g_v (qe (v:=I nx) isAgg3 rR rR) rR (g_v (qu (r:=nx+1) rR rR (w64 (by omega))) rR (g_v (qc rR) rR (g_v (qa 4 underlying125 rR rR sizeOf3 (by decide) rR) rR ?_))))))))));refine yp (qJ #[v1,v2,v3,v4,I (nx+1)] sizeOf3 rR rR rR (by simp) rR) ?_;rintro _ _ rfl;refine qb (gS (gM rfl (g_v (qc rfl) rfl (g_v (qa 4 underlying125 rfl rfl sizeOf3 (by decide) rfl) rfl (g_v (qe (v:=I (nx+1)) isAgg3 rfl rfl) rfl (g_v (za5 (r:=nx) rfl rfl (by rw[show nx+1 - 1=nx by omega];exact w64 (by omega))) rfl (gA rfl (qb ?_))))))));refine qn rR rR ?_;exact rfl
theorem zaL (b bd:Nat)(z:RpM)(hl:z.L.length≤1000000)(F:List HProp):Ct Tryz.prog 29 [ptr b 0] ([rpl b bd z]++F) (fun v L'=>∃q,v=ptr q 0∧L'=vlt q z.S z.L z.n::rpl b bd z::F):=by
  show Ct Tryz.prog 29 [ptr b 0] (rpl b bd z::F) _;refine Ct.of Tryz.func29 rR 8 Tryz.ntmps29 (by simp) fun w0=>?_
  refine wZ b bd z ?_;intro bs bl so co bv rs rm;refine gS (gA rR (qb (gS (gM rR (g_v (qc rR) rR (g_v (qa 1 underlying125 rR rR sizeOf24 (by decide) rR) rR (g_v (qe (v:=ptr bv 0) isAgg24 rR rR) rR ?_)))))));refine g_l (qj (Pre:=[vlt bv z.S z.L z.n]) call12 rR (wE bv z.S z.L z.n hl)) rR ?_;rintro _ _ ⟨q,rfl,rfl⟩;refine gA rR (qb ?_);refine yi b bd (z) bs bl so co bv rs rm ?_;exact qm (vlt q z.S z.L z.n::rpl b bd z::F) rfl ⟨q,rfl,rfl⟩
theorem zaS {ee:Bool}(b bd v i:Nat)(D:DiskM)(z:RpM)(S':SI)(L':List Pt)(n':Int)(G G':Gh)(hC:Con z.S z.L z.n G)(hC':Con S' L' n' G')(hD:Dk i D z)(hi:i≤100000)(F:List HProp):Ct Tryz.prog 72 [ptr b 0,ptr v 0] ([qE ee,rpl b bd z,dsk 219 285 bd (D),vlt v S' L' n']++F) (fun v0 L0=>∃e D2 h2 used2 rows2,ztr D z.h z.rows (200 - 122) z.used (chgR z S' L' n') e D2 h2 used2 rows2∧v0=yH e∧L0=rpl b bd (z.kept e h2 used2 rows2 S' L' n')::dsk 219 285 bd (D2)::qE ee::F):=by
  show Ct Tryz.prog 72 [ptr b 0,ptr v 0] (qE ee::rpl b bd z::dsk 219 285 bd (D)::vlt v S' L' n'::F) _;have hlen:=hC.v.len;have hrow:=zf0 (S:=z.S) (n:=z.n) hlen;have hlen':=hC'.v.len;have hrow':=zf0 (S:=S') (n:=n') hlen';have hml:=znc (yy z.S z.L z.n) (yy S' L' n');refine Ct.of Tryz.func72 rR 26 Tryz.ntmps72 (by simp) fun w0=>?_
  refine wZ b bd z ?_;intro bs bl so co bv rs rm;refine gS (gA rR (qb (qf ?_)));refine yr (Lf:=[pt b (.cells #[ptr bs 0,ptr bv 0, .map (some rs), .map (some rm),I (z.next)] 125 (0,0))]) [(0,false),(1,false),(2,false),(3,false),(4,false),(5,false),(6,false),(7,false),(9,false),(8,true),(10,true),(11,true),(12,true),(13,false)] (by kernel_rfl) (by kernel_rfl) rR (by kernel_rfl) ?_;refine d_v rR (qg rR) rR (d_v rR (qc rR) rR (d_v rR (qa 0 underlying125 rR rR sizeOf121 (by decide) rR) rR (d_v rR (qe (v:=ptr bs 0) isAgg121 rR rR) rR (d_v rR (qg rR) rR (d_v rR (qc rR) rR (d_v rR (qa 1 underlying125 rR rR sizeOf24 (by decide) rR) rR (d_v rR (qe (v:=ptr bv 0) isAgg24 rR rR) rR (d_v rR (qg rR) rR ?_))))))));refine d_l rR (qj (Pre:=[qE ee,vlt bv z.S z.L z.n]) call15 rR (zcD (ee:=ee) bv z.S z.L z.n hC.sm)) rR ?_;rintro _ _ ⟨s14,c14,rfl,rfl⟩;refine yM s14 ?_;refine d_l rR (qj (Pre:=[qE ee,vlt v S' L' n']) call15 rR (zcD (ee:=ee) v S' L' n' hC'.sm)) rR ?_;rintro _ _ ⟨s16,c16,rfl,rfl⟩;refine yM s16 ?_;refine d_l rR (qj (Pre:=[roL 3 s14 (chR (yy z.S z.L z.n)),roL 3 s16 (chR (yy S' L' n'))]) call21 rR (zfH (yy z.S z.L z.n) (yy S' L' n') s14 s16 c14 c16 (by omega) (by omega) (zcw hC.wr) (zcw hC'.wr))) rR ?_;rintro _ _ ⟨s17,c17,rfl,rfl⟩;refine yM s17 ?_;refine d_l rfl (qj (Pre:=[pt bs (.cells (stC bd (z.h) bl so (z.rows.length) co) 179 (0,0)),pt bl (.cells (lgC bd 122 (200 - 122) (z.h.first) (z.used)) 228 (0,0)),dsk 219 285 bd (D),roL 3 so (chR z.rows),roL 3 s17 (chR (mg (yy z.S z.L z.n) (yy S' L' n')))]) call99 rfl (zdg bs bd z.h bl so co z.rows 200 i z.used D hD.ok hi hD.s80 (by decide) hD.hd hD.len hD.okr hD.used hD.srt (mg (yy z.S z.L z.n) (yy S' L' n')) s17 c17 (by omega))) rfl ?_;rintro _ _ ⟨e,D2,h2,used2,rows2,bl2,s2,cap2,hcom,rfl,rfl⟩;refine d_v rR (qw rR) rR ?_;refine qZ ?_;refine qf (gS (gM rR (g_v (wW underlying29 rR) rR (qb ?_))));refine qh rR (fun h20=>?_) (fun h20=>?_)
  · have he0:e=0:=by simpa using h20
    refine qp (gM rR (gM rR (g_v (qc rR) rR (g_v (qa 1 underlying125 rR rR sizeOf24 (by decide) rR) rR ?_))));refine yp (qJ #[ptr bs 0,ptr v 0, .map (some rs), .map (some rm),I z.next] sizeOf24 rR rR rR (by simp) rR) ?_;rintro _ _ rfl;refine qb (gS (gM rR (gA rR (qb ?_))));refine yi b bd (⟨h2,used2,rows2,S',L',n',z.ses,z.mou,z.next⟩) bs bl2 s2 cap2 v rs rm ?_;exact qm (rpl b bd ⟨h2,used2,rows2,S',L',n',z.ses,z.mou,z.next⟩::dsk 219 285 bd (D2)::qE ee::F) rfl ⟨e,D2,h2,used2,rows2,hcom,rfl,by unfold RpM.kept;rw[if_pos he0]⟩
  · have he0:¬e=0:=by simpa using h20
    refine qi (gS (gM rR (gA rR (qb ?_))));refine yi b bd (⟨h2,used2,rows2,z.S,z.L,z.n,z.ses,z.mou,z.next⟩) bs bl2 s2 cap2 bv rs rm ?_;exact qm (rpl b bd ⟨h2,used2,rows2,z.S,z.L,z.n,z.ses,z.mou,z.next⟩::dsk 219 285 bd (D2)::qE ee::F) rfl ⟨e,D2,h2,used2,rows2,hcom,rfl,by unfold RpM.kept;rw[if_neg he0]⟩
theorem zcs (b bd:Nat)(z:RpM)(id:Int)(F:List HProp):Ct Tryz.prog 71 [ptr b 0,I id] ([rpl b bd z]++F) (R1 (Bo (zbS z id)) (rpl b bd z::F)):=by
  show Ct Tryz.prog 71 [ptr b 0,I id] (rpl b bd z::F) _;refine Ct.of Tryz.func71 rR 39 Tryz.ntmps71 (by simp) fun w0=>?_
  refine wZ b bd z ?_;intro bs bl so co bv rs rm;refine zaU rs (fun hnS=>?_);refine zaU rm (fun hnM=>?_);refine gS (gA rR (qb (qf (qf ?_))));refine zaf rs ?_;intro es clk;refine qp (gM rR (g_v (qc rR) rR (g_v (qa 2 underlying125 rR rR sizeOf122 (by decide) rR) rR (g_v (qe (v:= .map (some rs)) isAgg122 rR rR) rR ?_))));refine g_l (zbi underlying122 rR) rR ?_;rintro _ _ ⟨b13,rfl,rfl⟩;refine qb (ql ?_);refine qF (α:=MM×MM×Option (Int×Value)) (fun y=>(y.2.1++y.1).Perm (zdu z.ses)∧∀e∈z.ses,(e.key,ptr e.a 0)∈y.2.1→e.base≠id) (fun _=>U [(0,ptr b 0),(1,I id),(13,ptr b13 0)]) (fun y=>mit b13 rs es clk y.1 y.2.2::mpE rs es clk (zdu z.ses)::pt b (.cells #[ptr bs 0,ptr bv 0, .map (some rs), .map (some rm),I (z.next)] 125 (0,0))::pt bs (.cells (stC bd (z.h) bl so (z.rows.length) co) 179 (0,0))::pt bl (.cells (lgC bd 122 (200 - 122) (z.h.first) (z.used)) 228 (0,0))::roL 3 so (chR z.rows)::vlt bv z.S z.L z.n::big seA z.ses::mp rm (zdy z.mou)::big moA z.mou::F) (fun y=>y.1.length) (zdu z.ses,[],none) ⟨.refl _,by simp⟩ [0,1,13] rfl rfl ?_;rintro ⟨rest,done,cur⟩ ⟨hp,hdn⟩;simp only[] at hp hdn ⊢;refine gS ?_;refine g_l (zcJ rR) rR ?_;rintro _ _ (⟨hr,rfl,rfl⟩ | ⟨p,rest',hq,rfl,rfl⟩)
  · subst hr;have hS:∀e∈z.ses,e.base≠id:=fun e he=>hdn e he (by have:=hp.mem_iff (a:=(e.key,ptr e.a 0));rw[List.append_nil] at this;exact this.2 (List.mem_map.2 ⟨e,he,rfl⟩))
    refine g_v (qd rR rR) rR (qb (qf ?_));refine wj rR ?_;refine qy rR ?_;refine qf (qf ?_);refine qK rs ?_;refine zaf rm ?_;intro es2 clk2;refine qp (gM rR (g_v (qc rR) rR (g_v (qa 3 underlying125 rR rR sizeOf123 (by decide) rR) rR (g_v (qe (v:= .map (some rm)) isAgg123 rR rR) rR ?_))));refine g_l (zbi underlying123 rR) rR ?_;rintro _ _ ⟨b28,rfl,rfl⟩;refine qb (ql ?_);refine qF (α:=MM×MM×Option (Int×Value)) (fun y=>(y.2.1++y.1).Perm (zdy z.mou)∧∀e∈z.mou,(e.key,ptr e.a 0)∈y.2.1→e.point≠id) (fun _=>U [(0,ptr b 0),(1,I id),(28,ptr b28 0)]) (fun y=>mit b28 rm es2 clk2 y.1 y.2.2::mpE rm es2 clk2 (zdy z.mou)::pt b (.cells #[ptr bs 0,ptr bv 0, .map (some rs), .map (some rm),I (z.next)] 125 (0,0))::pt bs (.cells (stC bd (z.h) bl so (z.rows.length) co) 179 (0,0))::pt bl (.cells (lgC bd 122 (200 - 122) (z.h.first) (z.used)) 228 (0,0))::roL 3 so (chR z.rows)::vlt bv z.S z.L z.n::big seA z.ses::mp rs (zdu z.ses)::big moA z.mou::F) (fun y=>y.1.length) (zdy z.mou,[],none) ⟨.refl _,by simp⟩ [0,1,28] rfl rfl ?_;rintro ⟨rest,done,cur⟩ ⟨hp,hdn2⟩;simp only[] at hp hdn2 ⊢;refine gS ?_;refine g_l (zcJ rR) rR ?_;rintro _ _ (⟨hr,rfl,rfl⟩ | ⟨p,rest',hq,rfl,rfl⟩)
    · subst hr;have hM:∀e∈z.mou,e.point≠id:=fun e he=>hdn2 e he (by have:=hp.mem_iff (a:=(e.key,ptr e.a 0));rw[List.append_nil] at this;exact this.2 (List.mem_map.2 ⟨e,he,rfl⟩))
      refine g_v (qd rR rR) rR (qb (qf ?_));refine wj rR ?_;refine qy rR ?_;refine gS (gA rR (qb ?_));refine qK rm ?_;refine yi b bd (z) bs bl so co bv rs rm ?_;exact qn rfl rfl (by show Bo false=_;congr 1;symm;unfold zbS;rw[Bool.or_eq_false_iff,List.any_eq_false,List.any_eq_false];exact ⟨fun e he=>by simpa using hS e he,fun e he=>by simpa using hM e he⟩)
    · obtain ⟨⟨i,e,he,rfl,hi⟩,hp2⟩:=zvJ hnM hp hq;refine g_v (qd rR rR) rR (qb (qf ?_));refine wS rR ?_;refine qi (ql (gS (g_v (zbg rR) rR (g_v (qd (v:=ptr e.a 0) rR rR) rR (gA rR (qb (qf ?_)))))));refine zuv z.mou i he ?_;refine qp (gM rR (g_v (qc rR) rR (g_v (qa 0 underlying130 rR rR sizeOf3 (by decide) rR) rR (g_v (qe (v:=I e.point) isAgg3 rR rR) rR (gM rR (g_v (yY rR rR) rR (qb ?_)))))));refine zab (f:=moA) z.mou i e [pt e.a (.cells #[I e.point, .map (some e.r)] 130 (0,0)),mp e.r (ovM e.over)] rR hi ?_;rw[zbw he];refine qh rR (fun h38=>?_) (fun h38=>?_)
      · simp at h38;refine gS (gA rR (qb ?_));refine qK rm ?_;refine yi b bd (z) bs bl so co bv rs rm ?_;exact qn rfl rfl (by show Bo true=_;congr 1;symm;unfold zbS;rw[Bool.or_eq_true,List.any_eq_true,List.any_eq_true];exact .inr ⟨e,List.mem_of_getElem? he,by simpa using h38⟩)
      · skip;refine qi (qG ?_);refine qo (rest',done++ [(e.key,ptr e.a 0)],some (e.key,ptr e.a 0)) ⟨hp2,fun x hx hm=>?_⟩ (by have:=hq.length_eq;simp at this;simp;omega) [0,1,28] rR rfl;rcases List.mem_append.1 hm with hm | hm
        · exact hdn2 x hx hm
        · have hk:x.key=e.key:=by simp at hm;exact hm.1
          rw[zqo hnM hx (List.mem_of_getElem? he) hk];simpa using h38
  · obtain ⟨⟨i,e,he,rfl,hi⟩,hp2⟩:=zvT hnS hp hq;refine g_v (qd rR rR) rR (qb (qf ?_));refine wS rR ?_;refine qi (ql (gS (g_v (zbg rR) rR (g_v (qd (v:=ptr e.a 0) rR rR) rR (gA rR (qb (qf ?_)))))));refine ztz z.ses i he ?_;refine qp (gM rR (g_v (qc rR) rR (g_v (qa 0 underlying139 rR rR sizeOf3 (by decide) rR) rR (g_v (qe (v:=I e.base) isAgg3 rR rR) rR (gM rR (g_v (yY rR rR) rR (qb ?_)))))));refine zab (f:=seA) z.ses i e [pt e.a (.cells #[I e.base,I e.disk,I e.size,sl e.so e.puts.length e.co] 139 (0,0)),owL 81 2 e.so e.co (zbo e.puts)] rR hi ?_;rw[zbw he];refine qh rR (fun h23=>?_) (fun h23=>?_)
    · simp at h23;refine gS (gA rR (qb ?_));refine qK rs ?_;refine yi b bd (z) bs bl so co bv rs rm ?_;exact qn rfl rfl (by show Bo true=_;congr 1;symm;unfold zbS;rw[Bool.or_eq_true,List.any_eq_true,List.any_eq_true];exact .inl ⟨e,List.mem_of_getElem? he,by simpa using h23⟩)
    · skip;refine qi (qG ?_);refine qo (rest',done++ [(e.key,ptr e.a 0)],some (e.key,ptr e.a 0)) ⟨hp2,fun x hx hm=>?_⟩ (by have:=hq.length_eq;simp at this;simp;omega) [0,1,13] rR rfl;rcases List.mem_append.1 hm with hm | hm
      · exact hdn x hx hm
      · have hk:x.key=e.key:=by simp at hm;exact hm.1
        rw[zo1 hnS hx (List.mem_of_getElem? he) hk];simpa using h23
end Go.Proofs.YthdjckbjjfiopacGreatDoor
