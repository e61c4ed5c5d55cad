/- Walks through package vdisk: sizes, snapshots, reading. No condition. -/
import Derived.Test.YthdjckbjjfiopacGreatDoorVd2
set_option linter.unusedSimpArgs false
set_option linter.unusedVariables false
namespace Go.Proofs.YthdjckbjjfiopacGreatDoor
open _root_.Go.Proofs.Tryz
open Go.Sl Go.Proofs
def snE (D:VdM):Int:=if D.snaps.length=5∨999<D.next then 8 else 0
def snI (D:VdM):Int:=if snE D=0 then D.next else 0
def snD (D:VdM):VdM:=if snE D=0 then ⟨D.size,D.blocks,fun _=>false,D.time,D.next+1,D.snaps++ [⟨D.next,D.time,D.size,D.blocks,D.dirty⟩]⟩ else D
theorem zrQ {T:TypeId}{f:Nat×Nat}(sz tm nx:Int)(B:Nat→Bytes)(sd ss:Value):∀k v,(s16 B)[k]? =some v→yj (.cells (vdC sz B sd tm nx ss) T f) (0+1+k)=some v
  :=fun k v h=>match k,h with
    | 0,h=>h
    | 1,h=>h
    | 2,h=>h
    | 3,h=>h
    | 4,h=>h
    | 5,h=>h
    | 6,h=>h
    | 7,h=>h
    | 8,h=>h
    | 9,h=>h
    | 10,h=>h
    | 11,h=>h
    | 12,h=>h
    | 13,h=>h
    | 14,h=>h
    | 15,h=>h
    | k+16,h=>by simp[s16] at h
theorem ztD {T:TypeId}{f:Nat×Nat}(x:SnapM×Loc):∀j,j<16→yj (.cells (zmw x).toArray T f) (0+3+j*1)=some (Str (x.1.blocks j))
  :=fun j h=>match j,h with
    | 0,_=>rfl
    | 1,_=>rfl
    | 2,_=>rfl
    | 3,_=>rfl
    | 4,_=>rfl
    | 5,_=>rfl
    | 6,_=>rfl
    | 7,_=>rfl
    | 8,_=>rfl
    | 9,_=>rfl
    | 10,_=>rfl
    | 11,_=>rfl
    | 12,_=>rfl
    | 13,_=>rfl
    | 14,_=>rfl
    | 15,_=>rfl
    | k+16,h=>absurd h (by omega)
theorem zuy (id tm sz:Int)(B:Nat→Bytes)(m:Nat→Bool)(sd:Value)(h:one sd=true)(w:World):(Instr.build 169 #[(0,I id),(1,I tm),(2,I sz),(3, .agg (s16 B).toArray),(4,sd)]).run Tryz.prog w= .ok (.agg (zrk ⟨id,tm,sz,B,m⟩ sd).toArray) w:=by
  simp[Instr.build,zeroValue169,runUnderlying169,sizeOf3,sizeOf161,sizeOf162,Instr.fill,qV,sl,qS h,s16,zrk,qS (show one (I id)=true from rfl),qS (show one (I tm)=true from rfl),qS (show one (I sz)=true from rfl)]
def zgO (D:VdM)(i:Nat):SnapM:=(D.snaps[i]?).getD ⟨0,0,0,fun _=>[],fun _=>false⟩
theorem zhe {D:VdM}{i:Nat}{s:SnapM}(h:D.snaps[i]? =some s):zgO D i=s:=by unfold zgO;rw[h];rfl
def rdS (D:VdM)(id n:Int):Bytes×Int×Int:=if zcP D.snaps id<0 then ([],0,5) else if n<0∨(zgO D (zcP D.snaps id).toNat).size≤n then ([],0,1) else ((zgO D (zcP D.snaps id).toNat).blocks n.toNat,(zgO D (zcP D.snaps id).toNat).size,0)
def szS (D:VdM)(id:Int):Int×Int:=if zcP D.snaps id<0 then (0,5) else ((zgO D (zcP D.snaps id).toNat).size,0)
theorem zjp (b:Nat)(D:VdM)(hs:D.snaps.length≤1000000)(hn: -9223372036854775808≤D.next)(F:List HProp):Ct Tryz.prog 64 [ptr b 0] ([vdk b (D)]++F) (R1 (.tuple #[I (snI D),yE (snE D)]) (vdk b (snD D)::F)):=by
  show Ct Tryz.prog 64 [ptr b 0] (vdk b (D)::F) _;refine Ct.of func64 rR 61 ntmps64 (by simp) fun w0=>?_;refine zdz b (D) ?_;intro sd cd ss cs gl hgl;have hln:=znq hgl;refine gS (gA rR (gA rR (qb (qf (gS (gM rR (g_v (qc rR) rR (g_v (qa 20 underlying165 rR rR sizeOf163 (by decide) rR) rR (g_v (qe (v:=sl ss gl.length cs) isAgg163 rR rR) rR (g_v (yq underlying163 rR) rR (g_v (yR rR rR) rR (gM rR (qI rR rR (fun hg=>qn rR) rR rR (qI rR rR (fun hg=>qc rR) rR rR (qI rR rR (fun hg=>qa 19 underlying165 rR rR sizeOf3 (by decide) rR) rR rR (qI rR rR (fun hg=>qe (v:=I D.next) isAgg3 rR rR) rR rR (qI rR rR (fun hg=>yw rR rR) rR rR (g_v (zar rR rR) rR (qb ?_)))))))))))))))))));refine qg rR (fun h17=>?_) (fun h17=>?_)
  · simp at h17;have hw:snE D=8:=(by unfold snE;rw[if_pos (by omega)]);refine gS (g_v (qA underlying89 rR rR) rR (gA rR (gA rR (qb ?_))));refine zas (vdC ((D).size) ((D).blocks) (sl sd (ofM (D).dirty).length cd) ((D).time) ((D).next) (sl ss gl.length cs)) (qL (ofM (D).dirty)) (wR gl) sd cd ss cs (gl) b ((D)) rR rR rR hgl ?_;rw[show vdk b D=vdk b (snD D) by unfold snD;rw[if_neg (by omega)]];exact qm rfl rfl (by rw[show snI D=0 by unfold snI;rw[if_neg (by omega)],hw];rfl)
  · simp at h17;have hw:snE D=0:=(by unfold snE;rw[if_neg (by omega)]);refine qh (gS (gM rR (g_v (qc rR) rR (g_v (qa 19 underlying165 rR rR sizeOf3 (by decide) rR) rR (g_v (qe (v:=I D.next) isAgg3 rR rR) rR (gA rR (qb (gS (gM rR (g_v (qc rR) rR (g_v (qa 19 underlying165 rR rR sizeOf3 (by decide) rR) rR (g_v (qe (v:=I D.next) isAgg3 rR rR) rR (g_v (qu rR rR (w64 (by omega))) rR (g_v (qc rR) rR (g_v (qa 19 underlying165 rR rR sizeOf3 (by decide) rR) rR ?_)))))))))))))));refine yr (qK (vdC ((D).size) ((D).blocks) (sl sd (ofM (D).dirty).length cd) ((D).time) (D.next+1) (sl ss gl.length cs)) sizeOf3 rR rR rR (by rw[zhi];decide) (zsL _ _ _ _ _ _ _)) ?_;rintro _ _ rfl;refine qb (qf ?_);refine zc8 (Lf:=pt b (.cells (vdC ((D).size) ((D).blocks) (sl sd (ofM (D).dirty).length cd) ((D).time) (D.next+1) (sl ss gl.length cs)) 165 (0,0))::F) [(0,false),(1,false),(2,false),(3,false),(4,false),(5,false),(6,false),(7,false),(8,false),(9,false),(10,false),(11,false),(12,false),(13,false),(14,false),(15,false),(16,false),(17,false),(18,false),(19,false),(20,false),(21,false),(22,false),(23,true),(24,true),(25,false),(26,false)] 27 rR (by kernel_rfl) (by kernel_rfl) rR (by kernel_rfl) (by kernel_rfl) ?_;refine dM rR rR rR (dM rR rR rR (d_v rR (qc rR) rR (d_v rR (qa 20 underlying165 rR rR sizeOf163 (by decide) rR) rR (d_v rR (qe (v:=sl ss gl.length cs) isAgg163 rR rR) rR (dM rR rR rR (dM rR rR rR (d_v rR (qc rR) rR (d_v rR (qa 18 underlying165 rR rR sizeOf3 (by decide) rR) rR (d_v rR (qe (v:=I D.time) isAgg3 rR rR) rR (dM rR rR rR (d_v rR (qc rR) rR (d_v rR (qa 0 underlying165 rR rR sizeOf3 (by decide) rR) rR (d_v rR (qe (v:=I D.size) isAgg3 rR rR) rR (dM rR rR rR (d_v rR (qc rR) rR (d_v rR (qa 1 underlying165 rR rR sizeOf161 (by decide) rR) rR (d_v rR (qH (vs:=s16 D.blocks) isAgg161 sizeOf161 rR rR (zrQ _ _ _ _ _ _)) rR (dM rR rR rR (d_v rR (qc rR) rR (d_v rR (qa 17 underlying165 rR rR sizeOf162 (by decide) rR) rR (d_v rR (qe (v:=sl sd (ofM D.dirty).length cd) isAgg162 rR rR) rR (d_v rR (qO rR (zuy D.next D.time D.size D.blocks D.dirty (sl sd (ofM D.dirty).length cd) rR)) rR ?_))))))))))))))))))))));refine d_l rR (qs [zmw (⟨D.next,D.time,D.size,D.blocks,D.dirty⟩,(sd,cd))] underlying163 sizeOf169 zeroValue169 rR rR rR (by simp[zmr]) (by decide) (by decide)) rR ?_;rintro _ _ ⟨b53,rfl,rfl⟩;refine d_l rR (yC underlying163 sizeOf169 zeroValue169 rR Tryz.typeInfo169 (by decide) rR rR (by rw[zes]) rR (by simp[zmr]) (by simp[zmw,zrk,ones,one,sl]) ⟨by omega,by decide,by decide⟩) rR ?_;rintro _ _ ⟨s54,c54,rfl,rfl⟩;rw[show wR gl++ [zmw (⟨D.next,D.time,D.size,D.blocks,D.dirty⟩,(sd,cd))]=wR (gl++ [(⟨D.next,D.time,D.size,D.blocks,D.dirty⟩,(sd,cd))]) by simp[wR]]
    refine d_v rR (qc rR) rR (d_v rR (qa 20 underlying165 rR rR sizeOf163 (by decide) rR) rR ?_);refine yg ?_;refine yr (qK (vdC ((D).size) ((D).blocks) (sl sd (ofM (D).dirty).length cd) ((D).time) (D.next+1) (sl s54 (gl.length+1) c54)) sizeOf163 rR rR rR (by rw[zhi];decide) (zoV _ _ _ _ _ _ _)) ?_;rintro _ _ rfl;refine qb (gS (gM rR (g_v (qc rR) rR (g_v (qa 17 underlying165 rR rR sizeOf162 (by decide) rR) rR ?_))));refine yr (qK (vdC ((D).size) ((D).blocks) (sl none 0 0) ((D).time) (D.next+1) (sl s54 (gl.length+1) c54)) sizeOf162 rR rR rR (by rw[zhi];decide) (zkI _ _ _ _ _ _ _)) ?_;rintro _ _ rfl;refine qb (gS (gM rR (gA rR (gA rR (qb ?_)))));refine zn9 gl (gl++ [(⟨D.next,D.time,D.size,D.blocks,D.dirty⟩,(sd,cd))]) (⟨D.next,D.time,D.size,D.blocks,D.dirty⟩,(sd,cd)) (fun y hy=>by simpa using hy) ?_;refine zlA 2 (qL (ofM fun _=>false)) rR ?_;refine zas (vdC ((D).size) ((D).blocks) (sl none 0 0) ((D).time) (D.next+1) (sl s54 (gl.length+1) c54)) (qL (ofM fun _=>false)) (wR (gl++ [(⟨D.next,D.time,D.size,D.blocks,D.dirty⟩,(sd,cd))])) none 0 s54 c54 ((gl++ [(⟨D.next,D.time,D.size,D.blocks,D.dirty⟩,(sd,cd))])) b ((⟨D.size,D.blocks,fun _=>false,D.time,D.next+1,D.snaps++ [⟨D.next,D.time,D.size,D.blocks,D.dirty⟩]⟩)) (by simp[ofM,zbg,sl];try rfl) rR rR (by simp[hgl]) ?_;rw[show vdk b ⟨D.size,D.blocks,fun _=>false,D.time,D.next+1,D.snaps++ [⟨D.next,D.time,D.size,D.blocks,D.dirty⟩]⟩=vdk b (snD D) by unfold snD;rw[if_pos hw]];exact qm rfl rfl (by rw[show snI D=D.next by unfold snI;rw[if_pos hw],hw];rfl)
theorem zjg (b:Nat)(D:VdM)(id n:Int)(hsl:D.snaps.length≤1000000)(hsz:∀s∈D.snaps,s.size≤16)(F:List HProp):Ct Tryz.prog 190 [ptr b 0,I id,I n] ([vdk b (D)]++F) (R1 (.tuple #[Str (rdS D id n).1,I (rdS D id n).2.1,yE (rdS D id n).2.2]) (vdk b (D)::F)):=by
  show Ct Tryz.prog 190 [ptr b 0,I id,I n] (vdk b (D)::F) _;refine Ct.of func190 rR 39 ntmps190 (by simp) fun w0=>?_;refine gS (gA rR (gA rR (gA rR (qb (gS (gM rR (gM rR ?_)))))));refine g_l (qi (Pre:=[vdk b (D)]) call187 rR (zeC b D id (by omega))) rR ?_;rintro _ _ ⟨rfl,rfl⟩;refine gA rR (qb (qf (gS (gM rR (g_v (qN rR rR) rR (qb ?_))))));refine qg rR (fun h15=>?_) (fun h15=>?_)
  · simp at h15;refine gS (g_v (qA underlying89 rR rR) rR (gA rR (gA rR (gA rR (qb ?_)))));exact qm rfl rfl (by rw[show rdS D id n=([],0,5) by unfold rdS;rw[if_pos (by omega)]];rfl)
  · simp at h15;obtain ⟨i,s,hfi,hs,hid,hil⟩:=zkh (show ¬zcP D.snaps id<0 by omega);rw[hfi];refine zdz b (D) ?_;intro sd cd ss cs gl hgl;have hln:=znq hgl;obtain ⟨q,hx⟩:=zwd hgl hs;have hkn:i<gl.length:=(by omega);have hkr:i<(wR gl).length:=(by rw[zes];exact hkn);refine qh (gS (gM rR (g_v (qc rR) rR (g_v (qa 20 underlying165 rR rR sizeOf163 (by decide) rR) rR (g_v (qe (v:=sl ss gl.length cs) isAgg163 rR rR) rR (gM rR (g_v (qC i underlying163 sizeOf169 rR rR rR hkn hkr) rR (g_v (yn (row:=zmw (s,q)) isAgg169 sizeOf169 rR (ziD hx) rR) rR ?_))))))));refine g_l (qy #[I 0,I 0,I 0,Str [],Str [],Str [],Str [],Str [],Str [],Str [],Str [],Str [],Str [],Str [],Str [],Str [],Str [],Str [],Str [],sl none 0 0] zeroValue169) rR ?_;rintro _ _ ⟨b10,rfl,rfl⟩;refine yr (qr (cs:=#[I 0,I 0,I 0,Str [],Str [],Str [],Str [],Str [],Str [],Str [],Str [],Str [],Str [],Str [],Str [],Str [],Str [],Str [],Str [],sl none 0 0]) (vs:=zmw (s,q)) (zmw (s,q)).toArray sizeOf169 rR rR rR rR (by simp) (qB rR)) ?_;rintro _ _ rfl;refine qb (qf (gS (gM rR (g_v (qN rR rR) rR (gM rR (qI rR rR (fun hg=>qn rR) rR rR (qI rR rR (fun hg=>qa 2 underlying169 rR rR sizeOf3 (by decide) rR) rR rR (qI rR rR (fun hg=>qe (v:=I s.size) isAgg3 rR rR) rR rR (qI rR rR (fun hg=>zhG rR rR) rR rR (g_v (zar rR rR) rR (qb ?_)))))))))));refine qg rR (fun h31=>?_) (fun h31=>?_)
    · simp at h31;refine gS (g_v (qA underlying89 rR rR) rR (gA rR (gA rR (gA rR (qb ?_)))));refine zas (vdC ((D).size) ((D).blocks) (sl sd (ofM (D).dirty).length cd) ((D).time) ((D).next) (sl ss gl.length cs)) (qL (ofM (D).dirty)) (wR gl) sd cd ss cs (gl) b ((D)) rR rR rR hgl ?_;exact qm rfl rfl (by rw[show rdS D id n=([],0,1) by unfold rdS;rw[if_neg (by omega),hfi,Int.toNat_natCast,zhe hs,if_pos (by omega)]];rfl)
    · simp at h31;have hs16:=hsz s (List.mem_of_getElem? hs);refine qh (qf ?_);refine zae [(0,false),(1,false),(2,false),(3,false),(4,false),(5,false),(6,false),(7,false),(8,false)] (by kernel_rfl) (by kernel_rfl) rR (by kernel_rfl) ?_;refine dM rR rR rR (d_v rR (qa 3 underlying169 rR rR sizeOf161 (by decide) rR) rR (d_v rR (zcu n.toNat underlying161 sizeOf9 rR rR (by omega) (by omega)) rR (d_v rR (qe (v:=Str (s.blocks n.toNat)) isAgg9 rR (ztD _ _ (by omega))) rR (d_v rR (qa 2 underlying169 rR rR sizeOf3 (by decide) rR) rR (d_v rR (qe (v:=I s.size) isAgg3 rR rR) rR (d_v rR (qx rR) rR (d_v rR (qx rR) rR (d_v rR (qx rR) rR ?_))))))));refine yg ?_;refine zas (vdC ((D).size) ((D).blocks) (sl sd (ofM (D).dirty).length cd) ((D).time) ((D).next) (sl ss gl.length cs)) (qL (ofM (D).dirty)) (wR gl) sd cd ss cs (gl) b ((D)) rR rR rR hgl ?_;exact qm rfl rfl (by rw[show rdS D id n=(s.blocks n.toNat,s.size,0) by unfold rdS;rw[if_neg (by omega),hfi,Int.toNat_natCast,zhe hs,if_neg (by omega)]];rfl)
theorem zgZ (b:Nat)(D:VdM)(id:Int)(hsl:D.snaps.length≤1000000)(F:List HProp):Ct Tryz.prog 145 [ptr b 0,I id] ([vdk b (D)]++F) (R1 (.tuple #[I (szS D id).1,yE (szS D id).2]) (vdk b (D)::F)):=by
  show Ct Tryz.prog 145 [ptr b 0,I id] (vdk b (D)::F) _;refine Ct.of func145 rR 21 ntmps145 (by simp) fun w0=>?_;refine gS (gA rR (gA rR (qb (gS (gM rR (gM rR ?_))))));refine g_l (qi (Pre:=[vdk b (D)]) call187 rR (zeC b D id (by omega))) rR ?_;rintro _ _ ⟨rfl,rfl⟩;refine gA rR (qb (qf (gS (gM rR (g_v (qN rR rR) rR (qb ?_))))));refine qg rR (fun h11=>?_) (fun h11=>?_)
  · simp at h11;refine gS (g_v (qA underlying89 rR rR) rR (gA rR (gA rR (qb ?_))));exact qm rfl rfl (by rw[show szS D id=(0,5) by unfold szS;rw[if_pos (by omega)]];rfl)
  · simp at h11;obtain ⟨i,s,hfi,hs,hid,hil⟩:=zkh (show ¬zcP D.snaps id<0 by omega);rw[hfi];refine zdz b (D) ?_;intro sd cd ss cs gl hgl;have hln:=znq hgl;obtain ⟨q,hx⟩:=zwd hgl hs;have hkn:i<gl.length:=(by omega);have hkr:i<(wR gl).length:=(by rw[zes];exact hkn);refine qh (gS (gM rR (g_v (qc rR) rR (g_v (qa 20 underlying165 rR rR sizeOf163 (by decide) rR) rR (g_v (qe (v:=sl ss gl.length cs) isAgg163 rR rR) rR (gM rR (g_v (qC i underlying163 sizeOf169 rR rR rR hkn hkr) rR (g_v (yH (j:=_) 2 underlying169 rR rR sizeOf3 (by decide) rR (by assumption)) rR (g_v (zav (v:=I s.size) isAgg3 rR (ziD hx) rR) rR (gA rR (gA rR (qb ?_))))))))))));refine zas (vdC ((D).size) ((D).blocks) (sl sd (ofM (D).dirty).length cd) ((D).time) ((D).next) (sl ss gl.length cs)) (qL (ofM (D).dirty)) (wR gl) sd cd ss cs (gl) b ((D)) rR rR rR hgl ?_;exact qm rfl rfl (by rw[show szS D id=(s.size,0) by unfold szS;rw[if_neg (by omega),hfi,Int.toNat_natCast,zhe hs]];rfl)
-- (*counterfoil/vdisk.Disk).Snaps is not in this seat
-- slices.Delete[[]counterfoil/vdisk.snap,counterfoil/vdisk.snap] is not in this seat
end Go.Proofs.YthdjckbjjfiopacGreatDoor
