/- Walks through package vdisk: sizes, snapshots, reading. No condition. -/
import Derived.Test.YthdjckbjjfiopacGreatDoorVd2
set_option linter.unusedSimpArgs false
set_option linter.unusedVariables false
namespace Go.Proofs.YthdjckbjjfiopacGreatDoor
open _root_.Go.Proofs.Tryz
open Go.Sl Go.Proofs
def snE (D:VdM):Int:=if D.snaps.length=5∨999<D.next then 8 else 0
def snI (D:VdM):Int:=if snE D=0 then D.next else 0
def snD (D:VdM):VdM:=if snE D=0 then ⟨D.size,D.blocks,fun _=>false,D.time,D.next+1,D.snaps++ [⟨D.next,D.time,D.size,D.blocks,D.dirty⟩]⟩ else D
theorem zsb {T:TypeId}{f:Nat×Nat}(sz tm nx:Int)(B:Nat→Bytes)(sd ss:Value):∀k v,(s16 B)[k]? =some v→yh (.cells (vdC sz B sd tm nx ss) T f) (0+1+k)=some v
  :=fun k v h=>match k,h with
    | 0,h=>h
    | 1,h=>h
    | 2,h=>h
    | 3,h=>h
    | 4,h=>h
    | 5,h=>h
    | 6,h=>h
    | 7,h=>h
    | 8,h=>h
    | 9,h=>h
    | 10,h=>h
    | 11,h=>h
    | 12,h=>h
    | 13,h=>h
    | 14,h=>h
    | 15,h=>h
    | k+16,h=>by simp[s16] at h
theorem zuN {T:TypeId}{f:Nat×Nat}(x:SnapM×Loc):∀j,j<16→yh (.cells (zmP x).toArray T f) (0+3+j*1)=some (Str (x.1.blocks j))
  :=fun j h=>match j,h with
    | 0,_=>rfl
    | 1,_=>rfl
    | 2,_=>rfl
    | 3,_=>rfl
    | 4,_=>rfl
    | 5,_=>rfl
    | 6,_=>rfl
    | 7,_=>rfl
    | 8,_=>rfl
    | 9,_=>rfl
    | 10,_=>rfl
    | 11,_=>rfl
    | 12,_=>rfl
    | 13,_=>rfl
    | 14,_=>rfl
    | 15,_=>rfl
    | k+16,h=>absurd h (by omega)
theorem ztY (id tm sz:Int)(B:Nat→Bytes)(m:Nat→Bool)(sd:Value)(h:one sd=true)(w:World):(Instr.build 169 #[(0,I id),(1,I tm),(2,I sz),(3, .agg (s16 B).toArray),(4,sd)]).run Tryz.prog w= .ok (.agg (zse ⟨id,tm,sz,B,m⟩ sd).toArray) w:=by
  simp[Instr.build,zeroValue169,runUnderlying169,sizeOf3,sizeOf161,sizeOf162,Instr.fill,qV,sl,qT h,s16,zse,qT (show one (I id)=true from rfl),qT (show one (I tm)=true from rfl),qT (show one (I sz)=true from rfl)]
def zhy (D:VdM)(i:Nat):SnapM:=(D.snaps[i]?).getD ⟨0,0,0,fun _=>[],fun _=>false⟩
theorem zgQ {D:VdM}{i:Nat}{s:SnapM}(h:D.snaps[i]? =some s):zhy D i=s:=by unfold zhy;rw[h];rfl
def rdS (D:VdM)(id n:Int):Bytes×Int×Int:=if zcL D.snaps id<0 then ([],0,5) else if n<0∨(zhy D (zcL D.snaps id).toNat).size≤n then ([],0,1) else ((zhy D (zcL D.snaps id).toNat).blocks n.toNat,(zhy D (zcL D.snaps id).toNat).size,0)
def szS (D:VdM)(id:Int):Int×Int:=if zcL D.snaps id<0 then (0,5) else ((zhy D (zcL D.snaps id).toNat).size,0)
theorem zi1 (b:Nat)(D:VdM)(hs:D.snaps.length≤1000000)(hn: -9223372036854775808≤D.next)(F:List HProp):Ct Tryz.prog 64 [ptr b 0] ([vdk b (D)]++F) (R1 (.tuple #[I (snI D),yy (snE D)]) (vdk b (snD D)::F)):=by
  show Ct Tryz.prog 64 [ptr b 0] (vdk b (D)::F) _;refine Ct.of func64 rR 61 ntmps64 (by simp) fun w0=>?_;refine zdq b (D) ?_;intro sd cd ss cs gl hgl;have hln:=zmv hgl;refine gS (gA rR (gA rR (qb (qf (gS (gM rR (g_v (qc rR) rR (g_v (qa 20 underlying165 rR rR sizeOf163 (by decide) rR) rR (g_v (qe (v:=sl ss gl.length cs) isAgg163 rR rR) rR (g_v (ym underlying163 rR) rR (g_v (wg rR rR) rR (gM rR (qG rR rR (fun hg=>qn rR) rR rR (qG rR rR (fun hg=>qc rR) rR rR (qG rR rR (fun hg=>qa 19 underlying165 rR rR sizeOf3 (by decide) rR) rR rR (qG rR rR (fun hg=>qe (v:=I D.next) isAgg3 rR rR) rR rR (qG rR rR (fun hg=>yr rR rR) rR rR (g_v (zaq rR rR) rR (qb ?_)))))))))))))))))));refine qg rR (fun h17=>?_) (fun h17=>?_)
  · simp at h17;have hw:snE D=8:=(by unfold snE;rw[if_pos (by omega)]);refine gS (g_v (qA underlying89 rR rR) rR (gA rR (gA rR (qb ?_))));refine zat (vdC ((D).size) ((D).blocks) (sl sd (ofM (D).dirty).length cd) ((D).time) ((D).next) (sl ss gl.length cs)) (qN (ofM (D).dirty)) (wS gl) sd cd ss cs (gl) b ((D)) rR rR rR hgl ?_;rw[show vdk b D=vdk b (snD D) by unfold snD;rw[if_neg (by omega)]];exact qm rfl rfl (by rw[show snI D=0 by unfold snI;rw[if_neg (by omega)],hw];rfl)
  · simp at h17;have hw:snE D=0:=(by unfold snE;rw[if_neg (by omega)]);refine qh (gS (gM rR (g_v (qc rR) rR (g_v (qa 19 underlying165 rR rR sizeOf3 (by decide) rR) rR (g_v (qe (v:=I D.next) isAgg3 rR rR) rR (gA rR (qb (gS (gM rR (g_v (qc rR) rR (g_v (qa 19 underlying165 rR rR sizeOf3 (by decide) rR) rR (g_v (qe (v:=I D.next) isAgg3 rR rR) rR (g_v (qu rR rR (w64 (by omega))) rR (g_v (qc rR) rR (g_v (qa 19 underlying165 rR rR sizeOf3 (by decide) rR) rR ?_)))))))))))))));refine yp (qK (vdC ((D).size) ((D).blocks) (sl sd (ofM (D).dirty).length cd) ((D).time) (D.next+1) (sl ss gl.length cs)) sizeOf3 rR rR rR (by rw[zgE];decide) (zsU _ _ _ _ _ _ _)) ?_;rintro _ _ rfl;refine qb (qf ?_);refine zdn (Lf:=pt b (.cells (vdC ((D).size) ((D).blocks) (sl sd (ofM (D).dirty).length cd) ((D).time) (D.next+1) (sl ss gl.length cs)) 165 (0,0))::F) [(0,false),(1,false),(2,false),(3,false),(4,false),(5,false),(6,false),(7,false),(8,false),(9,false),(10,false),(11,false),(12,false),(13,false),(14,false),(15,false),(16,false),(17,false),(18,false),(19,false),(20,false),(21,false),(22,false),(23,true),(24,true),(25,false),(26,false)] 27 rR (by kernel_rfl) (by kernel_rfl) rR (by kernel_rfl) (by kernel_rfl) ?_;refine dM rR rR rR (dM rR rR rR (d_v rR (qc rR) rR (d_v rR (qa 20 underlying165 rR rR sizeOf163 (by decide) rR) rR (d_v rR (qe (v:=sl ss gl.length cs) isAgg163 rR rR) rR (dM rR rR rR (dM rR rR rR (d_v rR (qc rR) rR (d_v rR (qa 18 underlying165 rR rR sizeOf3 (by decide) rR) rR (d_v rR (qe (v:=I D.time) isAgg3 rR rR) rR (dM rR rR rR (d_v rR (qc rR) rR (d_v rR (qa 0 underlying165 rR rR sizeOf3 (by decide) rR) rR (d_v rR (qe (v:=I D.size) isAgg3 rR rR) rR (dM rR rR rR (d_v rR (qc rR) rR (d_v rR (qa 1 underlying165 rR rR sizeOf161 (by decide) rR) rR (d_v rR (qI (vs:=s16 D.blocks) isAgg161 sizeOf161 rR rR (zsb _ _ _ _ _ _)) rR (dM rR rR rR (d_v rR (qc rR) rR (d_v rR (qa 17 underlying165 rR rR sizeOf162 (by decide) rR) rR (d_v rR (qe (v:=sl sd (ofM D.dirty).length cd) isAgg162 rR rR) rR (d_v rR (qR rR (ztY D.next D.time D.size D.blocks D.dirty (sl sd (ofM D.dirty).length cd) rR)) rR ?_))))))))))))))))))))));refine d_l rR (qs [zmP (⟨D.next,D.time,D.size,D.blocks,D.dirty⟩,(sd,cd))] underlying163 sizeOf169 zeroValue169 rR rR rR (by simp[zmr]) (by decide) (by decide)) rR ?_;rintro _ _ ⟨b53,rfl,rfl⟩;refine d_l rR (yC underlying163 sizeOf169 zeroValue169 rR Tryz.typeInfo169 (by decide) rR rR (by rw[zeI]) rR (by simp[zmr]) (by simp[zmP,zse,ones,one,sl]) ⟨by omega,by decide,by decide⟩) rR ?_;rintro _ _ ⟨s54,c54,rfl,rfl⟩;rw[show wS gl++ [zmP (⟨D.next,D.time,D.size,D.blocks,D.dirty⟩,(sd,cd))]=wS (gl++ [(⟨D.next,D.time,D.size,D.blocks,D.dirty⟩,(sd,cd))]) by simp[wS]]
    refine d_v rR (qc rR) rR (d_v rR (qa 20 underlying165 rR rR sizeOf163 (by decide) rR) rR ?_);refine yb ?_;refine yp (qK (vdC ((D).size) ((D).blocks) (sl sd (ofM (D).dirty).length cd) ((D).time) (D.next+1) (sl s54 (gl.length+1) c54)) sizeOf163 rR rR rR (by rw[zgE];decide) (zpx _ _ _ _ _ _ _)) ?_;rintro _ _ rfl;refine qb (gS (gM rR (g_v (qc rR) rR (g_v (qa 17 underlying165 rR rR sizeOf162 (by decide) rR) rR ?_))));refine yp (qK (vdC ((D).size) ((D).blocks) (sl none 0 0) ((D).time) (D.next+1) (sl s54 (gl.length+1) c54)) sizeOf162 rR rR rR (by rw[zgE];decide) (zka _ _ _ _ _ _ _)) ?_;rintro _ _ rfl;refine qb (gS (gM rR (gA rR (gA rR (qb ?_)))));refine zoe gl (gl++ [(⟨D.next,D.time,D.size,D.blocks,D.dirty⟩,(sd,cd))]) (⟨D.next,D.time,D.size,D.blocks,D.dirty⟩,(sd,cd)) (fun y hy=>by simpa using hy) ?_;refine zla 2 (qN (ofM fun _=>false)) rR ?_;refine zat (vdC ((D).size) ((D).blocks) (sl none 0 0) ((D).time) (D.next+1) (sl s54 (gl.length+1) c54)) (qN (ofM fun _=>false)) (wS (gl++ [(⟨D.next,D.time,D.size,D.blocks,D.dirty⟩,(sd,cd))])) none 0 s54 c54 ((gl++ [(⟨D.next,D.time,D.size,D.blocks,D.dirty⟩,(sd,cd))])) b ((⟨D.size,D.blocks,fun _=>false,D.time,D.next+1,D.snaps++ [⟨D.next,D.time,D.size,D.blocks,D.dirty⟩]⟩)) (by simp[ofM,zbk,sl];try rfl) rR rR (by simp[hgl]) ?_;rw[show vdk b ⟨D.size,D.blocks,fun _=>false,D.time,D.next+1,D.snaps++ [⟨D.next,D.time,D.size,D.blocks,D.dirty⟩]⟩=vdk b (snD D) by unfold snD;rw[if_pos hw]];exact qm rfl rfl (by rw[show snI D=D.next by unfold snI;rw[if_pos hw],hw];rfl)
theorem zi7 (b:Nat)(D:VdM)(id n:Int)(hsl:D.snaps.length≤1000000)(hsz:∀s∈D.snaps,s.size≤16)(F:List HProp):Ct Tryz.prog 190 [ptr b 0,I id,I n] ([vdk b (D)]++F) (R1 (.tuple #[Str (rdS D id n).1,I (rdS D id n).2.1,yy (rdS D id n).2.2]) (vdk b (D)::F)):=by
  show Ct Tryz.prog 190 [ptr b 0,I id,I n] (vdk b (D)::F) _;refine Ct.of func190 rR 39 ntmps190 (by simp) fun w0=>?_;refine gS (gA rR (gA rR (gA rR (qb (gS (gM rR (gM rR ?_)))))));refine g_l (qi (Pre:=[vdk b (D)]) call187 rR (zem b D id (by omega))) rR ?_;rintro _ _ ⟨rfl,rfl⟩;refine gA rR (qb (qf (gS (gM rR (g_v (qP rR rR) rR (qb ?_))))));refine qg rR (fun h15=>?_) (fun h15=>?_)
  · simp at h15;refine gS (g_v (qA underlying89 rR rR) rR (gA rR (gA rR (gA rR (qb ?_)))));exact qm rfl rfl (by rw[show rdS D id n=([],0,5) by unfold rdS;rw[if_pos (by omega)]];rfl)
  · simp at h15;obtain ⟨i,s,hfi,hs,hid,hil⟩:=zkk (show ¬zcL D.snaps id<0 by omega);rw[hfi];refine zdq b (D) ?_;intro sd cd ss cs gl hgl;have hln:=zmv hgl;obtain ⟨q,hx⟩:=zxm hgl hs;have hkn:i<gl.length:=(by omega);have hkr:i<(wS gl).length:=(by rw[zeI];exact hkn);refine qh (gS (gM rR (g_v (qc rR) rR (g_v (qa 20 underlying165 rR rR sizeOf163 (by decide) rR) rR (g_v (qe (v:=sl ss gl.length cs) isAgg163 rR rR) rR (gM rR (g_v (qC i underlying163 sizeOf169 rR rR rR hkn hkr) rR (g_v (ye (row:=zmP (s,q)) isAgg169 sizeOf169 rR (ziX hx) rR) rR ?_))))))));refine g_l (qy #[I 0,I 0,I 0,Str [],Str [],Str [],Str [],Str [],Str [],Str [],Str [],Str [],Str [],Str [],Str [],Str [],Str [],Str [],Str [],sl none 0 0] zeroValue169) rR ?_;rintro _ _ ⟨b10,rfl,rfl⟩;refine yp (qr (cs:=#[I 0,I 0,I 0,Str [],Str [],Str [],Str [],Str [],Str [],Str [],Str [],Str [],Str [],Str [],Str [],Str [],Str [],Str [],Str [],sl none 0 0]) (vs:=zmP (s,q)) (zmP (s,q)).toArray sizeOf169 rR rR rR rR (by simp) (qB rR)) ?_;rintro _ _ rfl;refine qb (qf (gS (gM rR (g_v (qP rR rR) rR (gM rR (qG rR rR (fun hg=>qn rR) rR rR (qG rR rR (fun hg=>qa 2 underlying169 rR rR sizeOf3 (by decide) rR) rR rR (qG rR rR (fun hg=>qe (v:=I s.size) isAgg3 rR rR) rR rR (qG rR rR (fun hg=>zhB rR rR) rR rR (g_v (zaq rR rR) rR (qb ?_)))))))))));refine qg rR (fun h31=>?_) (fun h31=>?_)
    · simp at h31;refine gS (g_v (qA underlying89 rR rR) rR (gA rR (gA rR (gA rR (qb ?_)))));refine zat (vdC ((D).size) ((D).blocks) (sl sd (ofM (D).dirty).length cd) ((D).time) ((D).next) (sl ss gl.length cs)) (qN (ofM (D).dirty)) (wS gl) sd cd ss cs (gl) b ((D)) rR rR rR hgl ?_;exact qm rfl rfl (by rw[show rdS D id n=([],0,1) by unfold rdS;rw[if_neg (by omega),hfi,Int.toNat_natCast,zgQ hs,if_pos (by omega)]];rfl)
    · simp at h31;have hs16:=hsz s (List.mem_of_getElem? hs);refine qh (qf ?_);refine wR [(0,false),(1,false),(2,false),(3,false),(4,false),(5,false),(6,false),(7,false),(8,false)] (by kernel_rfl) (by kernel_rfl) rR (by kernel_rfl) ?_;refine dM rR rR rR (d_v rR (qa 3 underlying169 rR rR sizeOf161 (by decide) rR) rR (d_v rR (zcm n.toNat underlying161 sizeOf9 rR rR (by omega) (by omega)) rR (d_v rR (qe (v:=Str (s.blocks n.toNat)) isAgg9 rR (zuN _ _ (by omega))) rR (d_v rR (qa 2 underlying169 rR rR sizeOf3 (by decide) rR) rR (d_v rR (qe (v:=I s.size) isAgg3 rR rR) rR (d_v rR (qx rR) rR (d_v rR (qx rR) rR (d_v rR (qx rR) rR ?_))))))));refine yb ?_;refine zat (vdC ((D).size) ((D).blocks) (sl sd (ofM (D).dirty).length cd) ((D).time) ((D).next) (sl ss gl.length cs)) (qN (ofM (D).dirty)) (wS gl) sd cd ss cs (gl) b ((D)) rR rR rR hgl ?_;exact qm rfl rfl (by rw[show rdS D id n=(s.blocks n.toNat,s.size,0) by unfold rdS;rw[if_neg (by omega),hfi,Int.toNat_natCast,zgQ hs,if_neg (by omega)]];rfl)
theorem zho (b:Nat)(D:VdM)(id:Int)(hsl:D.snaps.length≤1000000)(F:List HProp):Ct Tryz.prog 145 [ptr b 0,I id] ([vdk b (D)]++F) (R1 (.tuple #[I (szS D id).1,yy (szS D id).2]) (vdk b (D)::F)):=by
  show Ct Tryz.prog 145 [ptr b 0,I id] (vdk b (D)::F) _;refine Ct.of func145 rR 21 ntmps145 (by simp) fun w0=>?_;refine gS (gA rR (gA rR (qb (gS (gM rR (gM rR ?_))))));refine g_l (qi (Pre:=[vdk b (D)]) call187 rR (zem b D id (by omega))) rR ?_;rintro _ _ ⟨rfl,rfl⟩;refine gA rR (qb (qf (gS (gM rR (g_v (qP rR rR) rR (qb ?_))))));refine qg rR (fun h11=>?_) (fun h11=>?_)
  · simp at h11;refine gS (g_v (qA underlying89 rR rR) rR (gA rR (gA rR (qb ?_))));exact qm rfl rfl (by rw[show szS D id=(0,5) by unfold szS;rw[if_pos (by omega)]];rfl)
  · simp at h11;obtain ⟨i,s,hfi,hs,hid,hil⟩:=zkk (show ¬zcL D.snaps id<0 by omega);rw[hfi];refine zdq b (D) ?_;intro sd cd ss cs gl hgl;have hln:=zmv hgl;obtain ⟨q,hx⟩:=zxm hgl hs;have hkn:i<gl.length:=(by omega);have hkr:i<(wS gl).length:=(by rw[zeI];exact hkn);refine qh (gS (gM rR (g_v (qc rR) rR (g_v (qa 20 underlying165 rR rR sizeOf163 (by decide) rR) rR (g_v (qe (v:=sl ss gl.length cs) isAgg163 rR rR) rR (gM rR (g_v (qC i underlying163 sizeOf169 rR rR rR hkn hkr) rR (g_v (yG (j:=_) 2 underlying169 rR rR sizeOf3 (by decide) rR (by assumption)) rR (g_v (zaw (v:=I s.size) isAgg3 rR (ziX hx) rR) rR (gA rR (gA rR (qb ?_))))))))))));refine zat (vdC ((D).size) ((D).blocks) (sl sd (ofM (D).dirty).length cd) ((D).time) ((D).next) (sl ss gl.length cs)) (qN (ofM (D).dirty)) (wS gl) sd cd ss cs (gl) b ((D)) rR rR rR hgl ?_;exact qm rfl rfl (by rw[show szS D id=(s.size,0) by unfold szS;rw[if_neg (by omega),hfi,Int.toNat_natCast,zgQ hs]];rfl)
-- (*counterfoil/vdisk.Disk).Snaps is not in this seat
-- slices.Delete[[]counterfoil/vdisk.snap,counterfoil/vdisk.snap] is not in this seat
end Go.Proofs.YthdjckbjjfiopacGreatDoor
