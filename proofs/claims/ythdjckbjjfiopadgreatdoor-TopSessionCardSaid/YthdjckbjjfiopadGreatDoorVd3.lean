/- Walks through package vdisk: sizes, snapshots, reading. No condition. -/
import Derived.Test.YthdjckbjjfiopadGreatDoorVd2
set_option linter.unusedSimpArgs false
set_option linter.unusedVariables false
namespace Go.Proofs.YthdjckbjjfiopadGreatDoor
open _root_.Go.Proofs.Tryz
open Go.Sl Go.Proofs
def snE (D:VdM):Int:=if D.snaps.length=5∨999<D.next then 8 else 0
def snI (D:VdM):Int:=if snE D=0 then D.next else 0
def snD (D:VdM):VdM:=if snE D=0 then ⟨D.size,D.blocks,fun _=>false,D.time,D.next+1,D.snaps++ [⟨D.next,D.time,D.size,D.blocks,D.dirty⟩]⟩ else D
theorem zsM {T:TypeId}{f:Nat×Nat}(sz tm nx:Int)(B:Nat→Bytes)(sd ss:Value):∀k v,(s16 B)[k]? =some v→yk (.cells (vdC sz B sd tm nx ss) T f) (0+1+k)=some v
  :=fun k v h=>match k,h with
    | 0,h=>h
    | 1,h=>h
    | 2,h=>h
    | 3,h=>h
    | 4,h=>h
    | 5,h=>h
    | 6,h=>h
    | 7,h=>h
    | 8,h=>h
    | 9,h=>h
    | 10,h=>h
    | 11,h=>h
    | 12,h=>h
    | 13,h=>h
    | 14,h=>h
    | 15,h=>h
    | k+16,h=>by simp[s16] at h
theorem zuA {T:TypeId}{f:Nat×Nat}(x:SnapM×Loc):∀j,j<16→yk (.cells (zmA x).toArray T f) (0+3+j*1)=some (Str (x.1.blocks j))
  :=fun j h=>match j,h with
    | 0,_=>rfl
    | 1,_=>rfl
    | 2,_=>rfl
    | 3,_=>rfl
    | 4,_=>rfl
    | 5,_=>rfl
    | 6,_=>rfl
    | 7,_=>rfl
    | 8,_=>rfl
    | 9,_=>rfl
    | 10,_=>rfl
    | 11,_=>rfl
    | 12,_=>rfl
    | 13,_=>rfl
    | 14,_=>rfl
    | 15,_=>rfl
    | k+16,h=>absurd h (by omega)
theorem zvf (id tm sz:Int)(B:Nat→Bytes)(m:Nat→Bool)(sd:Value)(h:one sd=true)(w:World):(Instr.build 135 #[(0,I id),(1,I tm),(2,I sz),(3, .agg (s16 B).toArray),(4,sd)]).run Tryz.prog w= .ok (.agg (zsk ⟨id,tm,sz,B,m⟩ sd).toArray) w:=by
  simp[Instr.build,zeroValue135,runUnderlying135,sizeOf3,sizeOf41,sizeOf119,Instr.fill,qV,sl,qS h,s16,zsk,qS (show one (I id)=true from rfl),qS (show one (I tm)=true from rfl),qS (show one (I sz)=true from rfl)]
def zhx (D:VdM)(i:Nat):SnapM:=(D.snaps[i]?).getD ⟨0,0,0,fun _=>[],fun _=>false⟩
theorem zgK {D:VdM}{i:Nat}{s:SnapM}(h:D.snaps[i]? =some s):zhx D i=s:=by unfold zhx;rw[h];rfl
def rdS (D:VdM)(id n:Int):Bytes×Int×Int:=if zcT D.snaps id<0 then ([],0,5) else if n<0∨(zhx D (zcT D.snaps id).toNat).size≤n then ([],0,1) else ((zhx D (zcT D.snaps id).toNat).blocks n.toNat,(zhx D (zcT D.snaps id).toNat).size,0)
def szS (D:VdM)(id:Int):Int×Int:=if zcT D.snaps id<0 then (0,5) else ((zhx D (zcT D.snaps id).toNat).size,0)
theorem ziV (b:Nat)(D:VdM)(hs:D.snaps.length≤1000000)(hn: -9223372036854775808≤D.next)(F:List HProp):Ct Tryz.prog 36 [ptr b 0] ([vdk b (D)]++F) (R1 (.tuple #[I (snI D),yH (snE D)]) (vdk b (snD D)::F)):=by
  show Ct Tryz.prog 36 [ptr b 0] (vdk b (D)::F) _;refine Ct.of func36 rR 61 ntmps36 (by simp) fun w0=>?_;refine zdB b (D) ?_;intro sd cd ss cs gl hgl;have hln:=znc hgl;refine gS (gA rR (gA rR (qb (qf (gS (gM rR (g_v (qc rR) rR (g_v (qa 20 underlying122 rR rR sizeOf120 (by decide) rR) rR (g_v (qe (v:=sl ss gl.length cs) isAgg120 rR rR) rR (g_v (yi underlying120 rR) rR (g_v (wg rR rR) rR (gM rR (qH rR rR (fun hg=>qn rR) rR rR (qH rR rR (fun hg=>qc rR) rR rR (qH rR rR (fun hg=>qa 19 underlying122 rR rR sizeOf3 (by decide) rR) rR rR (qH rR rR (fun hg=>qe (v:=I D.next) isAgg3 rR rR) rR rR (qH rR rR (fun hg=>yz rR rR) rR rR (g_v (zav rR rR) rR (qb ?_)))))))))))))))))));refine qg rR (fun h17=>?_) (fun h17=>?_)
  · simp at h17;have hw:snE D=8:=(by unfold snE;rw[if_pos (by omega)]);refine gS (g_v (qB underlying108 rR rR) rR (gA rR (gA rR (qb ?_))));refine zax (vdC ((D).size) ((D).blocks) (sl sd (ofM (D).dirty).length cd) ((D).time) ((D).next) (sl ss gl.length cs)) (qL (ofM (D).dirty)) (wY gl) sd cd ss cs (gl) b ((D)) rR rR rR hgl ?_;rw[show vdk b D=vdk b (snD D) by unfold snD;rw[if_neg (by omega)]];exact qm rfl rfl (by rw[show snI D=0 by unfold snI;rw[if_neg (by omega)],hw];rfl)
  · simp at h17;have hw:snE D=0:=(by unfold snE;rw[if_neg (by omega)]);refine qh (gS (gM rR (g_v (qc rR) rR (g_v (qa 19 underlying122 rR rR sizeOf3 (by decide) rR) rR (g_v (qe (v:=I D.next) isAgg3 rR rR) rR (gA rR (qb (gS (gM rR (g_v (qc rR) rR (g_v (qa 19 underlying122 rR rR sizeOf3 (by decide) rR) rR (g_v (qe (v:=I D.next) isAgg3 rR rR) rR (g_v (qu rR rR (w64 (by omega))) rR (g_v (qc rR) rR (g_v (qa 19 underlying122 rR rR sizeOf3 (by decide) rR) rR ?_)))))))))))))));refine yu (qI (vdC ((D).size) ((D).blocks) (sl sd (ofM (D).dirty).length cd) ((D).time) (D.next+1) (sl ss gl.length cs)) sizeOf3 rR rR rR (by rw[zgY];decide) (zr6 _ _ _ _ _ _ _)) ?_;rintro _ _ rfl;refine qb (qf ?_);refine zcv (Lf:=pt b (.cells (vdC ((D).size) ((D).blocks) (sl sd (ofM (D).dirty).length cd) ((D).time) (D.next+1) (sl ss gl.length cs)) 122 (0,0))::F) [(0,false),(1,false),(2,false),(3,false),(4,false),(5,false),(6,false),(7,false),(8,false),(9,false),(10,false),(11,false),(12,false),(13,false),(14,false),(15,false),(16,false),(17,false),(18,false),(19,false),(20,false),(21,false),(22,false),(23,true),(24,true),(25,false),(26,false)] 27 rR (by kernel_rfl) (by kernel_rfl) rR (by kernel_rfl) (by kernel_rfl) ?_;refine dM rR rR rR (dM rR rR rR (d_v rR (qc rR) rR (d_v rR (qa 20 underlying122 rR rR sizeOf120 (by decide) rR) rR (d_v rR (qe (v:=sl ss gl.length cs) isAgg120 rR rR) rR (dM rR rR rR (dM rR rR rR (d_v rR (qc rR) rR (d_v rR (qa 18 underlying122 rR rR sizeOf3 (by decide) rR) rR (d_v rR (qe (v:=I D.time) isAgg3 rR rR) rR (dM rR rR rR (d_v rR (qc rR) rR (d_v rR (qa 0 underlying122 rR rR sizeOf3 (by decide) rR) rR (d_v rR (qe (v:=I D.size) isAgg3 rR rR) rR (dM rR rR rR (d_v rR (qc rR) rR (d_v rR (qa 1 underlying122 rR rR sizeOf41 (by decide) rR) rR (d_v rR (qJ (vs:=s16 D.blocks) isAgg41 sizeOf41 rR rR (zsM _ _ _ _ _ _)) rR (dM rR rR rR (d_v rR (qc rR) rR (d_v rR (qa 17 underlying122 rR rR sizeOf119 (by decide) rR) rR (d_v rR (qe (v:=sl sd (ofM D.dirty).length cd) isAgg119 rR rR) rR (d_v rR (qP rR (zvf D.next D.time D.size D.blocks D.dirty (sl sd (ofM D.dirty).length cd) rR)) rR ?_))))))))))))))))))))));refine d_l rR (qq [zmA (⟨D.next,D.time,D.size,D.blocks,D.dirty⟩,(sd,cd))] underlying120 sizeOf135 zeroValue135 rR rR rR (by simp[zm0]) (by decide) (by decide)) rR ?_;rintro _ _ ⟨b53,rfl,rfl⟩;refine d_l rR (yA underlying120 sizeOf135 zeroValue135 rR Tryz.typeInfo135 (by decide) rR rR (by rw[zex]) rR (by simp[zm0]) (by simp[zmA,zsk,ones,one,sl]) ⟨by omega,by decide,by decide⟩) rR ?_;rintro _ _ ⟨s54,c54,rfl,rfl⟩;rw[show wY gl++ [zmA (⟨D.next,D.time,D.size,D.blocks,D.dirty⟩,(sd,cd))]=wY (gl++ [(⟨D.next,D.time,D.size,D.blocks,D.dirty⟩,(sd,cd))]) by simp[wY]]
    refine d_v rR (qc rR) rR (d_v rR (qa 20 underlying122 rR rR sizeOf120 (by decide) rR) rR ?_);refine yc ?_;refine yu (qI (vdC ((D).size) ((D).blocks) (sl sd (ofM (D).dirty).length cd) ((D).time) (D.next+1) (sl s54 (gl.length+1) c54)) sizeOf120 rR rR rR (by rw[zgY];decide) (zpE _ _ _ _ _ _ _)) ?_;rintro _ _ rfl;refine qb (gS (gM rR (g_v (qc rR) rR (g_v (qa 17 underlying122 rR rR sizeOf119 (by decide) rR) rR ?_))));refine yu (qI (vdC ((D).size) ((D).blocks) (sl none 0 0) ((D).time) (D.next+1) (sl s54 (gl.length+1) c54)) sizeOf119 rR rR rR (by rw[zgY];decide) (zkX _ _ _ _ _ _ _)) ?_;rintro _ _ rfl;refine qb (gS (gM rR (gA rR (gA rR (qb ?_)))));refine znO gl (gl++ [(⟨D.next,D.time,D.size,D.blocks,D.dirty⟩,(sd,cd))]) (⟨D.next,D.time,D.size,D.blocks,D.dirty⟩,(sd,cd)) (fun y hy=>by simpa using hy) ?_;refine zlh 2 (qL (ofM fun _=>false)) rR ?_;refine zax (vdC ((D).size) ((D).blocks) (sl none 0 0) ((D).time) (D.next+1) (sl s54 (gl.length+1) c54)) (qL (ofM fun _=>false)) (wY (gl++ [(⟨D.next,D.time,D.size,D.blocks,D.dirty⟩,(sd,cd))])) none 0 s54 c54 ((gl++ [(⟨D.next,D.time,D.size,D.blocks,D.dirty⟩,(sd,cd))])) b ((⟨D.size,D.blocks,fun _=>false,D.time,D.next+1,D.snaps++ [⟨D.next,D.time,D.size,D.blocks,D.dirty⟩]⟩)) (by simp[ofM,zbn,sl];try rfl) rR rR (by simp[hgl]) ?_;rw[show vdk b ⟨D.size,D.blocks,fun _=>false,D.time,D.next+1,D.snaps++ [⟨D.next,D.time,D.size,D.blocks,D.dirty⟩]⟩=vdk b (snD D) by unfold snD;rw[if_pos hw]];exact qm rfl rfl (by rw[show snI D=D.next by unfold snI;rw[if_pos hw],hw];rfl)
theorem zi9 (b:Nat)(D:VdM)(id n:Int)(hsl:D.snaps.length≤1000000)(hsz:∀s∈D.snaps,s.size≤16)(F:List HProp):Ct Tryz.prog 61 [ptr b 0,I id,I n] ([vdk b (D)]++F) (R1 (.tuple #[Str (rdS D id n).1,I (rdS D id n).2.1,yH (rdS D id n).2.2]) (vdk b (D)::F)):=by
  show Ct Tryz.prog 61 [ptr b 0,I id,I n] (vdk b (D)::F) _;refine Ct.of func61 rR 39 ntmps61 (by simp) fun w0=>?_;refine gS (gA rR (gA rR (gA rR (qb (gS (gM rR (gM rR ?_)))))));refine g_l (qi (Pre:=[vdk b (D)]) call60 rR (zeR b D id (by omega))) rR ?_;rintro _ _ ⟨rfl,rfl⟩;refine gA rR (qb (qf (gS (gM rR (g_v (qK rR rR) rR (qb ?_))))));refine qg rR (fun h15=>?_) (fun h15=>?_)
  · simp at h15;refine gS (g_v (qB underlying108 rR rR) rR (gA rR (gA rR (gA rR (qb ?_)))));exact qm rfl rfl (by rw[show rdS D id n=([],0,5) by unfold rdS;rw[if_pos (by omega)]];rfl)
  · simp at h15;obtain ⟨i,s,hfi,hs,hid,hil⟩:=zkH (show ¬zcT D.snaps id<0 by omega);rw[hfi];refine zdB b (D) ?_;intro sd cd ss cs gl hgl;have hln:=znc hgl;obtain ⟨q,hx⟩:=zxG hgl hs;have hkn:i<gl.length:=(by omega);have hkr:i<(wY gl).length:=(by rw[zex];exact hkn);refine qh (gS (gM rR (g_v (qc rR) rR (g_v (qa 20 underlying122 rR rR sizeOf120 (by decide) rR) rR (g_v (qe (v:=sl ss gl.length cs) isAgg120 rR rR) rR (gM rR (g_v (qA i underlying120 sizeOf135 rR rR rR hkn hkr) rR (g_v (yj (row:=zmA (s,q)) isAgg135 sizeOf135 rR (zjf hx) rR) rR ?_))))))));refine g_l (qy #[I 0,I 0,I 0,Str [],Str [],Str [],Str [],Str [],Str [],Str [],Str [],Str [],Str [],Str [],Str [],Str [],Str [],Str [],Str [],sl none 0 0] zeroValue135) rR ?_;rintro _ _ ⟨b10,rfl,rfl⟩;refine yu (qr (cs:=#[I 0,I 0,I 0,Str [],Str [],Str [],Str [],Str [],Str [],Str [],Str [],Str [],Str [],Str [],Str [],Str [],Str [],Str [],Str [],sl none 0 0]) (vs:=zmA (s,q)) (zmA (s,q)).toArray sizeOf135 rR rR rR rR (by simp) (qC rR)) ?_;rintro _ _ rfl;refine qb (qf (gS (gM rR (g_v (qK rR rR) rR (gM rR (qH rR rR (fun hg=>qn rR) rR rR (qH rR rR (fun hg=>qa 2 underlying135 rR rR sizeOf3 (by decide) rR) rR rR (qH rR rR (fun hg=>qe (v:=I s.size) isAgg3 rR rR) rR rR (qH rR rR (fun hg=>zhS rR rR) rR rR (g_v (zav rR rR) rR (qb ?_)))))))))));refine qg rR (fun h31=>?_) (fun h31=>?_)
    · simp at h31;refine gS (g_v (qB underlying108 rR rR) rR (gA rR (gA rR (gA rR (qb ?_)))));refine zax (vdC ((D).size) ((D).blocks) (sl sd (ofM (D).dirty).length cd) ((D).time) ((D).next) (sl ss gl.length cs)) (qL (ofM (D).dirty)) (wY gl) sd cd ss cs (gl) b ((D)) rR rR rR hgl ?_;exact qm rfl rfl (by rw[show rdS D id n=([],0,1) by unfold rdS;rw[if_neg (by omega),hfi,Int.toNat_natCast,zgK hs,if_pos (by omega)]];rfl)
    · simp at h31;have hs16:=hsz s (List.mem_of_getElem? hs);refine qh (qf ?_);refine wN [(0,false),(1,false),(2,false),(3,false),(4,false),(5,false),(6,false),(7,false),(8,false)] (by kernel_rfl) (by kernel_rfl) rR (by kernel_rfl) ?_;refine dM rR rR rR (d_v rR (qa 3 underlying135 rR rR sizeOf41 (by decide) rR) rR (d_v rR (zbN n.toNat underlying41 sizeOf9 rR rR (by omega) (by omega)) rR (d_v rR (qe (v:=Str (s.blocks n.toNat)) isAgg9 rR (zuA _ _ (by omega))) rR (d_v rR (qa 2 underlying135 rR rR sizeOf3 (by decide) rR) rR (d_v rR (qe (v:=I s.size) isAgg3 rR rR) rR (d_v rR (qx rR) rR (d_v rR (qx rR) rR (d_v rR (qx rR) rR ?_))))))));refine yc ?_;refine zax (vdC ((D).size) ((D).blocks) (sl sd (ofM (D).dirty).length cd) ((D).time) ((D).next) (sl ss gl.length cs)) (qL (ofM (D).dirty)) (wY gl) sd cd ss cs (gl) b ((D)) rR rR rR hgl ?_;exact qm rfl rfl (by rw[show rdS D id n=(s.blocks n.toNat,s.size,0) by unfold rdS;rw[if_neg (by omega),hfi,Int.toNat_natCast,zgK hs,if_neg (by omega)]];rfl)
theorem zgT (b:Nat)(D:VdM)(id:Int)(hsl:D.snaps.length≤1000000)(F:List HProp):Ct Tryz.prog 28 [ptr b 0,I id] ([vdk b (D)]++F) (R1 (.tuple #[I (szS D id).1,yH (szS D id).2]) (vdk b (D)::F)):=by
  show Ct Tryz.prog 28 [ptr b 0,I id] (vdk b (D)::F) _;refine Ct.of func28 rR 21 ntmps28 (by simp) fun w0=>?_;refine gS (gA rR (gA rR (qb (gS (gM rR (gM rR ?_))))));refine g_l (qi (Pre:=[vdk b (D)]) call60 rR (zeR b D id (by omega))) rR ?_;rintro _ _ ⟨rfl,rfl⟩;refine gA rR (qb (qf (gS (gM rR (g_v (qK rR rR) rR (qb ?_))))));refine qg rR (fun h11=>?_) (fun h11=>?_)
  · simp at h11;refine gS (g_v (qB underlying108 rR rR) rR (gA rR (gA rR (qb ?_))));exact qm rfl rfl (by rw[show szS D id=(0,5) by unfold szS;rw[if_pos (by omega)]];rfl)
  · simp at h11;obtain ⟨i,s,hfi,hs,hid,hil⟩:=zkH (show ¬zcT D.snaps id<0 by omega);rw[hfi];refine zdB b (D) ?_;intro sd cd ss cs gl hgl;have hln:=znc hgl;obtain ⟨q,hx⟩:=zxG hgl hs;have hkn:i<gl.length:=(by omega);have hkr:i<(wY gl).length:=(by rw[zex];exact hkn);refine qh (gS (gM rR (g_v (qc rR) rR (g_v (qa 20 underlying122 rR rR sizeOf120 (by decide) rR) rR (g_v (qe (v:=sl ss gl.length cs) isAgg120 rR rR) rR (gM rR (g_v (qA i underlying120 sizeOf135 rR rR rR hkn hkr) rR (g_v (yn (j:=_) 2 underlying135 rR rR sizeOf3 (by decide) rR (by assumption)) rR (g_v (wJ (v:=I s.size) isAgg3 rR (zjf hx) rR) rR (gA rR (gA rR (qb ?_))))))))))));refine zax (vdC ((D).size) ((D).blocks) (sl sd (ofM (D).dirty).length cd) ((D).time) ((D).next) (sl ss gl.length cs)) (qL (ofM (D).dirty)) (wY gl) sd cd ss cs (gl) b ((D)) rR rR rR hgl ?_;exact qm rfl rfl (by rw[show szS D id=(s.size,0) by unfold szS;rw[if_neg (by omega),hfi,Int.toNat_natCast,zgK hs]];rfl)
-- (*counterfoil/vdisk.Disk).Snaps is not in this seat
end Go.Proofs.YthdjckbjjfiopadGreatDoor
