/- Package vdisk: what lies where. No condition. -/
import Derived.Test.YthdjckbjjfiopacGreatDoorAreaLaw
import Derived.Test.YthdjckbjjfiopacGreatDoorNums
import Derived.Test.YthdjckbjjfiopacGreatDoorPartB
import Derived.Test.YthdjckbjjfiopacGreatDoorPartA
set_option linter.unusedSimpArgs false
set_option linter.unusedVariables false
namespace Go.Proofs.YthdjckbjjfiopacGreatDoor
open Go.Sl Go.Proofs
structure SnapM where
  id:Int
  time:Int
  size:Int
  blocks:Nat→Bytes
  dirty:Nat→Bool
structure VdM where
  size:Int
  blocks:Nat→Bytes
  dirty:Nat→Bool
  time:Int
  next:Int
  snaps:List SnapM
abbrev Loc:=Option Addr×Nat
def s16 (B:Nat→Bytes):List Value:=[Str (B 0),Str (B 1),Str (B 2),Str (B 3),Str (B 4),Str (B 5),Str (B 6),Str (B 7),Str (B 8),Str (B 9),Str (B 10),Str (B 11),Str (B 12),Str (B 13),Str (B 14),Str (B 15)]
def m16 (m:Nat→Bool):List Value:=[Bo (m 0),Bo (m 1),Bo (m 2),Bo (m 3),Bo (m 4),Bo (m 5),Bo (m 6),Bo (m 7),Bo (m 8),Bo (m 9),Bo (m 10),Bo (m 11),Bo (m 12),Bo (m 13),Bo (m 14),Bo (m 15)]
def vdC (sz:Int)(B:Nat→Bytes)(sd:Value)(tm nx:Int)(ss:Value):Array Value:=#[I sz,Str (B 0),Str (B 1),Str (B 2),Str (B 3),Str (B 4),Str (B 5),Str (B 6),Str (B 7),Str (B 8),Str (B 9),Str (B 10),Str (B 11),Str (B 12),Str (B 13),Str (B 14),Str (B 15),sd,I tm,I nx,ss]
def zrk (x:SnapM)(sd:Value):List Value:=let B:=x.blocks; [I x.id,I x.time,I x.size,Str (B 0),Str (B 1),Str (B 2),Str (B 3),Str (B 4),Str (B 5),Str (B 6),Str (B 7),Str (B 8),Str (B 9),Str (B 10),Str (B 11),Str (B 12),Str (B 13),Str (B 14),Str (B 15),sd]
def zmw (x:SnapM×Loc):List Value:=zrk x.1 (sl x.2.1 (ofM x.1.dirty).length x.2.2)
def wR (l:List (SnapM×Loc)):List (List Value):=l.map zmw
theorem zes (l:List (SnapM×Loc)):(wR l).length=l.length:=by simp[wR]
theorem ziD {l:List (SnapM×Loc)}{k:Nat}{x:SnapM×Loc}(h:l[k]? =some x):(wR l)[k]? =some (zmw x):=by simp[wR,h]
theorem zmr (x:SnapM×Loc):(zmw x).length=20:=rfl
def upd (B:Nat→Bytes)(j:Nat)(x:Bytes):Nat→Bytes:=fun i=>if i=j then x else B i
theorem zkI (sz tm nx:Int)(B:Nat→Bytes)(sd sd' ss:Value):(vdC sz B sd tm nx ss).setIfInBounds 17 sd'=vdC sz B sd' tm nx ss:=rfl
theorem zsL (sz x tm nx:Int)(B:Nat→Bytes)(sd ss:Value):(vdC sz B sd tm nx ss).setIfInBounds 19 (I x)=vdC sz B sd tm x ss:=rfl
theorem zoV (sz tm nx:Int)(B:Nat→Bytes)(sd ss ss':Value):(vdC sz B sd tm nx ss).setIfInBounds 20 ss'=vdC sz B sd tm nx ss':=rfl
theorem zhi (sz tm nx:Int)(B:Nat→Bytes)(sd ss:Value):(vdC sz B sd tm nx ss).size=21:=rfl
theorem zt1 (sz tm nx:Int)(B:Nat→Bytes)(sd ss:Value)(x:Bytes):∀j,j<16→(vdC sz B sd tm nx ss).setIfInBounds (0+1+j*1) (Str x)=vdC sz (upd B j x) sd tm nx ss
  :=fun j h=>match j,h with
    | 0,_=>rfl
    | 1,_=>rfl
    | 2,_=>rfl
    | 3,_=>rfl
    | 4,_=>rfl
    | 5,_=>rfl
    | 6,_=>rfl
    | 7,_=>rfl
    | 8,_=>rfl
    | 9,_=>rfl
    | 10,_=>rfl
    | 11,_=>rfl
    | 12,_=>rfl
    | 13,_=>rfl
    | 14,_=>rfl
    | 15,_=>rfl
    | k+16,h=>absurd h (by omega)
def zel (l:List (SnapM×Loc)):HProp:=fun m=>∀x∈l,roL 2 x.2.1 (qL (ofM x.1.dirty)) m
theorem zna {sz:Nat}{s:Option Addr}{rows:List (List Value)}{m n:Res}(h:roL sz s rows m)(hs:Res.sub m n):roL sz s rows n:=by
  rcases h with h | ⟨b,off,o,h1,h2,h3⟩
  · exact .inl h
  · exact .inr ⟨b,off,o,h1,hs b _ h2,h3⟩
def vdP (b:Nat)(D:VdM)(z:Loc×Loc×List (SnapM×Loc)):List HProp:=
  [pt b (.cells (vdC D.size D.blocks (sl z.1.1 (ofM D.dirty).length z.1.2) D.time D.next (sl z.2.1.1 z.2.2.length z.2.1.2)) 165 (0,0)),roL 2 z.1.1 (qL (ofM D.dirty)),owL 169 20 z.2.1.1 z.2.1.2 (wR z.2.2),zel z.2.2,zcQ (z.2.2.map Prod.fst=D.snaps)]
def vdk (b:Nat)(D:VdM):HProp:=hx (vdP b D)
section
variable {c:Cx}{E:Env}{L:List HProp}{K:List KI}
theorem zdz {F:List HProp}(b:Nat)(D:VdM)[R:Rem L (vdk b D) F](k:∀sd cd ss cs gl,gl.map Prod.fst=D.snaps→G c K E (pt b (.cells (vdC D.size D.blocks (sl sd (ofM D.dirty).length cd) D.time D.next (sl ss gl.length cs)) 165 (0,0))::roL 2 sd (qL (ofM D.dirty))::owL 169 20 ss cs (wR gl)::zel gl::F)):G c K E L:=fun a w hE hS=>by
  obtain ⟨z,hz⟩:=(R.sat hS).hx;obtain ⟨⟨sd,cd⟩,⟨ss,cs⟩,gl⟩:=z;have h2:Sat c.w0 w (pt b (.cells (vdC D.size D.blocks (sl sd (ofM D.dirty).length cd) D.time D.next (sl ss gl.length cs)) 165 (0,0))::roL 2 sd (qL (ofM D.dirty))::owL 169 20 ss cs (wR gl)::zel gl::zcQ (gl.map Prod.fst=D.snaps)::F):=hz;have r:Rem (pt b (.cells (vdC D.size D.blocks (sl sd (ofM D.dirty).length cd) D.time D.next (sl ss gl.length cs)) 165 (0,0))::roL 2 sd (qL (ofM D.dirty))::owL 169 20 ss cs (wR gl)::zel gl::zcQ (gl.map Prod.fst=D.snaps)::F) (zcQ (gl.map Prod.fst=D.snaps)) (pt b (.cells (vdC D.size D.blocks (sl sd (ofM D.dirty).length cd) D.time D.next (sl ss gl.length cs)) 165 (0,0))::roL 2 sd (qL (ofM D.dirty))::owL 169 20 ss cs (wR gl)::zel gl::F):=inferInstance;have h3:=r.sat h2;exact k _ _ _ _ _ h3.pure_.1 a w hE h3.pure_.2
theorem zas {F:List HProp}(C:Array Value)(rd rs:List (List Value))(sd:Option Addr)(cd:Nat)(ss:Option Addr)(cs:Nat)(gl:List (SnapM×Loc))(b:Nat)(D:VdM)(hC:C=vdC D.size D.blocks (sl sd (ofM D.dirty).length cd) D.time D.next (sl ss gl.length cs))(hrd:rd=qL (ofM D.dirty))(hrs:rs=wR gl)(hgl:gl.map Prod.fst=D.snaps)
    [S:Split L [pt b (.cells C 165 (0,0)),roL 2 sd rd,owL 169 20 ss cs rs,zel gl] F] (k:G c K E (vdk b D::F)):G c K E L:=fun a w hE hS=>by
  subst hC hrd hrs;refine k a w hE ?_;have h1:Sat c.w0 w ([pt b (.cells (vdC D.size D.blocks (sl sd (ofM D.dirty).length cd) D.time D.next (sl ss gl.length cs)) 165 (0,0)),roL 2 sd (qL (ofM D.dirty)),owL 169 20 ss cs (wR gl),zel gl]++F):=S.sat hS;have h2:=Sat.pure_mk hgl h1;have sp:Split (zcQ (gl.map Prod.fst=D.snaps)::pt b (.cells (vdC D.size D.blocks (sl sd (ofM D.dirty).length cd) D.time D.next (sl ss gl.length cs)) 165 (0,0))::roL 2 sd (qL (ofM D.dirty))::owL 169 20 ss cs (wR gl)::zel gl::F) [pt b (.cells (vdC D.size D.blocks (sl sd (ofM D.dirty).length cd) D.time D.next (sl ss gl.length cs)) 165 (0,0)),roL 2 sd (qL (ofM D.dirty)),owL 169 20 ss cs (wR gl),zel gl,zcQ (gl.map Prod.fst=D.snaps)] F:=inferInstance;exact Sat.hx_mk (A:=vdP b D) ((sd,cd),(ss,cs),gl) (sp.sat h2)
theorem zsJ (k:G c K E (zel []::L)):G c K E L:=fun a w hE hS=>k a w hE ((Sat.pure_mk (φ:=True) trivial hS).weak fun m _=>fun x hx=>nomatch hx)
theorem zn9 {F F2:List HProp}(gl gl':List (SnapM×Loc))(x:SnapM×Loc)(h:∀y∈gl',y∈gl∨y=x)[R:Rem L (zel gl) F][R2:Rem F (roL 2 x.2.1 (qL (ofM x.1.dirty))) F2](k:G c K E (zel gl'::F2)):G c K E L:=fun a w hE hS=>by
  have h1:=R.sat hS;have r2:Rem (zel gl::F) (roL 2 x.2.1 (qL (ofM x.1.dirty))) (zel gl::F2):=inferInstance;have h2:Sat c.w0 w (roL 2 x.2.1 (qL (ofM x.1.dirty))::zel gl::F2):=r2.sat h1;refine k a w hE (h2.two.weak fun m hm=>?_);obtain ⟨m1,m2,hd,s1,s2,ha,hb⟩:=hm;intro y hy;rcases h y hy with hy | rfl
  · exact zna (hb y hy) s2
  · exact zna ha s1
end
end Go.Proofs.YthdjckbjjfiopacGreatDoor
