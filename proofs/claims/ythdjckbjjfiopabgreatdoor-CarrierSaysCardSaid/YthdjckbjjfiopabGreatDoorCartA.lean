/- Several texts in one: walks and rules used by them. No condition. -/
import Derived.Calls
import Derived.RangeFuncLeaves
import Derived.RangeFuncMany
import Derived.Orders
import Derived.Below
import Derived.Laws.World
import Derived.Tactics
import Derived.Still
import Derived.IntWalk
import Derived.Laws.Strings
import Derived.Deep.LoopGhost
import Derived.Laws.Cells
import Derived.Laws.AppendOwn
import Derived.Test.YthdjckbjjfiopabGreatDoorProg
import Derived.KernelRfl
import Derived.Test.YthdjckbjjfiopabGreatDoorRows
import Derived.WalkKit
import Derived.ProofKit
import Derived.OpenShut
import Derived.ShutString
import Derived.ChangeOld
import Derived.Deep.Slices
set_option linter.unusedSimpArgs false
set_option linter.unusedVariables false
set_option synthInstance.maxSize 9999
set_option synthInstance.maxHeartbeats 0
set_option linter.defProp false
set_option maxHeartbeats 800000
namespace Go.Sl
def Yf:=@Nat.le_refl
def Yg:=@congrArg
def Yh:=@List.getElem?_eq_some_iff
def Yi:=@List.pairwise_iff_getElem
def Yj:=@Nat.le_trans
def Yk:=@Array.getElem?_eq_some_iff
def Yl:=@Array.getElem?_setIfInBounds_ne
def Ym:=@Option.map_eq_some_iff
def Yn:=@Nat.eq_of_beq_eq_true
def Yo:=@Array.getD_eq_getD_getElem?
def Yp:=@Nat.ne_of_beq_eq_false
def Yq:=@Array.setIfInBounds_comm
def Yr:=@Bool.and_eq_true
def Ys:=@List.getElem?_set_self
def Yt:=@List.getElem?_set_ne
def Yu:=@List.map_append
def Yv:=@List.map_map
def Yw:=@List.map_cons
def Yx:=@List.map_nil
def Yy:=@List.getElem?_append_left
def Yz:=@List.eraseIdx_append_of_lt_length
def YA:=@Array.mapM_eq_mapM_toList
def YB:=@if_pos
def YC:=@if_neg
def YD:=@List.getElem?_toArray
def YE:=@Nat.add_assoc
def YF:=@List.length_cons
def YG:=@List.mem_map_of_mem
def YH:=@Nat.div_eq_of_lt
def YI:=@Nat.mod_eq_of_lt
def YJ:=@List.getElem?_append_right
def YK:=@Nat.add_mul
def YL:=@Nat.lt_or_ge
def YM:=@Nat.mul_comm
def YN:=@Nat.mul_add_div
def YO:=@Nat.mul_add_mod
def YP:=@Nat.mul_le_mul
def YQ:=@Nat.mul_le_mul_right
def YR:=@Nat.zero_add
def YS:=@List.mem_flatten
def YT:=@List.length_eq_zero_iff
def YU:=@Array.size_append
def YV:=@List.size_toArray
def YW:=@List.mem_of_getElem?
def YX:=@Nat.lt_or_gt_of_ne
def YY:=@Array.ext_getElem?
def YZ:=@List.take_succ_eq_append_getElem
def Y0:=@List.mem_or_eq_of_mem_set
def Y1:=@List.map_set
def Y2:=@List.take_zero
def Y3:=@List.take_length
def Y4:=@List.any_eq_true
def Y5:=@List.mem_cons
def Y6:=@List.exists_cons_of_ne_nil
def Y7:=@Nat.mul_pos
def Y8:=@List.length_take
def Y9:=@Nat.min_eq_left
def Za:=@List.getElem?_take_of_lt
def Zb:=@List.mem_of_mem_drop
def Zc:=@List.mem_of_mem_take
def Zd:=@Option.map_none
def Ze:=@Nat.pow_le_pow_right
def Zf:=@List.append_assoc
def Zg:=@List.nil_append
def Zh:=@List.cons_append
def Zi:=@Bool.or_eq_true
def Zj:=@Array.any_eq_true
def Zk:=@Array.getElem_mem
def Zl:=@Nat.mod_lt
def Zm:=@Nat.add_zero
def Zn:=@List.mem_append
def Zo:=@Nat.min_le_right
def Zp:=@List.drop_zero
def Zq:=@List.take_append_of_le_length
def Zr:=@List.take_replicate
def Zs:=@List.drop_replicate
def Zt:=@decide_eq_false
def Zu:=@List.getElem?_eq_getElem
def Zv:=@decide_eq_true
def Zw:=@List.getElem?_map
def Zx:=@List.ext_getElem?
def Zy:=@List.getD_eq_getElem?_getD
def Zz:=@List.mem_map
def ZA:=@List.length_replicate
def ZB:=@Option.not_isSome_iff_eq_none
def ZC:=@List.Nodup.sublist
def ZD:=@List.Sublist.map
def ZE:=@List.filter_sublist
def ZF:=@Array.getElem?_toList
def ZG:=@Array.getElem?_modify
def ZH:=@List.getElem_map
def ZI:=@List.map_congr_left
def ZJ:=@Array.toList_push
def ZK:=@List.nodup_append
def ZL:=@List.nodup_cons
def ZM:=@List.filter_eq_self
def ZN:=@Array.toList_filter
def ZO:=@List.filter_filter
def ZP:=@List.append_of_mem
def ZQ:=@List.perm_middle
def ZR:=@List.filter_append
def ZS:=@List.filter_cons_of_neg
def ZT:=@List.nodup_range'
def ZU:=@List.length_map
def ZV:=@List.mem_filter
def ZW:=@List.countP_eq_length_filter
def ZX:=@List.find?_eq_none
def ZY:=@List.find?_range'_eq_some
def ZZ:=@List.mem_range'_1
def Z0:=@Bool.true_and
def Z1:=@List.length_append
def Z2:=@List.mem_cons_self
def Z3:=@List.filter_map
def Z4:=@List.flatMap_cons
def Z5:=@List.eraseIdx_cons_succ
def Z6:=@List.perm_append_comm
def Z7:=@Int.toNat_of_nonneg
def Z8:=@List.length_set
def Z9:=@List.drop_of_length_le
def kaa:=@List.take_left
def kab:=@List.drop_left
def kac:=@List.mem_cons_of_mem
def kad:=@List.mem_singleton
def kae:=@List.drop_eq_getElem_cons
def kaf:=@List.not_mem_nil
def kag:=@Int.toNat_natCast
def kah:=@List.drop_length
def kai:=@Int.eq_ofNat_of_zero_le
def kaj:=@List.pairwise_cons
def kak:=@List.filter_eq_nil_iff
def kal:=@List.any_eq_false
def kam:=@List.length_filter_le
def kan:=@List.pairwise_append
def kao:=@List.foldl_cons
def kap:=@Option.some_get
def kaq:=@List.take_of_length_le
def kar:=@List.eraseIdx_eq_take_drop_succ
def kas:=@List.length_eraseIdx
def kau:=@Int.fdiv_eq_ediv_of_nonneg
def kav:=@List.getElem?_eq_none
def kaw:=@List.length_drop
def kax:=@List.take_sublist
def kay:=@List.length_nil
def kaz:=@List.drop_succ_cons
def kaA:=@List.take_succ_cons
def kaB:=@Nat.zero_le
def kaC:=@Array.getElem?_setIfInBounds
def kaD:=@List.mem_append_right
def kaE:=@List.append_nil
def kaF:=@Option.ne_none_iff_exists'
def kaG:=@Option.isSome_iff_exists
def kaH:=@Int.le_refl
def kaI:=@List.findIdx_eq
def kaJ:=@List.findIdx_getElem
def kaK:=@List.not_of_lt_findIdx
def kaL:=@List.find?_eq_some_iff_getElem
def kaM:=@List.findIdx_lt_length_of_exists
def kaN:=@List.pairwise_singleton
def kaO:=@Option.bind_some
def kaP:=@List.take_append_drop
def kaQ:=@List.drop_drop
def kaR:=@List.drop_append_of_le_length
def kaS:=@List.pairwise_map
def kaT:=@List.Pairwise.imp_of_mem
def kaU:=@List.take_add_one
def kaV:=@Bool.or_eq_false_iff
def kaW:=@List.mem_iff_getElem
def kaX:=@List.take_set_of_le
def kaY:=@List.drop_set_of_lt
def kaZ:=@List.map_take
def ka0:=@Int.lt_or_eq_of_le
def ka1:=@Bool.and_assoc
def ka2:=@List.Pairwise.filter
def ka3:=@List.getElem?_of_mem
def ka4:=@List.findIdx_cons
def ka5:=@Option.isSome_map
def ka6:=@Option.isNone_iff_eq_none
def ka7:=@Nat.add_sub_cancel_left
def ka8:=@List.setIfInBounds_toArray
def ka9:=@List.range'_concat
def kba:=@Int.ofNat_tdiv
def kbb:=@Int.ofNat_tmod
def kbc:=@List.mem_append_left
def kbd:=@Int.le_of_lt
def kbe:=@List.mem_of_mem_eraseIdx
def kbf:=@List.range'_append_1
def kbg:=@List.filter_congr
def rR {α:Type}{a:α}:a=a:=rfl
abbrev Res:=Nat->Option (Obj×Bool)
abbrev ag:=Res->Prop
def Res.dj (m n:Res):Prop:=∀b x y,m b=some x->n b=some y->x.2=true/\y.2=true
def Res.fits (m:Res)(w:World):Prop:=∀b x,m b=some x->w.heap[b]? =some x.1
def Res.sub (m n:Res):Prop:=∀b x,m b=some x->n b=some x
def OkL (w:World)(L:List ag)(f:Nat->Res):Prop:=
 (∀i A,L[i]? =some A->A (f i)/\(f i).fits w)/\∀i j,i<L.length->j<L.length->i≠j->(f i).dj (f j)
structure Sat (w0 w:World) (L:List ag):Prop where
 os:w.os=w0.os
 tape:w.tape=w0.tape
 output:w.output=w0.output
 size:w0.heap.size<=w.heap.size
 parts:∃f,OkL w L f
def kz (φ:Prop):ag:=λ_=>φ
def QV {α:Type}(A:α->ag):ag:=λm=>∃x,A x m
def DR (A B:ag):ag:=λm=>∃m1 m2,m1.dj m2/\m1.sub m/\m2.sub m/\A m1/\B m2
def pt (b:Nat)(o:Obj):ag:=λm=>m b=some (o,false)
def ro (b:Nat)(o:Obj):ag:=λm=>m b=some (o,true)
def old (w0:World):ag:=λm=>∀b o,w0.heap[b]? =some o->m b=some (o,true)
def Pers (A:ag):Prop:=∀m,A m->∃m',Res.sub m' m/\(∀b x,m' b=some x->x.2=true)/\A m'
theorem Res.dj.symm {m n:Res}(h:m.dj n):n.dj m:=λb x y hx hy=>(h b y x hy hx).symm
theorem Res.dj.mono {m n m' J:Res}(h:m.dj n)(h1:m'.sub m)(O:J.sub n):m'.dj J:=λb x y hx hy=>h b x y (h1 b x hx) (O b y hy)
theorem Res.fits.mono {m m':Res}{w:World}(h:m.fits w)(h1:m'.sub m):m'.fits w:=λb x hx=>h b x (h1 b x hx)
theorem Res.sub.refl (m:Res):m.sub m:=λ_ _ h=>h
def Res.union (m n:Res):Res:=λb=>(m b).or (n b)
def Res.one (b:Nat)(x:Obj×Bool):Res:=λc=>if c=b then some x else none
theorem Res.one_eq {b c:Nat}{x y:Obj×Bool}(h:Res.one b x c=some y):c=b/\y=x:=by
 grind[Res.one]
theorem Res.one_self {b:Nat}{x:Obj×Bool}:Res.one b x b=some x:=by simp[Res.one]
section
variable {w0 w:World}{L:List ag}{A B:ag}
theorem Sat.start (w0:World):Sat w0 w0 [old w0]:=by
 refine ⟨rfl,rfl,rfl,Yf _,λ_ b=>(w0.heap[b]?).map (·,true),?_,?_⟩
 ·intro i A hA;cases i with
  | zero=>
   simp at hA;subst hA;exact ⟨λb o h=>by simp[h],λb x h=>by
    grind⟩
  | succ i=>simp at hA
 grind
theorem Sat.pick {L':List ag}(O:List Nat)(h:Sat w0 w L)(hL:O.map (L[·]?)=L'.map some)(hn:O.Nodup):Sat w0 w L':=by
 obtain ⟨h1,X,Y,Z,f,hf,hd⟩:=h;have J:∀(i:Nat) (A:ag),L'[i]? =some A->∃k:Nat,O[i]? =some k/\L[k]? =some A:=by
  intro i A hA;have:(L'.map some)[i]? =some (some A):=by simp[hA]
  grind
 have V:O.length=L'.length:=(by simpa using Yg List.length hL);refine ⟨h1,X,Y,Z,λi=>f (O.getD i 0),?_,?_⟩
 ·grind
 ·intro i j hi hj hne;obtain ⟨k,hk,hA⟩:=J i L'[i] (by simp[hi]);obtain ⟨l,hl,hB⟩:=J j L'[j] (by simp[hj]);have R:O.getD i 0=k:=(by simp[List.getD,hk]);have S:O.getD j 0=l:=(by simp[List.getD,hl]);simp only[R,S];refine hd k l ?_ ?_ ?_
  ·grind
  ·grind
  ·intro e;subst e;obtain ⟨i1,R⟩:=Yh.1 hk;obtain ⟨j1,S⟩:=Yh.1 hl;have hp:=Yi.1 hn
   grind
theorem Sat.head {w':World}{L1:List ag}(h:Sat w0 w (A::L))(hos:w'.os=w.os)(O:w'.tape=w.tape)(S:w'.output=w.output)(J:w.heap.size<=w'.heap.size)
  (k:∀m,A m->m.fits w->∃g:Nat->Res,OkL w' L1 g/\(∀(n:Res),n.fits w->n.dj m->n.fits w'/\∀i,i<L1.length->(g i).dj n)):Sat w0 w' (L1++L):=by
 obtain ⟨h1,R,h3,h4,f,V,hd⟩:=h;have hA:=V 0 A rfl;obtain ⟨g,⟨hg,X⟩,hn⟩:=k (f 0) hA.1 hA.2;refine ⟨hos.trans h1,O.trans R,S.trans h3,Yj h4 J,λi=>if i<L1.length then g i else f (i - L1.length+1),?_,?_⟩
 ·intro i C hC;by_cases hi:i<L1.length
  ·grind
  grind
 ·intro i j hi hj hne;have hlen:(L1++L).length=L1.length+L.length:=(by simp);by_cases h1:i<L1.length <;> by_cases R:j<L1.length <;> simp only[h1,R,if_true,if_false]
  ·exact X i j h1 R hne
  ·have Z:j - L1.length+1<(A::L).length:=(by simp;omega);exact (hn _ (V (j - L1.length+1) ((A::L)[j - L1.length+1]) (by simp)).2 (hd _ _ Z (by simp) (by omega))).2 i h1
  ·have Y:i - L1.length+1<(A::L).length:=(by simp;omega);exact ((hn _ (V (i - L1.length+1) ((A::L)[i - L1.length+1]) (by simp)).2 (hd _ _ Y (by simp) (by omega))).2 j R).symm
  grind
theorem OkL.one {w:World}{A:ag}{m:Res}(h:A m)(O:m.fits w):OkL w [A] (λ_=>m):=by
 refine ⟨λi B J=>?_,λi j hi hj hne=>?_⟩
 ·grind
 ·simp at hi hj;omega
theorem Sat.weak (h:Sat w0 w (A::L))(k:∀m,A m->B m):Sat w0 w (B::L):=
 h.head (L1:=[B]) rfl rfl rfl (Yf _) λm hA J=>⟨λ_=>m,OkL.one (k m hA) J,λn hn hd=>⟨hn,λ_ _=>hd.symm⟩⟩
theorem Sat.ex {α:Type}{A:α->ag}(h:Sat w0 w (QV A::L)):∃x,Sat w0 w (A x::L):=by
 obtain ⟨h1,J,O,R,f,S,hd⟩:=h;obtain ⟨x,hx⟩:=(S 0 _ rfl).1;refine ⟨x,h1,J,O,R,f,λi C hC=>?_,hd⟩
 grind
theorem Sat.ex_mk {α:Type}{A:α->ag}(x:α)(h:Sat w0 w (A x::L)):Sat w0 w (QV A::L):=h.weak λ_ hm=>⟨x,hm⟩
theorem Sat.tail (h:Sat w0 w (A::L)):Sat w0 w L:=by
 simpa using h.head (L1:=[]) rfl rfl rfl (Yf _) λm _ _=>⟨λ_=>m,⟨by simp,by simp⟩,λ_ hn _=>⟨hn,by simp⟩⟩
theorem Sat.pure_ {φ:Prop}(h:Sat w0 w (kz φ::L)):φ/\Sat w0 w L:=⟨by
 obtain ⟨_,_,_,_,f,J,_⟩:=h;exact (J 0 _ rfl).1,h.tail⟩
theorem Sat.pure_mk {φ:Prop}(hp:φ)(h:Sat w0 w L):Sat w0 w (kz φ::L):=by
 obtain ⟨h1,J,O,R,f,S,hd⟩:=h;refine ⟨h1,J,O,R,λi=>match i with | 0=>λ_=>none | i+1=>f i,λi C hC=>?_,λi j hi hj hne=>?_⟩
 ·cases i with
  | zero=>simp at hC;subst hC;exact ⟨hp,λb x hx=>by cases hx⟩
  | succ i=>exact S i C (by simpa using hC)
 ·cases i with
  | zero=>exact λb x y hx=>by cases hx
  | succ i=>cases j with
   | zero=>exact λb x y _ hy=>by cases hy
   | succ j=>grind
theorem Sat.star (h:Sat w0 w (DR A B::L)):Sat w0 w (A::B::L):=
 h.head (L1:=[A,B]) rfl rfl rfl (Yf _) λm hA O=>by
  obtain ⟨X,Y,hd,R,s2,S,V⟩:=hA;refine ⟨λi=>if i=0 then X else Y,⟨λi C hC=>?_,λi j hi hj hne=>?_⟩,λn hn J=>⟨hn,λi _=>?_⟩⟩
  ·match i with
   | 0=>simp at hC;subst hC;exact ⟨S,O.mono R⟩
   | 1=>simp at hC;subst hC;exact ⟨V,O.mono s2⟩
   | i+2=>simp at hC
  ·simp at hi hj;by_cases h0:i=0
   ·grind
   ·have:j=0:=(by omega);simp only[h0,this,if_true,if_false];exact hd.symm
  ·dsimp only;split
   ·exact (J.mono (Res.sub.refl _) R).symm
   ·exact (J.mono (Res.sub.refl _) s2).symm
theorem Sat.two (h:Sat w0 w (A::B::L)):Sat w0 w (DR A B::L):=by
 obtain ⟨h1,S,V,X,f,R,hd⟩:=h;have hA:=R 0 _ rfl;have O:=R 1 _ rfl;have J:=hd 0 1 (by simp) (by simp) (by omega);have s2:(f 1).sub ((f 0).union (f 1)):=by
  intro b x hx;unfold Res.union;cases h0:f 0 b with
  | none=>simp[hx]
  | some y=>
   have Z:=hA.2 b y h0;have e2:=O.2 b x hx;have:=J b y x h0 hx
   grind
 have Y:(f 0).sub ((f 0).union (f 1)):=λb x hx=>(by simp[Res.union,hx]);refine ⟨h1,S,V,X,λi=>match i with | 0=>(f 0).union (f 1) | i+1=>f (i+2),λi C hC=>?_,λi j hi hj hne=>?_⟩
 ·cases i with
  | zero=>
   simp at hC;subst hC;refine ⟨⟨f 0,f 1,J,Y,s2,hA.1,O.1⟩,λb x hx=>?_⟩;simp only[Res.union] at hx;cases h0:f 0 b with
   | none=>rw[h0] at hx;exact O.2 b x (by simpa using hx)
   | some y=>rw[h0] at hx;exact hA.2 b x (by rw[h0];simpa using hx)
  | succ i=>exact R (i+2) C (by simpa using hC)
 ·have dj:∀k,k+1<(DR A B::L).length->((f 0).union (f 1)).dj (f (k+2)):=λk hk b x y hx hy=>by
   simp only[Res.union] at hx;cases h0:f 0 b with
   | none=>rw[h0] at hx;exact hd 1 (k+2) (by simp) (by simp at hk ⊢;omega) (by omega) b x y (by simpa using hx) hy
   | some z=>rw[h0] at hx;exact hd 0 (k+2) (by simp) (by simp at hk ⊢;omega) (by omega) b x y (by rw[h0];simpa using hx) hy
  cases i with
  | zero=>grind
  | succ i=>cases j with
   | zero=>exact (dj i hi).symm
   | succ j=>grind
theorem Sat.at_ {b:Nat}{o:Obj}(h:Sat w0 w (pt b o::L)):w.heap[b]? =some o:=by
 obtain ⟨_,_,_,_,f,J,_⟩:=h;have:=J 0 _ rfl;exact this.2 b (o,false) this.1
theorem Sat.ro_at {b:Nat}{o:Obj}(h:Sat w0 w (ro b o::L)):w.heap[b]? =some o:=by
 obtain ⟨_,_,_,_,f,J,_⟩:=h;have:=J 0 _ rfl;exact this.2 b (o,true) this.1
theorem Sat.freeze {b:Nat}{o:Obj}(h:Sat w0 w (pt b o::L)):Sat w0 w (ro b o::L):=
 h.head (L1:=[ro b o]) rfl rfl rfl (Yf _) λm hA O=>by
  refine ⟨λ_=>Res.one b (o,true),OkL.one Res.one_self λc x hx=>?_,λn hn J=>⟨hn,λi _ c x y hx hy=>?_⟩⟩
  ·obtain ⟨rfl,rfl⟩:=Res.one_eq hx;exact O _ (o,false) hA
  ·obtain ⟨rfl,rfl⟩:=Res.one_eq hx;have:=(J _ y (o,false) hy hA).2;cases this
theorem Sat.set {b:Nat}{o o':Obj}{w':World}(h:Sat w0 w (pt b o::L))(hw:w'={w with heap:=w.heap.setIfInBounds b o'}):Sat w0 w' (pt b o'::L):=by
 subst hw;refine h.head (L1:=[pt b o']) rR rR rR (by simp) λm hA R=>?_;have O:=R b _ hA;have S:=(Yk.1 O).1;refine ⟨λ_=>Res.one b (o',false),OkL.one Res.one_self λc x hx=>?_,λn hn J=>⟨λc x hx=>?_,λi _ c x y hx hy=>?_⟩⟩
 ·grind[Res.one_eq]
 ·have hne:b≠c:=by
   rintro rfl;have:=(J b x (o,false) hx hA).2;cases this
  simp only[Yl hne];exact hn c x hx
 ·obtain ⟨rfl,rfl⟩:=Res.one_eq hx;have:=(J _ y (o,false) hy hA).2;cases this
theorem Sat.alloc (h:Sat w0 w L)(o:Obj):Sat w0 {w with heap:=w.heap.push o} (pt w.heap.size o::L):=by
 have O:Sat w0 w (kz True::L):=h.pure_mk trivial;refine O.head (L1:=[pt w.heap.size o]) rR rR rR (by simp) λm _ S=>?_;have J:∀(n:Res),n.fits w->∀c x,n c=some x->c<w.heap.size:=λn hn c x hx=>(Yk.1 (hn c x hx)).1;refine ⟨λ_=>Res.one w.heap.size (o,false),OkL.one Res.one_self λc x hx=>?_,λn hn R=>⟨λc x hx=>?_,λi _ c x y hx hy=>?_⟩⟩
 ·grind[Res.one_eq]
 ·have:=J n hn c x hx;simp only[Array.getElem?_push_lt this];simpa [this] using hn c x hx
 ·obtain ⟨rfl,rfl⟩:=Res.one_eq hx;have:=J n hn _ y hy;omega
theorem Sat.drew (h:Sat w0 w L)(k:Nat):Sat w0 {w with drawn:=k} L:=⟨h.os,h.tape,h.output,h.size,h.parts⟩
theorem Sat.dup (h:Sat w0 w (A::L))(hp:Pers A):Sat w0 w (A::A::L):=
 h.head (L1:=[A,A]) rfl rfl rfl (Yf _) λm hA R=>by
  obtain ⟨m',hs,hr,O⟩:=hp m hA;refine ⟨λ_=>m',⟨λi C hC=>?_,λi j _ _ _ b x y hx hy=>⟨hr b x hx,hr b y hy⟩⟩,λn hn J=>⟨hn,λi _=>(J.mono (Res.sub.refl _) hs).symm⟩⟩;have:C=A:=by
   grind
  subst this;exact ⟨O,R.mono hs⟩
theorem Pers.ro (b:Nat)(o:Obj):Pers (ro b o):=λm h=>⟨Res.one b (o,true),λc x hx=>by
 obtain ⟨rfl,rfl⟩:=Res.one_eq hx;exact h,λc x hx=>by grind[Res.one_eq],Res.one_self⟩
theorem Pers.pure_ (φ:Prop):Pers (kz φ):=λ_ h=>⟨λ_=>none,(λb x hx=>nomatch hx),(λb x hx=>nomatch hx),h⟩
theorem Pers.ex {α:Type}{A:α->ag}(h:∀x,Pers (A x)):Pers (QV A):=λm ⟨x,hx⟩=>let ⟨m',a,b,c⟩:=h x m hx;⟨m',a,b,x,c⟩
theorem Pers.old (w0:World):Pers (old w0):=λm h=>⟨λb=>(w0.heap[b]?).map (·,true),λb x hx=>by
 simp[Ym] at hx;obtain ⟨o,ho,rfl⟩:=hx;exact h b o ho,λb x hx=>by
 grind,λb o ho=>by simp[ho]⟩
theorem Sat.old_ro {b:Nat}{o:Obj}{v0:World}(h:Sat w0 w (old v0::L))(J:v0.heap[b]? =some o):Sat w0 w (ro b o::old v0::L):=
 (h.dup (Pers.old v0)).weak λ_ hm=>hm b o J
theorem Sat.below (h:Sat w0 w (old w0::L)):RowKit.Below w0.heap.size w0 w:=by
 refine ⟨h.os,h.tape,h.output,h.size,λb J=>?_⟩;have h1:w0.heap[b]? =some w0.heap[b]:=(by simp[J]);rw[(h.old_ro h1).ro_at,h1]
end
end Go.Sl
namespace Go.Sl
abbrev U5:=Nat×Option (Nat×Bool)×Value
abbrev dr:=List U5
def FP:dr->Nat->Option (Option (Nat×Bool)×Value)
 | [],_=>none
 | (s,h,v)::E,t=>match Nat.beq s t with | true=>some (h,v) | false=>FP E t
def Hp:Bool->Bool->Bool
 | true,b=>b
 | false,true=>false
 | false,false=>true
def look (g:Option (Nat×Bool))(E:dr)(t:Nat):Option Value:=
 match FP E t with
 | some (none,v)=>some v
 | some (some (j,b),v)=>match g with
  | some (j',b')=>match Nat.beq j j' with
   | true=>match Hp b b' with | true=>some v | false=>none
   | false=>none
  | none=>none
 | none=>none
def ev (g:Option (Nat×Bool))(E:dr):Operand->Option Value
 | .tmp t=>look g E t
 | .const v=>some v
 | .global x=>some (.pointer (some ⟨x,0,none⟩))
 | .func f=>some (.func (.func f) #[] #[])
def evs (g:Option (Nat×Bool))(E:dr):List Operand->Option (List Value)
 | []=>some []
 | x::xs=>match ev g E x with
  | some v=>match evs g E xs with | some vs=>some (v::vs) | none=>none
  | none=>none
def U:List (Nat×Value)->dr
 | []=>[]
 | (t,v)::l=>(t,none,v)::U l
def keep (E:dr):List Nat->Option dr
 | []=>some []
 | t::ts=>match look none E t with
  | some v=>match keep E ts with | some R=>some ((t,none,v)::R) | none=>none
  | none=>none
def nm:Nat->List Value->dr
 | _,[]=>[]
 | i,v::vs=>(i,none,v)::nm (i+1) vs
def gd (g:Option (Nat×Bool))(a:Act):Prop:=∀j b,g=some (j,b)->a.tmps[j]? =some (.bool b)
structure Nd where
 n:Nat
 ds:List Deferred
structure EOk (n:Nd) (E:dr) (a:Act):Prop where
 defers:a.defers=n.ds
 size:a.tmps.size=n.n
 at_:∀t h v,FP E t=some (h,v)->gd h a->a.tmps[t]? =some v
def KK {a b:Bool}(h:Hp a b=true):a=b:=by cases a <;> cases b <;> simp_all [Hp]
theorem EOk.look {n:Nd}{E:dr}{a:Act}{g:Option (Nat×Bool)}{t:Nat}{v:Value}(h:EOk n E a)(S:gd g a)(hl:look g E t=some v):a.tmps[t]? =some v:=by
 unfold Sl.look at hl;split at hl
 ·rename_i u he;injection hl with hl;subst hl;exact h.at_ t _ _ he (λj b e=>by cases e)
 ·rename_i j b u he;split at hl
  ·rename_i X V;split at hl
   ·rename_i hj;split at hl
    ·rename_i R;injection hl with hl;subst hl;have J:=Yn hj;have O:=KK R;subst J O;exact h.at_ t _ _ he S
    ·cases hl
   ·cases hl
  ·cases hl
 ·cases hl
def cR (a:Act):gd none a:=λ_ _ e=>by cases e
theorem EOk.ev {n:Nd}{E:dr}{a:Act}{g:Option (Nat×Bool)}{x:Operand}{v:Value}(h:EOk n E a)(J:gd g a)(hl:ev g E x=some v):a.eval x=v:=by
 cases x with
 | tmp t=>have:=h.look J hl;simp[Act.eval,Yo,this]
 | const u=>injection hl
 | global u=>injection hl
 | func u=>injection hl
theorem EOk.evs {n:Nd}{E:dr}{a:Act}{g:Option (Nat×Bool)}(h:EOk n E a)(R:gd g a):∀{O:List Operand} {vs:List Value},evs g E O=some vs->O.map a.eval=vs
 | [],vs,hl=>by injection hl with hl
 | x::O,vs,hl=>by
  unfold Sl.evs at hl;split at hl
  ·rename_i v hv;split at hl
   ·rename_i S J;injection hl with hl;subst hl;simp[h.ev R hv,h.evs R J]
   ·cases hl
  ·cases hl
def lE (n:Nd)(d:Nat):dr->Bool
 | []=>Nat.blt d n.n
 | (_,none,_)::E=>lE n d E
 | (_,some (j,_),_)::E=>match Nat.beq j d with | true=>false | false=>lE n d E
class NZ (n:Nat):Prop where p:n≠0
instance {n:Nat}:NZ (n+1):=⟨by omega⟩
class LK (g:Option (Nat×Bool))(E:dr)(t:Nat)(v:outParam Value):Prop where p:look g E t=some v
class EV (g:Option (Nat×Bool))(E:dr)(x:Operand)(v:outParam Value):Prop where p:ev g E x=some v
class EVS (g:Option (Nat×Bool))(E:dr)(x:List Operand)(v:outParam (List Value)):Prop where p:evs g E x=some v
class NT {γ α:Type}{D:γ->Nat->Prop}[GetElem? γ Nat α D](l:γ)(i:Nat)(v:outParam α):Prop where p:l[i]? =some v
class EQ (a b:Nat):Prop where p:a=b
instance {n:Nat}:EQ n n:=⟨rfl⟩
class DS (l:List Oper)(i:Nat)(v:outParam Nat):Prop where p:(l[i]?).bind (·.dst)=some v
section
variable {g:Option (Nat×Bool)}{E:dr}{t s i:Nat}{v w:Value}{h:Option (Nat×Bool)}{l:List (Nat×Value)}{m:List Value}{α:Type}{a b:α}{u:List α}
instance [n:NZ (s - t+(t - s))][k:LK g E t v]:LK g ((s,h,w)::E) t v:=⟨by
 have z:Nat.beq s t=false:=by
  cases e:Nat.beq s t
  ·rfl
  ·have := Yn e
   have := n.p
   omega
 have := k.p
 simpa [look,FP,z] using this⟩
instance :LK g ((t,none,v)::E) t v:=⟨by simp [look,FP]⟩
instance {b:Bool}{j:Nat}:LK (some (j,b)) ((t,some (j,b),v)::E) t v:=⟨by cases b <;> simp [look,FP,Hp]⟩
instance [h:LK g ((s,none,w)::U l) t v]:LK g (U ((s,w)::l)) t v:=⟨h.p⟩
instance [h:LK g ((s,none,w)::nm (s+1) m) t v]:LK g (nm s (w::m)) t v:=⟨h.p⟩
instance [h:LK g E t v]:EV g E (.tmp t) v:=⟨h.p⟩
instance :EV g E (.const v) v:=⟨rfl⟩
instance :EV g E (.global t) (.pointer (some ⟨t,0,none⟩)):=⟨rfl⟩
instance :EV g E (.func t) (.func (.func t) #[] #[]):=⟨rfl⟩
instance :EVS g E [] []:=⟨rfl⟩
instance {x:Operand}{y:List Operand}[h:EV g E x v][k:EVS g E y m]:EVS g E (x::y) (v::m):=⟨by simp [evs,h.p,k.p]⟩
instance [h:EQ i 0]:NT (a::u) i a:=⟨by rw[h.p];rfl⟩
instance [h:NT u i b]:NT (a::u) (i+1) b:=⟨h.p⟩
instance [h:NT u i b]:NT u.toArray i b:=⟨by simpa using h.p⟩
instance {o:Op}{y:TypeId}{p:String}{f:Array Edge}{k:List Oper}:DS (⟨some t,o,y,p,f,h⟩::k) 0 t:=⟨rfl⟩
instance {o:Oper}{k:List Oper}[h:DS k i t]:DS (o::k) (i+1) t:=⟨h.p⟩
instance {o:Op}{y:TypeId}{p:String}{f:Array Edge}{k r:List Oper}:DS ((⟨some t,o,y,p,f,h⟩::k).append r) 0 t:=⟨rfl⟩
instance {o:Oper}{k r:List Oper}[h:DS (k.append r) i t]:DS ((o::k).append r) (i+1) t:=⟨h.p⟩
instance {k:List Oper}[h:DS k i t]:DS (List.append [] k) i t:=⟨h.p⟩
end
def FX {n:Nd}{d:Nat}:∀{E:dr},lE n d E=true->d<n.n
 | [],h=>by grind[lE,Nat.blt_eq]
 | (_,none,_)::E,h=>FX (E:=E) h
 | (_,some (j,_),_)::E,h=>by
  unfold lE at h;split at h
  ·cases h
  ·exact FX (E:=E) h
theorem FY {n:Nd}{d:Nat}:∀{E:dr} {t:Nat} {j:Nat} {b:Bool} {v:Value},lE n d E=true->FP E t=some (some (j,b),v)->j≠d
 | [],t,j,b,v,h,he=>by cases he
 | (s,none,u)::E,t,j,b,v,h,he=>by
  unfold FP at he;split at he
  ·grind
  ·exact FY (E:=E) h he
 | (s,some (i,c),u)::E,t,j,b,v,h,he=>by
  unfold lE at h;split at h
  ·cases h
  ·rename_i hi;unfold FP at he;split at he
   ·grind[Nat.ne_of_beq_eq_false]
   ·exact FY (E:=E) h he
theorem QW {a:Act}{d:Nat}{v:Value}(h:d<a.tmps.size):(a.put (some d) v).tmps[d]? =some v:=by simp[Act.put,h]
theorem FZ {a:Act}{d t:Nat}{v:Value}(h:d≠t):(a.put (some d) v).tmps[t]? =a.tmps[t]? :=by simp[Act.put,Yl h]
theorem EOk.put {n:Nd}{E:dr}{a:Act}{d:Nat}{g:Option (Nat×Bool)}{v u:Value}(h:EOk n E a)(hd:lE n d E=true)(O:∀j b,g=some (j,b)->j≠d)(hv:gd g a->u=v):
  EOk n ((d,g,v)::E) (a.put (some d) u):=by
 have R:d<a.tmps.size:=(by rw[h.size];exact FX hd);refine ⟨h.defers,by simp[Act.put,h.size],λt k w he hk=>?_⟩;unfold FP at he;split at he
 ·grind[Nat.eq_of_beq_eq_true,QW,gd,FZ]
 ·rename_i J;rw[FZ (Yp J)];refine h.at_ t k w he λj b e=>?_;have h1:=hk j b e
  grind[FZ,FY]
theorem EOk.put1 {n:Nd}{E:dr}{a:Act}{d:Nat}{v:Value}(h:EOk n E a)(hd:lE n d E=true):EOk n ((d,none,v)::E) (a.put (some d) v):=
 h.put hd (λ_ _ e=>by cases e) λ_=>rfl
theorem EOk.keep {n:Nd}{E:dr}{a:Act}(h:EOk n E a):∀{J:List Nat} {R:dr},keep E J=some R->EOk n R a
 | [],R,hk=>by injection hk with hk;subst hk;exact ⟨h.defers,h.size,λ_ _ _ e=>by cases e⟩
 | t::J,R,hk=>by
  unfold Sl.keep at hk;split at hk
  ·rename_i v hv;split at hk
   ·rename_i Y S;injection hk with hk;subst hk;refine ⟨h.defers,h.size,λs k w he X=>?_⟩;unfold FP at he;split at he
    ·rename_i V;have:=Yn V;subst this;injection he with he;injection he with h1 O;subst h1 O;exact h.look (cR a) hv
    ·exact (h.keep S).at_ s k w he X
   ·cases hk
  ·cases hk
abbrev fu:=Exit->Act->World->Prop
inductive KI where
 | code (c:Code)
 | blk (id:Nat)
 | ops (all rest:List Oper)
 | plan (all:List Oper) (C:World->Prop) (rest:List (Nat×Bool))
 | fin (J:Act->World->Prop)
section
variable {P:Program}{ops:Array Oper}{Q:fu}{C:World->Prop}
def Qt (P:Program)(C:World->Prop)(o:Oper)(a:Act)(v:Value):Prop:=∀w,C w->(execOp a.eval o).run P w= .ok (.value v) w\/((execOp a.eval o).run P w= .ok .skip w/\v=undef)
def YieldsC (P:Program)(ops:Array Oper)(C:World->Prop)(o:Oper)(v:Value)(a:Act):Prop:=
 (Region.wanted o (yielded ops a.tmps)=true/\Qt P C o a v)\/(Region.wanted o (yielded ops a.tmps)=false/\v=undef)
def wpAnyC (P:Program)(ops:Array Oper)(C:World->Prop)(Q:fu):Nat->Array Bool->Act->World->Prop
 | 0,listed,a,w=>C w/\Region.ready .any ops listed=[]/\Q .normal a w
 | fuel+1,listed,a,w=>
  C w/\(Region.ready .any ops listed=[]->Q .normal a w)/\
  ∀i∈Region.ready .any ops listed,wpOp P ops Q i (wpAnyC P ops C Q fuel (listed.setIfInBounds i true)) a w
theorem wpAnyC.cls {fuel:Nat}{J:Array Bool}{a:Act}{w:World}(h:wpAnyC P ops C Q fuel J a w):C w:=by
 cases fuel <;> exact h.1
def oA:∀(fuel:Nat) (J:Array Bool) (a:Act) (w:World),wpAnyC P ops C Q fuel J a w->wpAny P .any ops Q fuel J a w
 | 0,_,_,_,h=>h.2
 | fuel+1,_,_,_,h=>⟨h.2.1,λi hi=>wpOp_mono (λa w=>oA fuel _ a w) (h.2.2 i hi)⟩
theorem YieldsC.wpOp {i:Nat}{o:Oper}{v:Value}{a:Act}{w:World}{K:Act->World->Prop}(hi:ops[i]? =some o)(hw:C w)(hy:YieldsC P ops C o v a)(h:K (a.put o.dst v) w):wpOp P ops Q i K a w:=by
 unfold Go.wpOp;simp only[hi];rcases hy with ⟨J,hv⟩ | ⟨J,rfl⟩
 ·simp only[J,if_true];refine .inl ?_;unfold Oper.wp;rcases hv w hw with he | ⟨he,rfl⟩ <;> rw[he] <;> exact h
 grind
theorem YieldsC.of_same {o:Oper}{v:Value}{a J:Act}(hy:YieldsC P ops C o v a)(he:execOp J.eval o=execOp a.eval o)
  (hw:Region.wanted o (yielded ops J.tmps)=Region.wanted o (yielded ops a.tmps)):YieldsC P ops C o v J:=by
 grind[YieldsC,Qt]
def KL {o:Oper}{a:Act}{J:Option Tmp}{v:Value}{r:Result Next}{K:Act->World->Prop}{Y:Act->Prop}(O:∀d,J=some d->o.dst≠some d)
  (S:∀c a w,Q (.panic c) (a.put J v) w->Q (.panic c) a w) (V:∀u,Y (a.put o.dst u)) (X:∀d u,Y (({a with defers:=d::a.defers}:Act).put o.dst u))
  (h:o.upon P (a.put J v) K Q r):o.upon P a (λR w'=>Y R/\K (R.put J v) w') Q r:=by
 have hc:∀u,(a.put J v).put o.dst u=(a.put o.dst u).put J v:=λu=>Act.put_comm a v u O;cases r with
 | ok n w'=>
  cases n <;> simp only[Oper.upon] at h ⊢
  case value u=>grind
  case skip=>grind
  case defer d=>
   grind[Act.put_comm,Act.put_defers]
  case enter f args=>exact h.mono λe Z he=>by grind
  grind
 | halt x w'=>
  cases x <;> simp only[Oper.upon] at h ⊢ <;> first | exact S _ _ _ h | exact h
theorem KM {o:Oper}{a:Act}{J:Option Tmp}{v:Value}{w:World}(he:execOp (a.put J v).eval o=execOp a.eval o)(h:o.asks P (a.put J v) w):o.asks P a w:=by
 grind[Oper.asks]
def AA {j:Nat}{J O:Oper}{v:Value}(hj:ops[j]? =some O)(V:J.apart ops O=true)
  (X:∀cs b,J.op≠ .select cs b) (Y:∀cs b,O.op≠ .select cs b) (hQ:∀c a w,Q (.panic c) (a.put J.dst v) w->Q (.panic c) a w) {K:Act->World->Prop} {a:Act} {w:World}
  (hy:YieldsC P ops C J v a) (h:wpOp P ops Q j K (a.put J.dst v) w):wpOp P ops Q j (λZ w'=>YieldsC P ops C J v Z/\K (Z.put J.dst v) w') a w:=by
 obtain ⟨h1,h2,h3⟩:=Oper.apart_spec V;have R:∀u,YieldsC P ops C J v (a.put O.dst u):=λu=>hy.of_same (execOp_put J X a O.dst u h3) (wanted_put J a O.dst u h3);have S:∀d u,YieldsC P ops C J v (({a with defers:=d::a.defers}:Act).put O.dst u):=λd u=>(R u).of_same (by
  have:(({a with defers:=d::a.defers}:Act).put O.dst u).eval=(a.put O.dst u).eval:=by
   funext x;cases hd:O.dst <;> cases x <;> simp[Act.eval,Act.put]
  rw[this]) (by cases hd:O.dst <;> simp[Act.put])
 unfold wpOp at*;simp only[hj] at*;rw[wanted_put O a J.dst v h1] at h;have he:=execOp_put O Y a J.dst v h1;split
 ·rename_i hw;simp only[hw,if_true] at h;rcases h with h | ⟨h,hl⟩
  ·refine .inl ?_;unfold Oper.wp at*;rw[he] at h;exact KL h2 hQ R S h
  grind[KM]
 grind[Act.put_comm]
def sI {i:Nat}{Z:Oper}{v:Value}(hi:ops[i]? =some Z)(X:∀(j:Nat) (o:Oper) cs b,ops[j]? =some o->o.op≠ .select cs b)
  (hQ:∀c a w,Q (.panic c) (a.put Z.dst v) w->Q (.panic c) a w):
  ∀(fuel:Nat) (J:Array Bool) (a:Act) (w:World),
   (∀j oj,ops[j]? =some oj->j≠i->J.getD j true=false->(∀e∈oj.after,Region.binds .any e=true->e.on≠i)->Z.apart ops oj=true)->
   i∈Region.ready .any ops J->YieldsC P ops C Z v a->C w->
   wpAnyC P ops C Q fuel (J.setIfInBounds i true) (a.put Z.dst v) w->wpAnyC P ops C Q (fuel+1) J a w:=by
 intro fuel
 induction fuel with
 | zero=>
  intro J a w _ hr hy hw H;refine ⟨hw,λh=>(by rw[h] at hr;cases hr),λj hj=>?_⟩;by_cases O:j=i
  ·subst O;exact hy.wpOp hi hw H
  ·have:=ready_mono hj O;rw[H.2.1] at this;cases this
 | succ fuel ih=>
  intro J a w R hr hy hw H;refine ⟨hw,λh=>(by rw[h] at hr;cases hr),λj hj=>?_⟩;by_cases O:j=i
  ·subst O;exact hy.wpOp hi hw H
  ·have h1:=H.2.2 j (ready_mono hj O);obtain ⟨V,oj,Y,hall⟩:=mem_ready.1 hj;have hnot:∀e∈oj.after,Region.binds .any e=true->e.on≠i:=λe he hb heq=>by
    have h1:=hall e he hb;have h0:=(mem_ready.1 hr).1
    grind
   have h2:=AA Y (R j oj Y O V hnot) (λcs b=>X i Z cs b hi) (λcs b=>X j oj cs b Y) hQ hy h1;have S:∀k ok,ops[k]? =some ok->k≠i->(J.setIfInBounds j true).getD k true=false->
     (∀e∈ok.after,Region.binds .any e=true->e.on≠i)->Z.apart ops ok=true:=λk ok hk hki hun hno=>by
    refine R k ok hk hki ?_ hno;by_cases hjk:j=k
    ·subst hjk;exact V
    simp_all
   refine wpOp_mono (λa' w' h3=>ih (J.setIfInBounds j true) a' w' S (ready_mono hr (Ne.symm O)) h3.1 h3.2.cls ?_) h2
   grind[Array.setIfInBounds_comm]
def hZ (ops:Array Oper):List (Nat×Bool)->Array Bool->Bool
 | [],listed=>(Region.ready .any ops listed).isEmpty
 | (i,false)::rest,listed=>(Region.ready .any ops listed).contains i && Region.free .any ops listed i && hZ ops rest (listed.setIfInBounds i true)
 | (i,true)::rest,listed=>(Region.ready .any ops listed==[i]) && hZ ops rest (listed.setIfInBounds i true)
def rL (P:Program)(ops:Array Oper)(C:World->Prop)(Q:fu):List (Nat×Bool)->Act->World->Prop
 | [],a,w=>C w/\Q .normal a w
 | (i,false)::rest,a,w=>C w/\∃o v,ops[i]? =some o/\YieldsC P ops C o v a/\rL P ops C Q rest (a.put o.dst v) w
 | (i,true)::rest,a,w=>C w/\wpOp P ops Q i (rL P ops C Q rest) a w
def j4 (hs:Region.noSelect ops=true)(O:∀c a d v w,Q (.panic c) (a.put d v) w->Q (.panic c) a w):∀(l:List (Nat×Bool)) (J:Array Bool) (a:Act) (w:World),
  hZ ops l J=true->rL P ops C Q l a w->wpAnyC P ops C Q l.length J a w
 | [],J,a,w,hp,h=>⟨h.1,by simpa [hZ] using hp,h.2⟩
 | (i,false)::l,J,a,w,hp,h=>by
  simp only[hZ,Yr] at hp;obtain ⟨⟨hr,S⟩,R⟩:=hp;obtain ⟨hw,o,v,ho,hy,h⟩:=h;exact sI ho (Region.noSelect_spec hs) (λc a w=>O c a _ _ w) l.length J a w (Region.free_spec ho S) (by simpa using hr) hy hw
   (j4 hs O l _ _ _ R h)
 | (i,true)::l,J,a,w,hp,h=>by
  simp only[hZ,Yr,beq_iff_eq] at hp;refine ⟨h.1,λh0=>(by rw[hp.1] at h0;cases h0),λj hj=>?_⟩;rw[hp.1] at hj;have:j=i:=(by simpa using hj);subst this;exact wpOp_mono (λa w=>j4 hs O l _ a w hp.2) h.2
def xG {id:Nat}{a:Act}{w:World}{l:List (Nat×Bool)}(hm:P.follows .mixedOrders=true)(hs:Region.noSelect ops=true)(hl:l.length=ops.size)
  (J:∀c a d v w,Q (.panic c) (a.put d v) w->Q (.panic c) a w) (hp:hZ ops l (Array.replicate ops.size false)=true)
  (h:rL P ops C Q l a {w with drawn:=w.drawn+1}):(Code.region id ops true).wp P Q a w:=
 wp_region_any hm (oA _ _ _ _ (by rw[<-hl];rw[<-hl] at hp;exact j4 hs J l _ a _ hp h))
end
end Go.Sl
namespace Go.Sl
class Has (L:List ag) (b:Nat) (o:outParam Obj):Prop where
 out:∀w0 w,Sat w0 w L->w.heap[b]? =some o
instance (priority:=high) Has.pt {b:Nat}{o:Obj}{L:List ag}:Has (pt b o::L) b o:=⟨λ_ _ h=>h.at_⟩
instance (priority:=high) Has.ro {b:Nat}{o:Obj}{L:List ag}:Has (ro b o::L) b o:=⟨λ_ _ h=>h.ro_at⟩
instance (priority:=low) Has.tail {A:ag}{b:Nat}{o:Obj}{L:List ag}[h:Has L b o]:Has (A::L) b o:=⟨λw0 w hS=>h.out w0 w hS.tail⟩
class Upd (L:List ag) (b:Nat) (o:outParam Obj) (o':Obj) (L':outParam (List ag)):Prop where
 out:∃i,L[i]? =some (pt b o)/\L'=L.set i (pt b o')
instance (priority:=high) Upd.pt {b:Nat}{o o':Obj}{L:List ag}:Upd (pt b o::L) b o o' (pt b o'::L):=⟨0,rfl,rfl⟩
instance (priority:=low) Upd.tail {A:ag}{b:Nat}{o o':Obj}{L L':List ag}[h:Upd L b o o' L']:Upd (A::L) b o o' (A::L'):=⟨let ⟨i,h1,h2⟩:=h.out;⟨i+1,by simpa using h1,by simp[h2]⟩⟩
theorem sJ {α β:Type}(f:α->β):∀(l:List α) (i:Nat),(l.eraseIdx i).map f=(l.map f).eraseIdx i
 | [],i=>by simp
 | a::l,0=>by simp
 | a::l,i+1=>by simp[sJ f l i]
theorem Sat.front {w0 w:World}{A:ag}{L:List ag}{i:Nat}(h:Sat w0 w L)(hi:L[i]? =some A):Sat w0 w (A::L.eraseIdx i):=by
 have e:(List.range L.length).map (L[·]?)=L.map some:=by
  apply List.ext_getElem
  ·simp
  grind
 refine h.pick (i::(List.range L.length).eraseIdx i) ?_ ?_
 ·grind[sJ]
 grind[List.mem_eraseIdx_iff_getElem]
theorem Sat.setAt {w0 w:World}{L:List ag}{i b:Nat}{o o':Obj}(h:Sat w0 w L)(hi:L[i]? =some (pt b o)):Sat w0 {w with heap:=w.heap.setIfInBounds b o'} (L.set i (pt b o')):=by
 obtain ⟨h1,Z,h3,h4,f,S,hd⟩:=h;have hA:=S i _ hi;have R:=(Yh.1 hi).1;have hb:=hA.2 b _ hA.1;have hlt:=(Yk.1 hb).1;have hno:∀j,j<L.length->j≠i->f j b=none:=λj hj hne=>by
  cases hx:f j b with
  | none=>rfl
  | some x=>
   have:=(hd j i hj R hne b x (o,false) hx hA.1).2;cases this
 refine ⟨h1,Z,h3,by simpa using h4,λj=>if j=i then Res.one b (o',false) else f j,λj A J=>?_,λj k hj hk hne=>?_⟩
 ·by_cases O:j=i
  ·subst O;rw[Ys R] at J;injection J with J;subst J;simp only[if_true];refine ⟨Res.one_self,λc x hx=>?_⟩
   grind[Res.one_eq]
  ·rw[Yt (Ne.symm O)] at J;simp only[O,if_false];have hj:=(Yh.1 J).1;refine ⟨(S j A J).1,λc x hx=>?_⟩;have hne:b≠c:=by
    grind
   simp only[Yl hne];exact (S j A J).2 c x hx
 ·have V:j<L.length:=(by simpa using hj);have hk':k<L.length:=(by simpa using hk);have Y:∀l,l<L.length->l≠i->(Res.one b (o',false)).dj (f l):=λl hl hli c x y hx hy=>by
   grind[Res.one_eq]
  by_cases O:j=i
  ·grind
  ·by_cases X:k=i
   ·simp only[O,X,if_true,if_false];exact (Y j V O).symm
   grind
class Rem (L:List ag) (A:ag) (L':outParam (List ag)):Prop where
 out:∃i,L[i]? =some A/\L'=L.eraseIdx i
instance (priority:=high) Rem.head {A:ag}{L:List ag}:Rem (A::L) A L:=⟨0,rfl,rfl⟩
instance (priority:=low) Rem.tail {A B:ag}{L L':List ag}[h:Rem L A L']:Rem (B::L) A (B::L'):=⟨let ⟨i,h1,h2⟩:=h.out;⟨i+1,by simpa using h1,by simp[h2]⟩⟩
theorem Rem.sat {w0 w:World}{A:ag}{L L':List ag}(r:Rem L A L')(h:Sat w0 w L):Sat w0 w (A::L'):=by
 obtain ⟨i,h1,rfl⟩:=r.out;exact h.front h1
theorem Sat.moveEnd {w0 w:World}{A:ag}{L:List ag}(h:Sat w0 w (A::L)):Sat w0 w (L++ [A]):=by
 refine h.pick ((List.range L.length).map (· +1)++ [0]) ?_ ?_
 ·simp only[Yu,Yv,Yw,Yx];congr 1;apply List.ext_getElem
  ·simp
  grind
 grind[List.pairwise_lt_range]
theorem Sat.endFront {w0 w:World}{A:ag}{L:List ag}(h:Sat w0 w (L++ [A])):Sat w0 w (A::L):=by
 have:=h.front (i:=L.length) (A:=A) (by simp)
 grind
class Split (L:List ag) (Pre:List ag) (F:outParam (List ag)):Prop where
 out:∀w0 w X,Sat w0 w (L++X)->Sat w0 w (Pre++F++X)
instance Split.nil {L:List ag}:Split L [] L:=⟨λ_ _ _ h=>h⟩
instance Split.cons {L L1 F Pre:List ag}{A:ag}[r:Rem L A L1][s:Split L1 Pre F]:Split L (A::Pre) F:=⟨λw0 w X h=>by
 obtain ⟨i,h1,rfl⟩:=r.out;have hil:=(Yh.1 h1).1;have h2:=h.front (i:=i) (A:=A) (by rw[Yy hil];exact h1);rw[Yz hil] at h2;have h3:=h2.moveEnd;have h4:=s.out w0 w (X++ [A]) (by simpa using h3);have h5:Sat w0 w ((Pre++F++X)++ [A]):=(by simpa using h4);simpa using h5.endFront⟩
theorem Split.sat {w0 w:World}{L Pre F:List ag}(s:Split L Pre F)(h:Sat w0 w L):Sat w0 w (Pre++F):=by
 simpa using s.out w0 w [] (by simpa using h)
class Sub (L L2:List ag):Prop where
 out:∀w0 w X,Sat w0 w (L++X)->Sat w0 w (L2++X)
instance (priority:=high) Sub.refl {L:List ag}:Sub L L:=⟨λ_ _ _ h=>h⟩
instance (priority:=low) Sub.drop {A:ag}{L L2:List ag}[s:Sub L L2]:Sub (A::L) L2:=⟨λw0 w X h=>s.out w0 w X (Sat.tail (by simpa using h))⟩
instance Sub.take {A:ag}{L L1 L2:List ag}[r:Rem L A L1][s:Sub L1 L2]:Sub L (A::L2):=⟨λw0 w X h=>by
 obtain ⟨i,h1,rfl⟩:=r.out;have hil:=(Yh.1 h1).1;have h2:=h.front (i:=i) (A:=A) (by rw[Yy hil];exact h1);rw[Yz hil] at h2;have h3:=h2.moveEnd;have h4:=s.out w0 w (X++ [A]) (by simpa using h3);have h5:Sat w0 w ((L2++X)++ [A]):=(by simpa using h4);simpa using h5.endFront⟩
theorem Sub.sat {w0 w:World}{L L2:List ag}(s:Sub L L2)(h:Sat w0 w L):Sat w0 w L2:=by
 simpa using s.out w0 w [] (by simpa using h)
end Go.Sl
namespace Go.Sl
def S5 (P:Program)(fn:Func)(w0:World)(R:Value->List ag->Prop):fu:=bodyPost P fn λe w=>match e with
 | .returned v=>∃L,Sat w0 w L/\R v L
 | _=>False
def markD (D:Nat):Deferred:={target:= .collected D,args:=#[]}
def QX (P:Program)(fn:Func)(w0:World)(R:Value->List ag->Prop):fu:=λe a w=>match e with
 | .normal | .ret=>∃D w',a.defers=[markD D]/\(Instr.takeDeferred D).run P w= .ok [] w'/\∃v,(results fn a.tmps).run P w'= .ok v w'/\∃L,Sat w0 w' L/\R v L
 | _=>False
def Ct (P:Program)(f:FuncId)(args:List Value)(L:List ag)(R:Value->List ag->Prop):Prop:=
 ∀w0 w,Sat w0 w L->Calls P f args.toArray w λe w'=>match e with
  | .returned v=>∃L',Sat w0 w' L'/\R v L'
  | _=>False
def kq (P:Program)(Qf:fu):List KI->fu
 | [],e,a,w=>Qf e a w
 | .code c::K,e,a,w=>match e with
  | .normal=>c.wp P (kq P Qf K) a w
  | e=>kq P Qf K e a w
 | .blk id::K,e,a,w=>Exit.inBlock id (kq P Qf K) e a w
 | .ops all rest::K,e,a,w=>match e with
  | .normal=>wpList P all.toArray (kq P Qf K) rest a w
  | e=>kq P Qf K e a w
 | .plan all C rest::K,e,a,w=>match e with
  | .normal=>rL P all.toArray C (kq P Qf K) rest a w
  | e=>kq P Qf K e a w
 | .fin J::K,e,a,w=>match e with
  | .normal=>J a w
  | e=>kq P Qf K e a w
structure Cx where
 P:Program
 fn:Func
 w0:World
 R:Value->List ag->Prop
 n:Nd
def Cx.Q (c:Cx):fu:=λe a w=>S5 c.P c.fn c.w0 c.R e a w\/QX c.P c.fn c.w0 c.R e a w
def G (c:Cx)(K:List KI)(E:dr)(L:List ag):Prop:=∀a w,EOk c.n E a->Sat c.w0 w L->kq c.P c.Q K .normal a w
def i7 {c:Cx}:∀{K:List KI} {J:List PanicEntry} {a:Act} {w:World},¬kq c.P c.Q K (.panic J) a w
 | [],J,a,w,h=>h.elim (λh=>h.2) (λh=>h)
 | .code _::K,J,a,w,h=>i7 (K:=K) h
 | .blk _::K,J,a,w,h=>i7 (K:=K) h
 | .ops _ _::K,J,a,w,h=>i7 (K:=K) h
 | .plan _ _ _::K,J,a,w,h=>i7 (K:=K) h
 | .fin _::K,J,a,w,h=>i7 (K:=K) h
section
variable {c:Cx}{K:List KI}{E:dr}{L:List ag}{x y:Code}
def ac (h:G c (.code x:: .code y::K) E L):G c (.code (.seq x y)::K) E L:=λa w J O=>by
 refine wp_seq (wp_mono (h a w J O) λe a w hq=>?_);cases e <;> exact hq
def ai (h:G c K E L):G c (.code .skip::K) E L:=λa w J O=>wp_skip (h a w J O)
def al {id:Nat}(h:G c (.code x:: .blk id::K) E L):G c (.code (.block id x)::K) E L:=λa w J O=>wp_block (wp_mono (h a w J O) λe a w hq=>hq)
def aG {id:Nat}(h:G c K E L):G c (.blk id::K) E L:=λa w J O=>h a w J O
def ah {t:Operand}{b:Bool}[ht:EV none E t (.bool b)](h1:b=true->G c (.code x::K) E L)(R:b=false->G c (.code y::K) E L):G c (.code (.cond t x y)::K) E L:=have ht:=ht.p;λa w J O=>wp_cond_split (J.ev (cR a) ht) (λe=>h1 e a w J O) (λe=>R e a w J O)
def eH {t:Operand}[ht:EV none E t (.bool true)](h1:G c (.code x::K) E L):G c (.code (.cond t x y)::K) E L:=have ht:=ht.p;ah (ht:=⟨ht⟩) (λ_=>h1) (λe=>by cases e)
def dW {t:Operand}[ht:EV none E t (.bool false)](h1:G c (.code y::K) E L):G c (.code (.cond t x y)::K) E L:=have ht:=ht.p;ah (ht:=⟨ht⟩) (λe=>by cases e) (λ_=>h1)
def xH (id:Nat):List KI->Option (List KI)
 | []=>none
 | .blk j::K=>match Nat.beq id j with | true=>some K | false=>xH id K
 | _::K=>xH id K
def lO {P:Program}{O:fu}{id:Nat}{a:Act}{w:World}:∀{K J:List KI},xH id K=some J->kq P O J .normal a w->kq P O K (.exit id) a w
 | [],_,h,_=>by cases h
 | .blk j::K,J,h,hk=>by
  unfold xH at h;split at h
  ·grind[Nat.eq_of_beq_eq_true,Exit.inBlock,kq]
  ·rename_i R;have:=Yp R;show Exit.inBlock j (kq P O K) (.exit id) a w;simp only[Exit.inBlock,this,if_false];exact lO h hk
 | .code _::K,J,h,hk=>lO (K:=K) h hk
 | .ops _ _::K,J,h,hk=>lO (K:=K) h hk
 | .plan _ _ _::K,J,h,hk=>lO (K:=K) h hk
 | .fin _::K,J,h,hk=>lO (K:=K) h hk
def aF {id:Nat}{J:List KI}(h:G c J E L)(S:xH id K=some J:=by exact rfl):G c (.code (.exit id)::K) E L:=λa w O R=>wp_exit (lO S (h a w O R))
def bX {P:Program}{J:fu}{a:Act}{w:World}(h:J .ret a w):∀{K:List KI},kq P J K .ret a w
 | []=>h
 | .code _::K=>bX h (K:=K)
 | .blk _::K=>bX h (K:=K)
 | .ops _ _::K=>bX h (K:=K)
 | .plan _ _ _::K=>bX h (K:=K)
 | .fin _::K=>bX h (K:=K)
def gm (E:dr):List ResultVar->Option (List Value)
 | []=>some []
 | .tmp t::rs=>match look none E t with
  | some v=>match gm E rs with | some vs=>some (v::vs) | none=>none
  | none=>none
 | .cell _ _::_=>none
def rN:List Value->Value
 | [v]=>v
 | vs=> .tuple vs.toArray
def uM (a:Act):ResultVar->Sem Value
 | .tmp t=>pure (a.tmps.getD t undef)
 | .cell x t=>do loadVar t (<-asAddr (a.tmps.getD x undef))
def AB {P:Program}{n:Nd}{a:Act}{w:World}(O:EOk n E a):∀{rs:List ResultVar} {vs:List Value},gm E rs=some vs->(rs.mapM (uM a)).run P w=Result.ok vs w
 | [],vs,h=>by injection h with h;grind[Sem.run_pure]
 | ResultVar.tmp t::rs,vs,h=>by
  unfold gm at h;split at h
  ·rename_i v hv;split at h
   ·rename_i R J;injection h with h;subst h;have h1:=O.look (cR a) hv;simp[List.mapM_cons,AB O J,uM,Yo,h1]
   ·cases h
  ·cases h
 | ResultVar.cell _ _::_,vs,h=>by cases h
def oB (fn:Func)(a:Act):results fn a.tmps=(do
  let vs <-fn.results.mapM (uM a)
  pure (if h:vs.size=1 then vs[0] else .tuple vs)):=by
 unfold results;congr 1
def aW {vs:List Value}{a:Act}{w:World}(hr:gm E c.fn.results.toList=some vs)(J:EOk c.n E a)(S:Sat c.w0 w L)(O:c.R (rN vs) L)(hds:c.n.ds=[]:=by rfl):
  (a.defers=[]/\∃v,(results c.fn a.tmps).run c.P w= .ok v w/\∃L,Sat c.w0 w L/\c.R v L)\/∃D w',a.defers=[markD D]/\(Instr.takeDeferred D).run c.P w= .ok [] w'/\∃v,(results c.fn a.tmps).run c.P w'= .ok v w'/\∃L,Sat c.w0 w' L/\c.R v L:=by
 refine .inl ⟨J.defers.trans hds,rN vs,?_,L,S,O⟩;have h1:=AB (P:=c.P) (w:=w) J hr;rw[oB,YA];simp only[Sem.run_bind,Sem.run_map];rw[h1];simp only[Result.andThen_ok,Sem.run_pure];congr 1
 match vs with
 | []=>simp[rN]
 | [v]=>simp[rN]
 | v::u::vs=>simp[rN]
def S6 {vs:List Value}(hr:gm E c.fn.results.toList=some vs)(O:c.R (rN vs) L)(hds:c.n.ds=[]:=by rfl):G c [] E L:=
 λa w J S=>aW (hds:=hds) hr J S O
def R1 (val:Value)(fu:List ag):Value->List ag->Prop:=λv L'=>v=val/\L'=fu
def ao {vs:List Value}{val:Value}{fu:List ag}(O:c.R=R1 val fu)(hr:gm E c.fn.results.toList=some vs)[S:Sub L fu](hv:rN vs=val)(hds:c.n.ds=[]:=by rfl):G c (.code .ret::K) E L:=
 λa w J V=>wp_ret (bX (aW (hds:=hds) hr J (S.sat V) (by rw[O];exact ⟨hv,rfl⟩)))
def fY {vs:List Value}{val:Value}{fu:List ag}(O:c.R=R1 val fu)(hr:gm E c.fn.results.toList=some vs)[S:Sub L fu](hv:rN vs=val)(hds:c.n.ds=[]:=by rfl):G c [] E L:=
 λa w J V=>aW (hds:=hds) hr J (S.sat V) (by rw[O];exact ⟨hv,rfl⟩)
def iR {L2:List ag}[S:Sub L L2](h:G c K E L2):G c K E L:=λa w J O=>h a w J (S.sat O)
def BR {φ:Prop}(R:∀w,Sat c.w0 w L->φ)(h:φ->G c K E L):G c K E L:=λa w O J=>h (R w J) a w O J
def Qu (c:Cx){α:Type}(φ:α->Prop)(Ei:α->dr)(Li:α->List ag)(μ:α->Nat)(m:Nat)(a:Act)(w:World):Prop:=∃z,φ z/\μ z<m/\EOk c.n (Ei z) a/\Sat c.w0 w (Li z)
def aM {α:Type}(φ:α->Prop)(O:α->dr)(R:α->List ag)(μ:α->Nat)(z0:α)(h0:φ z0)(ts:List Nat){X:dr}(hk:keep E ts=some X)[SL:Sub L (R z0)](J:∀z,φ z->G c (.code x:: .fin (Qu c φ O R μ (μ z))::K) (O z) (R z))(he:X=O z0:=by exact rfl):G c (.code (.loop x)::K) E L:=λa w S V=>by
 refine wp_loop_ghost (λm a w=>∃z,φ z/\m=μ z/\EOk c.n (O z) a/\Sat c.w0 w (R z)) (μ z0) ⟨z0,h0,rfl,he ▸ S.keep hk,SL.sat V⟩ ?_;rintro m a w ⟨z,hz,rfl,S,V⟩;refine wp_mono (J z hz a w S V) λe a w hq=>?_;cases e with
 | normal=>obtain ⟨Y,h1,Z,h3,h4⟩:=hq;exact ⟨μ Y,Z,Y,h1,rfl,h3,h4⟩
 | _=>exact hq
def ap {α:Type}{φ:α->Prop}{O:α->dr}{R:α->List ag}{μ:α->Nat}{m:Nat}(z:α)(h0:φ z)(h1:μ z<m)(X:List Nat){J:dr}(hk:keep E X=some J)[SL:Sub L (R z)](he:J=O z:=by exact rfl):
 G c (.fin (Qu c φ O R μ m)::K) E L:=λa w S V=>⟨z,h0,h1,he ▸ S.keep hk,SL.sat V⟩
def Cut (c:Cx){α:Type}(φ:α->Prop)(Ei:α->dr)(Li:α->List ag)(a:Act)(w:World):Prop:=∃z,φ z/\EOk c.n (Ei z) a/\Sat c.w0 w (Li z)
def ls {α:Type}(φ:α->Prop)(R:α->dr)(S:α->List ag)(h1:G c (.code x:: .fin (Cut c φ R S)::K) E L)(V:∀z,φ z->G c K (R z) (S z)):G c (.code x::K) E L:=λa w J O=>by
 refine wp_mono (h1 a w J O) λe a w hq=>?_;cases e with
 | normal=>obtain ⟨z,X,J,O⟩:=hq;exact V z X a w J O
 | _=>exact hq
def cF {α:Type}{φ:α->Prop}{O:α->dr}{R:α->List ag}(z:α)(h0:φ z)(X:List Nat){J:dr}(hk:keep E X=some J)[SL:Sub L (R z)](he:J=O z:=by exact rfl):
 G c (.fin (Cut c φ O R)::K) E L:=λa w S V=>⟨z,h0,he ▸ S.keep hk,SL.sat V⟩
structure OpV (c:Cx) (g:Option (Nat×Bool)) (E:dr) (L:List ag) (o:Oper) (v:Value):Prop where
 out:∀a w,EOk c.n E a->gd g a->Sat c.w0 w L->(execOp a.eval o).run c.P w= .ok (.value v) w
structure OpL (c:Cx) (g:Option (Nat×Bool)) (E:dr) (L:List ag) (o:Oper) (N:Value->List ag->Prop):Prop where
 out:∀a w,EOk c.n E a->gd g a->Sat c.w0 w L->∀nx Q,(∀v w' L',Sat c.w0 w' L'->N v L'->nx (a.put o.dst v) w')->o.wp c.P a w nx Q
variable {all rest:List Oper}{d:Nat}{op:Op}{ty:TypeId}{pos:String}{af:Array Edge}{v:Value}{N:Value->List ag->Prop}
def am {id:Nat}{l:List Oper}(h:G c (.ops l l::K) E L):G c (.code (.region id l.toArray false)::K) E L:=λa w J O=>wp_region_lit (h a w J O)
def ab (h:G c K E L):G c (.ops all []::K) E L:=λa w J O=>h a w J O
def qz {a:Act}{w:World}{g:Option (Nat×Bool)}{o:Oper}{J:Act->World->Prop}{Q:fu}(h:OpV c g E L o v)(O:EOk c.n E a)(S:gd g a)(R:Sat c.w0 w L)(hn:J (a.put o.dst v) w):o.wp c.P a w J Q:=by
 unfold Oper.wp;rw[h.out a w O S R];exact hn
def QY (h:OpV c none E L ⟨some d,op,ty,pos,af,none⟩ v)(hd:lE c.n d E=true)(k:G c (.ops all rest::K) ((d,none,v)::E) L):
  G c (.ops all (⟨some d,op,ty,pos,af,none⟩::rest)::K) E L:=λa w J O=>by
 refine wpList_plain rR λR hk=>qz h J (cR a) O (hk _ _ (k _ w (J.put1 hd) O))
def UR (h:OpL c none E L ⟨some d,op,ty,pos,af,none⟩ N)(hd:lE c.n d E=true)(k:∀v L',N v L'->G c (.ops all rest::K) ((d,none,v)::E) L'):
  G c (.ops all (⟨some d,op,ty,pos,af,none⟩::rest)::K) E L:=λa w O S=>by
 refine wpList_plain rR λV hk=>h.out a w O (cR a) S V _ λv w' L' J R=>hk _ _ (k v L' R _ w' (O.put1 hd) J)
def ir (h:OpL c none E L ⟨none,op,ty,pos,af,none⟩ N)(k:∀v L',N v L'->G c (.ops all rest::K) E L'):
  G c (.ops all (⟨none,op,ty,pos,af,none⟩::rest)::K) E L:=λa w O S=>by
 refine wpList_plain rR λV hk=>h.out a w O (cR a) S V _ λv w' L' J R=>hk _ _ (k v L' R _ w' O J)
def jk {a:Act}{i s:Nat}{b:Bool}(hi:(all[i]?).bind (·.dst)=some s)(J:EOk c.n E a)(hs:look none E s=some (.bool b)):yielded all.toArray a.tmps i=some b:=by
 have h1:=J.look (cR a) hs;simp[yielded,hi,h1]
def Jd {i s:Nat}{b J:Bool}[hi:DS all i s][hs:LK none E s (.bool b)](h:b=J->OpV c (some (s,J)) E L ⟨some d,op,ty,pos,af,some (i,J)⟩ v)(k:G c (.ops all rest::K) ((d,some (s,J),v)::E) L)(hd:lE c.n d E=true:=by exact rfl)(hne:Nat.beq s d=false:=by exact rfl):G c (.ops all (⟨some d,op,ty,pos,af,some (i,J)⟩::rest)::K) E L:=have hi:=hi.p;have hs:=hs.p;λa w O V=>by
 have hy:=jk (a:=a) hi O hs;have Y:=O.look (cR a) hs;refine wpList_step λZ hk=>?_;have R:∀j S,some (s,J)=some (j,S)->j≠d:=λj S e=>(by grind[Nat.ne_of_beq_eq_false]);by_cases hw:b=J
 ·rw[YB (by grind[Region.wanted])];have X:gd (some (s,J)) a:=λj S e=>(by grind);exact qz (h hw) O X V (hk _ _ (k _ w (O.put hd R λ_=>rfl) V))
 ·rw[YC (by grind[Region.wanted])];refine hk _ _ (k _ w (O.put hd R λX=>?_) V);have:=X s J rfl
  grind
def cO {id:Nat}{l:List Oper}{Lf:List ag}(pl:List (Nat×Bool))(h:G c (.plan l (λw=>Sat c.w0 w Lf) pl::K) E L)(hm:c.P.follows .mixedOrders=true:=by kernel_rfl)(hs:Region.noSelect l.toArray=true:=by kernel_rfl)(hl:pl.length=l.length:=by exact rfl)(hp:hZ l.toArray pl (Array.replicate l.length false)=true:=by kernel_rfl):G c (.code (.region id l.toArray true)::K) E L:=λa w J O=>
 xG (l:=pl) hm hs (by simpa using hl) (λR a d v w hq=>absurd hq i7) (by simpa using hp) (h a _ J (O.drew _))
def cV {id:Nat}{l:List Oper}(pl:List (Nat×Bool))(h:G c (.plan l (λw=>Sat c.w0 w L) pl::K) E L)(hm:c.P.follows .mixedOrders=true:=by kernel_rfl)(hs:Region.noSelect l.toArray=true:=by kernel_rfl)(hl:pl.length=l.length:=by exact rfl)(hp:hZ l.toArray pl (Array.replicate l.length false)=true:=by kernel_rfl):G c (.code (.region id l.toArray true)::K) E L:=cO (Lf:=L) pl (hm:=hm) (hs:=hs) (hl:=hl) (hp:=hp) h
variable {Lf:List ag}{pl:List (Nat×Bool)}
def aP [O:Sub L Lf](h:G c K E L):G c (.plan all (λw=>Sat c.w0 w Lf) []::K) E L:=λa w R J=>⟨O.sat J,h a w R J⟩
def Uq {i:Nat}(hi:all[i]? =some ⟨some d,op,ty,pos,af,none⟩)[S:Sub L Lf](h:OpV c none E Lf ⟨some d,op,ty,pos,af,none⟩ v)(hd:lE c.n d E=true)
  (k:G c (.plan all (λw=>Sat c.w0 w Lf) pl::K) ((d,none,v)::E) L):G c (.plan all (λw=>Sat c.w0 w Lf) ((i,false)::pl)::K) E L:=λa w O R=>
 ⟨S.sat R,_,v,by simpa using hi, .inl ⟨by simp[Region.wanted],λw' J=> .inl (h.out a w' O (cR a) J)⟩,k _ w (O.put1 hd) R⟩
def rO {i j s:Nat}{b J:Bool}(hi:all[i]? =some ⟨some d,op,ty,pos,af,some (j,J)⟩)[hj:DS all j s][hs:LK none E s (.bool b)][Z:Sub L Lf](h:b=J->OpV c (some (s,J)) E Lf ⟨some d,op,ty,pos,af,some (j,J)⟩ v)(k:G c (.plan all (λw=>Sat c.w0 w Lf) pl::K) ((d,some (s,J),v)::E) L)(hd:lE c.n d E=true:=by exact rfl)(hne:Nat.beq s d=false:=by exact rfl):G c (.plan all (λw=>Sat c.w0 w Lf) ((i,false)::pl)::K) E L:=have hj:=hj.p;have hs:=hs.p;λa w O S=>by
 have hy:=jk (a:=a) hj O hs;have hb:=O.look (cR a) hs;have R:∀j V,some (s,J)=some (j,V)->j≠d:=λj V e=>(by grind[Nat.ne_of_beq_eq_false]);by_cases hw:b=J
 ·have X:gd (some (s,J)) a:=λj V e=>(by grind);exact ⟨Z.sat S,_,v,by simpa using hi, .inl ⟨by grind[Region.wanted],λw' Y=> .inl ((h hw).out a w' O X Y)⟩,k _ w (O.put hd R λ_=>rfl) S⟩
 ·refine ⟨Z.sat S,_,undef,by simpa using hi, .inr ⟨by grind[Region.wanted],rfl⟩,k _ w (O.put hd R λX=>?_) S⟩;have:=X s J rfl
  grind
def d7 {i:Nat}(hi:all[i]? =some ⟨some d,op,ty,pos,af,none⟩)[S:Sub L Lf](h:OpL c none E L ⟨some d,op,ty,pos,af,none⟩ N)(k:∀v L',N v L'->G c (.plan all (λw=>Sat c.w0 w Lf) pl::K) ((d,none,v)::E) L')(hd:lE c.n d E=true:=by exact rfl):G c (.plan all (λw=>Sat c.w0 w Lf) ((i,true)::pl)::K) E L:=λa w O R=>by
 refine ⟨S.sat R,?_⟩;unfold wpOp;simp only[YD,hi];rw[YB (by simp[Region.wanted])];exact .inl (h.out a w O (cR a) R _ _ λv w' L' J V=>k v L' V _ w' (O.put1 hd) J)
def rc {i:Nat}(hi:all[i]? =some ⟨none,op,ty,pos,af,none⟩)[S:Sub L Lf](h:OpL c none E L ⟨none,op,ty,pos,af,none⟩ N)
  (k:∀v L',N v L'->G c (.plan all (λw=>Sat c.w0 w Lf) pl::K) E L'):G c (.plan all (λw=>Sat c.w0 w Lf) ((i,true)::pl)::K) E L:=λa w O R=>by
 refine ⟨S.sat R,?_⟩;unfold wpOp;simp only[YD,hi];rw[YB (by simp[Region.wanted])];exact .inl (h.out a w O (cR a) R _ _ λv w' L' J V=>k v L' V _ w' O J)
end
theorem Ct.of {P:Program}{f:FuncId}{fn:Func}{cd:Code}{args:List Value}{L:List ag}{R:Value->List ag->Prop}(V:P.funcs[f]? =some fn)(S:fn.body=some cd)(n:Nat)(hn:fn.ntmps=n)(X:args.length<=n)
  (h:∀w0,G ⟨P,fn,w0,R,⟨n,[]⟩⟩ [.code cd] (nm 0 args) L):Ct P f args L R:=λw0 w O=>by
 refine callsIn_wide.1 (callsIn_of_wp_marks (n:=0) V S trivial (wpIn_wide.2 (wp_mono (h w0 _ w ?_ O) λe a w hq=>?_)));rotate_left
 ·cases e with
  | normal | ret=>
   rcases hq with ⟨hd,v,hr,J⟩ | ⟨D,w',hd,ht,v,hr,J⟩
   ·show LeavesInM _ _ _ _ _ _ _ _ _;rw[hd];exact ⟨v,hr,J⟩
   ·show LeavesInM _ _ _ _ _ _ _ _ _;rw[hd];exact ⟨(λh=>by cases h), .inl ⟨D,w',rfl,ht,v,hr,J⟩⟩
  | panic Y=>exact absurd hq (λh=>h.elim (λh=>h.2) (λh=>h))
  | exit id=>exact hq.elim (λh=>h.elim) (λh=>h.elim)
  | goto l=>exact hq.elim (λh=>h.elim) (λh=>h.elim)
  | outgrown=>exact hq.elim (λh=>h.elim) (λh=>h.elim)
 refine ⟨rfl,by simp[hn];omega,?_⟩;have key:∀(l:List Value) (i:Nat) (t:Nat) (g:Option (Nat×Bool)) (v:Value),FP (nm i l) t=some (g,v)->i<=t/\l[t - i]? =some v:=by
  intro l
  induction l with
  | nil=>intro i t g v h;cases h
  | cons u l Z=>
   intro i t g v h;simp only[nm] at h;unfold FP at h;split at h
   ·simp_all
   grind
 grind
theorem Ct.mono {P:Program}{f:FuncId}{args:List Value}{L:List ag}{R J:Value->List ag->Prop}(h:Ct P f args L R)(hr:∀v L',R v L'->J v L'):Ct P f args L J:=λw0 w O=>
 (h w0 w O).mono λe w' he=>by
  grind
end Go.Sl
namespace Go.Sl
abbrev I (n:Int):Value:= .int .i64 n
abbrev By (n:Int):Value:= .int .u8 n
abbrev Bo (b:Bool):Value:= .bool b
abbrev ptr (b o:Nat):Value:= .pointer (some ⟨b,o,none⟩)
abbrev aC (l:List UInt8):Value:= .string ⟨⟨l⟩⟩
def DT {α:Type}[BEq α][LawfulBEq α][DecidableEq α](a b:α):(a==b)=decide (a=b):=by grind
theorem da {n:Int}(h: -9223372036854775808<=n/\n<=9223372036854775807):IntKind.i64.wrap n=n:=IntWalk.i64_in n h
def w8 {n:Int}(h:0<=n/\n<=255):IntKind.u8.wrap n=n:=IntWalk.u8_in n h
section
variable {c:Cx}{g:Option (Nat×Bool)}{E:dr}{L:List ag}{d:Option Tmp}{ty:TypeId}{pos:String}{af:Array Edge}{gu:Option (Nat×Bool)}
variable {x y z:Operand}{t u yt:TypeId}{k:IntKind}{a b r:Int}{v v1 v2:Value}
def aq [hx:EV g E x v]:OpV c g E L ⟨d, .move x,ty,pos,af,gu⟩ v:=have hx:=hx.p;.mk λa w J O R=>by
 simp[execOp,J.ev O hx]
def aD [hx:EV g E x v]:OpV c g E L ⟨d, .assign x,ty,pos,af,gu⟩ v:=have hx:=hx.p;.mk λa w J O R=>by
 simp[execOp,J.ev O hx]
def gM {c:Cx}{E:dr}{L:List ag}{K:List KI}{d:Tmp}{x:Operand}{ty:TypeId}{pos:String}{af:Array Edge}{all rest:List Oper}{v:Value}[h:EV none E x v](k:G c (.ops all rest::K) ((d,none,v)::E) L)(h0:lE c.n d E=true:=by exact rfl):G c (.ops all (⟨some d, .move x,ty,pos,af,none⟩::rest)::K) E L:=QY aq h0 k
def gA {c:Cx}{E:dr}{L:List ag}{K:List KI}{d:Tmp}{x:Operand}{ty:TypeId}{pos:String}{af:Array Edge}{all rest:List Oper}{v:Value}[h:EV none E x v](k:G c (.ops all rest::K) ((d,none,v)::E) L)(h0:lE c.n d E=true:=by exact rfl):G c (.ops all (⟨some d, .assign x,ty,pos,af,none⟩::rest)::K) E L:=QY aD h0 k
def dM {c:Cx}{E:dr}{L Lf:List ag}{K:List KI}{d:Tmp}{x:Operand}{ty:TypeId}{pos:String}{af:Array Edge}{all:List Oper}{pl:List (Nat×Bool)}{v:Value}{i:Nat}(hi:all[i]? =some ⟨some d, .move x,ty,pos,af,none⟩)[J:Sub L Lf][h:EV none E x v](k:G c (.plan all (λw=>Sat c.w0 w Lf) pl::K) ((d,none,v)::E) L)(hd:lE c.n d E=true:=by exact rfl):G c (.plan all (λw=>Sat c.w0 w Lf) ((i,false)::pl)::K) E L:=have h:=h.p;Uq hi (aq (hx:=⟨h⟩)) hd k
def gQ {c:Cx}{E:dr}{L:List ag}{K:List KI}{d:Tmp}{x:Operand}{ty:TypeId}{pos:String}{af:Array Edge}{all:List Oper}{v:Value}[h:EV none E x v](k:G c K ((d,none,v)::E) L)(h0:lE c.n d E=true:=by exact rfl):G c (.ops all (⟨some d, .assign x,ty,pos,af,none⟩:: [])::K) E L:=gA (ab k) (h0:=h0)
def gS {c:Cx}{E:dr}{L:List ag}{K:List KI}{id:Nat}{l:List Oper}{y:Code}(h:G c (.ops l l:: .code y::K) E L):G c (.code (.seq (.region id l.toArray false) y)::K) E L:=ac (am h)
def cu {s:Nat}{b R:Bool}[O:LK g E s (.bool b)][hy:EV (some (s,false)) E y (.bool R)]:OpV c g E L ⟨d, .pick (.tmp s) (.const (.bool true)) y,ty,pos,af,gu⟩ (.bool (b || R)):=have O:=O.p;have hy:=hy.p;.mk λa w S X Z=>by
 have h1:=S.look X O;have V:a.eval (.tmp s)= .bool b:=(by simp[Act.eval,Yo,h1]);simp only[execOp,V,asBool];cases b with
 | true=>simp[Act.eval]
 | false=>
  have J:gd (some (s,false)) a:=λj Y e=>(by grind);simp[S.ev J hy]
def dD {s:Nat}{b R:Bool}[O:LK g E s (.bool b)][hy:EV (some (s,true)) E y (.bool R)]:OpV c g E L ⟨d, .pick (.tmp s) y (.const (.bool false)),ty,pos,af,gu⟩ (.bool (b && R)):=have O:=O.p;have hy:=hy.p;.mk λa w S X Z=>by
 have h1:=S.look X O;have V:a.eval (.tmp s)= .bool b:=(by simp[Act.eval,Yo,h1]);simp only[execOp,V,asBool];cases b with
 | false=>simp[Act.eval]
 | true=>
  have J:gd (some (s,true)) a:=λj Y e=>(by grind);simp[S.ev J hy]
def bO [hx:EV g E x (.int k a)][hy:EV g E y (.int k b)](hr:k.wrap (a+b)=r):OpV c g E L ⟨d, .binOp .add t x y yt,ty,pos,af,gu⟩ (.int k r):=have hx:=hx.p;have hy:=hy.p;.mk λ_ w J O R=>by
 simp[execOp,J.ev O hx,J.ev O hy,eqGuard,binOp,Op.intArith,hr]
def fe [hx:EV g E x (.int k a)][hy:EV g E y (.int k b)](hr:k.wrap (a - b)=r):OpV c g E L ⟨d, .binOp .sub t x y yt,ty,pos,af,gu⟩ (.int k r):=have hx:=hx.p;have hy:=hy.p;.mk λ_ w J O R=>by
 simp[execOp,J.ev O hx,J.ev O hy,eqGuard,binOp,Op.intArith,hr]
def j5 [hx:EV g E x (.int k a)][hy:EV g E y (.int k b)](hr:k.wrap (a*b)=r):OpV c g E L ⟨d, .binOp .mul t x y yt,ty,pos,af,gu⟩ (.int k r):=have hx:=hx.p;have hy:=hy.p;.mk λ_ w J O R=>by
 simp[execOp,J.ev O hx,J.ev O hy,eqGuard,binOp,Op.intArith,hr]
def pO [hx:EV g E x (.int k a)][hy:EV g E y (.int k b)](hr:k.wrap (a.tdiv b)=r)(h0:b≠0:=by decide):OpV c g E L ⟨d, .binOp .quo t x y yt,ty,pos,af,gu⟩ (.int k r):=have hx:=hx.p;have hy:=hy.p;.mk λ_ w J O R=>by
 simp[execOp,J.ev O hx,J.ev O hy,eqGuard,binOp,Op.intDiv,hr,h0]
def vT [hx:EV g E x (.int k a)][hy:EV g E y (.int k b)](hr:a.tmod b=r)(h0:b≠0:=by decide):OpV c g E L ⟨d, .binOp .rem t x y yt,ty,pos,af,gu⟩ (.int k r):=have hx:=hx.p;have hy:=hy.p;.mk λ_ w J O R=>by
 simp[execOp,J.ev O hx,J.ev O hy,eqGuard,binOp,Op.intDiv,hr,h0]
def QZ {op:BinOp}(ho:op= .and\/op= .or\/op= .xor\/op= .andNot)(hx:ev g E x=some (.int k a))(hy:ev g E y=some (.int k b))(hr:∀P w,(Op.intBits op k a b).run P w= .ok v w):OpV c g E L ⟨d, .binOp op t x y yt,ty,pos,af,gu⟩ v:= .mk λ_ w J O R=>by
 rcases ho with rfl | rfl | rfl | rfl <;> simp[execOp,J.ev O hx,J.ev O hy,eqGuard,binOp,hr]
def KN {k2:IntKind}(hx:ev g E x=some (.int k a))(hy:ev g E y=some (.int k2 b))(h0:¬b<0)(hr:k.wrap (a*2 ^ (min b.toNat k.bits))=r):OpV c g E L ⟨d, .binOp .shl t x y yt,ty,pos,af,gu⟩ (.int k r):= .mk λ_ w J O R=>by
 simp[execOp,J.ev O hx,J.ev O hy,eqGuard,binOp,Op.shift,hr,h0]
def lU {k2:IntKind}[hx:EV g E x (.int k a)][hy:EV g E y (.int k2 b)](hr:a.fdiv (2 ^ (min b.toNat k.bits))=r)(h0:¬b<0:=by decide):OpV c g E L ⟨d, .binOp .shr t x y yt,ty,pos,af,gu⟩ (.int k r):=have hx:=hx.p;have hy:=hy.p;.mk λ_ w J O R=>by
 simp[execOp,J.ev O hx,J.ev O hy,eqGuard,binOp,Op.shift,hr,h0]
def aI [hx:EV g E x (.int k a)][hy:EV g E y (.int k b)]:OpV c g E L ⟨d, .binOp .lss t x y yt,ty,pos,af,gu⟩ (.bool (decide (a<b))):=have hx:=hx.p;have hy:=hy.p;.mk λ_ w J O R=>by
 simp[execOp,J.ev O hx,J.ev O hy,eqGuard,binOp,Op.intCmp]
def pP [hx:EV g E x (.int k a)][hy:EV g E y (.int k b)]:OpV c g E L ⟨d, .binOp .leq t x y yt,ty,pos,af,gu⟩ (.bool (decide (a<=b))):=have hx:=hx.p;have hy:=hy.p;.mk λ_ w J O R=>by
 simp[execOp,J.ev O hx,J.ev O hy,eqGuard,binOp,Op.intCmp]
def aT [hx:EV g E x (.int k a)][hy:EV g E y (.int k b)]:OpV c g E L ⟨d, .binOp .gtr t x y yt,ty,pos,af,gu⟩ (.bool (decide (b<a))):=have hx:=hx.p;have hy:=hy.p;.mk λ_ w J O R=>by
 simp[execOp,J.ev O hx,J.ev O hy,eqGuard,binOp,Op.intCmp]
def j6 [hx:EV g E x (.int k a)][hy:EV g E y (.int k b)]:OpV c g E L ⟨d, .binOp .geq t x y yt,ty,pos,af,gu⟩ (.bool (decide (b<=a))):=have hx:=hx.p;have hy:=hy.p;.mk λ_ w J O R=>by
 simp[execOp,J.ev O hx,J.ev O hy,eqGuard,binOp,Op.intCmp]
def bT [hx:EV g E x (.int k a)][hy:EV g E y (.int k b)]:OpV c g E L ⟨d, .binOp .eql t x y yt,ty,pos,af,gu⟩ (.bool (decide (a=b))):=have hx:=hx.p;have hy:=hy.p;.mk λ_ w J O R=>by
 simp[execOp,J.ev O hx,J.ev O hy,eqGuard,binOp,Op.intCmp,DT]
def fZ [hx:EV g E x (.int k a)][hy:EV g E y (.int k b)]:OpV c g E L ⟨d, .binOp .neq t x y yt,ty,pos,af,gu⟩ (.bool (!decide (a=b))):=have hx:=hx.p;have hy:=hy.p;.mk λ_ w J O R=>by
 simp[execOp,J.ev O hx,J.ev O hy,eqGuard,binOp,Op.intCmp,bne,DT]
variable {p q:List UInt8}
def Je (p q:List UInt8):(⟨⟨p⟩⟩:ByteArray)++⟨⟨q⟩⟩=⟨⟨p++q⟩⟩:=ByteArray.ext (by simp)
def cS [hx:EV g E x (aC p)][hy:EV g E y (aC q)](h:p.length+q.length<=9223372036854775807):OpV c g E L ⟨d, .binOp .add t x y yt,ty,pos,af,gu⟩ (aC (p++q)):=have hx:=hx.p;have hy:=hy.p;.mk λ_ w J O R=>by
 have h1:¬((((⟨⟨p⟩⟩:ByteArray).size+(⟨⟨q⟩⟩:ByteArray).size:Nat):Int) > IntKind.i64.max):=by
  grind[ByteArray.size,IntKind.max,IntKind.bits]
 simp only[execOp,J.ev O hx,J.ev O hy,eqGuard,binOp,Op.stringOp]
 simp_all[Je]
def cj [hx:EV g E x (aC p)][hy:EV g E y (aC q)]:OpV c g E L ⟨d, .binOp .eql t x y yt,ty,pos,af,gu⟩ (.bool (decide (p=q))):=have hx:=hx.p;have hy:=hy.p;.mk λ_ w J O R=>by
 simp[execOp,J.ev O hx,J.ev O hy,eqGuard,binOp,Op.stringOp,DT]
def np [hx:EV g E x (aC p)][hy:EV g E y (aC q)]:OpV c g E L ⟨d, .binOp .neq t x y yt,ty,pos,af,gu⟩ (.bool (!decide (p=q))):=have hx:=hx.p;have hy:=hy.p;.mk λ_ w J O R=>by
 simp[execOp,J.ev O hx,J.ev O hy,eqGuard,binOp,Op.stringOp,DT]
def KO (hx:ev g E x=some (aC p))(hy:ev g E y=some (aC q)):OpV c g E L ⟨d, .binOp .lss t x y yt,ty,pos,af,gu⟩ (.bool (Op.bytesLess p q)):= .mk λ_ w J O R=>by
 simp[execOp,J.ev O hx,J.ev O hy,eqGuard,binOp,Op.stringOp]
def KQ (hx:ev g E x=some (aC p))(hy:ev g E y=some (aC q)):OpV c g E L ⟨d, .binOp .leq t x y yt,ty,pos,af,gu⟩ (.bool (Op.bytesLess p q || decide (p=q))):= .mk λ_ w J O R=>by
 simp[execOp,J.ev O hx,J.ev O hy,eqGuard,binOp,Op.stringOp,DT]
def cE {b:Bool}[hx:EV g E x (.bool b)]:OpV c g E L ⟨d, .unOp .not t x,ty,pos,af,gu⟩ (.bool (!b)):=have hx:=hx.p;.mk λ_ w J O R=>by
 simp[execOp,J.ev O hx,Op.unary]
def cP {ds:TypeDesc}{k2:IntKind}(hs:c.P.underlying t=some ds)(hd:c.P.underlying u=some (.int k))[hx:EV g E x (.int k2 a)](hr:k.wrap a=r):OpV c g E L ⟨d, .convert t u x,ty,pos,af,gu⟩ (.int k r):=have hx:=hx.p;.mk λ_ w J O R=>by
 simp[execOp,J.ev O hx,convert,underlying,program,Sem.run,hs,hd,Conv.intToInt,hr]
def aZ {ds:TypeDesc}(hs:c.P.underlying t=some ds)[hx:EV g E x v](hi:(match ds with | .interface _=>false | _=>true)=true:=by exact rfl):OpV c g E L ⟨d, .makeInterface t x,ty,pos,af,gu⟩ (.iface t v):=have hx:=hx.p;.mk λ_ w J O R=>by
 simp only[execOp,J.ev O hx,Instr.makeInterface,underlying,program,Sem.run_bind,Sem.run,hs,Result.andThen_ok,Sem.run_pure];cases ds <;> first | rfl | (cases hi)
def aH {vs:Array Value}{i:Nat}[hx:EV g E x (.tuple vs)][hv:NT vs i v]:OpV c g E L ⟨d, .extract x i,ty,pos,af,gu⟩ v:=have hx:=hx.p;have hv:=hv.p;.mk λ_ w J O R=>by
 simp[execOp,J.ev O hx,Instr.extract,hv]
def aa {p:Addr}[hx:EV g E x (.pointer (some p))]:OpV c g E L ⟨d, .nilCheck x,ty,pos,af,gu⟩ (.pointer (some p)):=have hx:=hx.p;.mk λ_ w J O R=>by
 simp[execOp,J.ev O hx]
def fK {fn:Fn}{S V:List Operand}{vs R:List Value}[hx:EVS g E S vs][hy:EVS g E V R]:OpV c g E L ⟨d, .makeFunc fn S.toArray V.toArray,ty,pos,af,gu⟩ (.func fn vs.toArray R.toArray):=have hx:=hx.p;have hy:=hy.p;.mk λ_ w J O X=>by
 simp[execOp,J.evs O hx,J.evs O hy,Instr.makeFunc]
end
end Go.Sl
namespace Go.Sl
def sl (s:Option Addr)(n cap:Nat):Value:= .slice s n cap
def Ae (s:Option Addr)(i:Nat):Value:= .pointer (s.map λp=>p.add i)
def bG:Obj->Nat->Option Value
 | .cells cs _ _,i=>cs[i]?
 | _,_=>none
class OC (b:Obj)(o:Nat)(v:outParam Value):Prop where p:bG b o=some v
instance {l:List Value}{t:TypeId}{f:Nat×Nat}{i:Nat}{v:Value}[h:NT l i v]:OC (.cells l.toArray t f) i v:=⟨by simpa [bG] using h.p⟩
def Rows (o:Obj)(off sz:Nat)(rows:List (List Value)):Prop:=∀j row,rows[j]? =some row->∀f v,row[f]? =some v->bG o (off+(j*sz+f))=some v
def roL (sz:Nat)(s:Option Addr)(rows:List (List Value)):ag:=λm=>rows=[]\/∃b off o,s=some ⟨b,off,none⟩/\m b=some (o,true)/\Rows o off sz rows
def bi (T sz:Nat)(s:Option Addr)(cap:Nat)(rows:List (List Value)):ag:=λm=>(s=none/\rows=[]/\cap=0)\/
 ∃b cs,s=some ⟨b,0,none⟩/\m b=some (.cells cs T (0,0),false)/\cs.size=cap*sz/\rows.length<=cap/\(∀row∈rows,row.length=sz)/\Rows (.cells cs T (0,0)) 0 sz rows
theorem Pers.roL (sz:Nat)(s:Option Addr)(rows:List (List Value)):Pers (roL sz s rows):=λm h=>by
 rcases h with rfl | ⟨b,off,o,rfl,hm,hr⟩
 ·exact ⟨λ_=>none,(λb x hx=>nomatch hx),(λb x hx=>nomatch hx), .inl rfl⟩
 ·refine ⟨Res.one b (o,true),λc x hx=>?_,λc x hx=>?_, .inr ⟨b,off,o,rfl,Res.one_self,hr⟩⟩
  ·grind[Res.one_eq]
  grind[Res.one_eq]
theorem iH {w:World}{b i:Nat}{o:Obj}{v:Value}(h:w.heap[b]? =some o)(J:bG o i=some v):w.cell? ⟨b,i,none⟩=some v:=by
 unfold World.cell?;simp only[h];cases o <;> simp[bG] at J ⊢;exact J
class SlR (L:List ag) (s:Option Addr) (sz:outParam Nat) (rows:outParam (List (List Value))):Prop where
 out:∀w0 w,Sat w0 w L->rows=[]\/∃b off o,s=some ⟨b,off,none⟩/\w.heap[b]? =some o/\Rows o off sz rows
instance (priority:=high) SlR.ro {sz:Nat}{s:Option Addr}{rows:List (List Value)}{L:List ag}:SlR (roL sz s rows::L) s sz rows:=⟨λw0 w h=>by
 obtain ⟨_,_,_,_,f,hf,_⟩:=h;have:=hf 0 _ rfl;rcases this.1 with h | ⟨b,off,o,h1,h2,h3⟩
 ·exact .inl h
 ·exact .inr ⟨b,off,o,h1,this.2 b _ h2,h3⟩⟩
instance (priority:=high) SlR.ow {T sz cap:Nat}{s:Option Addr}{rows:List (List Value)}{L:List ag}:SlR (bi T sz s cap rows::L) s sz rows:=⟨λw0 w h=>by
 obtain ⟨_,_,_,_,f,hf,_⟩:=h;have:=hf 0 _ rfl;rcases this.1 with ⟨_,h,_⟩ | ⟨b,cs,h1,h2,h3,h4,h5,h6⟩
 ·exact .inl h
 ·exact .inr ⟨b,0,_,h1,this.2 b _ h2,h6⟩⟩
instance (priority:=low) SlR.tail {A:ag}{sz:Nat}{s:Option Addr}{rows:List (List Value)}{L:List ag}[h:SlR L s sz rows]:SlR (A::L) s sz rows:=⟨λw0 w hS=>h.out w0 w hS.tail⟩
theorem ga (b o n:Nat):(⟨b,o,none⟩:Addr).add n=⟨b,o+n,none⟩:=by
 grind[Addr.add]
section
variable {c:Cx}{g:Option (Nat×Bool)}{E:dr}{L:List ag}{d:Option Tmp}{ty:TypeId}{pos:String}{af:Array Edge}{gu:Option (Nat×Bool)}
variable {x y z:Operand}{t u e:TypeId}{k:IntKind}{v:Value}{s:Option Addr}{b o i j n sz cap off:Nat}
def aX {s:Option Addr}(R:c.P.underlying t=some (.slice e))[hx:EV g E x (.slice s n cap)]:OpV c g E L ⟨d, .call {callee:= .builtin .len,args:=#[x],argTypes:=#[t]},ty,pos,af,gu⟩ (I n):=have hx:=hx.p;.mk λa w J O S=>by
 simp[execOp,resolve,invoke,builtin,Builtin.len_,underlying,program,Sem.run,R,J.ev O hx,goInt]
def cW {p:List UInt8}(R:c.P.underlying t=some .string)[hx:EV g E x (aC p)]:OpV c g E L ⟨d, .call {callee:= .builtin .len,args:=#[x],argTypes:=#[t]},ty,pos,af,gu⟩ (I p.length):=have hx:=hx.p;.mk λa w J O S=>by
 have hs:(⟨⟨p⟩⟩:ByteArray).size=p.length:=rfl;simp only[execOp,resolve,invoke,builtin,Builtin.len_];simp[underlying,program,Sem.run,R,J.ev O hx,goInt,hs]
def aw {J:Array Field}{f:Field}(off:Nat)(V:c.P.underlying t=some (.struct J))(R:J[i]? =some f)(X:∀w,(sizeOf f.type).run c.P w= .ok sz w)[hx:EV g E x (ptr b o)](ho:f.offset=off:=by exact rfl)(hn:sz≠0:=by decide):
  OpV c g E L ⟨d, .fieldAddr t x i,ty,pos,af,gu⟩ (ptr b (o+off)):=have hx:=hx.p;.mk λa w O S Y=>by
 simp[execOp,O.ev S hx,Instr.fieldAt,underlying,program,Sem.run,V,R,Instr.sureAddr,fieldPlace,X,hn,ga,ho]
def F0 {J:Array Field}{f:Field}(off:Nat)(V:c.P.underlying t=some (.struct J))(R:J[i]? =some f)(ho:f.offset=off)(X:∀w,(sizeOf f.type).run c.P w= .ok sz w)(hn:sz≠0){k:Nat}(hx:ev g E x=some (Ae (some ⟨b,o,none⟩) k)):
  OpV c g E L ⟨d, .fieldAddr t x i,ty,pos,af,gu⟩ (Ae (some ⟨b,o,none⟩) (k+off)):= .mk λa w O S Y=>by
 simp[execOp,O.ev S hx,Instr.fieldAt,underlying,program,Sem.run,V,R,Instr.sureAddr,fieldPlace,X,hn,ga,ho,Ae,YE]
def aE {O:Array Field}{f:Field}{rows:List (List Value)}{J k:Nat}(off:Nat)(Y:c.P.underlying t=some (.struct O))(V:O[i]? =some f)(Z:∀w,(sizeOf f.type).run c.P w= .ok sz w)[hx:EV g E x (Ae s k)][h:SlR L s J rows](hne:j<rows.length)(ho:f.offset=off:=by exact rfl)(hn:sz≠0:=by decide):OpV c g E L ⟨d, .fieldAddr t x i,ty,pos,af,gu⟩ (Ae s (k+off)):=have hx:=hx.p;.mk λa w S X R=>by
 rcases h.out _ _ R with h | ⟨b,o,_,rfl,_⟩
 ·subst h;simp at hne
 ·exact (F0 off Y V ho Z hn hx).out a w S X R
def ay {rows:List (List Value)}{q:Int}{R:Nat}(j:Nat)(Y:c.P.underlying t=some (.slice e))(Z:∀w,(sizeOf e).run c.P w= .ok sz w)[hx:EV g E x (sl s n cap)][hy:EV g E y (.int k q)](O:j<n)[h:SlR L s R rows](J:j<rows.length)(hj:q=(j:Int):=by exact rfl):OpV c g E L ⟨d, .indexAddr t x y,ty,pos,af,gu⟩ (Ae s (j*sz)):=have hx:=hx.p;have hy:=hy.p;.mk λa w S V X=>by
 subst hj;rcases h.out _ _ X with h | ⟨b,o,_,rfl,_⟩
 ·subst h;simp at J
 ·have:(j:Int)<(n:Int):=(by omega);simp[execOp,S.ev V hx,S.ev V hy,Instr.indexAt,underlying,program,Sem.run,Y,sl,Ae,asIntOf,this,O,Z,ga]
def ba {q:Int}(j:Nat)(S:c.P.underlying t=some (.array n e))(V:∀w,(sizeOf e).run c.P w= .ok sz w)[hx:EV g E x (ptr b o)][hy:EV g E y (.int k q)](J:j<n)(hj:q=(j:Int):=by exact rfl):
  OpV c g E L ⟨d, .indexAddr t x y,ty,pos,af,gu⟩ (ptr b (o+j*sz)):=have hx:=hx.p;have hy:=hy.p;.mk λa w O R X=>by
 subst hj;have:(j:Int)<(n:Int):=(by omega);simp[execOp,O.ev R hx,O.ev R hy,Instr.indexAt,underlying,program,Sem.run,S,asIntOf,Instr.sureAddr,this,J,V,ga]
def kO {q:Int}{cs:Array Value}(j:Nat)(V:c.P.underlying t=some (.array n e))(X:∀w,(sizeOf e).run c.P w= .ok 1 w)(S:∀w,(isAgg e).run c.P w= .ok false w)[hx:EV g E x (.agg cs)][hy:EV g E y (.int k q)](J:j<n)(hv:cs[j]? =some v)(hj:q=(j:Int):=by exact rfl):OpV c g E L ⟨d, .index t x y,ty,pos,af,gu⟩ v:=have hx:=hx.p;have hy:=hy.p;.mk λa w O R Y=>by
 subst hj;have:(j:Int)<(n:Int):=(by omega);simp[execOp,O.ev R hx,O.ev R hy,Instr.index,underlying,program,Sem.run,V,asIntOf,this,J,X,part,S,hv]
def cr {q:Int}{p:List UInt8}{r:UInt8}(j:Nat)(S:c.P.underlying t=some .string)[hx:EV g E x (aC p)][hy:EV g E y (.int k q)](hv:p[j]? =some r)(hj:q=(j:Int):=by exact rfl):
  OpV c g E L ⟨d, .index t x y,ty,pos,af,gu⟩ (By r.toNat):=have hx:=hx.p;have hy:=hy.p;.mk λa w O R V=>by
 subst hj;have J:=(Yh.1 hv).1;have:(⟨⟨p⟩⟩:ByteArray)[j]? =some r:=by
  rw[getElem?_pos (⟨⟨p⟩⟩:ByteArray) j J];have:=(Yh.1 hv).2;exact Yg some this
 simp[execOp,O.ev R hx,O.ev R hy,Instr.index,underlying,program,Sem.run,S,asIntOf,this]
def Hq {J:Array Field}{f:Field}{cs:Array Value}(X:c.P.underlying t=some (.struct J))(S:J[i]? =some f)(R:∀w,(isAgg f.type).run c.P w= .ok false w)(hx:ev g E x=some (.agg cs))(hv:cs[f.offset]? =some v):
  OpV c g E L ⟨d, .field t x i,ty,pos,af,gu⟩ v:= .mk λa w O V Y=>by
 simp[execOp,O.ev V hx,Instr.field,underlying,program,Sem.run,X,S,asAgg,part,R,hv]
def KR {w:World}{a:Addr}{P:Program}(h:w.cell? a=some v):(load a).run P w= .ok v w:=by simp[load,Sem.run,h]
def az {J:Obj}(S:∀w,(isAgg t).run c.P w= .ok false w)[hx:EV g E x (ptr b o)][h:Has L b J][hv:OC J o v]:OpV c g E L ⟨d, .load t x,ty,pos,af,gu⟩ v:=have hx:=hx.p;have hv:=hv.p;.mk λa w O V R=>by
 have:=iH (h.out _ _ R) hv;simp[execOp,O.ev V hx,Instr.loadAt,Instr.sureAddr,loadVar,load,Sem.run,S,this]
def bC {rows:List (List Value)}{row:List Value}{f:Nat}(S:∀w,(isAgg t).run c.P w= .ok false w)[hx:EV g E x (Ae s (j*sz+f))][h:SlR L s sz rows](hr:rows[j]? =some row)[hv:NT row f v]:OpV c g E L ⟨d, .load t x,ty,pos,af,gu⟩ v:=have hx:=hx.p;have hv:=hv.p;.mk λa w J V R=>by
 rcases h.out _ _ R with h | ⟨b,o,X,rfl,hh,O⟩
 ·subst h;cases hr
 ·have:=iH hh (O j row hr f v hv);simp[execOp,J.ev V hx,Instr.loadAt,Instr.sureAddr,loadVar,load,Sem.run,S,Ae,ga,this]
def bI {rows:List (List Value)}{row:List Value}(J:∀w,(isAgg t).run c.P w= .ok false w)[hx:EV g E x (Ae s (j*sz))][h:SlR L s sz rows](hr:rows[j]? =some row)(hv:row[0]? =some v):OpV c g E L ⟨d, .load t x,ty,pos,af,gu⟩ v:=have hx:=hx.p;bC (f:=0) J (hx:=⟨hx⟩) hr (hv:=⟨hv⟩)
def fN {P:Program}{w:World}(b:Nat):∀(n i o:Nat) (J:Array Value) (vs:List Value),vs.length=n->(∀k v,vs[k]? =some v->w.cell? ⟨b,o+(i+k),none⟩=some v)->
  (loadCellsFrom ⟨b,o,none⟩ i n J).run P w= .ok (J++vs.toArray) w
 | 0,i,o,J,vs,hl,_=>by
  simp_all[loadCellsFrom]
 | n+1,i,o,J,vs,hl,h=>by
  match vs,hl with
  | v::vs,hl=>
   have h0:=h 0 v rfl;have O:=fN (P:=P) b n (i+1) o (J.push v) vs (by simpa using hl) (λk u hk=>by
    have:=h (k+1) u (by simpa using hk)
    rwa [show o+(i+(k+1))=o+(i+1+k) by omega] at this)
   simp_all[loadCellsFrom,ga]
def aU {J:Obj}{vs:List Value}(S:∀w,(isAgg t).run c.P w= .ok true w)(X:∀w,(sizeOf t).run c.P w= .ok sz w)[hx:EV g E x (ptr b o)][h:Has L b J](hv:∀k v,vs[k]? =some v->bG J (o+k)=some v)(hl:vs.length=sz:=by exact rfl):
  OpV c g E L ⟨d, .load t x,ty,pos,af,gu⟩ (.agg vs.toArray):=have hx:=hx.p;.mk λa w O V R=>by
 have hh:=h.out _ _ R;have:=fN (P:=c.P) (w:=w) b sz 0 o #[] vs hl (λk v hk=>by grind[iH]);simp[execOp,O.ev V hx,Instr.loadAt,Instr.sureAddr,loadVar,S,X,loadCells,this]
def bJ {rows:List (List Value)}{row:List Value}(S:∀w,(isAgg t).run c.P w= .ok true w)(X:∀w,(sizeOf t).run c.P w= .ok sz w)[hx:EV g E x (Ae s (j*sz))][h:SlR L s sz rows](hr:rows[j]? =some row)(hl:row.length=sz:=by exact rfl):
  OpV c g E L ⟨d, .load t x,ty,pos,af,gu⟩ (.agg row.toArray):=have hx:=hx.p;.mk λa w J V R=>by
 rcases h.out _ _ R with h | ⟨b,o,Y,rfl,hh,O⟩
 ·subst h;cases hr
 ·have:=fN (P:=c.P) (w:=w) b sz 0 (o+j*sz) #[] row hl (λk v hk=>by
   have:=iH hh (O j row hr k v hk)
   grind)
  simp[execOp,J.ev V hx,Instr.loadAt,Instr.sureAddr,loadVar,S,X,loadCells,Ae,ga,this]
end
end Go.Sl
namespace Go.Sl
def one:Value->Bool
 | .agg _=>false
 | .tuple _=>false
 | _=>true
def ones:List Value->Bool
 | []=>true
 | v::vs=>match one v with | true=>ones vs | false=>false
theorem j7 {vs:List Value}(h:ones vs=true):∀v∈vs,one v=true:=by
 induction vs with
 | nil=>simp
 | cons v vs J=>
  grind[ones]
def kP {vs:List Value}(h:∀v∈vs,one v=true):ones vs=true:=by
 induction vs with
 | nil=>rfl
 | cons v vs J=>
  grind[ones]
def cT (cs:Array Value)(o:Nat):List Value->Array Value
 | []=>cs
 | v::vs=>cT (cs.setIfInBounds o v) (o+1) vs
theorem fx (cs:Array Value)(o:Nat)(vs:List Value):(cT cs o vs).size=cs.size:=by
 induction vs generalizing cs o with
 | nil=>rfl
 | cons v vs J=>simp[cT,J]
theorem iI (cs:Array Value)(o:Nat)(vs:List Value)(h:o+vs.length<=cs.size)(i:Nat):(cT cs o vs)[i]? =if o<=i/\i<o+vs.length then vs[i - o]? else cs[i]? :=by
 induction vs generalizing cs o with
 | nil=>simp[cT];omega
 | cons v vs J=>
  grind[cT]
def kC (w:World)(b:Nat)(o:Obj):World:={w with heap:=w.heap.setIfInBounds b o}
def Jf {P:Program}{w:World}{b i:Nat}{cs:Array Value}{T:TypeId}{v:Value}(h:w.heap[b]? =some (.cells cs T (0,0)))(hi:i<cs.size)(h1:one v=true):
  (store ⟨b,i,none⟩ v).run P w= .ok () (kC w b (.cells (cs.setIfInBounds i v) T (0,0))):=by
 have J:w.cell? ⟨b,i,none⟩=some cs[i]:=iH h (by simp[bG,hi]);have O:w.frozen? ⟨b,i,none⟩=false:=(by simp[World.frozen?,h]);have hs:w.setCell ⟨b,i,none⟩ v=kC w b (.cells (cs.setIfInBounds i v) T (0,0)):=by
  unfold World.setCell kC;congr 1
  grind
 show Sem.run P (Sem.store .plain ⟨b,i,none⟩ v (.pure ())) w=_;cases v <;> first | (cases h1;done) | simp[Sem.run,J,O,hs]
def dy {P:Program}(b o:Nat)(T:TypeId):∀(vs:List Value) (w:World) (cs:Array Value) (i:Nat),w.heap[b]? =some (.cells cs T (0,0))->o+i+vs.length<=cs.size->ones vs=true->
  (storeCells ⟨b,o,none⟩ vs i).run P w= .ok () (kC w b (.cells (cT cs (o+i) vs) T (0,0)))
 | [],w,cs,i,h,_,_=>by
  have:kC w b (.cells cs T (0,0))=w:=by
   unfold kC;have J:=(Yk.1 h).1;have he:=(Yk.1 h).2;have:w.heap.setIfInBounds b (.cells cs T (0,0))=w.heap:=by
    grind
   rw[this]
  simp[storeCells,cT,this]
 | v::vs,w,cs,i,h,hi,h1=>by
  have hv:=j7 h1;have hs:=Jf (P:=P) (i:=o+i) h (by simp at hi;omega) (hv v (by simp));have J:=(Yk.1 h).1;have R:=dy (P:=P) b o T vs (kC w b (.cells (cs.setIfInBounds (o+i) v) T (0,0))) (cs.setIfInBounds (o+i) v) (i+1) (by simp[kC,J]) (by simp at hi ⊢;omega) (kP λu O=>hv u (by simp[O]));unfold storeCells;rw[Sem.run_bind,ga,hs]
  simp_all[cT,kC,YE]
section
variable {c:Cx}{g:Option (Nat×Bool)}{E:dr}{L L':List ag}{d:Option Tmp}{ty:TypeId}{pos:String}{af:Array Edge}{gu:Option (Nat×Bool)}
variable {x y z:Operand}{t u e:TypeId}{k:IntKind}{v:Value}{s:Option Addr}{b o i j n sz cap off:Nat}
theorem OpL.of_run {op:Op}{N:Value->List ag->Prop}(h:∀a w,EOk c.n E a->gd g a->Sat c.w0 w L->∃v w' L',(execOp a.eval ⟨d,op,ty,pos,af,gu⟩).run c.P w= .ok (.value v) w'/\Sat c.w0 w' L'/\N v L'):OpL c g E L ⟨d,op,ty,pos,af,gu⟩ N:=by
 constructor;intro a w R V S X Q hn;obtain ⟨v,w',L',h1,J,O⟩:=h a w R V S;unfold Oper.wp;rw[h1];exact hn v w' L' J O
theorem OpL.of_skip {op:Op}{N:Value->List ag->Prop}(h:∀a w,EOk c.n E a->gd g a->Sat c.w0 w L->∃w' L',(execOp a.eval ⟨d,op,ty,pos,af,gu⟩).run c.P w= .ok .skip w'/\Sat c.w0 w' L'/\N undef L'):OpL c g E L ⟨d,op,ty,pos,af,gu⟩ N:=by
 constructor;intro a w R V S X Q hn;obtain ⟨w',L',h1,J,O⟩:=h a w R V S;unfold Oper.wp;rw[h1];exact hn undef w' L' J O
def aO (cs:Array Value)(O:∀w,(zeroValue t).run c.P w= .ok (.agg cs) w):OpL c g E L ⟨d, .alloc t,ty,pos,af,gu⟩ λv L'=>∃b,v=ptr b 0/\L'=pt b (.cells cs t (0,0))::L:=
 .of_run λa w R S J=>⟨ptr w.heap.size 0,_,_,by simp[execOp,Instr.alloc,O,newVar,newRow,newObj,Sem.run,Value.cells],J.alloc _,_,rfl,rfl⟩
def pQ (zv:Value)(R:∀w,(zeroValue t).run c.P w= .ok zv w)(h1:one zv=true:=by exact rfl):OpL c g E L ⟨d, .alloc t,ty,pos,af,gu⟩ λv L'=>∃b,v=ptr b 0/\L'=pt b (.cells #[zv] t (0,0))::L:=
 .of_run λa w S V O=>⟨ptr w.heap.size 0,_,_,by
  have J:zv.cells=#[zv]:=(by cases zv <;> first | rfl | cases h1);simp[execOp,Instr.alloc,R,newVar,newRow,newObj,Sem.run,J],O.alloc _,_,rfl,rfl⟩
def di (cs:Array Value)[hx:EV g E x v](R:v.cells=cs:=by exact rfl):OpL c g E L ⟨d, .box t x,ty,pos,af,gu⟩ λv L'=>∃b,v=ptr b 0/\L'=pt b (.cells cs t (0,0))::L:=have hx:=hx.p;
 .of_run λa w J S O=>⟨ptr w.heap.size 0,_,_,by simp[execOp,J.ev S hx,Instr.box,newVar,newRow,newObj,Sem.run,R],O.alloc _,_,rfl,rfl⟩
theorem Upd.sat {w0 w:World}{o o':Obj}(U:Upd L b o o' L')(h:Sat w0 w L):Sat w0 (kC w b o') L'/\w.heap[b]? =some o:=by
 obtain ⟨i,h1,rfl⟩:=U.out;exact ⟨h.setAt h1,(h.front h1).at_⟩
def aK {cs:Array Value}{T:TypeId}(J:Array Value)(hz:∀w,(sizeOf t).run c.P w= .ok 1 w)[hx:EV g E x (ptr b o)][hy:EV g E y v][hh:Has L b (.cells cs T (0,0))](Y:o<cs.size)[U:Upd L b (.cells cs T (0,0)) (.cells J T (0,0)) L'](h1:one v=true:=by exact rfl)(hcs:cs.setIfInBounds o v=J:=by exact rfl):
  OpL c g E L ⟨d, .store t x y,ty,pos,af,gu⟩ λ_ O=>O=L':=have hx:=hx.p;have hy:=hy.p;
 .of_skip λa w R V X=>by
  subst hcs;have S:=U.sat X;have Z:v.cells=#[v]:=(by cases v <;> first | rfl | cases h1);have hr:=dy (P:=c.P) b o T [v] w cs 0 S.2 (by simp;omega) (by simp[ones,h1]);refine ⟨_,L',?_,S.1,rfl⟩;simp only[execOp,R.ev V hx,R.ev V hy,Instr.storeAt,Instr.sureAddr,storeVar]
  simp_all[cT]
def ax {cs:Array Value}{T:TypeId}{vs:List Value}(J:Array Value)(Z:∀w,(sizeOf t).run c.P w= .ok sz w)[hx:EV g E x (ptr b o)][hy:EV g E y (.agg vs.toArray)][hh:Has L b (.cells cs T (0,0))](Y:o+sz<=cs.size)[U:Upd L b (.cells cs T (0,0)) (.cells J T (0,0)) L'](hl:vs.length=sz:=by exact rfl)(h1:ones vs=true:=by exact rfl)(hcs:cT cs o vs=J:=by exact rfl):
  OpL c g E L ⟨d, .store t x y,ty,pos,af,gu⟩ λ_ O=>O=L':=have hx:=hx.p;have hy:=hy.p;
 .of_skip λa w R V X=>by
  subst hcs;have S:=U.sat X;have hr:=dy (P:=c.P) b o T vs w cs 0 S.2 (by omega) h1;refine ⟨_,L',?_,S.1,rfl⟩;simp only[execOp,R.ev V hx,R.ev V hy,Instr.storeAt,Instr.sureAddr,storeVar]
  simp_all[Value.cells]
def cX {f:FuncId}{O:List Operand}{vs:List Value}{ats:Array TypeId}{Pre F:List ag}{R:List ag->Value->List ag->Prop}(J:∀args w,(callFunc f args).run c.P w= .ok (.enter f args) w)[hx:EVS g E O vs](h:∀F,Ct c.P f vs (Pre++F) (R F))[S:Split L Pre F]:
  OpL c g E L ⟨d, .call {callee:= .value (.func f),args:=O.toArray,argTypes:=ats},ty,pos,af,gu⟩ (R F):=by
 have hx:=hx.p
 constructor;intro a w V Y X Z Q hn;unfold Oper.wp;have hr:(execOp a.eval ⟨d, .call {callee:= .value (.func f),args:=O.toArray,argTypes:=ats},ty,pos,af,gu⟩).run c.P w= .ok (.enter f vs.toArray) w:=by
  simp[execOp,resolve,Act.eval,Deferred.ofValue,invoke,J,<-V.evs Y hx]
 rw[hr];refine (h F c.w0 w (S.sat X)).mono λe w' he=>?_
 grind
end
def jA:List (Nat×Bool):=[(0,false),(1,false),(2,false),(3,false),(4,false),(5,false),(6,true)]
def jB:List (Nat×Bool):=[(0,false),(1,false),(2,false),(3,false),(4,false),(5,false),(6,false),(7,false),(8,false)]
def jC:List (Nat×Bool):=[(0,false),(1,false),(2,false),(3,false),(4,false),(5,false),(6,false),(7,false),(8,false),(9,false),(10,false),(11,false),(12,false),(13,false),(14,false),(15,false),(16,false)]
def jD:List (Nat×Bool):=[(0,false),(1,false),(2,false),(3,false),(4,false),(5,false),(6,true),(7,false)]
def jE:List (Nat×Bool):=[(0,false),(1,false),(2,false),(3,false),(4,false),(5,false),(6,false),(7,false),(8,false),(9,false)]
def jF:List (Nat×Bool):=[(0,false),(1,false),(2,false),(3,false),(4,false),(5,false),(6,false),(7,false),(8,false),(9,false),(10,false)]
def jG:List (Nat×Bool):=[(0,false),(1,false),(2,false),(3,false),(4,false),(5,false),(6,false),(7,false),(8,false),(9,false),(10,false),(11,false),(12,false),(13,false)]
def jH:List (Nat×Bool):=[(0,false),(1,false),(2,false),(3,false),(4,false),(5,false),(6,false),(7,false),(8,false),(9,false),(10,false),(11,false)]
def jI:List (Nat×Bool):=[(0,false),(1,false),(2,false),(3,false),(4,false),(5,false),(6,false),(7,false),(8,false),(9,false),(10,false),(11,false),(12,false),(13,false),(14,false),(15,false),(16,false),(17,false),(18,false)]
def jJ:List (Nat×Bool):=[(0,false),(1,false),(2,false),(3,false),(4,false),(5,false),(6,false),(7,true),(8,false),(9,false)]
def jK:List (Nat×Bool):=[(0,false),(1,false),(2,false),(3,false),(4,false),(5,false),(6,false),(7,false),(8,true)]
def jL:List (Nat×Bool):=[(0,false),(1,false),(2,false),(3,false),(4,false),(5,false),(6,false),(7,false),(8,false),(9,false),(10,true),(11,true)]
def jM:List (Nat×Bool):=[(0,false),(1,false),(2,false),(3,false),(4,false),(5,false),(6,false),(7,false),(8,false),(9,false),(10,false),(11,false),(12,false),(13,false),(14,false)]
def jN:List (Nat×Bool):=[(0,false),(1,false),(2,false),(3,false),(4,false),(5,false),(6,false)]
def jO:List (Nat×Bool):=[(0,false),(1,false),(2,false),(3,false),(4,false),(5,false),(6,false),(7,false),(8,false),(9,true),(10,false),(11,false),(12,false),(13,false),(14,false)]
def jP:List (Nat×Bool):=[(0,false),(1,false),(2,false),(3,false),(4,false),(5,false),(6,false),(7,false),(8,false),(9,false),(10,false),(11,false),(12,false),(13,false),(14,false),(15,false),(16,false),(17,false),(18,false),(19,false),(20,false),(21,false)]
def jQ:List (Nat×Bool):=[(0,false),(1,false),(2,false),(3,false),(4,false),(5,false),(6,false),(7,true)]
def jR:List (Nat×Bool):=[(0,false),(1,false),(2,false),(3,false),(4,false),(5,false),(6,false),(7,false),(8,false),(9,false),(10,false),(11,false),(12,false),(13,false),(14,false),(15,false),(16,false),(17,false),(18,false),(19,false),(20,false)]
def jS:List (Nat×Bool):=[(0,false),(1,false),(2,false),(3,false),(4,false),(5,false),(6,false),(7,false),(8,true),(9,true)]
def jT:List (Nat×Bool):=[(0,false),(1,false),(2,false),(3,false),(4,false),(5,false),(6,false),(7,false),(8,false),(9,false),(10,false),(11,false),(12,false)]
def jU:List (Nat×Bool):=[(0,false),(1,false),(2,false),(5,false),(6,false),(8,false),(9,false),(12,false),(13,false),(3,true),(4,false),(7,true),(10,true),(11,false),(14,true),(15,false),(16,false),(17,true),(18,true),(19,false)]
def jV:List (Nat×Bool):=[(0,false),(1,false),(2,false),(3,false),(4,false),(5,false),(6,false),(7,false),(8,false),(9,false),(10,false),(11,false),(12,false),(13,false),(14,false),(15,false),(16,false),(17,false)]
def jW:List (Nat×Bool):=[(0,false),(1,false),(2,false),(3,false),(4,false),(5,false),(6,false),(7,false),(9,false),(8,true),(10,true),(11,true),(12,true),(13,false)]
def jX:List (Nat×Bool):=[(0,false),(1,false),(2,false),(3,false),(4,false),(5,false),(6,false),(7,false),(8,false),(9,false),(10,false),(11,false),(12,false),(13,false),(14,false),(15,false),(16,false),(17,true),(18,false),(19,false),(20,false),(21,false),(22,false)]
def gV {c:Cx}{K:List KI}{E:dr}{L:List ag}{all rest:List Oper}{d:Nat}{ty:TypeId}{pos:String}{af:Array Edge}{op:Op}{v:Value}(h:OpV c none E L ⟨some d,op,ty,pos,af,none⟩ v)(k:G c (.ops all rest::K) ((d,none,v)::E) L)(hd:lE c.n d E=true:=by exact rfl):G c (.ops all (⟨some d,op,ty,pos,af,none⟩::rest)::K) E L:=QY h hd k
def gF {c:Cx}{K:List KI}{E:dr}{L:List ag}{all rest:List Oper}{d:Nat}{ty:TypeId}{pos:String}{af:Array Edge}{x:Operand}{t:TypeId}{b o i sz:Nat}{J:Array Field}{f:Field}(off:Nat)(R:c.P.underlying t=some (.struct J))(O:J[i]? =some f)(S:∀w,(sizeOf f.type).run c.P w= .ok sz w)[hx:EV none E x (ptr b o)](k:G c (.ops all rest::K) ((d,none,ptr b (o+off))::E) L)(ho:f.offset=off:=by exact rfl)(hn:sz≠0:=by decide)(hd:lE c.n d E=true:=by exact rfl):G c (.ops all (⟨some d, .fieldAddr t x i,ty,pos,af,none⟩::rest)::K) E L:=have hx:=hx.p;QY (aw off R O (ho:=ho) S (hn:=hn) (hx:=⟨hx⟩)) hd k
def gL {c:Cx}{K:List KI}{E:dr}{L:List ag}{all rest:List Oper}{d:Nat}{ty:TypeId}{pos:String}{af:Array Edge}{x:Operand}{t:TypeId}{b o:Nat}{J:Obj}(v:Value)(O:∀w,(isAgg t).run c.P w= .ok false w)[hx:EV none E x (ptr b o)][h:Has L b J](k:G c (.ops all rest::K) ((d,none,v)::E) L)(hv:bG J o=some v:=by exact rfl)(hd:lE c.n d E=true:=by exact rfl):G c (.ops all (⟨some d, .load t x,ty,pos,af,none⟩::rest)::K) E L:=have hx:=hx.p;QY (az O (hx:=⟨hx⟩) (hv:=⟨hv⟩)) hd k
def gX {c:Cx}{K:List KI}{E:dr}{L:List ag}{all rest:List Oper}{d:Nat}{ty:TypeId}{pos:String}{af:Array Edge}{x:Operand}{vs:Array Value}{i:Nat}(v:Value)[hx:EV none E x (.tuple vs)](k:G c (.ops all rest::K) ((d,none,v)::E) L)(hv:vs[i]? =some v:=by exact rfl)(hd:lE c.n d E=true:=by exact rfl):G c (.ops all (⟨some d, .extract x i,ty,pos,af,none⟩::rest)::K) E L:=have hx:=hx.p;QY (aH (hx:=⟨hx⟩) (hv:=⟨hv⟩)) hd k
def gP {c:Cx}{K:List KI}{E:dr}{L:List ag}{all rest:List Oper}{d:Nat}{ty:TypeId}{pos:String}{af:Array Edge}{x y:Operand}{t yt:TypeId}{a b:Int}[hx:EV none E x (.int .i64 a)][hy:EV none E y (.int .i64 b)](k:G c (.ops all rest::K) ((d,none, .int .i64 (a+b))::E) L)(hd:lE c.n d E=true:=by exact rfl)(hr: -9223372036854775808<=a+b/\a+b<=9223372036854775807:=by omega):G c (.ops all (⟨some d, .binOp .add t x y yt,ty,pos,af,none⟩::rest)::K) E L:=have hx:=hx.p;have hy:=hy.p;QY (bO (hx:=⟨hx⟩) (hy:=⟨hy⟩) (da hr)) hd k
def gK {c:Cx}{K:List KI}{E:dr}{L:List ag}{all rest:List Oper}{d:Nat}{ty:TypeId}{pos:String}{af:Array Edge}{op:Op}{v:Value}{i s:Nat}{b J:Bool}[hi:DS all i s][hs:LK none E s (.bool b)](h:OpV c (some (s,J)) E L ⟨some d,op,ty,pos,af,some (i,J)⟩ v)(k:G c (.ops all rest::K) ((d,some (s,J),v)::E) L)(hd:lE c.n d E=true:=by exact rfl)(hne:Nat.beq s d=false:=by exact rfl):G c (.ops all (⟨some d,op,ty,pos,af,some (i,J)⟩::rest)::K) E L:=have hi:=hi.p;have hs:=hs.p;Jd (hi:=⟨hi⟩) (hs:=⟨hs⟩) (λ_=>h) (hd:=hd) (hne:=by exact hne) k
def gI {c:Cx}{K:List KI}{E:dr}{L:List ag}{all rest:List Oper}{d:Nat}{ty:TypeId}{pos:String}{af:Array Edge}{op:Op}{N:Value->List ag->Prop}(h:OpL c none E L ⟨some d,op,ty,pos,af,none⟩ N)(k:∀v L',N v L'->G c (.ops all rest::K) ((d,none,v)::E) L')(hd:lE c.n d E=true:=by exact rfl):G c (.ops all (⟨some d,op,ty,pos,af,none⟩::rest)::K) E L:=UR h hd k
def gR {c:Cx}{K:List KI}{E:dr}{L:List ag}{all rest:List Oper}{d:Nat}{ty:TypeId}{pos:String}{af:Array Edge}{op:Op}{v:Value}{M:List ag}(h:OpL c none E L ⟨some d,op,ty,pos,af,none⟩ (R1 v M))(k:G c (.ops all rest::K) ((d,none,v)::E) M)(hd:lE c.n d E=true:=by exact rfl):G c (.ops all (⟨some d,op,ty,pos,af,none⟩::rest)::K) E L:=UR h hd (by rintro _ _ ⟨rfl,rfl⟩;exact k)
def gU {c:Cx}{K:List KI}{E:dr}{L:List ag}{all rest:List Oper}{ty:TypeId}{pos:String}{af:Array Edge}{op:Op}{M:List ag}(h:OpL c none E L ⟨none,op,ty,pos,af,none⟩ (λ_ L'=>L'=M))(k:G c (.ops all rest::K) E M):G c (.ops all (⟨none,op,ty,pos,af,none⟩::rest)::K) E L:=ir h (by rintro _ _ rfl;exact k)
def oC {P:Program}{f:FuncId}{fn:Func}{cd:Code}{args:List Value}{L:List ag}{R:Value->List ag->Prop}{n:Nat}(S:P.funcs[f]? =some fn)(O:fn.body=some cd)(hn:fn.ntmps=n)(h:∀w0,G ⟨P,fn,w0,R,⟨n,[]⟩⟩ [.code cd] (nm 0 args) L)(J:args.length<=n:=by simp):Ct P f args L R:=Ct.of S O n hn J h
def gD {c:Cx}{K:List KI}{E:dr}{L:List ag}{id:Nat}{l:List Oper}{Lf:List ag}(pl:List (Nat×Bool))(h:G c (.plan l (λw=>Sat c.w0 w Lf) pl::K) E L)(hm:c.P.follows .mixedOrders=true:=by kernel_rfl)(hs:Region.noSelect l.toArray=true:=by kernel_rfl)(hl:pl.length=l.length:=by exact rfl)(hp:hZ l.toArray pl (Array.replicate l.length false)=true:=by kernel_rfl):G c (.code (.region id l.toArray true)::K) E L:=cO pl (hm:=hm) (hs:=hs) (hl:=hl) (hp:=hp) h
def gG {c:Cx}{K:List KI}{E:dr}{L:List ag}{id:Nat}{l:List Oper}(pl:List (Nat×Bool))(h:G c (.plan l (λw=>Sat c.w0 w L) pl::K) E L)(hm:c.P.follows .mixedOrders=true:=by kernel_rfl)(hs:Region.noSelect l.toArray=true:=by kernel_rfl)(hl:pl.length=l.length:=by exact rfl)(hp:hZ l.toArray pl (Array.replicate l.length false)=true:=by kernel_rfl):G c (.code (.region id l.toArray true)::K) E L:=cV pl (hm:=hm) (hs:=hs) (hl:=hl) (hp:=hp) h
def dV {c:Cx}{K:List KI}{E:dr}{L:List ag}{all:List Oper}{d:Nat}{ty:TypeId}{pos:String}{af:Array Edge}{Lf:List ag}{pl:List (Nat×Bool)}{i:Nat}{op:Op}{v:Value}(hi:all[i]? =some ⟨some d,op,ty,pos,af,none⟩)[J:Sub L Lf](h:OpV c none E Lf ⟨some d,op,ty,pos,af,none⟩ v)(k:G c (.plan all (λw=>Sat c.w0 w Lf) pl::K) ((d,none,v)::E) L)(hd:lE c.n d E=true:=by exact rfl):G c (.plan all (λw=>Sat c.w0 w Lf) ((i,false)::pl)::K) E L:=Uq hi h hd k
def dF {c:Cx}{K:List KI}{E:dr}{L:List ag}{all:List Oper}{d:Nat}{ty:TypeId}{pos:String}{af:Array Edge}{Lf:List ag}{pl:List (Nat×Bool)}{i:Nat}{x:Operand}{t:TypeId}{b o j sz:Nat}{J:Array Field}{f:Field}(hi:all[i]? =some ⟨some d, .fieldAddr t x j,ty,pos,af,none⟩)[V:Sub L Lf](off:Nat)(R:c.P.underlying t=some (.struct J))(O:J[j]? =some f)(S:∀w,(sizeOf f.type).run c.P w= .ok sz w)[hx:EV none E x (ptr b o)](k:G c (.plan all (λw=>Sat c.w0 w Lf) pl::K) ((d,none,ptr b (o+off))::E) L)(ho:f.offset=off:=by exact rfl)(hn:sz≠0:=by decide)(hd:lE c.n d E=true:=by exact rfl):G c (.plan all (λw=>Sat c.w0 w Lf) ((i,false)::pl)::K) E L:=have hx:=hx.p;Uq hi (aw off R O (ho:=ho) S (hn:=hn) (hx:=⟨hx⟩)) hd k
def dL {c:Cx}{K:List KI}{E:dr}{L:List ag}{all:List Oper}{d:Nat}{ty:TypeId}{pos:String}{af:Array Edge}{Lf:List ag}{pl:List (Nat×Bool)}{i:Nat}{x:Operand}{t:TypeId}{b o:Nat}{J:Obj}(hi:all[i]? =some ⟨some d, .load t x,ty,pos,af,none⟩)[R:Sub L Lf](v:Value)(O:∀w,(isAgg t).run c.P w= .ok false w)[hx:EV none E x (ptr b o)][h:Has Lf b J](k:G c (.plan all (λw=>Sat c.w0 w Lf) pl::K) ((d,none,v)::E) L)(hv:bG J o=some v:=by exact rfl)(hd:lE c.n d E=true:=by exact rfl):G c (.plan all (λw=>Sat c.w0 w Lf) ((i,false)::pl)::K) E L:=have hx:=hx.p;Uq hi (az O (hx:=⟨hx⟩) (hv:=⟨hv⟩)) hd k
def dJ {c:Cx}{K:List KI}{E:dr}{L:List ag}{all:List Oper}{d:Nat}{ty:TypeId}{pos:String}{af:Array Edge}{Lf:List ag}{pl:List (Nat×Bool)}{i:Nat}{op:Op}{v:Value}{j s:Nat}{b J:Bool}(hi:all[i]? =some ⟨some d,op,ty,pos,af,some (j,J)⟩)[hj:DS all j s][hs:LK none E s (.bool b)][O:Sub L Lf](h:OpV c (some (s,J)) E Lf ⟨some d,op,ty,pos,af,some (j,J)⟩ v)(k:G c (.plan all (λw=>Sat c.w0 w Lf) pl::K) ((d,some (s,J),v)::E) L)(hd:lE c.n d E=true:=by exact rfl)(hne:Nat.beq s d=false:=by exact rfl):G c (.plan all (λw=>Sat c.w0 w Lf) ((i,false)::pl)::K) E L:=have hj:=hj.p;have hs:=hs.p;rO hi (hj:=⟨hj⟩) (hs:=⟨hs⟩) (λ_=>h) (hd:=hd) (hne:=by exact hne) k
def uA {c:Cx}{g:Option (Nat×Bool)}{E:dr}{L:List ag}{d:Option Tmp}{ty:TypeId}{pos:String}{af:Array Edge}{gu:Option (Nat×Bool)}{f:FuncId}{O:List Operand}{vs:List Value}{ats:Array TypeId}{F:List ag}{R:List ag->Value->List ag->Prop}(J:∀args w,(callFunc f args).run c.P w= .ok (.enter f args) w)[hx:EVS g E O vs](h:∀F,Ct c.P f vs (F) (R F))[S:Split L [] F]:OpL c g E L ⟨d, .call {callee:= .value (.func f),args:=O.toArray,argTypes:=ats},ty,pos,af,gu⟩ (R F):=have hx:=hx.p;cX (Pre:=[]) J (hx:=⟨hx⟩) h
def vA {c:Cx}{g:Option (Nat×Bool)}{E:dr}{L:List ag}{d:Option Tmp}{ty:TypeId}{pos:String}{af:Array Edge}{gu:Option (Nat×Bool)}{f:FuncId}{O:List Operand}{vs:List Value}{ats:Array TypeId}{F:List ag}{v:Value}{M:List ag->List ag}(J:∀args w,(callFunc f args).run c.P w= .ok (.enter f args) w)[hx:EVS g E O vs](h:∀F,Ct c.P f vs (F) (R1 v (M F)))[S:Split L [] F]:OpL c g E L ⟨d, .call {callee:= .value (.func f),args:=O.toArray,argTypes:=ats},ty,pos,af,gu⟩ (R1 v (M F)):=have hx:=hx.p;cX (Pre:=[]) (R:=λF=>R1 v (M F)) J (hx:=⟨hx⟩) h
def uB {c:Cx}{g:Option (Nat×Bool)}{E:dr}{L:List ag}{d:Option Tmp}{ty:TypeId}{pos:String}{af:Array Edge}{gu:Option (Nat×Bool)}{f:FuncId}{O:List Operand}{vs:List Value}{ats:Array TypeId}{A0:ag}{F:List ag}{R:List ag->Value->List ag->Prop}(J:∀args w,(callFunc f args).run c.P w= .ok (.enter f args) w)[hx:EVS g E O vs](h:∀F,Ct c.P f vs (A0::F) (R F))[S:Split L [A0] F]:OpL c g E L ⟨d, .call {callee:= .value (.func f),args:=O.toArray,argTypes:=ats},ty,pos,af,gu⟩ (R F):=have hx:=hx.p;cX (Pre:=[A0]) J (hx:=⟨hx⟩) h
def vB {c:Cx}{g:Option (Nat×Bool)}{E:dr}{L:List ag}{d:Option Tmp}{ty:TypeId}{pos:String}{af:Array Edge}{gu:Option (Nat×Bool)}{f:FuncId}{O:List Operand}{vs:List Value}{ats:Array TypeId}{A0:ag}{F:List ag}{v:Value}{M:List ag->List ag}(J:∀args w,(callFunc f args).run c.P w= .ok (.enter f args) w)[hx:EVS g E O vs](h:∀F,Ct c.P f vs (A0::F) (R1 v (M F)))[S:Split L [A0] F]:OpL c g E L ⟨d, .call {callee:= .value (.func f),args:=O.toArray,argTypes:=ats},ty,pos,af,gu⟩ (R1 v (M F)):=have hx:=hx.p;cX (Pre:=[A0]) (R:=λF=>R1 v (M F)) J (hx:=⟨hx⟩) h
def uC {c:Cx}{g:Option (Nat×Bool)}{E:dr}{L:List ag}{d:Option Tmp}{ty:TypeId}{pos:String}{af:Array Edge}{gu:Option (Nat×Bool)}{f:FuncId}{V:List Operand}{vs:List Value}{ats:Array TypeId}{A0 O:ag}{F:List ag}{R:List ag->Value->List ag->Prop}(J:∀args w,(callFunc f args).run c.P w= .ok (.enter f args) w)[hx:EVS g E V vs](h:∀F,Ct c.P f vs (A0::O::F) (R F))[S:Split L [A0,O] F]:OpL c g E L ⟨d, .call {callee:= .value (.func f),args:=V.toArray,argTypes:=ats},ty,pos,af,gu⟩ (R F):=have hx:=hx.p;cX (Pre:=[A0,O]) J (hx:=⟨hx⟩) h
def vC {c:Cx}{g:Option (Nat×Bool)}{E:dr}{L:List ag}{d:Option Tmp}{ty:TypeId}{pos:String}{af:Array Edge}{gu:Option (Nat×Bool)}{f:FuncId}{V:List Operand}{vs:List Value}{ats:Array TypeId}{A0 O:ag}{F:List ag}{v:Value}{M:List ag->List ag}(J:∀args w,(callFunc f args).run c.P w= .ok (.enter f args) w)[hx:EVS g E V vs](h:∀F,Ct c.P f vs (A0::O::F) (R1 v (M F)))[S:Split L [A0,O] F]:OpL c g E L ⟨d, .call {callee:= .value (.func f),args:=V.toArray,argTypes:=ats},ty,pos,af,gu⟩ (R1 v (M F)):=have hx:=hx.p;cX (Pre:=[A0,O]) (R:=λF=>R1 v (M F)) J (hx:=⟨hx⟩) h
def uD {c:Cx}{g:Option (Nat×Bool)}{E:dr}{L:List ag}{d:Option Tmp}{ty:TypeId}{pos:String}{af:Array Edge}{gu:Option (Nat×Bool)}{f:FuncId}{X:List Operand}{vs:List Value}{ats:Array TypeId}{A0 O V:ag}{F:List ag}{R:List ag->Value->List ag->Prop}(J:∀args w,(callFunc f args).run c.P w= .ok (.enter f args) w)[hx:EVS g E X vs](h:∀F,Ct c.P f vs (A0::O::V::F) (R F))[S:Split L [A0,O,V] F]:OpL c g E L ⟨d, .call {callee:= .value (.func f),args:=X.toArray,argTypes:=ats},ty,pos,af,gu⟩ (R F):=have hx:=hx.p;cX (Pre:=[A0,O,V]) J (hx:=⟨hx⟩) h
def vD {c:Cx}{g:Option (Nat×Bool)}{E:dr}{L:List ag}{d:Option Tmp}{ty:TypeId}{pos:String}{af:Array Edge}{gu:Option (Nat×Bool)}{f:FuncId}{X:List Operand}{vs:List Value}{ats:Array TypeId}{A0 O V:ag}{F:List ag}{v:Value}{M:List ag->List ag}(J:∀args w,(callFunc f args).run c.P w= .ok (.enter f args) w)(hx:evs g E X=some vs)(h:∀F,Ct c.P f vs (A0::O::V::F) (R1 v (M F)))[S:Split L [A0,O,V] F]:OpL c g E L ⟨d, .call {callee:= .value (.func f),args:=X.toArray,argTypes:=ats},ty,pos,af,gu⟩ (R1 v (M F)):=cX (Pre:=[A0,O,V]) (R:=λF=>R1 v (M F)) J (hx:=⟨hx⟩) h
def uE {c:Cx}{g:Option (Nat×Bool)}{E:dr}{L:List ag}{d:Option Tmp}{ty:TypeId}{pos:String}{af:Array Edge}{gu:Option (Nat×Bool)}{f:FuncId}{Y:List Operand}{vs:List Value}{ats:Array TypeId}{A0 O V X:ag}{F:List ag}{R:List ag->Value->List ag->Prop}(J:∀args w,(callFunc f args).run c.P w= .ok (.enter f args) w)[hx:EVS g E Y vs](h:∀F,Ct c.P f vs (A0::O::V::X::F) (R F))[S:Split L [A0,O,V,X] F]:OpL c g E L ⟨d, .call {callee:= .value (.func f),args:=Y.toArray,argTypes:=ats},ty,pos,af,gu⟩ (R F):=have hx:=hx.p;cX (Pre:=[A0,O,V,X]) J (hx:=⟨hx⟩) h
def vE {c:Cx}{g:Option (Nat×Bool)}{E:dr}{L:List ag}{d:Option Tmp}{ty:TypeId}{pos:String}{af:Array Edge}{gu:Option (Nat×Bool)}{f:FuncId}{Y:List Operand}{vs:List Value}{ats:Array TypeId}{A0 O V X:ag}{F:List ag}{v:Value}{M:List ag->List ag}(J:∀args w,(callFunc f args).run c.P w= .ok (.enter f args) w)(hx:evs g E Y=some vs)(h:∀F,Ct c.P f vs (A0::O::V::X::F) (R1 v (M F)))[S:Split L [A0,O,V,X] F]:OpL c g E L ⟨d, .call {callee:= .value (.func f),args:=Y.toArray,argTypes:=ats},ty,pos,af,gu⟩ (R1 v (M F)):=cX (Pre:=[A0,O,V,X]) (R:=λF=>R1 v (M F)) J (hx:=⟨hx⟩) h
def uF {c:Cx}{g:Option (Nat×Bool)}{E:dr}{L:List ag}{d:Option Tmp}{ty:TypeId}{pos:String}{af:Array Edge}{gu:Option (Nat×Bool)}{f:FuncId}{Z:List Operand}{vs:List Value}{ats:Array TypeId}{A0 O V X Y:ag}{F:List ag}{R:List ag->Value->List ag->Prop}(J:∀args w,(callFunc f args).run c.P w= .ok (.enter f args) w)[hx:EVS g E Z vs](h:∀F,Ct c.P f vs (A0::O::V::X::Y::F) (R F))[S:Split L [A0,O,V,X,Y] F]:OpL c g E L ⟨d, .call {callee:= .value (.func f),args:=Z.toArray,argTypes:=ats},ty,pos,af,gu⟩ (R F):=have hx:=hx.p;cX (Pre:=[A0,O,V,X,Y]) J (hx:=⟨hx⟩) h
def vF {c:Cx}{g:Option (Nat×Bool)}{E:dr}{L:List ag}{d:Option Tmp}{ty:TypeId}{pos:String}{af:Array Edge}{gu:Option (Nat×Bool)}{f:FuncId}{Z:List Operand}{vs:List Value}{ats:Array TypeId}{A0 O V X Y:ag}{F:List ag}{v:Value}{M:List ag->List ag}(J:∀args w,(callFunc f args).run c.P w= .ok (.enter f args) w)(hx:evs g E Z=some vs)(h:∀F,Ct c.P f vs (A0::O::V::X::Y::F) (R1 v (M F)))[S:Split L [A0,O,V,X,Y] F]:OpL c g E L ⟨d, .call {callee:= .value (.func f),args:=Z.toArray,argTypes:=ats},ty,pos,af,gu⟩ (R1 v (M F)):=cX (Pre:=[A0,O,V,X,Y]) (R:=λF=>R1 v (M F)) J (hx:=⟨hx⟩) h
def uG {c:Cx}{g:Option (Nat×Bool)}{E:dr}{L:List ag}{d:Option Tmp}{ty:TypeId}{pos:String}{af:Array Edge}{gu:Option (Nat×Bool)}{f:FuncId}{xs:List Operand}{vs:List Value}{ats:Array TypeId}{A0 O V X Y Z:ag}{F:List ag}{R:List ag->Value->List ag->Prop}(J:∀args w,(callFunc f args).run c.P w= .ok (.enter f args) w)(hx:evs g E xs=some vs)(h:∀F,Ct c.P f vs (A0::O::V::X::Y::Z::F) (R F))[S:Split L [A0,O,V,X,Y,Z] F]:OpL c g E L ⟨d, .call {callee:= .value (.func f),args:=xs.toArray,argTypes:=ats},ty,pos,af,gu⟩ (R F):=cX (Pre:=[A0,O,V,X,Y,Z]) J (hx:=⟨hx⟩) h
def vG {c:Cx}{g:Option (Nat×Bool)}{E:dr}{L:List ag}{d:Option Tmp}{ty:TypeId}{pos:String}{af:Array Edge}{gu:Option (Nat×Bool)}{f:FuncId}{xs:List Operand}{vs:List Value}{ats:Array TypeId}{A0 O V X Y Z:ag}{F:List ag}{v:Value}{M:List ag->List ag}(J:∀args w,(callFunc f args).run c.P w= .ok (.enter f args) w)(hx:evs g E xs=some vs)(h:∀F,Ct c.P f vs (A0::O::V::X::Y::Z::F) (R1 v (M F)))[S:Split L [A0,O,V,X,Y,Z] F]:OpL c g E L ⟨d, .call {callee:= .value (.func f),args:=xs.toArray,argTypes:=ats},ty,pos,af,gu⟩ (R1 v (M F)):=cX (Pre:=[A0,O,V,X,Y,Z]) (R:=λF=>R1 v (M F)) J (hx:=⟨hx⟩) h
def uH {c:Cx}{g:Option (Nat×Bool)}{E:dr}{L:List ag}{d:Option Tmp}{ty:TypeId}{pos:String}{af:Array Edge}{gu:Option (Nat×Bool)}{f:FuncId}{xs:List Operand}{vs:List Value}{ats:Array TypeId}{A0 O V X Y Z A6:ag}{F:List ag}{R:List ag->Value->List ag->Prop}(J:∀args w,(callFunc f args).run c.P w= .ok (.enter f args) w)(hx:evs g E xs=some vs)(h:∀F,Ct c.P f vs (A0::O::V::X::Y::Z::A6::F) (R F))[S:Split L [A0,O,V,X,Y,Z,A6] F]:OpL c g E L ⟨d, .call {callee:= .value (.func f),args:=xs.toArray,argTypes:=ats},ty,pos,af,gu⟩ (R F):=cX (Pre:=[A0,O,V,X,Y,Z,A6]) J (hx:=⟨hx⟩) h
def vH {c:Cx}{g:Option (Nat×Bool)}{E:dr}{L:List ag}{d:Option Tmp}{ty:TypeId}{pos:String}{af:Array Edge}{gu:Option (Nat×Bool)}{f:FuncId}{xs:List Operand}{vs:List Value}{ats:Array TypeId}{A0 O V X Y Z A6:ag}{F:List ag}{v:Value}{M:List ag->List ag}(J:∀args w,(callFunc f args).run c.P w= .ok (.enter f args) w)(hx:evs g E xs=some vs)(h:∀F,Ct c.P f vs (A0::O::V::X::Y::Z::A6::F) (R1 v (M F)))[S:Split L [A0,O,V,X,Y,Z,A6] F]:OpL c g E L ⟨d, .call {callee:= .value (.func f),args:=xs.toArray,argTypes:=ats},ty,pos,af,gu⟩ (R1 v (M F)):=cX (Pre:=[A0,O,V,X,Y,Z,A6]) (R:=λF=>R1 v (M F)) J (hx:=⟨hx⟩) h
end Go.Sl
namespace Go.Sl
def BS (l:List Value):∀(off k:Nat) (cs:Array Value),(l.zipIdx k).foldl (λcs (p:Value×Nat)=>cs.setIfInBounds (off+p.2) p.1) cs=cT cs (off+k) l:=by
 induction l with
 | nil=>intros;rfl
 | cons v l J=>simp_all[cT,YE]
theorem Af (a cs:Array Value)(off:Nat):a.zipIdx.foldl (λcs (p:Value×Nat)=>cs.setIfInBounds (off+p.2) p.1) cs=cT cs off a.toList:=by
 have:=BS a.toList off 0 cs;rw[<-Array.foldl_toList];simpa using this
def pS (k:Nat):List Value->List (Nat×Value)
 | []=>[]
 | v::vs=>(k,v)::pS (k+1) vs
def Hr (sz:Nat):∀(vs:List Value) (k:Nat) (J:Array Value),(∀v∈vs,v.cells.size=sz)->(k+vs.length)*sz<=J.size->
  ∃O,Instr.fill (λi=>some (i*sz,sz)) J (pS k vs)=some O/\O.size=J.size/\(∀j v,vs[j]? =some v->∀f u,v.cells[f]? =some u->O[(k+j)*sz+f]? =some u)/\(∀p,p<k*sz->O[p]? =J[p]?)
 | [],k,J,_,_=>⟨J,rfl,rfl,λj v h=>by simp at h,λ_ _=>rfl⟩
 | v::vs,k,J,hv,S=>by
  have h0:=hv v (by simp);have hk:(k+(vs.length+1))*sz=k*sz+vs.length*sz+sz:=(by grind);simp only[YF] at S;have V:k*sz+sz<=J.size:=(by omega);have R:(k+1+vs.length)*sz<=(cT J (k*sz) v.cells.toList).size:=by
   grind[fx]
  obtain ⟨O,h1,X,h3,h4⟩:=Hr sz vs (k+1) (cT J (k*sz) v.cells.toList) (λu Y=>hv u (by simp[Y])) R;have Z:(k+1)*sz=k*sz+sz:=(by grind);refine ⟨O,?_,by rw[X,fx],λj u hj f x hf=>?_,λp hp=>?_⟩
  ·grind[pS,Instr.fill,Af]
  ·cases j with
   | zero=>
    grind[iI]
   | succ j=>
    grind
  grind[iI]
def S7 (g:Option (Nat×Bool))(E:dr):Nat->List (Nat×Operand)->Option (List Value)
 | _,[]=>some []
 | k,(i,x)::ps=>match Nat.beq i k with
  | true=>match ev g E x with
   | some v=>match S7 g E (k+1) ps with | some vs=>some (v::vs) | none=>none
   | none=>none
  | false=>none
class EVP (g:Option (Nat×Bool))(E:dr)(k:Nat)(x:List (Nat×Operand))(v:outParam (List Value)):Prop where p:S7 g E k x=some v
instance {g:Option (Nat×Bool)}{E:dr}{k:Nat}:EVP g E k [] []:=⟨rfl⟩
instance {g:Option (Nat×Bool)}{E:dr}{k:Nat}{x:Operand}{y:List (Nat×Operand)}{v:Value}{m:List Value}[h:EV g E x v][j:EVP g E (k+1) y m]:EVP g E k ((k,x)::y) (v::m):=⟨by simp [S7,h.p,j.p]⟩
def KS {n:Nd}{E:dr}{a:Act}{g:Option (Nat×Bool)}(h:EOk n E a)(R:gd g a):∀{O:List (Nat×Operand)} {k:Nat} {vs:List Value},S7 g E k O=some vs->O.map (λp=>(p.1,a.eval p.2))=pS k vs
 | [],k,vs,hl=>by injection hl with hl;subst hl;rfl
 | (i,x)::O,k,vs,hl=>by
  unfold S7 at hl;split at hl
  ·rename_i S;have:=Yn S;subst this;split at hl
   ·rename_i v hv;split at hl
    ·rename_i V J;injection hl with hl;subst hl;simp[pS,h.ev R hv,KS h R J]
    ·cases hl
   ·cases hl
  ·cases hl
section
variable {c:Cx}{g:Option (Nat×Bool)}{E:dr}{L L':List ag}{d:Option Tmp}{ty:TypeId}{pos:String}{af:Array Edge}{gu:Option (Nat×Bool)}
variable {x y z:Operand}{t u e:TypeId}{k:IntKind}{v:Value}{s:Option Addr}{b o i j n sz cap off:Nat}
def av {vs:List Value}{parts:List (Nat×Operand)}{zv:Value}(rows:List (List Value))(hu:c.P.underlying t=some (.slice e))(hz:∀w,(sizeOf e).run c.P w= .ok sz w)(Y:∀w,(zeroValue e).run c.P w= .ok zv w)[hx:EVP g E 0 parts vs](V:∀r∈rows,r.length=sz)(hn:vs.length=n:=by exact rfl)(hr:vs.map (λv=>v.cells.toList)=rows:=by exact rfl)(hb:n*sz<=16777216:=by decide)(h0:0<n*sz:=by decide):
  OpL c g E L ⟨d, .buildSlice t n parts.toArray,ty,pos,af,gu⟩ λv L'=>∃b,v=sl (some ⟨b,0,none⟩) n n/\L'=bi e sz (some ⟨b,0,none⟩) n rows::L:=have hx:=hx.p;
 .of_run λa w hE hg hS=>by
  have hp:=KS hE hg hx;have X:∀v∈vs,v.cells.size=sz:=λv hv=>by
   grind[List.mem_map_of_mem]
  obtain ⟨J,h1,Z,h3,h4⟩:=Hr sz vs 0 ((Array.range (n*sz)).map (zv.cells[· % zv.cells.size]!)) X (by simp[hn]);have O:Rows (.cells J e (0,0)) 0 sz rows:=λj row hj f u hf=>by
   grind[bG]
  refine ⟨sl (some ⟨w.heap.size,0,none⟩) n n,{w with heap:=w.heap.push (.cells J e (0,0))},bi e sz (some ⟨w.heap.size,0,none⟩) n rows::L,?_,?_,_,rfl,rfl⟩
  ·have S:¬n*sz > 2 ^ 24:=(by omega);have R:n*sz≠0:=(by omega);simp only[execOp,Instr.buildSlice];simp[underlying,program,Sem.run,hu,hz,Y,S,R,hp,h1,newRow,newObj,sl]
  ·refine (hS.alloc _).weak λm hm=> .inr ⟨_,J,rfl,hm,by rw[Z];simp,?_,V,O⟩;rw[<-hr];simp[hn]
def kD {sz:Nat}(h0:0<sz):∀(rows:List (List Value)),(∀r∈rows,r.length=sz)->∀k,rows.flatten[k]? =(rows[k / sz]?).bind (·[k % sz]?)
 | [],_,k=>by simp
 | r::rows,h,k=>by
  have hr:=h r (by simp);have O:=kD h0 rows (λu J=>h u (by simp[J]))
  grind[Nat.div_eq_of_lt,Nat.mod_eq_of_lt,List.getElem?_append_right,Nat.div_eq_sub_div,Nat.mod_eq_sub_mod]
theorem dT {sz:Nat}:∀(rows:List (List Value)),(∀r∈rows,r.length=sz)->rows.flatten.length=rows.length*sz
 | [],_=>by simp
 | r::rows,h=>by
  simp[dT rows (λu J=>h u (by simp[J])),h r (by simp),YK,Nat.add_comm]
theorem Rows.flat {J:Obj}{off sz:Nat}{rows:List (List Value)}(h:Rows J off sz rows)(h0:0<sz)(hl:∀r∈rows,r.length=sz){k:Nat}{v:Value}(hk:rows.flatten[k]? =some v):bG J (off+k)=some v:=by
 rw[kD h0 rows hl] at hk;simp only[Option.bind_eq_some_iff] at hk;obtain ⟨row,h1,O⟩:=hk;have:=h _ row h1 _ v O
 grind[Nat.div_add_mod]
def dz {w0 w:World}{T:TypeId}{rows:List (List Value)}(h:Sat w0 w (bi T sz s cap rows::L)):(s=none/\rows=[]/\cap=0/\Sat w0 w L)\/
  ∃b cs,s=some ⟨b,0,none⟩/\cs.size=cap*sz/\rows.length<=cap/\(∀row∈rows,row.length=sz)/\Rows (.cells cs T (0,0)) 0 sz rows/\Sat w0 w (pt b (.cells cs T (0,0))::L):=by
 have S:=h;obtain ⟨h1,V,X,Y,f,O,hd⟩:=h;rcases (O 0 _ rfl).1 with ⟨J,a2,a3⟩ | ⟨b,cs,J,a2,a3,a4,a5,R⟩
 ·exact .inl ⟨J,a2,a3,S.tail⟩
 ·refine .inr ⟨b,cs,J,a3,a4,a5,R,h1,V,X,Y,f,λi A hA=>?_,hd⟩;cases i with
  | zero=>simp at hA;subst hA;exact ⟨a2,(O 0 _ rfl).2⟩
  | succ i=>exact O (i+1) A (by simpa using hA)
def fy {w0 w:World}{T:TypeId}{rows:List (List Value)}{cs:Array Value}(h:Sat w0 w (pt b (.cells cs T (0,0))::L))(h1:cs.size=cap*sz)(J:rows.length<=cap)(O:∀row∈rows,row.length=sz)(R:Rows (.cells cs T (0,0)) 0 sz rows):
 Sat w0 w (bi T sz (some ⟨b,0,none⟩) cap rows::L):=h.weak λm hm=> .inr ⟨b,cs,rfl,hm,h1,J,O,R⟩
def Oi {w0 w:World}(T sz:Nat)(h:Sat w0 w L):Sat w0 w (bi T sz none 0 []::L):=(h.pure_mk trivial).weak (A:=kz True) λm _=> .inl ⟨rfl,rfl,rfl⟩
def Q0 {w0 w:World}{T:TypeId}{rows:List (List Value)}(h:Sat w0 w (bi T sz s cap rows::L)):Sat w0 w (roL sz s rows::L):=by
 rcases dz h with ⟨rfl,rfl,rfl,J⟩ | ⟨b,cs,rfl,O,a2,a3,a4,J⟩
 ·exact (Sat.pure_mk (φ:=True) trivial J).weak λm _=>Or.inl rfl
 ·exact J.freeze.weak λm hm=> .inr ⟨b,0,_,rfl,hm,a4⟩
class OwR (L:List ag) (s:Option Addr) (T sz cap:outParam Nat) (rows:outParam (List (List Value))) (F:outParam (List ag)):Prop where
 out:∃i,L[i]? =some (bi T sz s cap rows)/\F=L.eraseIdx i
instance (priority:=high) OwR.head {T:Nat}{rows:List (List Value)}:OwR (bi T sz s cap rows::L) s T sz cap rows L:=⟨0,rfl,rfl⟩
instance (priority:=low) OwR.tail {A:ag}{T:Nat}{rows:List (List Value)}{F:List ag}[h:OwR L s T sz cap rows F]:OwR (A::L) s T sz cap rows (A::F):=⟨let ⟨i,h1,h2⟩:=h.out;⟨i+1,by simpa using h1,by simp[h2]⟩⟩
theorem OwR.sat {w0 w:World}{T:Nat}{rows:List (List Value)}{F:List ag}(r:OwR L s T sz cap rows F)(h:Sat w0 w L):Sat w0 w (bi T sz s cap rows::F):=by
 obtain ⟨i,h1,rfl⟩:=r.out;exact h.front h1
theorem AC (J:Nat):∀(r c:Nat),c<J->Builtin.growBy J r c<=2*J+192
 | 0,c,h=>by simp[Builtin.growBy];omega
 | r+1,c,h=>by
  unfold Builtin.growBy;split
  ·omega
  ·by_cases O:c+(c+768) / 4<J
   ·exact AC J r _ O
   ·cases r with
    | zero=>simp[Builtin.growBy];omega
    | succ r=>grind[Builtin.growBy]
def rP (J O:Nat)(h:O<J):Builtin.nextslicecap J O<=2*J+192:=by
 grind[Builtin.nextslicecap,AC]
def nD {P:Program}{w:World}{rows:List (List Value)}(h0:0<sz)(hl:∀r∈rows,r.length=sz)(hn:rows.length=n)(h:rows=[]\/∃b off o,s=some ⟨b,off,none⟩/\w.heap[b]? =some o/\Rows o off sz rows):
  (Builtin.firstCells sz n (sl s n cap)).run P w= .ok rows.flatten.toArray w:=by
 rcases h with rfl | ⟨b,off,o,rfl,hh,J⟩
 ·simp at hn;subst hn;cases s with
  | none=>simp[Builtin.firstCells,sl,Sem.run_pure]
  | some p=>simp[Builtin.firstCells,sl,loadCells,loadCellsFrom]
 ·have:=fN (P:=P) (w:=w) b (n*sz) 0 off #[] rows.flatten (by grind[dT]) (λk v hk=>by
   have:=iH hh (J.flat h0 hl hk);simpa using this)
  grind[Builtin.firstCells,sl,loadCells]
theorem Rows.app {o:Obj}{off:Nat}{r1 r2:List (List Value)}(h1:Rows o off sz r1)(S:Rows o (off+r1.length*sz) sz r2):Rows o off sz (r1++r2):=λj row hj f v R=>by
 rcases YL j r1.length with O | J
 ·rw[Yy O] at hj;exact h1 j row hj f v R
 ·rw[YJ J] at hj;have:=S _ row hj f v R;have e:off+r1.length*sz+((j - r1.length)*sz+f)=off+(j*sz+f):=by
   obtain ⟨q,rfl⟩:∃q,j=r1.length+q:=⟨j - r1.length,by omega⟩
   grind
  rwa [e] at this
theorem Rows.of_flat {cs:Array Value}{T:TypeId}{off:Nat}{rows:List (List Value)}(h0:0<sz)(hl:∀r∈rows,r.length=sz)(h:∀k v,rows.flatten[k]? =some v->cs[off+k]? =some v):Rows (.cells cs T (0,0)) off sz rows:=λj row hj f v O=>by
 have J:f<sz:=(by grind);refine h _ v ?_;rw[kD h0 rows hl,show (j*sz+f) / sz=j by grind[Nat.mul_comm,Nat.mul_add_div,Nat.div_eq_of_lt],show (j*sz+f) % sz=f by rw[YM,YO,YI J]];simp[hj,O]
def nE {P:Program}{w:World}:(Builtin.lenOf (sl s n cap)).run P w= .ok n w:=by simp[Builtin.lenOf,sl,Sem.run_pure]
def mP {P:Program}{w:World}(k:Nat):(askRoom k).run P w= .ok () w:=by
 simp_all
def lV {P:Program}{w w':World}{base:Option Addr}{X:Value}{m:Nat}{new:Array Value}(R:P.underlying t=some (.slice e))(S:∀w,(sizeOf e).run P w= .ok sz w)(hl:(Builtin.lenOf X).run P w= .ok m w)(O:(Builtin.firstCells sz m X).run P w= .ok new w)(J:n+m<=cap)
  (hs:(match base with | some a=>storeCells (a.add (n*sz)) new.toList | none=>(pure ():Sem Unit)).run P w= .ok () w'):(Builtin.append_ #[t,t] ty #[.slice base n cap,X]).run P w= .ok (.slice base (n+m) cap) w':=by
 unfold Builtin.append_;cases base with
 | none=>
  have e:w=w':=(by injection hs);subst e;simp[underlying,program,Sem.run,R,S,hl,O,J]
 | some a=>simp only[] at hs;simp[underlying,program,Sem.run,R,S,hl,O,J,hs]
def wv {P:Program}{w:World}{base:Option Addr}{X zv:Value}{m:Nat}{old new:Array Value}{J:TypeInfo}(Z:P.underlying t=some (.slice e))(hz:∀w,(sizeOf e).run P w= .ok sz w)(hzv:∀w,(zeroValue e).run P w= .ok zv w)(S:∀w,(typeInfo e).run P w= .ok J w)
  (hl:(Builtin.lenOf X).run P w= .ok m w) (hf:(Builtin.firstCells sz m X).run P w.drew= .ok new w.drew) (ho:(Builtin.firstCells sz n (.slice base n cap)).run P w.drew= .ok old w.drew) (R:cap<n+m) (Y:n+m<=1073741824/\0<J.bytes/\J.bytes<=4096):
  ∃O,n+m<=O/\(Builtin.append_ #[t,t] ty #[.slice base n cap,X]).run P w= .ok (.slice (some ⟨w.heap.size,0,none⟩) (n+m) O) (w.drew.alloc (.cells (old++new++Builtin.zeroCells zv.cells (O - (n+m))) e (0,0))):=by
 have c1:¬n+m<=cap:=(by omega);have c3:¬(Builtin.nextslicecap (n+m) cap*J.bytes > 2 ^ 48):=by
  have h1:=rP (n+m) cap R;have h2:Builtin.nextslicecap (n+m) cap*J.bytes<=(2*1073741824+192)*4096:=YP (by omega) Y.2.2;omega
 have V:=λ(w:World) (k:Nat)=>mP (P:=P) (w:=w) k;refine ⟨(Question.appendCap (n+m) cap e).cut (w.tape w.drawn (.appendCap (n+m) cap e)),by simp[Question.cut],?_⟩;have e0:J.bytes≠0:=(by omega);unfold Builtin.append_;simp[underlying,program,Sem.run,Z,hz,hl,c1,S,choose,Question.forced];rw[YC (by omega),YC (by simpa using c3)]
 simp_all[newRow]
end
end Go.Sl
namespace Go.Sl
section
variable {c:Cx}{g:Option (Nat×Bool)}{E:dr}{L L':List ag}{d:Option Tmp}{ty:TypeId}{pos:String}{af:Array Edge}{gu:Option (Nat×Bool)}
variable {x y z:Operand}{t u e:TypeId}{k:IntKind}{v:Value}{s:Option Addr}{b o i j n sz cap off:Nat}
def mQ {a:Act}{w:World}{P:Program}{X Y:Value}{r:Result Value}(hx:a.eval x=X)(hy:a.eval y=Y)(h:(Builtin.append_ #[t,u] ty #[X,Y]).run P w=r):
  (execOp a.eval ⟨d, .call {callee:= .builtin .append,args:=#[x,y],argTypes:=#[t,u]},ty,pos,af,gu⟩).run P w=r.andThen λv w'=> .ok (.value v) w':=by
 simp_all[execOp,resolve,invoke,builtin]
def oD {cs:Array Value}{T:TypeId}{rows news:List (List Value)}(h0:0<sz)(hcs:cs.size=cap*sz)(J:rows.length+news.length<=cap)(hl:∀r∈rows,r.length=sz)(O:∀r∈news,r.length=sz)(hr:Rows (.cells cs T (0,0)) 0 sz rows):
  rows.length*sz+news.flatten.length<=cs.size/\Rows (.cells (cT cs (rows.length*sz) news.flatten) T (0,0)) 0 sz (rows++news):=by
 have S:rows.length*sz+news.flatten.length<=cs.size:=by
  rw[dT news O,hcs,<-YK];exact YQ _ J
 refine ⟨S,Rows.app (λj row hj f v V=>?_) (Rows.of_flat h0 O λk v hk=>?_)⟩
 ·have:=hr j row hj f v V;simp only[bG,YR] at this ⊢;have R:=(Yh.1 hj).1;have X:f<sz:=(by grind);have:j*sz+f<rows.length*sz:=by
   have:(j+1)*sz<=rows.length*sz:=YQ _ R
   grind
  grind[iI]
 grind[iI]
def oE {T:TypeId}{rows news:List (List Value)}{rest:Array Value}(h0:0<sz)(hl:∀r∈rows,r.length=sz)(J:∀r∈news,r.length=sz):
  Rows (.cells (rows.flatten.toArray++news.flatten.toArray++rest) T (0,0)) 0 sz (rows++news):=by
 grind[Rows.of_flat]
def j8 (zv:Array Value)(k:Nat):(Builtin.zeroCells zv k).size=k*zv.size:=by simp[Builtin.zeroCells]
def bo {s2:Option Addr}{m cap2:Nat}{zv:Value}{Z:TypeInfo}{T:Nat}{rows news:List (List Value)}{F:List ag}(hu:c.P.underlying t=some (.slice T))(hz:∀w,(sizeOf T).run c.P w= .ok sz w)(hzv:∀w,(zeroValue T).run c.P w= .ok zv w)(hti:∀w,(typeInfo T).run c.P w= .ok Z w)[hx:EV g E x (sl s n cap)][hy:EV g E y (sl s2 m cap2)][R:OwR L s T sz cap rows F][Y:SlR F s2 sz news](hnl:∀r∈news,r.length=sz)(h1:∀r∈news,ones r=true)(hb:n+m<=1073741824/\0<Z.bytes/\Z.bytes<=4096)(hzs:zv.cells.size=sz:=by exact rfl)(h0:0<sz:=by decide)(hn:rows.length=n:=by exact rfl)(hm:news.length=m:=by exact rfl):
  OpL c g E L ⟨d, .call {callee:= .builtin .append,args:=#[x,y],argTypes:=#[t,t]},ty,pos,af,gu⟩ λv L'=>∃s' cap',v=sl s' (n+m) cap'/\L'=bi T sz s' cap' (rows++news)::F:=have hx:=hx.p;have hy:=hy.p;
 .of_run λa w hE hg hS=>by
  subst hn hm;have V:=R.sat hS;have hY:=Y.out _ _ V.tail;have J:∀w':World,w'.heap=w.heap->(Builtin.firstCells sz news.length (sl s2 news.length cap2)).run c.P w'= .ok news.flatten.toArray w':=λw' hw'=>nD h0 hnl rfl (by rw[hw'];exact hY);have fl1:ones news.flatten=true:=kP λv hv=>by
   obtain ⟨r,hr,hv⟩:=YS.1 hv;exact j7 (h1 r hr) v hv
  have ex:=λw' v h=>mQ (d:=d) (ty:=ty) (pos:=pos) (af:=af) (gu:=gu) (t:=t) (u:=t) (r:= .ok v w') (P:=c.P) (w:=w) (hE.ev hg hx) (hE.ev hg hy) h;by_cases X:rows.length+news.length<=cap
  ·rcases dz V with ⟨rfl,rfl,rfl,hF⟩ | ⟨b,cs,rfl,a1,a2,a3,a4,hP⟩
   ·have hnews0:news=[]:=YT.1 (by omega);subst hnews0;refine ⟨sl none (0+0) 0,w,_,ex w _ ?_,V,none,0,rfl,by simp⟩;exact lV (base:=none) hu hz nE (J w rfl) (by simp) rfl
   ·obtain ⟨hle,hrows⟩:=oD (T:=T) h0 a1 X a3 hnl a4;have hst:=dy (P:=c.P) b (rows.length*sz) T news.flatten w cs 0 hP.at_ (by omega) fl1;refine ⟨sl (some ⟨b,0,none⟩) (rows.length+news.length) cap,kC w b (.cells (cT cs (rows.length*sz) news.flatten) T (0,0)),_,ex _ _ ?_,?_,some ⟨b,0,none⟩,cap,rfl,rfl⟩
    ·exact lV (base:=some ⟨b,0,none⟩) hu hz nE (J w rfl) X (by simpa [ga] using hst)
    ·refine fy (hP.set (o':= .cells (cT cs (rows.length*sz) news.flatten) T (0,0)) rR) (by rw[fx,a1]) (by simpa using X) ?_ hrows
     grind
  ·have O:(∀r∈rows,r.length=sz)/\(rows=[]\/∃b off o,s=some ⟨b,off,none⟩/\w.heap[b]? =some o/\Rows o off sz rows):=by
    rcases dz V with ⟨rfl,rfl,rfl,hF⟩ | ⟨b,cs,rfl,a1,a2,a3,a4,hP⟩
    ·exact ⟨by simp, .inl rfl⟩
    ·exact ⟨a3, .inr ⟨b,0,_,rfl,hP.at_,a4⟩⟩
   have hfo:(Builtin.firstCells sz rows.length (sl s rows.length cap)).run c.P w.drew= .ok rows.flatten.toArray w.drew:=nD h0 O.1 rfl O.2;obtain ⟨S,hc,hrun⟩:=wv (ty:=ty) (t:=t) (cap:=cap) (n:=rows.length) hu hz hzv hti nE (J w.drew rfl) hfo (by omega) hb;refine ⟨_,_,_,ex _ _ hrun,?_,some ⟨w.heap.size,0,none⟩,S,rfl,rfl⟩;have hS2:Sat c.w0 (w.drew.alloc (.cells (rows.flatten.toArray++news.flatten.toArray++Builtin.zeroCells zv.cells (S - (rows.length+news.length))) T (0,0))) _:=(V.tail.drew (w.drawn+1)).alloc _;refine fy hS2 ?_ (by simpa using hc) ?_ (oE h0 O.1 hnl)
   ·simp only[YU,YV,dT rows O.1,dT news hnl,j8,hzs];rw[<-YK,<-YK];congr 1;omega
   grind
end
end Go.Sl
namespace Go.Sl
def bB (cs:Array Value):(Value.agg cs).cells=cs:=rfl
def bP {v:Value}(h:one v=true):v.cells=#[v]:=by cases v <;> first | rfl | cases h
section
variable {c:Cx}{g:Option (Nat×Bool)}{E:dr}{L L':List ag}{d:Option Tmp}{ty:TypeId}{pos:String}{af:Array Edge}{gu:Option (Nat×Bool)}{K:List KI}
variable {x y z:Operand}{t u e:TypeId}{k:IntKind}{v:Value}{s:Option Addr}{b o i j n sz cap off:Nat}
theorem Rows.set {cs:Array Value}{T:TypeId}{rows:List (List Value)}{row:List Value}{f:Nat}(hl:∀r∈rows,r.length=sz)(hr:Rows (.cells cs T (0,0)) 0 sz rows)(hj:rows[j]? =some row)(hf:f<sz)(Y:j*sz+f<cs.size):
  Rows (.cells (cs.setIfInBounds (j*sz+f) v) T (0,0)) 0 sz (rows.set j (row.set f v)):=λi r hi O u V=>by
 have S:=(Yh.1 hj).1;have Z:=hl row (YW hj);simp only[bG,YR];by_cases J:i=j
 ·subst J;rw[Ys S] at hi;injection hi with hi;subst hi;by_cases R:O=f
  ·grind
  ·rw[Yt (Ne.symm R)] at V;rw[Yl (by omega)];simpa [bG] using hr i row hj O u V
 ·rw[Yt (Ne.symm J)] at hi;have X:O<sz:=(by grind);have hne:j*sz+f≠i*sz+O:=by
   intro he;rcases YX J with h | h
   ·have:(i+1)*sz<=j*sz:=YQ _ h
    grind
   ·have:(j+1)*sz<=i*sz:=YQ _ h
    grind
  rw[Yl hne];simpa [bG] using hr i r hi O u V
def BT {rows:List (List Value)}{row:List Value}{f:Nat}(hl:∀r∈rows,r.length=sz)(hj:rows[j]? =some row):∀r∈rows.set j (row.set f v),r.length=sz:=λr hr=>by
 grind
def sK {rows:List (List Value)}{row:List Value}{f:Nat}{T:Nat}{F:List ag}(hz:∀w,(sizeOf t).run c.P w= .ok 1 w)[hx:EV g E x (Ae s (j*sz+f))][hy:EV g E y v][R:OwR L s T sz cap rows F](hj:rows[j]? =some row)(Z:f<sz)(h1:one v=true:=by exact rfl):
  OpL c g E L ⟨d, .store t x y,ty,pos,af,gu⟩ λ_ L'=>L'=bi T sz s cap (rows.set j (row.set f v))::F:=have hx:=hx.p;have hy:=hy.p;
 .of_skip λa w O V Y=>by
  rcases dz (R.sat Y) with ⟨rfl,rfl,rfl,_⟩ | ⟨b,cs,rfl,X,a2,a3,a4,S⟩
  ·simp at hj
  ·have hjl:=(Yh.1 hj).1;have J:j*sz+f<cs.size:=by
    have:(j+1)*sz<=cap*sz:=YQ _ (by omega)
    grind
   have hr:=dy (P:=c.P) b (j*sz+f) T [v] w cs 0 S.at_ (by simp;omega) (by simp[ones,h1]);refine ⟨_,_,?_,fy (S.set (o':= .cells (cs.setIfInBounds (j*sz+f) v) T (0,0)) rfl) (by simpa using X) (by simpa using a2) (BT a3 hj) (a4.set a3 hj Z J),rfl⟩;simp only[execOp,O.ev V hx,O.ev V hy,Instr.storeAt,Instr.sureAddr,storeVar,Ae,Option.map_some,ga,YR,Sem.run_bind,Sem.run_pure,Result.andThen_ok]
   simp_all[bP,cT,kC]
def bH (T sz:Nat)(rows:List (List Value))(h:G c K E (bi T sz none 0 rows::L))(hr:rows=[]:=by exact rfl):G c K E L:=λa w J O=>h a w J (hr ▸ Oi T sz O)
def sM (sz:Nat)(rows:List (List Value))(h:G c K E (roL sz none rows::L))(hr:rows=[]:=by exact rfl):G c K E L:=λa w J O=>h a w J ((Sat.pure_mk (φ:=True) trivial O).weak λm _=>Or.inl hr)
def bR {rows:List (List Value)}{T:Nat}{F:List ag}(s:Option Addr)[R:OwR L s T sz cap rows F](h:G c K E (roL sz s rows::F)):G c K E L:=λa w J O=>h a w J (Q0 (R.sat O))
def fv (T:Nat)(f:Int):Value:=if f=0 then .nilIface else .iface T (I f)
def Oj {P:Program}{w:World}{R:Array (String×TypeId)}{T:Nat}{f:Int}(n:Nat)(O:P.underlying t=some (.interface R)):(Op.equalIn (n+1) t (fv T f) .nilIface).run P w= .ok (decide (f=0)) w:=by
 unfold fv;by_cases J:f=0
 ·simp[J,Op.equalIn,underlying,program,Sem.run,O]
 ·simp[J,Op.equalIn,underlying,program,Sem.run,O]
def rq {P:Program}{w:World}{O:Array (String×TypeId)}{T:Nat}{f:Int}(J:P.underlying t=some (.interface O)):(Op.equal t (fv T f) .nilIface).run P w= .ok (decide (f=0)) w:=Oj 9999 J
def vU {P:Program}{w:World}{T:Nat}{f:Int}{op:BinOp}:(eqGuard op t x (.const .nilIface) (fv T f) .nilIface).run P w= .ok () w:=by
 unfold fv;by_cases J:f=0 <;> cases op <;> simp[J,eqGuard]
def fO {Y:Array (String×TypeId)}{T:Nat}{f:Int}(X:c.P.underlying t=some (.interface Y))[hx:EV g E x (fv T f)]:OpV c g E L ⟨d, .binOp .eql t x (.const .nilIface) u,ty,pos,af,gu⟩ (.bool (decide (f=0))):=have hx:=hx.p;.mk λa w S V Z=>by
 have h1:=rq (P:=c.P) (w:=w) (T:=T) (f:=f) X;have J:=vU (P:=c.P) (w:=w) (t:=t) (x:=x) (T:=T) (f:=f) (op:= .eql);have O:a.eval (.const .nilIface)= .nilIface:=rfl;have R:binOp .eql t (fv T f) .nilIface=(do pure (.bool (<-Op.equal t (fv T f) .nilIface))):=by
  grind[binOp]
 simp[execOp,S.ev V hx,O,J,R,h1]
def ck {Y:Array (String×TypeId)}{T:Nat}{f:Int}(X:c.P.underlying t=some (.interface Y))[hx:EV g E x (fv T f)]:OpV c g E L ⟨d, .binOp .neq t x (.const .nilIface) u,ty,pos,af,gu⟩ (.bool (!decide (f=0))):=have hx:=hx.p;.mk λa w S V Z=>by
 have h1:=rq (P:=c.P) (w:=w) (T:=T) (f:=f) X;have J:=vU (P:=c.P) (w:=w) (t:=t) (x:=x) (T:=T) (f:=f) (op:= .neq);have O:a.eval (.const .nilIface)= .nilIface:=rfl;have R:binOp .neq t (fv T f) .nilIface=(do pure (.bool (!(<-Op.equal t (fv T f) .nilIface)))):=by
  grind[binOp]
 simp[execOp,S.ev V hx,O,J,R,h1]
def Jg {k:IntKind}{T:Nat}{f:Int}(X:c.P.underlying T=some (.int k))(hx:ev g E x=some (fv T f))(R:f≠0):OpV c g E L ⟨d, .typeAssert x t T true,ty,pos,af,gu⟩ (.tuple #[I f, .bool true]):= .mk λa w O S V=>by
 have J:=O.ev S hx;simp only[fv,R,if_false] at J
 simp_all[execOp,Instr.typeAssert,underlying]
def KU {v1 v2:Array Value}{b:Bool}(O:c.P.eqGuardType c.P.depth t=false)(hx:ev g E x=some (.agg v1))(hy:ev g E y=some (.agg v2))(J:∀w,(Op.equal t (.agg v1) (.agg v2)).run c.P w= .ok b w):OpV c g E L ⟨d, .binOp .eql t x y u,ty,pos,af,gu⟩ (.bool b):= .mk λa w R S V=>by
 simp[execOp,R.ev S hx,R.ev S hy,eqGuard,program,Sem.run,O,binOp,J]
def xI {v1 v2:Array Value}{b:Bool}(O:c.P.eqGuardType c.P.depth t=false)[hx:EV g E x (.agg v1)][hy:EV g E y (.agg v2)](J:∀w,(Op.equal t (.agg v1) (.agg v2)).run c.P w= .ok b w):OpV c g E L ⟨d, .binOp .neq t x y u,ty,pos,af,gu⟩ (.bool (!b)):=have hx:=hx.p;have hy:=hy.p;.mk λa w R S V=>by
 simp[execOp,R.ev S hx,R.ev S hy,eqGuard,program,Sem.run,O,binOp,J]
def sO {P:Program}{w:World}{k:IntKind}{a b:Int}(n:Nat)(J:P.underlying t=some (.int k)):(Op.equalIn (n+1) t (I a) (I b)).run P w= .ok (decide (a=b)) w:=by
 simp[Op.equalIn,underlying,program,Sem.run,J,DT]
def Uv (a b:List UInt8):((⟨⟨a⟩⟩:ByteArray)==⟨⟨b⟩⟩)=decide (a=b):=by
 have:((⟨⟨a⟩⟩:ByteArray)==⟨⟨b⟩⟩)=((⟨a⟩:Array UInt8)==⟨b⟩):=rfl;rw[this,DT];simp
def BU {P:Program}{w:World}{a b:List UInt8}(n:Nat)(J:P.underlying t=some .string):(Op.equalIn (n+1) t (aC a) (aC b)).run P w= .ok (decide (a=b)) w:=by
 have:=Uv a b;simp[Op.equalIn,underlying,program,Sem.run,J,this]
def Ok {P:Program}{w:World}{a b:Bool}(n:Nat)(J:P.underlying t=some .bool):(Op.equalIn (n+1) t (Bo a) (Bo b)).run P w= .ok (decide (a=b)) w:=by
 simp[Op.equalIn,underlying,program,Sem.run,J,DT]
def ww (T sz n:Nat)(rows:List (List Value))(F:List ag):Value->List ag->Prop:=λv L'=>∃s cap,v=sl s n cap/\L'=bi T sz s cap rows::F
def df {vs:List Value}{T m:Nat}{rows:List (List Value)}{F:List ag}(O:c.R=ww T sz n rows F)(hr:gm E c.fn.results.toList=some vs)(hv:rN vs=sl s m cap)(hn:m=n)[S:Sub L (bi T sz s cap rows::F)](hds:c.n.ds=[]:=by rfl):G c (.code .ret::K) E L:=
 λa w J V=>wp_ret (bX (aW (hds:=hds) hr J (S.sat V) (by rw[O];exact ⟨s,cap,by rw[hv,hn],rfl⟩)))
variable {all rest:List Oper}{dd:Nat}{op:Op}{N:Value->List ag->Prop}
def bc {i s:Nat}{b J:Bool}[hi:DS all i s][hs:LK none E s (.bool b)](h:OpV c none E L ⟨some dd,op,ty,pos,af,some (i,J)⟩ v)(k:G c (.ops all rest::K) ((dd,none,v)::E) L)(hw:b=J:=by exact rfl)(hd:lE c.n dd E=true:=by exact rfl):G c (.ops all (⟨some dd,op,ty,pos,af,some (i,J)⟩::rest)::K) E L:=have hi:=hi.p;have hs:=hs.p;λa w O R=>by
 have hy:=jk (a:=a) hi O hs;refine wpList_step λS hk=>?_;rw[YB (by grind[Region.wanted])];exact qz h O (cR a) R (hk _ _ (k _ w (O.put1 hd) R))
def rQ {i s:Nat}{b J:Bool}[hi:DS all i s][hs:LK none E s (.bool b)](h:OpL c none E L ⟨some dd,op,ty,pos,af,some (i,J)⟩ N)(k:∀v L',N v L'->G c (.ops all rest::K) ((dd,none,v)::E) L')(hw:b=J:=by exact rfl)(hd:lE c.n dd E=true:=by exact rfl):G c (.ops all (⟨some dd,op,ty,pos,af,some (i,J)⟩::rest)::K) E L:=have hi:=hi.p;have hs:=hs.p;λa w O V=>by
 have hy:=jk (a:=a) hi O hs;refine wpList_step λX hk=>?_;rw[YB (by grind[Region.wanted])];exact h.out a w O (cR a) V X _ λv w' L' R S=>hk _ _ (k v L' S _ w' (O.put1 hd) R)
def Ol {i s:Nat}{b J:Bool}{L2:List ag}[hi:DS all i s][hs:LK none E s (.bool b)](h:b=J->OpL c (some (s,J)) E L ⟨some dd,op,ty,pos,af,some (i,J)⟩ (R1 v L2))[S:Sub L2 L](hd:lE c.n dd E=true)(k:G c (.ops all rest::K) ((dd,some (s,J),v)::E) L)(hne:Nat.beq s dd=false:=by exact rfl):G c (.ops all (⟨some dd,op,ty,pos,af,some (i,J)⟩::rest)::K) E L:=have hi:=hi.p;have hs:=hs.p;λa w O Z=>by
 have hy:=jk (a:=a) hi O hs;have hb:=O.look (cR a) hs;refine wpList_step λnx hk=>?_;have R:∀j V,some (s,J)=some (j,V)->j≠dd:=λj V e=>(by grind[Nat.ne_of_beq_eq_false]);by_cases hw:b=J
 ·rw[YB (by grind[Region.wanted])];have Y:gd (some (s,J)) a:=λj V e=>(by grind);refine (h hw).out a w O Y Z nx _ λv' w' L' X hN=>?_;obtain ⟨rfl,rfl⟩:=hN;exact hk _ _ (k _ w' (O.put hd R λ_=>rfl) (S.sat X))
 ·rw[YC (by grind[Region.wanted])];refine hk _ _ (k _ w (O.put hd R λY=>?_) Z);have:=Y s J rfl
  grind
def AD {k:IntKind}{p q:Int}{ats:Array TypeId}(hx:ev g E x=some (.int k p))(hy:ev g E y=some (.int k q)):OpV c g E L ⟨d, .call {callee:= .builtin .max,args:=#[x,y],argTypes:=ats},ty,pos,af,gu⟩ (.int k (if p<q then q else p)):= .mk λa w J O R=>by
 simp[execOp,resolve,invoke,builtin,Builtin.max_,Builtin.max2,J.ev O hx,J.ev O hy]
def KV {k:IntKind}{p q:Int}{ats:Array TypeId}(hx:ev g E x=some (.int k p))(hy:ev g E y=some (.int k q)):OpV c g E L ⟨d, .call {callee:= .builtin .min,args:=#[x,y],argTypes:=ats},ty,pos,af,gu⟩ (.int k (if q<p then q else p)):= .mk λa w J O R=>by
 simp[execOp,resolve,invoke,builtin,Builtin.min_,Builtin.min2,J.ev O hx,J.ev O hy]
def Ur (f:Value->Value)(T sz n:Nat)(rows:List (List Value))(F:List ag):Value->List ag->Prop:=λv L'=>∃s cap,v=f (sl s n cap)/\L'=bi T sz s cap rows::F
def mR {vs:List Value}{T m:Nat}{f:Value->Value}{rows:List (List Value)}{F:List ag}(O:c.R=Ur f T sz n rows F)(hr:gm E c.fn.results.toList=some vs)(hn:m=n)(hv:rN vs=f (sl s m cap))[S:Sub L (bi T sz s cap rows::F)](hds:c.n.ds=[]:=by rfl):G c (.code .ret::K) E L:=
 λa w J V=>wp_ret (bX (aW (hds:=hds) hr J (S.sat V) (by rw[O];exact ⟨s,cap,by rw[hv,hn],rfl⟩)))
def S8 (g:Option (Nat×Bool))(E:dr):List (Nat×Operand)->Option (List (Nat×Value))
 | []=>some []
 | (i,x)::ps=>match ev g E x with
  | some v=>match S8 g E ps with | some vs=>some ((i,v)::vs) | none=>none
  | none=>none
class EVQ (g:Option (Nat×Bool))(E:dr)(x:List (Nat×Operand))(v:outParam (List (Nat×Value))):Prop where p:S8 g E x=some v
instance {g:Option (Nat×Bool)}{E:dr}:EVQ g E [] []:=⟨rfl⟩
instance {g:Option (Nat×Bool)}{E:dr}{i:Nat}{x:Operand}{y:List (Nat×Operand)}{v:Value}{m:List (Nat×Value)}[h:EV g E x v][j:EVQ g E y m]:EVQ g E ((i,x)::y) ((i,v)::m):=⟨by simp [S8,h.p,j.p]⟩
def KW {n:Nd}{E:dr}{a:Act}{g:Option (Nat×Bool)}(h:EOk n E a)(R:gd g a):∀{O:List (Nat×Operand)} {vs:List (Nat×Value)},S8 g E O=some vs->O.map (λp=>(p.1,a.eval p.2))=vs
 | [],vs,hl=>by injection hl with hl
 | (i,x)::O,vs,hl=>by
  unfold S8 at hl;split at hl
  ·rename_i v hv;split at hl
   ·rename_i S J;injection hl with hl;subst hl;simp[h.ev R hv,KW h R J]
   ·cases hl
  ·cases hl
def aR {parts:List (Nat×Operand)}{vs:List (Nat×Value)}[hx:EVQ g E parts vs](hr:∀w,(Instr.build t vs.toArray).run c.P w= .ok v w):OpV c g E L ⟨d, .build t parts.toArray,ty,pos,af,gu⟩ v:=have hx:=hx.p;.mk λa w J O R=>by
 have:=KW J O hx;simp[execOp,this,hr]
def DU {a:Act}{w:World}{r:Nat}{X:Obj}{vs:List Value}{fu:List ag}(Z:c.fn.results.toList=[.cell r t])(hx:look none E r=some (ptr b o))(ha:∀w,(isAgg t).run c.P w= .ok true w)(hz:∀w,(sizeOf t).run c.P w= .ok sz w)[h:Has L b X](hl:vs.length=sz)
  (hv:∀k v,vs[k]? =some v->bG X (o+k)=some v) (O:EOk c.n E a) (V:Sat c.w0 w L) [S:Sub L fu] (Y:c.R (.agg vs.toArray) fu) (hds:c.n.ds=[]:=by rfl):(a.defers=[]/\∃v,(results c.fn a.tmps).run c.P w= .ok v w/\∃L,Sat c.w0 w L/\c.R v L)\/∃D w',a.defers=[markD D]/\(Instr.takeDeferred D).run c.P w= .ok [] w'/\∃v,(results c.fn a.tmps).run c.P w'= .ok v w'/\∃L,Sat c.w0 w' L/\c.R v L:=by
 have hh:=h.out _ _ V;have J:=fN (P:=c.P) (w:=w) b sz 0 o #[] vs hl (λk v hk=>by grind[iH]);have h1:=O.look (cR a) hx;refine .inl ⟨O.defers.trans hds, .agg vs.toArray,?_,fu,S.sat V,Y⟩;rw[oB,YA,Z]
 simp_all[uM,asAddr,loadVar,loadCells]
def ew {r:Nat}{J:Obj}{fu:List ag}(vs:List Value)(V:c.R=R1 (.agg vs.toArray) fu)(Z:c.fn.results.toList=[.cell r t])(hx:look none E r=some (ptr b o))(Y:∀w,(isAgg t).run c.P w= .ok true w)(hz:∀w,(sizeOf t).run c.P w= .ok sz w)[h:Has L b J](hl:vs.length=sz)
  (hv:∀k v,vs[k]? =some v->bG J (o+k)=some v) [S:Sub L fu] (hds:c.n.ds=[]:=by rfl):G c (.code .ret::K) E L:=
 λa w O X=>wp_ret (bX (DU (hds:=hds) (h:=h) (S:=S) Z hx Y hz hl hv O X (by rw[V];exact ⟨rfl,rfl⟩)))
end
end Go.Sl
namespace Go.Proofs.YthdjckbjjfiopabGreatDoor
open _root_.Go.Proofs.Tryz
open Go.Sl Go.Proofs
def Vb:=@sizeOf3
def Vc:=@isAgg3
def Vd:=@sizeOf174
def Ve:=@underlying33
def Vf:=@underlying3
def Vg:=@underlying9
def Vh:=@sizeOf9
def Vi:=@underlying105
def Vj:=@isAgg9
def Vk:=@sizeOf162
def Vl:=@underlying37
def Vm:=@underlying35
def Vn:=@underlying117
def Vo:=@zeroValue174
def Vp:=@underlying174
def Vq:=@underlying5
def Vr:=@underlying123
def Vs:=@underlying268
def Vt:=@sizeOf4
def Vu:=@sizeOf195
def Vv:=@underlying121
def Vw:=@sizeOf185
def Vx:=@sizeOf121
def Vy:=@underlying187
def Vz:=@isAgg174
def VA:=@underlying231
def VB:=@underlying139
def VC:=@underlying162
def VD:=@sizeOf187
def VE:=@underlying126
def VF:=@underlying134
def VG:=@underlying46
def VH:=@underlying185
def VI:=@underlying190
def VJ:=@zeroValue162
def VK:=@sizeOf120
def VL:=@zeroValue3
def VM:=@isAgg121
def VN:=@isAgg120
def VO:=@underlying103
def VP:=@sizeOf5
def VQ:=@underlying32
def VS:=@underlying195
def VT:=@sizeOf86
def VU:=@sizeOf229
def VV:=@sizeOf183
def VW:=@isAgg195
def VX:=@underlying198
def VY:=@isAgg229
def VZ:=@underlying229
def V0:=@zeroValue5
def V6:=@isAgg4
def V7:=@isAgg185
def V8:=@underlying132
def V9:=@underlying273
def Wa:=@zeroValue187
def Wb:=@sizeOf188
def Wc:=@underlying188
def Wd:=@sizeOf137
def We:=@underlying232
def Wf:=@underlying183
def Wg:=@sizeOf239
def Wh:=@sizeOf132
def Wi:=@underlying179
def Wj:=@sizeOf136
def Wk:=@zeroValue183
def Wl:=@sizeOf33
def Wm:=@sizeOf232
def Wn:=@underlying131
def Wo:=@sizeOf142
def Wp:=@isAgg162
def Wq:=@underlying137
def Ws:=@underlying234
def Wt:=@isAgg232
def Wu:=@underlying286
def Wv:=@sizeOf247
def Ww:=@sizeOf131
def Wx:=@underlying71
def Wy:=@sizeOf228
def Wz:=@isAgg137
def WA:=@underlying86
def WB:=@sizeOf32
def WC:=@isAgg228
def WD:=@sizeOf124
def WE:=@isAgg132
def WF:=@sizeOf130
def WG:=@sizeOf25
def WH:=@isAgg95
def WI:=@isAgg53
def WJ:=@sizeOf184
def WK:=@underlying184
def WL:=@isAgg124
def WM:=@sizeOf42
def WN:=@underlying239
def WO:=@isAgg25
def WP:=@isAgg33
def WQ:=@sizeOf53
def WR:=@underlying247
def WS:=@underlying142
def WT:=@underlying136
def WU:=@isAgg196
def WV:=@underlying91
def WW:=@sizeOf35
def WX:=@zeroValue142
def WY:=@zeroValue195
def WZ:=@sizeOf135
def W0:=@isAgg42
def W4:=@underlying22
def W5:=@isAgg32
def W6:=@underlying168
def W7:=@zeroValue86
def W8:=@underlying219
def W9:=@sizeOf71
def Xa:=@underlying135
def Xb:=@sizeOf100
def Xc:=@sizeOf43
def Xd:=@sizeOf196
def Xe:=@isAgg71
def Xf:=@isAgg286
def Xg:=@isAgg100
def Xh:=@underlying100
def Xi:=@sizeOf101
def Xj:=@isAgg43
def Xk:=@underlying43
def Xl:=@sizeOf44
def Xm:=@isAgg135
def Xn:=@underlying265
def Xo:=@underlying327
def Xp:=@zeroValue185
def Xq:=@isAgg101
def Xr:=@underlying101
def Xs:=@isAgg44
def Xt:=@underlying44
def Xu:=@underlying130
def Xv:=@runUnderlying174
def Xw:=@sizeOf177
def Xx:=@zeroValue135
def Xy:=@underlying321
def Xz:=@isAgg268
def XA:=@isAgg187
def XB:=@sizeOf213
def XC:=@isAgg86
def XD:=@isAgg131
def XE:=@zeroValue247
def XF:=@zeroValue136
def XG:=@zeroValue9
def XH:=@sizeOf108
def XI:=@sizeOf268
def XJ:=@zeroValue239
def XK:=@isAgg35
def XL:=@isAgg136
def XN:=@isAgg108
def XO:=@underlying203
def XP:=@sizeOf325
def XQ:=@underlying325
def XR:=@isAgg183
def XS:=@underlying215
def XT:=@isAgg213
def XU:=@underlying213
def XV:=@sizeOf41
def XW:=@underlying225
def XX:=@zeroValue319
def XY:=@runUnderlying187
def XZ:=@sizeOf327
def X0:=@zeroValue123
def X4:=@runUnderlying123
def X5:=@zeroValue166
def X6:=@underlying166
def X7:=@zeroValue212
def X8:=@zeroValue217
def X9:=@zeroValue223
def Ya:=@runUnderlying142
def Yb:=@runUnderlying183
def Yc:=@runUnderlying195
def Yd:=@runUnderlying162
def Ye:=@runUnderlying126
def F3 (v0:Value)(h0:one v0=true)(v4:Value)(J:one v4=true)(w:World):(Instr.build 134 #[(0,v0),(4,v4)]).run Tryz.prog w= .ok (.agg #[v0,aC [],aC [],aC [],aC [],aC [],aC [],aC [],aC [],aC [],aC [],aC [],aC [],aC [],aC [],aC [],aC [],sl none 0 0,I 0,v4,sl none 0 0]) w:=by
 simp[Instr.build,zeroValue134,runUnderlying134,WF,Ww,Wh,Vb,Instr.fill,bB,sl,bP h0,bP J]
def F4 (v0:Value)(h0:one v0=true)(v4:Value)(J:one v4=true)(w:World):(Instr.build 139 #[(0,v0),(4,v4)]).run Tryz.prog w= .ok (.agg #[v0,aC [],aC [],aC [],aC [],aC [],aC [],aC [],aC [],aC [],aC [],aC [],aC [],aC [],aC [],aC [],aC [],Bo false,Bo false,Bo false,Bo false,Bo false,Bo false,Bo false,Bo false,Bo false,Bo false,Bo false,Bo false,Bo false,Bo false,Bo false,Bo false,I 0,v4,sl none 0 0]) w:=by
 simp[Instr.build,zeroValue139,runUnderlying139,WF,Wj,Wd,Vb,Instr.fill,bB,sl,bP h0,bP J]
def rT (v0:Value)(h0:one v0=true)(v1:Value)(h1:one v1=true)(w:World):(Instr.build 142 #[(0,v0),(1,v1)]).run Tryz.prog w= .ok (.agg #[v0,v1]) w:=by
 simp[Instr.build,WX,Ya,Vb,Instr.fill,bB,sl,bP h0,bP h1]
def iu (v0:Value)(h0:one v0=true)(v1:Value)(h1:one v1=true)(w:World):(Instr.build 174 #[(0,v0),(1,v1)]).run Tryz.prog w= .ok (.agg #[v0,v1,Bo false]) w:=by
 simp[Instr.build,Vo,Xv,Vt,Vh,Instr.fill,bB,sl,bP h0,bP h1]
def BV (v0:Value)(h0:one v0=true)(v1:Value)(h1:one v1=true)(v2:Value)(J:one v2=true)(w:World):(Instr.build 174 #[(0,v0),(1,v1),(2,v2)]).run Tryz.prog w= .ok (.agg #[v0,v1,v2]) w:=by
 simp[Instr.build,Vo,Xv,Vt,Vh,Instr.fill,bB,sl,bP h0,bP h1,bP J]
def BW (v0:Value)(h0:one v0=true)(v1:Value)(h1:one v1=true)(v3:Value)(J:one v3=true)(w:World):(Instr.build 179 #[(0,v0),(1,v1),(3,v3)]).run Tryz.prog w= .ok (.agg #[v0,v1,sl none 0 0,v3,Bo false]) w:=by
 simp[Instr.build,zeroValue179,runUnderlying179,Xw,Vb,Vt,W9,Instr.fill,bB,sl,bP h0,bP h1,bP J]
def rU (v0:Value)(h0:one v0=true)(v1:Value)(h1:one v1=true)(w:World):(Instr.build 183 #[(0,v0),(1,v1)]).run Tryz.prog w= .ok (.agg #[v0,v1]) w:=by
 simp[Instr.build,Wk,Yb,Vb,Vh,Instr.fill,bB,sl,bP h0,bP h1]
def eM (v0:Value)(h0:one v0=true)(v1:Value)(h1:one v1=true)(v2:Value)(J:one v2=true)(v3:Value)(O:one v3=true)(w:World):(Instr.build 195 #[(0,v0),(1,v1),(2,v2),(3,v3)]).run Tryz.prog w= .ok (.agg #[v0,v1,v2,v3]) w:=by
 simp[Instr.build,WY,Yc,Vb,Instr.fill,bB,sl,bP h0,bP h1,bP J,bP O]
def KX (v0:Value)(h0:one v0=true)(w:World):(Instr.build 198 #[(0,v0)]).run Tryz.prog w= .ok (.agg #[v0,I 0,I 0,I 0,I 0, .pointer none,sl none 0 0]) w:=by
 simp[Instr.build,zeroValue198,runUnderlying198,Vu,Xd,WG,Wl,Instr.fill,bB,sl,bP h0]
def xJ (v0:Value)(h0:one v0=true)(v1:Value)(h1:one v1=true)(w:World):(Instr.build 231 #[(0,v0),(1,v1)]).run Tryz.prog w= .ok (.agg #[v0,v1]) w:=by
 simp[Instr.build,zeroValue231,runUnderlying231,Wy,VU,Instr.fill,bB,sl,bP h0,bP h1]
def KZ (v0:Value)(h0:one v0=true)(w:World):(Instr.build 234 #[(0,v0)]).run Tryz.prog w= .ok (.agg #[v0]) w:=by
 simp[Instr.build,zeroValue234,runUnderlying234,Wm,Instr.fill,bB,sl,bP h0]
def xK (v0:Value)(h0:one v0=true)(v1:Value)(h1:one v1=true)(v2:Value)(J:one v2=true)(v3:Value)(O:one v3=true)(w:World):(Instr.build 273 #[(0,v0),(1,v1),(2,v2),(3,v3)]).run Tryz.prog w= .ok (.agg #[v0,v1,v2,v3,I 0]) w:=by
 simp[Instr.build,zeroValue273,runUnderlying273,WG,Vb,Instr.fill,bB,sl,bP h0,bP h1,bP J,bP O]
def F5 (v0:Value)(h0:one v0=true)(v1:Value)(h1:one v1=true)(w:World):(Instr.build 319 #[(0,v0),(1,v1)]).run Tryz.prog w= .ok (.agg #[v0,v1]) w:=by
 simp[Instr.build,XX,runUnderlying319,Vb,Vh,Instr.fill,bB,sl,bP h0,bP h1]
abbrev Ux:Nat:=117
structure Area where
 fr:Int
 many:Int
 deriving DecidableEq
abbrev F6 (a:Area):List Value:=[I a.fr,I a.many]
abbrev bM (f:Int):Value:=fv Ux f
def aS (l:List Area):List (List Value):=l.map F6
def ok64 (n:Int):Prop:= -9223372036854775808<=n/\n<=9223372036854775807
def lW {l:List Area}{k:Nat}{a:Area}(h:l[k]? =some a):(aS l)[k]? =some (F6 a):=by simp[aS,h]
def fh (l:List Area):(aS l).length=l.length:=by simp[aS]
def BX:Int->List Area->Int
 | _,[]=>0
 | e,a::l=>if a.fr<0\/a.many<1\/a.fr > 16 - a.many\/a.many > 16 then 1 else if a.fr<=e then 3 else BX (a.fr+a.many) l
def bL (m:Nat->Bool):List Value:=(List.range 16).map λi=>Bo (m i)
def bA (m:Nat->Bool):Array Value:=(bL m).toArray
def iT (m:Nat->Bool):(bL m).length=16:=by simp[bL]
def Qv {m:Nat->Bool}{j:Nat}(h:j<16):(bL m)[j]? =some (Bo (m j)):=by simp[bL,h]
def qA {m:Nat->Bool}{T:Nat}{fr:Nat×Nat}{j:Nat}(h:j<16):bG (.cells (bA m) T fr) (0+j*1)=some (Bo (m j)):=by simp[bG,bA,bL,h]
def kQ {m:Nat->Bool}{T:Nat}{fr:Nat×Nat}:∀k v,(bL m)[k]? =some v->bG (.cells (bA m) T fr) (0+k)=some v:=λk v h=>by grind[bG,bA]
def xM {m:Nat->Bool}{j:Nat}(h:j<16)(b:Bool):(bA m).setIfInBounds (0+j*1) (Bo b)=bA (λi=>if i=j then b else m i):=by
 grind[bA,bL]
def qB (m:Nat->Bool):ones (bL m)=true:=kP λv hv=>by
 simp[bL] at hv;obtain ⟨a,_,rfl⟩:=hv;rfl
def bk {cs:Array Value}{vs:List Value}(h:vs.length=cs.size:=by exact rfl):cT cs 0 vs=vs.toArray:=by
 apply YY
 grind[iI]
theorem K0 {m m':Nat->Bool}(h:∀j,j<16->m j=m' j):bA m=bA m':=by
 grind[bA,bL]
def mk (l:List Area)(p:Nat):Bool:=l.any λa=>decide (a.fr<=p/\(p:Int)<a.fr+a.many)
def Om (m:Nat->Bool)(a:Area)(i:Nat)(p:Nat):Bool:=m p || decide (a.fr<=p/\(p:Int)<a.fr+i)
def DH (l:List Area):Prop:=∀a∈l,0<=a.fr/\1<=a.many/\a.fr+a.many<=16
def Hs:bA (mk [])=Array.replicate 16 (Bo false):=by
 grind[bA,bL,mk]
def On {l:List Area}{k:Nat}{a:Area}(h:l[k]? =some a)(J:0<=a.many):Om (mk (l.take k)) a a.many.toNat=mk (l.take (k+1)):=by
 grind[Om,mk,List.take_succ_eq_append_getElem]
def K3 (m:Nat->Bool)(a:Area):m=Om m a 0:=by
 grind[Om]
def Oo {m:Nat->Bool}{a:Area}{i j:Nat}(hj:(j:Int)=a.fr+i)(h0:0<=a.fr):(λp=>if p=j then true else Om m a i p)=Om m a (i+1):=by
 grind[Om]
def k7 (l:List Area):Area:=l.getD (l.length - 1) ⟨0,0⟩
def vV (m:Nat->Bool)(k:Nat)(l:List Area):List Area:=
 if m k=true then (if 0<l.length/\(k7 l).fr+(k7 l).many=k then l.set (l.length - 1) ⟨(k7 l).fr,(k7 l).many+1⟩ else l++ [⟨k,1⟩]) else l
def fz (m:Nat->Bool):Nat->List Area
 | 0=>[]
 | k+1=>vV m k (fz m k)
def pT {l:List Area}(h:0<l.length):l[l.length - 1]? =some (k7 l):=by
 grind[k7]
def sP (m:Nat->Bool):∀k,(fz m k).length<=k/\∀a∈fz m k,0<=a.fr/\1<=a.many/\a.fr+a.many<=k
 | 0=>by simp[fz]
 | k+1=>by
  obtain ⟨h1,J⟩:=sP m k;simp only[fz,vV];split
  ·split
   ·rename_i hm hl;refine ⟨by simp;omega,λa O=>?_⟩;rcases Y0 O with h | h
    ·have:=J a h;omega
    ·subst h;have:=J _ (YW (pT hl.1));simp;omega
   grind
  grind
abbrev dp (m:Nat->Bool):List Area:=fz m 16
def Jh {l:List Area}{j:Nat}{a:Area}:(aS l).set j ((F6 a).set 1 (I (a.many+1)))=aS (l.set j ⟨a.fr,a.many+1⟩):=by simp[aS,F6,Y1]
def AE (l:List Area)(x y:Int):aS l++ [[I x,I y]]=aS (l++ [⟨x,y⟩]):=by simp[aS,F6]
def K4 (m:Nat->Bool)(k:Nat)(z:List Area×Int):List Area×Int:=
 let f:=if (decide ((k:Int)<16) && m k) && decide (z.2<0) then (k:Int) else z.2
 if !(decide ((k:Int)<16) && m k) && decide (0<=f) then (z.1++ [⟨f,k - f⟩], -1) else (z.1,f)
def dl (m:Nat->Bool):Nat->List Area×Int
 | 0=>([], -1)
 | k+1=>K4 m k (dl m k)
def wT (m:Nat->Bool):∀k,k<=16->(dl m k).2<k/\ -1<=(dl m k).2/\(dl m k).1.length<=k/\
  ((dl m k).2<0->fz m k=(dl m k).1/\((dl m k).1=[]\/(k7 (dl m k).1).fr+(k7 (dl m k).1).many<k))/\
  (0<=(dl m k).2->fz m k=(dl m k).1++ [⟨(dl m k).2,k - (dl m k).2⟩])
 | 0,_=>by simp[dl,fz]
 | k+1,hk=>by
  obtain ⟨h1,J,S,O,R⟩:=wT m k (by omega);simp only[dl,fz]
  grind[K4,vV,k7]
def Q3 (m:Nat->Bool):(dl m 17).1=dp m:=by
 obtain ⟨h1,J,_,O,R⟩:=wT m 16 (by omega)
 grind[K4,dl]
def kT (l:List Area)(s:Option Addr)(cap:Nat)(hl:l.length<=1000000)(hv:DH l)(F:List ag):Ct Tryz.prog 213 [sl s l.length cap] (roL 2 s (aS l)::F) (R1 (.agg (bA (mk l))) (roL 2 s (aS l)::F)):=by
 refine Ct.of func213 rR 26 ntmps213 (by simp) λw0=>?_;refine gS (gI (aO (Array.replicate 16 (Bo false)) Xx) ?_);rintro _ _ ⟨R,rfl,rfl⟩;refine ab (gS (gI (aO (bA (mk (l.take 0))) (λw=>by rw[Y2,Hs];exact Xx w)) ?_));rintro _ _ ⟨S,rfl,rfl⟩;refine ab (ac (gS (gM (gV (aX Wn) (gM (ab (al ?_)))))));refine aM (α:=Nat) (λk=>k<=l.length) (λk=>U [(2,ptr R 0),(3,ptr S 0),(7,sl s l.length cap),(8,I l.length),(9,I k)]) (λk=>pt S (.cells (bA (mk (l.take k))) 135 (0,0))::pt R (.cells (Array.replicate 16 (Bo false)) 135 (0,0))::roL 2 s (aS l)::F) (λk=>l.length - k) 0 (by simp) [2,3,7,8,9] rfl ?_;intro k hk;refine gS (gV aI (ab (ac ?_)));apply ah<;>intro J
 ·obtain ⟨a,V⟩:∃a,l[k]? =some a:=⟨l[k]'(by simp at J;omega),by simp at J;simp⟩;have X:k<l.length:=(Yh.1 V).1;have hkr:k<(aS l).length:=(by rw[fh];exact X);have hr:=lW V;obtain ⟨Y,hv2,hv3⟩:=hv a (YW V);refine ai (ac (al (gS (gV (ay _ Wn Wo (by assumption) (by assumption)) (gV (bJ isAgg142 Wo (by assumption)) (gI (aO #[I 0,I 0] WX) ?_))))));rintro _ _ ⟨Z,rfl,rfl⟩;refine gU (ax #[I a.fr,I a.many] Wo (by decide)) (ab (gS (gF 1 WS rR Vb (gV (az Vc) (gM (ab ?_))))));rw[K3 (mk (l.take k)) a];refine al ?_;refine aM (α:=Nat) (λi=>(i:Int)<=a.many) (λi=>U [(2,ptr R 0),(3,ptr S 0),(5,ptr Z 0),(7,sl s l.length cap),(8,I l.length),(9,I k),(14,I a.many),(15,I i)]) (λi=>pt S (.cells (bA (Om (mk (l.take k)) a i)) 135 (0,0))::pt Z (.cells #[I a.fr,I a.many] 142 (0,0))::pt R (.cells (Array.replicate 16 (Bo false)) 135 (0,0))::roL 2 s (aS l)::F) (λi=>a.many.toNat - i) 0 (by simp;omega) [2,3,5,7,8,9,14,15] rfl ?_;intro i hi;refine gS (gV aI (ab (ac ?_)));apply ah<;>intro O
  ·simp at O;refine ai (ac (al (gS (gM (gQ (am (gF 0 WS rR Vb (gV (az Vc) (gM (gP (gV (ba (a.fr+i).toNat Xa Vt (hj:=by omega) (by omega)) (gU (aK (bA (Om (mk (l.take k)) a (i+1))) Vt (by simp[bA,bL];omega) (hcs:=by rw[xM (by omega),Oo (by omega) Y])) (ab (aG (am (gP (gM (ab ?_))))))))))))))))));exact ap (i+1) (by omega) (by omega) [2,3,5,7,8,9,14,15] rfl
  ·simp at O;obtain rfl:i=a.many.toNat:=(by omega);rw[On V (by omega)];refine aF ?_;refine aG (am (gP (gM (ab ?_))));exact ap (k+1) (by omega) (by omega) [2,3,7,8,9] rfl
 ·simp at J;obtain rfl:k=l.length:=(by omega);rw[Y3];refine aF ?_;refine gS (gV (aU (vs:=bL (mk l)) Xm WZ (hl:=iT _) kQ) (gU (ax (bA (mk l)) WZ (hl:=by exact iT _) (h1:=by exact qB _) (by simp) (hcs:=by exact bk (h:=by simp[bL]))) (ab ?_)));exact ew (bL (mk l)) rfl rfl rfl Xm WZ (iT _) kQ
-- counterfoil/area.Check is not in this seat
def oF (m:Nat->Bool)(F:List ag):Ct Tryz.prog 214 [.agg (bA m)] (F) (ww 142 2 (dp m).length (aS (dp m)) F):=by
 refine Ct.of func214 rR 50 ntmps214 (by simp) λw0=>?_;refine gS (gI (di (bA m)) ?_);rintro _ _ ⟨b1,rfl,rfl⟩;refine gQ (ac ?_);refine bH 142 2 (aS (fz m 0)) ?_;refine am (gQ (ac (gS (gQ (al ?_)))));refine aM (α:=Nat×Option Addr×Nat) (λz=>z.1<=16) (λz=>U [(1,ptr b1 0),(3,sl z.2.1 (fz m z.1).length z.2.2),(4,I z.1)]) (λz=>bi 142 2 z.2.1 z.2.2 (aS (fz m z.1))::pt b1 (.cells (bA m) 135 (0,0))::F) (λz=>16 - z.1) (0,none,0) (by simp) [1,3,4] rfl ?_;rintro ⟨k,s,cap⟩ X;simp only[] at X ⊢;have hfk:=sP m k;refine ac (gS (gM (gV aI (ab ?_))));apply ah<;>intro h7
 ·simp at h7;have hk:k<16:=(by omega);refine ai (ac (al (ac (gS (gM (gV (ba k Xa Vt hk) (gV (az V6 (hv:=⟨qA hk⟩)) (gV cE (ab ?_)))))))));apply ah<;>intro O
  ·simp at O;have e:fz m (k+1)=fz m k:=(by simp[fz,vV,O]);rw[<-e];skip;refine aF ?_;refine am (gM (gP (gQ ?_)));exact ap (k+1,s,cap) (by simp;omega) (by simp;omega) [1,3,4] rfl
  ·simp at O;obtain ⟨hfl,V⟩:=hfk;have e:fz m (k+1)=vV m k (fz m k):=rfl;generalize hlp:fz m k=lp at*;unfold vV at e;rw[YB O] at e;refine ai (gS (gM (gV (aX Wn) (gQ (ac ?_)))));refine cV jI ?_;refine dM rR (dV rR aT (dM rR (dJ rR aq (dJ rR aq (rO rR (λJ=>fe (da (by simp at J;omega))) (rO rR (λJ=>ay (lp.length - 1) Wn Wo (hj:=by simp at J;omega) (by simp at J;omega) (by rw[fh];simp at J;omega)) (rO rR (λJ=>aE (j:=0) 0 WS rR Vb (by rw[fh];simp at J;omega)) (rO rR (λJ=>bC Vc (lW (pT (by simp at J;omega)))) (dJ rR aq (dJ rR aq (rO rR (λJ=>fe (da (by simp at J;omega))) (rO rR (λJ=>ay (lp.length - 1) Wn Wo (hj:=by simp at J;omega) (by simp at J;omega) (by rw[fh];simp at J;omega)) (rO rR (λJ=>aE (j:=0) 1 WS rR Vb (by rw[fh];simp at J;omega)) (rO rR (λJ=>bC Vc (lW (pT (by simp at J;omega)))) (rO rR (λJ=>bO (da (by have:=V _ (YW (pT (by simp at J;omega)));omega))) (dJ rR aq (dJ rR bT (dV rR dD ?_))))))))))))))))));refine aP ?_;apply ah<;>intro S
   ·simp at S;rw[YB (by omega)] at e;have R:=pT (l:=lp) (by omega);have hlo:=V _ (YW R);refine am (gM (gM (gV (fe (da (by omega))) (gV (ay (lp.length - 1) Wn Wo (hj:=by omega) (by omega) (by rw[fh];omega)) (gV (aE (j:=0) 1 WS rR Vb (by rw[fh];omega)) (gV (bC Vc (lW R)) (gP (gV (ay (lp.length - 1) Wn Wo (hj:=by omega) (by omega) (by rw[fh];omega)) (gV (aE (j:=0) 1 WS rR Vb (by rw[fh];omega)) (ir (sK (row:=F6 (k7 lp)) Vb (lW R) (by decide)) ?_))))))))));rintro _ _ rfl;rw[Jh,<-e];refine ab (aG (am (gM (gP (gQ ?_)))));exact ap (k+1,s,cap) (by simp;omega) (by simp;omega) [1,3,4] rfl (he:=by simp[U,e])
   ·have Y:¬(0<lp.length/\(k7 lp).fr+(k7 lp).many=k):=(by simp at S;omega);rw[YC Y] at e;refine am (gM (gM (gV (aR (rT _ rR _ rR)) (gI (av [[I k,I 1]] Wn Wo WX (by simp)) ?_))));rintro _ _ ⟨b47,rfl,rfl⟩;refine gI (bo Wn Wo WX Tryz.typeInfo142 (hn:=by exact fh _) (by simp) (by simp[ones,one]) ⟨by omega,by decide,by decide⟩) ?_;rintro _ _ ⟨s48,Z,rfl,rfl⟩;rw[AE,<-e];refine gQ (aG (am (gM (gP (gQ ?_)))));exact ap (k+1,s48,Z) (by simp;omega) (by simp;omega) [1,3,4] rfl (he:=by simp[U,e])
 ·simp at h7;obtain rfl:k=16:=(by omega);refine aF ?_;refine gS (gM (gQ ?_));exact df rfl rfl rfl rfl
def sQ (m n:Nat->Bool)(p:Nat):Bool:=m p || n p
def uI (m:Nat->Bool)(sz:Int)(p:Nat):Bool:=m p && decide ((p:Int)<sz)
def Ag (f g:Nat->Bool)(k:Nat)(p:Nat):Bool:=if p<k then f p else g p
def Ht (f g:Nat->Bool){k:Nat}(h:k<16)(b:Bool)(J:b=f k):(bA (Ag f g k)).setIfInBounds (0+k*1) (Bo b)=bA (Ag f g (k+1)):=by
 rw[xM h]
 grind[K0,Ag]
def DV (f g:Nat->Bool):Ag f g 0=g:=by funext p;simp[Ag]
def qC {m m':Nat->Bool}(h:∀j,j<16->m j=m' j):∀k,k<=16->fz m k=fz m' k
 | 0,_=>rfl
 | k+1,hk=>by simp only[fz,vV,qC h k (by omega),h k (by omega)]
def kV (a b:List Area)(s R:Option Addr)(cap J:Nat)(Y:a.length<=1000000)(Z:b.length<=1000000)(S:DH a)(V:DH b)(F:List ag):Ct Tryz.prog 150 [sl s a.length cap,sl R b.length J] (roL 2 s (aS a)::roL 2 R (aS b)::F) (ww 142 2 (dp (sQ (mk a) (mk b))).length (aS (dp (sQ (mk a) (mk b)))) (roL 2 s (aS a)::roL 2 R (aS b)::F)):=by
 refine Ct.of func150 rR 27 ntmps150 (by simp) λw0=>?_;refine gS (gQ (gS (gM (gR (vB call213 (kT _ _ _ Y S)) (gI (aO (Array.replicate 16 (Bo false)) Xx) ?_)))));rintro _ _ ⟨X,rfl,rfl⟩;refine gU (ax (bA (Ag (sQ (mk a) (mk b)) (mk a) 0)) WZ (hl:=by exact iT _) (h1:=by exact qB _) (by simp) (hcs:=by rw[DV];exact bk (h:=by simp[bL]))) (ab (ac (gS (gM (gR (vB call213 (kT _ _ _ Z V)) (gM (ab (al ?_))))))));refine aM (α:=Nat) (λk=>k<=16) (λk=>U [(5,ptr X 0),(11, .agg (bA (mk b))),(12,I k)]) (λk=>pt X (.cells (bA (Ag (sQ (mk a) (mk b)) (mk a) k)) 135 (0,0))::roL 2 s (aS a)::roL 2 R (aS b)::F) (λk=>16 - k) 0 (by simp) [5,11,12] rfl ?_;intro k hk;refine gS (gV aI (ab (ac ?_)));apply ah<;>intro O
 ·simp at O;have hk:k<16:=(by omega);refine ai (ac (al (gS (gM (gV (kO k Xa Vt V6 hk (by simpa [bA] using Qv hk)) (gA (gQ (am (gM (gM (gV (ba k Xa Vt hk) (gV (az V6 (hv:=⟨qA hk⟩)) (gM (gK aq (gV cu (gV (ba k Xa Vt hk) (gU (aK (bA (Ag (sQ (mk a) (mk b)) (mk a) (k+1))) Vt (by simp[bA,bL];omega) (hcs:=by exact Ht _ _ hk _ (by simp[Ag,sQ]))) (ab (aG (am (gP (gM (ab ?_)))))))))))))))))))))));exact ap (k+1) (by omega) (by omega) [5,11,12] rfl
 ·simp at O;obtain rfl:k=16:=(by omega);refine aF ?_;refine gS (gV (aU (vs:=bL (Ag (sQ (mk a) (mk b)) (mk a) 16)) Xm WZ (hl:=iT _) kQ) (gI (uA call214 (oF (Ag (sQ (mk a) (mk b)) (mk a) 16))) ?_));rintro _ _ ⟨s9,c9,rfl,rfl⟩;rw[show dp (Ag (sQ (mk a) (mk b)) (mk a) 16)=dp (sQ (mk a) (mk b)) from qC (λj hj=>by simp[Ag,hj]) 16 (Yf _)];refine gQ ?_;exact df rfl rfl rfl rfl
def DW (a:List Area)(s:Option Addr)(cap:Nat)(sz:Int)(S:a.length<=1000000)(O:DH a)(F:List ag):Ct Tryz.prog 145 [sl s a.length cap,I sz] (roL 2 s (aS a)::F) (ww 142 2 (dp (uI (mk a) sz)).length (aS (dp (uI (mk a) sz))) (roL 2 s (aS a)::F)):=by
 refine Ct.of func145 rR 25 ntmps145 (by simp) λw0=>?_;refine gS (gQ (gS (gM (gR (vB call213 (kT _ _ _ S O)) (gI (aO (Array.replicate 16 (Bo false)) Xx) ?_)))));rintro _ _ ⟨R,rfl,rfl⟩;refine gU (ax (bA (Ag (uI (mk a) sz) (mk a) 0)) WZ (hl:=by exact iT _) (h1:=by exact qB _) (by simp) (hcs:=by rw[DV];exact bk (h:=by simp[bL]))) (ab (ac (gS (gM (ab (al ?_))))));refine aM (α:=Nat) (λk=>k<=16) (λk=>U [(1,I sz),(5,ptr R 0),(9,I k)]) (λk=>pt R (.cells (bA (Ag (uI (mk a) sz) (mk a) k)) 135 (0,0))::roL 2 s (aS a)::F) (λk=>16 - k) 0 (by simp) [1,5,9] rfl ?_;intro k hk;refine gS (gV aI (ab (ac ?_)));apply ah<;>intro J
 ·simp at J;have hk:k<16:=(by omega);refine ai (ac (al (gS (gM (gQ (am (gM (gM (gV (ba k Xa Vt hk) (gV (az V6 (hv:=⟨qA hk⟩)) (gM (gK aq (gK aq (gK aI (gV dD (gV (ba k Xa Vt hk) (gU (aK (bA (Ag (uI (mk a) sz) (mk a) (k+1))) Vt (by simp[bA,bL];omega) (hcs:=by exact Ht _ _ hk _ (by simp[Ag,uI]))) (ab (aG (am (gP (gM (ab ?_)))))))))))))))))))))));exact ap (k+1) (by omega) (by omega) [1,5,9] rfl
 ·simp at J;obtain rfl:k=16:=(by omega);refine aF ?_;refine gS (gV (aU (vs:=bL (Ag (uI (mk a) sz) (mk a) 16)) Xm WZ (hl:=iT _) kQ) (gI (uA call214 (oF (Ag (uI (mk a) sz) (mk a) 16))) ?_));rintro _ _ ⟨V,c9,rfl,rfl⟩;rw[show dp (Ag (uI (mk a) sz) (mk a) 16)=dp (uI (mk a) sz) from qC (λj hj=>by simp[Ag,hj]) 16 (Yf _)];refine gQ ?_;exact df rfl rfl rfl rfl
def DX (l:List Area)(p:Int):Bool:=l.any λa=>decide (a.fr<=p/\p<a.fr+a.many)
def lF {α:Type}{l:List α}{k:Nat}{a:α}(h:l[k]? =some a):l.take (k+1)=l.take k++ [a]:=by
 obtain ⟨h1,J⟩:=Yh.1 h;rw[YZ h1,J]
def pg (m:Nat->Bool)(from_ many:Int):Nat->Nat->(Nat->Bool)->Int->(Nat->Bool)×Int
 | 0,_,out,_=>(out, -1)
 | r+1,k,out,n=>if (!m k || decide ((k:Int)<from_))=true then pg m from_ many r (k+1) out n
  else if n=many then (out,k) else pg m from_ many r (k+1) (λi=>if i=k then true else out i) (n+1)
def nG (m:Nat->Bool)(from_ many:Int):(Nat->Bool)×Int:=pg m from_ many 16 0 (λ_=>false) 0
def Oq (m:Nat->Bool)(from_ many:Int){k:Nat}(h:k<16)(out:Nat->Bool)(n:Int):pg m from_ many (16 - k) k out n=if (!m k || decide ((k:Int)<from_))=true then pg m from_ many (16 - (k+1)) (k+1) out n
  else if n=many then (out,(k:Int)) else pg m from_ many (16 - (k+1)) (k+1) (λi=>if i=k then true else out i) (n+1):=by
 rw[show 16 - k=(16 - (k+1))+1 by omega,pg]
def K5:bA (λ_=>false)=Array.replicate 16 (Bo false):=Hs
def DY (l:List Area)(s:Option Addr)(cap:Nat)(p:Int)(hp:ok64 p)(hl:l.length<=1000000)(hv:DH l)(F:List ag):Ct Tryz.prog 211 [sl s l.length cap,I p] (roL 2 s (aS l)::F) (R1 (Bo (DX l p)) (roL 2 s (aS l)::F)):=by
 refine Ct.of func211 rR 27 ntmps211 (by simp) λw0=>?_;simp only[ok64] at hp;refine gS (gQ (ac (gS (gM (gV (aX Wn) (gM (ab (al ?_))))))));refine aM (α:=Nat) (λk=>k<=l.length/\DX (l.take k) p=false) (λk=>U [(1,I p),(7,sl s l.length cap),(8,I l.length),(9,I k)]) (λ_=>roL 2 s (aS l)::F) (λk=>l.length - k) 0 ⟨by simp,rfl⟩ [1,7,8,9] rfl ?_;rintro k ⟨hk,O⟩;refine gS (gV aI (ab (ac ?_)));apply ah<;>intro R
 ·obtain ⟨a,J⟩:∃a,l[k]? =some a:=⟨l[k]'(by simp at R;omega),by simp at R;simp⟩;have V:k<l.length:=(Yh.1 J).1;have X:k<(aS l).length:=(by rw[fh];exact V);have Y:=lW J;obtain ⟨hv1,hv2,hv3⟩:=hv a (YW J);refine ai (ac (al (gS (gV (ay _ Wn Wo (by assumption) (by assumption)) (gV (bJ isAgg142 Wo (by assumption)) (gI (aO #[I 0,I 0] WX) ?_))))));rintro _ _ ⟨b6,rfl,rfl⟩;refine gU (ax #[I a.fr,I a.many] Wo (by decide)) (ab (gS (gM (gF 0 WS rR Vb (gV (az Vc) (gV j6 (gM (gK aq (gK (aw 0 WS rR Vb) (gK (az Vc) (Jd (λZ=>fe (da (by simp at Z;omega))) (gK (aw 1 WS rR Vb) (gK (az Vc) (gK aI (gV dD (ab ?_))))))))))))))));apply ah<;>intro S
  ·simp at S;refine gS (gQ ?_);refine ao rR rR ?_;show Bo true=_;have:DX l p=true:=(by simp only[DX,Y4];exact ⟨a,YW J,by simp;omega⟩);rw[this]
  ·simp at S;refine ai (aG (am (gP (gM (ab ?_)))));exact ap (k+1) ⟨by omega,by rw[lF J];simp only[DX,List.any_append] at O ⊢;rw[O];simp;intro hx;have:=S hx;omega⟩ (by omega) [1,7,8,9] rfl
 ·simp at R;obtain rfl:k=l.length:=(by omega);rw[Y3] at O;refine aF ?_;refine gS (gQ ?_);refine ao rR rR ?_;show Bo false=_;rw[O]
-- counterfoil/area.Count is not in this seat
def BZ (l:List Area)(s:Option Addr)(cap:Nat)(from_ many:Int)(hl:l.length<=1000000)(hv:DH l)(F:List ag):Ct Tryz.prog 210 [sl s l.length cap,I from_,I many] (roL 2 s (aS l)::F) (Ur (λv=> .tuple #[v,I (nG (mk l) from_ many).2]) 142 2 (dp (nG (mk l) from_ many).1).length (aS (dp (nG (mk l) from_ many).1)) (roL 2 s (aS l)::F)):=by
 refine Ct.of func210 rR 40 ntmps210 (by simp) λw0=>?_;refine gS (gA (gQ (gS (gM (gR (vB call213 (kT _ _ _ hl hv)) (gI (aO (Array.replicate 16 (Bo false)) Xx) ?_))))));rintro _ _ ⟨b8,rfl,rfl⟩;refine gU (ax (bA (mk l)) WZ (hl:=by exact iT _) (h1:=by exact qB _) (by simp) (hcs:=by exact bk (h:=by simp[bL]))) (ab (gS (gI (aO (bA (λ_=>false)) (λw=>by rw[K5];exact Xx w)) ?_)));rintro _ _ ⟨Z,rfl,rfl⟩;refine ab (gS (gQ (ac (gS (gV (aU (vs:=bL (mk l)) Xm WZ (hl:=iT _) kQ) (gM (ab (al ?_))))))));refine aM (α:=Nat×(Nat->Bool)×Nat) (λz=>z.1<=16/\z.2.2<=z.1/\nG (mk l) from_ many=pg (mk l) from_ many (16 - z.1) z.1 z.2.1 z.2.2) (λz=>U [(1,I from_),(2,I many),(9,ptr Z 0),(10,I z.2.2),(15, .agg (bA (mk l))),(16,I z.1)]) (λz=>pt Z (.cells (bA z.2.1) 135 (0,0))::roL 2 s (aS l)::F) (λz=>16 - z.1) (0,(λ_=>false),0) ⟨by simp,by simp,rfl⟩ [1,2,9,10,15,16] rfl ?_;rintro ⟨k,out,n⟩ ⟨X,hn,J⟩;simp only[] at X hn J ⊢;refine gS (gV aI (ab (ac ?_)));apply ah<;>intro V
 ·simp at V;have hk:k<16:=(by omega);rw[Oq _ _ _ hk] at J;refine ai (ac (al (gS (gM (gV (kO k Xa Vt V6 hk (by simpa [bA] using Qv hk)) (gA (gQ (ac (gS (gM (gV cE (gM (gK aq (gK aq (gK aI (gV cu (ab ?_)))))))))))))))));apply ah<;>intro O
  ·have R:=O;simp at O;refine aF ?_;refine am (gP (gM (ab ?_)));exact ap (k+1,out,n) ⟨by simp;omega,by simp;omega,by rw[J,YB (by simp;omega)]⟩ (by simp;omega) [1,2,9,10,15,16] rfl
  ·have R:=O;simp at O;refine ai (ac (gS (gM (gM (gV bT (ab ?_))))));apply ah<;>intro S
   ·simp at S;refine gS (gV (aU (vs:=bL (out)) Xm WZ (hl:=iT _) kQ) (gI (uA call214 (oF out)) ?_));rintro _ _ ⟨s9,c9,rfl,rfl⟩;refine gM (gA (gQ ?_));rw[YC (by rw[R];simp),YB S] at J;rw[J];exact mR (f:=λv=> .tuple #[v,I k]) rfl rfl rfl rfl
   ·simp at S;refine ai (gS (gM (gV (ba k Xa Vt hk) (gU (aK (bA (λi=>if i=k then true else out i)) Vt (by simp[bA,bL];omega) (hcs:=by exact xM hk true)) (ab (am (gM (gP (gQ (aG (am (gP (gM (ab ?_))))))))))))));exact ap (k+1,(λi=>if i=k then true else out i),n+1) ⟨by simp;omega,by simp;omega,by rw[J,YC (by simp;omega),YC (by omega)];rfl⟩ (by simp;omega) [1,2,9,10,15,16] rfl
 ·simp at V;obtain rfl:k=16:=(by omega);refine aF ?_;refine gS (gV (aU (vs:=bL (out)) Xm WZ (hl:=iT _) kQ) (gI (uA call214 (oF out)) ?_));rintro _ _ ⟨s9,c9,rfl,rfl⟩;refine gA (gQ ?_);have Y:nG (mk l) from_ many=(out, -1):=J;rw[Y];exact mR (f:=λv=> .tuple #[v,I (-1)]) rfl rfl rfl rfl
def AF (l:List Area)(k i:Nat)(p:Nat):Bool:=if p<k then mk l p else if p=k then mk (l.take i) k else false
def K6 (l:List Area):AF l 0 0=λ_=>false:=by funext p;simp[AF,mk]
def K7 {l:List Area}{k:Nat}:AF l k l.length=AF l (k+1) 0:=by
 grind[AF,mk]
def Ot {l:List Area}{k i:Nat}{a:Area}(h:l[i]? =some a)(J:a.fr<=k/\(k:Int)<a.fr+a.many):(λp=>if p=k then true else AF l k i p)=AF l k (i+1):=by
 funext p
 simp only[AF,lF h]
 grind[mk]
def K8 {l:List Area}{k i:Nat}{a:Area}(h:l[i]? =some a)(J:¬(a.fr<=k/\(k:Int)<a.fr+a.many)):AF l k i=AF l k (i+1):=by
 funext p
 simp only[AF,lF h]
 grind[mk]
def Ou (l:List Area):bA (AF l 16 0)=bA (mk l):=K0 λj hj=>by simp[AF,hj]
def B0 (l:List Area)(s:Option Addr)(cap:Nat)(hl:l.length<=1000000)(hv:DH l)(F:List ag):Ct Tryz.prog 147 [sl s l.length cap] (roL 2 s (aS l)::F) (R1 (.agg (bA (mk l))) (roL 2 s (aS l)::F)):=by
 refine Ct.of func147 rR 41 ntmps147 (by simp) λw0=>?_;refine gS (gI (aO (Array.replicate 16 (Bo false)) XF) ?_);rintro _ _ ⟨V,rfl,rfl⟩;refine ab (gS (gI (aO (bA (AF l 0 0)) (λw=>by rw[K6,K5];exact XF w)) ?_));rintro _ _ ⟨X,rfl,rfl⟩;refine ab (ac (gS (gQ (al ?_))));refine aM (α:=Nat) (λk=>k<=16) (λk=>U [(0,sl s l.length cap),(2,ptr V 0),(3,ptr X 0),(4,I k)]) (λk=>pt X (.cells (bA (AF l k 0)) 136 (0,0))::pt V (.cells (Array.replicate 16 (Bo false)) 136 (0,0))::roL 2 s (aS l)::F) (λk=>16 - k) 0 (by simp) [0,2,3,4] rfl ?_;intro k hk;refine ac (gS (gM (gV aI (ab ?_))));apply ah<;>intro Z
 ·simp at Z;have hk:k<16:=(by omega);refine ai (ac (al (gS (gQ (al ?_)))));refine aM (α:=Nat) (λi=>i<=l.length) (λi=>U [(0,sl s l.length cap),(2,ptr V 0),(3,ptr X 0),(4,I k),(5,I i)]) (λi=>pt X (.cells (bA (AF l k i)) 136 (0,0))::pt V (.cells (Array.replicate 16 (Bo false)) 136 (0,0))::roL 2 s (aS l)::F) (λi=>l.length - i) 0 (by simp) [0,2,3,4,5] rfl ?_;intro i hi;refine ac (gS (gM (gM (gV (aX Wn) (gV aI (ab ?_))))));apply ah<;>intro S
  ·simp at S;have hin:i<l.length:=(by omega);obtain ⟨a,J⟩:∃a,l[i]? =some a:=⟨l[i]'(by omega),by simp⟩;have R:i<l.length:=(Yh.1 J).1;have Y:i<(aS l).length:=(by rw[fh];exact R);have hr_a:=lW J;obtain ⟨hv1,hv2,hv3⟩:=hv a (YW J);refine ai (ac (al (ac ?_)));refine cV jP ?_;refine dM rR (dM rR (dM rR (dV rR (ay _ Wn Wo (by assumption) (by assumption)) (dV rR (aE (j:=_) 0 WS rR Vb (by assumption)) (dV rR (bC Vc (by assumption)) (dV rR j6 (dM rR (dJ rR aq (dJ rR aq (dJ rR aq (dJ rR (ay _ Wn Wo (by assumption) (by assumption)) (dJ rR (aE (j:=_) 0 WS rR Vb (by assumption)) (dJ rR (bC Vc (by assumption)) (dJ rR aq (dJ rR aq (dJ rR (ay _ Wn Wo (by assumption) (by assumption)) (dJ rR (aE (j:=_) 1 WS rR Vb (by assumption)) (dJ rR (bC Vc (by assumption)) (rO rR (λhg=>bO (da (by simp at hg;omega))) (dJ rR aI (dV rR dD ?_)))))))))))))))))))));refine aP ?_;apply ah<;>intro O
   ·simp at O;refine am (gM (gV (ba k WT Vt hk) (gU (aK (bA (AF l k (i+1))) Vt (by simp[bA,bL];omega) (hcs:=by rw[xM hk,Ot J O])) (ab (aG (am (gM (gP (gQ ?_)))))))));exact ap (i+1) (by omega) (by omega) [0,2,3,4,5] rfl
   ·simp at O;refine ai (aG (am (gM (gP (gQ ?_)))));rw[K8 J (by omega)];exact ap (i+1) (by omega) (by omega) [0,2,3,4,5] rfl
  ·simp at S;obtain rfl:i=l.length:=(by omega);rw[K7];refine aF ?_;refine aG (am (gM (gP (gQ ?_))));exact ap (k+1) (by omega) (by omega) [0,2,3,4] rfl
 ·simp at Z;obtain rfl:k=16:=(by omega);refine aF ?_;refine gS (gV (aU (vs:=bL (AF l 16 0)) XL Wj (hl:=iT _) kQ) (gU (ax (bA (AF l 16 0)) Wj (hl:=by exact iT _) (h1:=by exact qB _) (by simp) (hcs:=by exact bk (h:=by simp[bL]))) (ab ?_)));rw[<-Ou l];exact ew (bL (AF l 16 0)) rfl rfl rfl XL Wj (iT _) kQ
def B2 (m:Nat->Bool)(k:Nat)(f:Int):Int:=if ((decide ((k:Int)<16) && m k) && decide (f<0))=true then (k:Int) else f
theorem DZ (m:Nat->Bool)(k:Nat):dl m (k+1)=if (!(decide ((k:Int)<16) && m k) && decide (0<=B2 m k (dl m k).2))=true then ((dl m k).1++ [⟨B2 m k (dl m k).2,k - B2 m k (dl m k).2⟩], -1) else ((dl m k).1,B2 m k (dl m k).2):=rfl
def Ji {m:Nat->Bool}{k:Nat}(h:(!(decide ((k:Int)<16) && m k) && decide (0<=B2 m k (dl m k).2))=true):dl m (k+1)=((dl m k).1++ [⟨B2 m k (dl m k).2,k - B2 m k (dl m k).2⟩], -1):=by
 rw[DZ,YB h]
def F7 {m:Nat->Bool}{k:Nat}(h:(!(decide ((k:Int)<16) && m k) && decide (0<=B2 m k (dl m k).2))=false):dl m (k+1)=((dl m k).1,B2 m k (dl m k).2):=by
 grind[DZ]
def Q4 {m:Nat->Bool}{k:Nat}(hk:k<=16): -1<=B2 m k (dl m k).2/\B2 m k (dl m k).2<=k:=by
 obtain ⟨h1,J,_⟩:=wT m k hk
 grind[B2]
def uN (m:Nat->Bool)(F:List ag):Ct Tryz.prog 152 [.agg (bA m)] (F) (ww 142 2 (dp m).length (aS (dp m)) F):=by
 refine Ct.of func152 rR 39 ntmps152 (by simp) λw0=>?_;refine gS (gI (di (bA m)) ?_);rintro _ _ ⟨b1,rfl,rfl⟩;refine gQ (ac ?_);refine bH 142 2 (aS (dl m 0).1) ?_;refine am (gQ (gS (gQ (ac (gS (gQ (al ?_)))))));refine aM (α:=Nat×Option Addr×Nat) (λz=>z.1<=17) (λz=>U [(1,ptr b1 0),(3,sl z.2.1 (dl m z.1).1.length z.2.2),(4,I (dl m z.1).2),(5,I z.1)]) (λz=>bi 142 2 z.2.1 z.2.2 (aS (dl m z.1).1)::pt b1 (.cells (bA m) 136 (0,0))::F) (λz=>17 - z.1) (0,none,0) (by simp) [1,3,4,5] rfl ?_;rintro ⟨k,s,cap⟩ R;simp only[] at R ⊢;refine ac (gS (gM (gV pP (ab ?_))));apply ah<;>intro Y
 ·simp at Y;have hk:k<=16:=(by omega);obtain ⟨hb1,hb2,hb3,_⟩:=wT m k hk;refine ai (ac (al (gS (gM (gV aI (gM (gK aq (Jd (λV=>ba k WT Vt (by simp at V;omega)) (Jd (λV=>az V6 (hv:=⟨qA (by simp at V;omega)⟩)) (gV dD (gQ (ac (gS (gM (gM (gK aq (gK aI (gV dD (ab ?_)))))))))))))))))));refine ls (α:=Unit) (λ_=>True) (λ_=>U [(1,ptr b1 0),(3,sl s (dl m k).1.length cap),(4,I (B2 m k (dl m k).2)),(5,I k),(6, .bool (decide ((k:Int)<16) && m k))]) (λ_=>bi 142 2 s cap (aS (dl m k).1)::pt b1 (.cells (bA m) 136 (0,0))::F) ?_ ?_
  ·apply ah<;>intro J
   ·refine am (gM (gQ ?_));exact cF () trivial [1,3,4,5,6] rfl (he:=by simp only[B2,J];rfl)
   ·refine ai ?_;exact cF () trivial [1,3,4,5,6] rfl (he:=by simp only[B2,J];rfl)
  rintro ⟨⟩ -;refine gS (gM (gV cE (gM (gK aq (gK j6 (gV dD (ab ?_)))))));apply ah<;>intro O
  ·refine gS (gM (gM (gM (gM (gV (fe (da (by have:=Q4 (m:=m) hk;omega))) (gV (aR (rT _ rR _ rR)) (gI (av [[I (B2 m k (dl m k).2),I (k - B2 m k (dl m k).2)]] Wn Wo WX (by simp)) ?_)))))));rintro _ _ ⟨Z,rfl,rfl⟩;refine gI (bo Wn Wo WX Tryz.typeInfo142 (hn:=by exact fh _) (by simp) (by simp[ones,one]) ⟨by omega,by decide,by decide⟩) ?_;rintro _ _ ⟨X,c37,rfl,rfl⟩;rw[AE];refine gQ (am (gQ (aG (am (gM (gP (gQ ?_)))))));have e:=Ji O;have S:(dl m (k+1)).1=(dl m k).1++ [⟨B2 m k (dl m k).2,k - B2 m k (dl m k).2⟩]:=(by rw[e]);rw[<-S];exact ap (k+1,X,c37) (by simp;omega) (by simp;omega) [1,3,4,5] rfl (he:=by simp[U,e])
  ·refine ai (aG (am (gM (gP (gQ ?_)))));have e:=F7 O;have S:(dl m (k+1)).1=(dl m k).1:=(by rw[e]);rw[<-S];exact ap (k+1,s,cap) (by simp;omega) (by simp;omega) [1,3,4,5] rfl (he:=by simp[U,e])
 ·simp at Y;obtain rfl:k=17:=(by omega);rw[Q3];refine aF ?_;refine gS (gM (gQ ?_));exact df rfl rfl rfl rfl
-- counterfoil/counterfoilref.Union is not in this seat
-- counterfoil/counterfoilref.Cut is not in this seat
-- counterfoil/counterfoilref.Page is not in this seat
def qD (e f:Int)(he:0<=e)(F:List ag):Ct Tryz.prog 14 [bM e,I f] (F) (R1 (Bo (decide (e=f))) F):=by
 refine Ct.of func14 rR 26 ntmps14 (by simp) λw0=>?_;refine gS (gQ (ac (gS (gM (gV (fO Vl) (ab ?_))))));apply ah<;>intro J
 ·simp at J;subst J;refine gS (gM (gV bT (gQ ?_)));refine ao rR rR ?_;show Bo (decide (f=0))=_;rw[decide_eq_decide.2 (show f=0 ↔ 0=f by omega)]
 ·simp at J;refine ai (gS (gM (gV (Jg Vn rR J) (gM (gV aH (gV aH (gA (gQ (gS (gM (gM (gK aq (gK aT (gV dD (gM (gK aq (gK aq (gK bT (gV dD (gQ ?_))))))))))))))))))));refine ao rR rR ?_;show Bo ((true && decide (0<f)) && decide (e=f))=_;by_cases h:e=f
  ·subst h;simp;omega
  ·simp[h]
-- counterfoil/counterfoillaw.areas is not in this seat
def cM (m:Nat->Bool):Nat->Nat
 | 0=>0
 | k+1=>cM m k+if m k=true then 1 else 0
def K9:∀{l:List Area} {e:Int},BX e l=0->DH l/\∀a∈l,e<a.fr
 | [],e,_=>by simp[DH]
 | a::l,e,h=>by
  unfold BX at h;split at h
  ·omega
  ·split at h
   ·omega
   ·rename_i h1 S;obtain ⟨O,R⟩:=K9 h;refine ⟨λb J=>?_,λb J=>?_⟩
    ·rcases Y5.1 J with rfl | J
     ·omega
     ·exact O b J
    ·rcases Y5.1 J with rfl | J
     ·omega
     ·have:=R b J;omega
theorem kX (m:Nat->Bool):(dp m).length<=1000000:=by have:=(sP m 16).1;show (fz m 16).length<=_;omega
-- counterfoil/counterfoillaw.AreaSays is not in this seat
open Go.Sl Go.Proofs Go.ChangeShapes Go.WideShapes Go.ChangeAt Go.RowKit
def own:ownKnob Tryz.prog.godebug=none:=by kernel_rfl
def laidOut:laidOutB Tryz.prog=true:=by kernel_rfl
def OldRows (W:World)(a:Option Addr)(sz:Nat)(rows:List (List Value)):Prop:=rows=[]\/∃b off o,a=some ⟨b,off,none⟩/\W.heap[b]? =some o/\Go.Sl.Rows o off sz rows
theorem OldRows.sat {w0 w:World}{L:List ag}{a:Option Addr}{sz:Nat}{rows:List (List Value)}(h:OldRows w0 a sz rows)(J:Sat w0 w (old w0::L)):Sat w0 w (roL sz a rows::old w0::L):=by
 rcases h with rfl | ⟨b,off,o,rfl,O,hr⟩
 ·exact (Sat.pure_mk (φ:=True) trivial J).weak λm _=>Or.inl rfl
 ·exact (J.old_ro O).weak λm hm=>Or.inr ⟨b,off,o,rfl,hm,hr⟩
def int_ok {n:Int}(h:(Lit.int .i64 n).wf=true):ok64 n:=by
 have:=h;simp[Lit.wf,IntKind.min,IntKind.max,IntKind.signed,IntKind.bits] at this;unfold ok64;omega
instance:Inhabited Area:=⟨⟨0,0⟩⟩
section
variable {H:Type}{enc:TypeId×Value->H}{W:World}{spare:Nat->Bool}{held:Bool}
def F8 {sz len:Nat}{a:Addr}{rows:List (List Value)}(hl:rows.length=len)(h:∀i row,rows[i]? =some row->∀f v,row[f]? =some v->W.cell? ((a.add (i*sz)).add f)=some v)(hne:∀row∈rows,row≠ []):OldRows W (some a) sz rows:=by
 by_cases h0:rows=[]
 ·exact .inl h0
 ·right;obtain ⟨V,rs,rfl⟩:=Y6 h0;obtain ⟨v0,vs,S⟩:=Y6 (hne V (by simp));have R:=h 0 V rfl 0 v0 (by rw[S];rfl);have O:=World.cell?_spot R;simp[Addr.add] at O R;obtain ⟨b,off,X⟩:=a;simp only at O;subst O;cases hh:W.heap[b]? with
  | none=>simp[World.cell?,hh] at R
  | some o=>
   refine ⟨b,off,o,rfl,hh,λj row hj f v Y=>?_⟩;have J:=h j row hj f v Y;rw[ga,ga] at J;unfold World.cell? at J;simp only[hh] at J;cases o <;> simp at J;simpa [bG,YE] using J
def law_of {f:Nat}{args:List Value}{W:World}{L:List ag}(J:Sat W W (L++ [old W]))(h:∀F,Ct Tryz.prog f args (L++F) (R1 (.bool true) (L++F))):
  Calls Tryz.prog f args.toArray W λe w'=>e= .returned (.bool true)/\RowKit.Below W.heap.size W w':=
 (h [old W] W W J).mono λe w' he=>by
  cases e with
  | returned v=>
   obtain ⟨L',h1,rfl,rfl⟩:=he;exact ⟨rfl,(h1.endFront).below⟩
  | panicked O=>exact he.elim
  | outgrown=>exact he.elim
end
end Go.Proofs.YthdjckbjjfiopabGreatDoor