/- Several texts in one: walks and rules used by them. No condition. -/
import Derived.Calls
import Derived.RangeFuncLeaves
import Derived.RangeFuncMany
import Derived.Orders
import Derived.Below
import Derived.Laws.World
import Derived.Tactics
import Derived.Still
import Derived.IntWalk
import Derived.Laws.Strings
import Derived.Deep.LoopGhost
import Derived.Laws.Cells
import Derived.Laws.AppendOwn
import Derived.Test.YthdjckbjjfiopabGreatDoorProg
import Derived.KernelRfl
import Derived.Test.YthdjckbjjfiopabGreatDoorRows
import Derived.WalkKit
import Derived.ProofKit
import Derived.OpenShut
import Derived.ShutString
import Derived.ChangeOld
import Derived.Deep.Slices
import Derived.Laws.BytesString
set_option linter.unusedSimpArgs false
set_option linter.unusedVariables false
set_option linter.defProp false
set_option maxHeartbeats 800000
namespace Go.Sl
def Ra:=@Nat.le_refl
def Rb:=@Option.map_eq_some_iff
def Rc:=@List.getElem?_map
def Rd:=@congrArg
def Re:=@List.getElem?_eq_some_iff
def Rf:=@List.pairwise_iff_getElem
def Rg:=@Nat.lt_or_gt_of_ne
def Rh:=@Nat.le_trans
def Ri:=@List.getElem?_append_left
def Rj:=@List.getElem?_append_right
def Rk:=@Array.getElem?_eq_some_iff
def Rl:=@Array.getElem?_setIfInBounds_ne
def Rm:=@Nat.eq_of_beq_eq_true
def Rn:=@Array.getD_eq_getD_getElem?
def Ro:=@Nat.ne_of_beq_eq_false
def Rp:=@Bool.false_eq_true
def Rq:=@Nat.lt_or_ge
def Rr:=@Array.getElem?_eq_none
def Rs:=@Array.setIfInBounds_comm
def Ru:=@Bool.and_eq_true
def Rv:=@List.map_cons
def Rw:=@List.Nodup.sublist
def Rx:=@List.eraseIdx_sublist
def Ry:=@List.getElem?_set_self
def Rz:=@List.getElem?_set_ne
def RA:=@List.map_append
def RB:=@List.map_map
def RC:=@List.map_nil
def RD:=@List.pairwise_append
def RE:=@List.pairwise_map
def RF:=@List.eraseIdx_append_of_length_le
def RG:=@List.eraseIdx_append_of_lt_length
def RH:=@Array.mapM_eq_mapM_toList
def RI:=@if_pos
def RJ:=@if_neg
def RK:=@List.getElem?_toArray
def RL:=@Array.getElem?_append_left
def RM:=@Bool.eq_iff_iff
def RN:=@List.size_toArray
def RO:=@Nat.add_assoc
def RP:=@List.length_eq_zero_iff
def RQ:=@Nat.add_zero
def RR:=@List.mem_cons
def RS:=@Array.ext_getElem?
def RT:=@Array.getElem?_modify
def RU:=@Array.getElem?_setIfInBounds
def RV:=@Nat.add_mul
def RW:=@Nat.one_mul
def RX:=@List.length_cons
def RY:=@List.mem_map_of_mem
def RZ:=@Nat.div_eq_of_lt
def R3:=@Nat.mod_eq_of_lt
def R4:=@Nat.mul_comm
def R5:=@List.mem_of_getElem?
def R6:=@Nat.mul_add_div
def R7:=@Nat.mul_add_mod
def R8:=@Nat.mul_le_mul
def R9:=@Nat.mul_le_mul_right
def Sa:=@Nat.zero_add
def Sb:=@Nat.add_sub_cancel_left
def Sc:=@List.mem_append
def Sd:=@List.mem_flatten
def Se:=@Array.size_append
def Sf:=@List.mem_or_eq_of_mem_set
def Sg:=@List.take_succ_eq_append_getElem
def Sh:=@List.exists_cons_of_ne_nil
def Si:=@List.getElem?_replicate
def Sj:=@Array.getElem?_map
def Sk:=@Array.getElem?_range
def Sn:=@Array.eq_empty_of_size_eq_zero
def So:=@Nat.mul_pos
def Sq:=@List.mem_replicate
def Sr:=@List.append_assoc
def Ss:=@List.getElem?_take_of_lt
def Sv:=@List.length_take
def Sw:=@Nat.min_eq_left
def Sx:=@List.length_append
def Sy:=@List.getElem?_drop
def Sz:=@Nat.min_le_left
def SA:=@Nat.min_le_right
def SB:=@List.mem_of_mem_drop
def SD:=@List.mem_of_mem_take
def SE:=@Option.map_none
def SF:=@List.foldl_cons
def SG:=@Nat.pow_le_pow_right
def SH:=@Int.emod_eq_of_lt
def SJ:=@Int.toNat_of_nonneg
def SK:=@List.nil_append
def SM:=@List.cons_append
def SN:=@Bool.or_eq_true
def SO:=@Array.any_eq_true
def SP:=@Array.getElem_mem
def SQ:=@List.all_eq_true
def SR:=@List.mem_map
def SS:=@Array.mem_toList_iff
def SU:=@Nat.mod_lt
def SV:=@Int.fdiv_eq_ediv_of_nonneg
def SX:=@List.drop_zero
def SY:=@List.take_append_of_le_length
def SZ:=@List.take_replicate
def S0:=@List.drop_replicate
def S5:=@decide_eq_false
def S6:=@List.getElem?_eq_getElem
def S7:=@List.take_length
def S8:=@decide_eq_true
def S9:=@List.ext_getElem?
def Ta:=@List.getD_eq_getElem?_getD
def Tb:=@Option.getD_some
def Tc:=@Nat.div_lt_iff_lt_mul
def Td:=@Option.bind_some
def Te:=@List.length_replicate
def Tf:=@Array.getElem?_toList
def Tg:=@List.nodup_cons
def Th:=@List.mem_cons_of_mem
def Ti:=@List.map_congr_left
def Tj:=@Option.not_isSome_iff_eq_none
def Tk:=@List.nodup_append
def Tl:=@List.Sublist.map
def Tm:=@List.filter_sublist
def Tn:=@List.filter_cons_of_neg
def To:=@List.filter_cons_of_pos
def Tp:=@List.Pairwise.map
def Tq:=@List.getElem_map
def Ts:=@Array.toList_push
def Tt:=@List.filter_eq_self
def Tu:=@Array.toList_filter
def Tv:=@List.filter_filter
def Tw:=@List.eq_nil_of_length_eq_zero
def Tx:=@List.append_of_mem
def Ty:=@List.perm_middle
def Tz:=@List.mem_filter
def TA:=@List.filter_append
def TB:=@List.nodup_range'
def TD:=@List.length_map
def TE:=@List.Pairwise.sublist
def TF:=@List.mem_range'_1
def TG:=@List.length_filter_le
def TH:=@List.countP_eq_length_filter
def TI:=@List.find?_eq_none
def TJ:=@List.find?_range'_eq_some
def TK:=@List.setIfInBounds_toArray
def TM:=@Bool.true_and
def TN:=@Bool.false_or
def TO:=@Array.ext'
def TP:=@Nat.mul_one
def TQ:=@List.mem_cons_self
def TR:=@List.map_take
def TS:=@List.getElem?_take
def TU:=@List.filter_map
def TV:=@List.mem_erase_of_ne
def TW:=@List.length_erase_of_mem
def TX:=@List.length_pos_of_mem
def TY:=@List.flatMap_cons
def TZ:=@List.eraseIdx_cons_succ
def T0:=@List.perm_append_comm
def T1:=@List.map_set
def T2:=@List.length_set
def T3:=@List.take_zero
def T4:=@List.take_of_length_le
def T5:=@List.drop_of_length_le
def T6:=@List.append_nil
def T7:=@List.take_succ_cons
def T8:=@List.drop_succ_cons
def T9:=@List.take_left
def Ua:=@List.drop_left
def Ub:=@List.mem_singleton
def Uc:=@List.drop_eq_getElem_cons
def Ud:=@List.getElem?_set
def Ue:=@List.getElem?_eq_none
def Uf:=@List.not_mem_nil
def Ug:=@List.mem_append_left
def Uh:=@List.length_nil
def Ui:=@Int.toNat_natCast
def Uj:=@List.getElem?_cons_zero
def Uk:=@List.drop_length
def Ul:=@List.length_drop
def Um:=@Int.eq_ofNat_of_zero_le
def Un:=@Nat.sub_self
def Uo:=@Nat.lt_trichotomy
def Uq:=@List.pairwise_cons
def Ur:=@List.filter_eq_nil_iff
def Us:=@List.any_eq_false
def Ut:=@List.filter_cons
def Uu:=@List.any_append
def Uv:=@List.any_cons
def Ux:=@List.set_append_right
def Uy:=@List.foldl_append
def Uz:=@Option.some_get
def UA:=@List.length_eraseIdx
def UB:=@List.drop_append_of_le_length
def UC:=@List.take_sublist
def UD:=@Nat.zero_le
def UE:=@List.mem_append_right
def UF:=@Option.ne_none_iff_exists'
def UG:=@Option.isSome_iff_exists
def UH:=@List.count_cons
def UI:=@Int.add_zero
def UJ:=@Int.le_refl
def UK:=@List.count_append
def UL:=@List.count_le_length
def UM:=@List.count_pos_iff
def UN:=@List.findIdx_getElem
def UO:=@List.not_of_lt_findIdx
def UP:=@List.find?_eq_some_iff_getElem
def UQ:=@List.findIdx_lt_length_of_exists
def UR:=@List.find?_some
def US:=@List.pairwise_singleton
def UT:=@List.take_append_drop
def UV:=@List.drop_drop
def UW:=@List.flatMap_nil
def UX:=@List.Pairwise.imp_of_mem
def UY:=@List.take_add_one
def UZ:=@Bool.or_eq_false_iff
def U4:=@List.mem_iff_getElem
def U5:=@List.take_set_of_le
def U6:=@List.drop_set_of_lt
def U7:=@Int.lt_or_eq_of_le
def U8:=@Bool.and_assoc
def U9:=@List.any_eq_true
def Va:=@List.Pairwise.filter
def Vb:=@Option.isSome_map
def Vc:=@List.find?_cons_of_pos
def Vd:=@List.find?_cons_of_neg
def Ve:=@List.mem_range
def Vf:=@List.getElem?_of_mem
def Vg:=@List.findIdx_cons
def Vh:=@Option.isNone_iff_eq_none
def Vi:=@List.range'_concat
def Vj:=@Int.ofNat_tdiv
def Vk:=@Int.ofNat_tmod
def rR {α:Type}{a:α}:a=a:=rfl
abbrev Res:=Nat->Option (Obj×Bool)
abbrev aa:=Res->Prop
def Res.dj (m n:Res):Prop:=∀b x y,m b=some x->n b=some y->x.2=true/\y.2=true
def Res.fits (m:Res)(w:World):Prop:=∀b x,m b=some x->w.heap[b]? =some x.1
def Res.sub (m n:Res):Prop:=∀b x,m b=some x->n b=some x
def OkL (w:World)(L:List aa)(f:Nat->Res):Prop:=
 (∀i A,L[i]? =some A->A (f i)/\(f i).fits w)/\∀i j,i<L.length->j<L.length->i≠j->(f i).dj (f j)
structure Sat (w0 w:World) (L:List aa):Prop where
 os:w.os=w0.os
 tape:w.tape=w0.tape
 output:w.output=w0.output
 size:w0.heap.size<=w.heap.size
 parts:∃f,OkL w L f
def gE (φ:Prop):aa:=λ_=>φ
def ll {α:Type}(A:α->aa):aa:=λm=>∃x,A x m
def ny (A B:aa):aa:=λm=>∃m1 m2,m1.dj m2/\m1.sub m/\m2.sub m/\A m1/\B m2
def pt (b:Nat)(o:Obj):aa:=λm=>m b=some (o,false)
def ro (b:Nat)(o:Obj):aa:=λm=>m b=some (o,true)
def old (w0:World):aa:=λm=>∀b o,w0.heap[b]? =some o->m b=some (o,true)
def Pers (A:aa):Prop:=∀m,A m->∃m',Res.sub m' m/\(∀b x,m' b=some x->x.2=true)/\A m'
theorem Res.dj.symm {m n:Res}(h:m.dj n):n.dj m:=λb x y hx D=>(h b y x D hx).symm
theorem Res.dj.mono {m n m' D:Res}(h:m.dj n)(J:m'.sub m)(O:D.sub n):m'.dj D:=λb x y hx R=>h b x y (J b x hx) (O b y R)
theorem Res.fits.mono {m m':Res}{w:World}(h:m.fits w)(D:m'.sub m):m'.fits w:=λb x hx=>h b x (D b x hx)
theorem Res.sub.refl (m:Res):m.sub m:=λ_ _ h=>h
def Res.union (m n:Res):Res:=λb=>(m b).or (n b)
def Res.one (b:Nat)(x:Obj×Bool):Res:=λc=>if c=b then some x else none
theorem Res.one_eq {b c:Nat}{x y:Obj×Bool}(h:Res.one b x c=some y):c=b/\y=x:=by
 unfold Res.one at h;split at h
 ·exact ⟨‹_›,by injection h with h;exact h.symm⟩
 ·cases h
theorem Res.one_self {b:Nat}{x:Obj×Bool}:Res.one b x b=some x:=by simp[Res.one]
section
variable {w0 w:World}{L:List aa}{A B:aa}
theorem Sat.start (w0:World):Sat w0 w0 [old w0]:=by
 refine ⟨rfl,rfl,rfl,Ra _,λ_ b=>(w0.heap[b]?).map (·,true),?_,?_⟩
 ·intro i A D;cases i with
  | zero=>
   simp at D;subst D;exact ⟨λb o h=>by simp[h],λb x h=>by
    simp[Rb] at h;obtain ⟨o,S,rfl⟩:=h;exact S⟩
  | succ i=>simp at D
 ·intro i j J O R;simp at J O;omega
theorem Sat.pick {L':List aa}(J:List Nat)(h:Sat w0 w L)(hL:J.map (L[·]?)=L'.map some)(hn:J.Nodup):Sat w0 w L':=by
 obtain ⟨h1,h2,h3,h4,f,hf,hd⟩:=h;have D:∀(i:Nat) (A:aa),L'[i]? =some A->∃k:Nat,J[i]? =some k/\L[k]? =some A:=by
  intro i A S;have:(L'.map some)[i]? =some (some A):=(by simp[S]);rw[<-hL,Rc] at this;cases O:J[i]? with
  | none=>simp[O] at this
  | some k=>simp[O] at this;exact ⟨k,rfl,this⟩
 have hlen:J.length=L'.length:=(by simpa using Rd List.length hL);refine ⟨h1,h2,h3,h4,λi=>f (J.getD i 0),?_,?_⟩
 ·intro i A S;obtain ⟨k,O,Y⟩:=D i A S;have:J.getD i 0=k:=(by simp[List.getD,O]);simp only[this];exact hf k A Y
 ·intro i j hi hj Z;obtain ⟨k,O,S⟩:=D i L'[i] (by simp[hi]);obtain ⟨l,hl,hB⟩:=D j L'[j] (by simp[hj]);have V:J.getD i 0=k:=(by simp[List.getD,O]);have X:J.getD j 0=l:=(by simp[List.getD,hl]);simp only[V,X];refine hd k l ?_ ?_ ?_
  ·exact (Re.1 S).1
  ·exact (Re.1 hB).1
  ·intro e;subst e;obtain ⟨i1,V⟩:=Re.1 O;obtain ⟨j1,X⟩:=Re.1 hl;have hp:=Rf.1 hn;rcases Rg Z with R | R
   ·exact hp i j i1 j1 R (V.trans X.symm)
   ·exact hp j i j1 i1 R (X.trans V.symm)
theorem Sat.head {w':World}{L1:List aa}(h:Sat w0 w (A::L))(hos:w'.os=w.os)(J:w'.tape=w.tape)(V:w'.output=w.output)(D:w.heap.size<=w'.heap.size)
  (k:∀m,A m->m.fits w->∃g:Nat->Res,OkL w' L1 g/\(∀(n:Res),n.fits w->n.dj m->n.fits w'/\∀i,i<L1.length->(g i).dj n)):Sat w0 w' (L1++L):=by
 obtain ⟨O,R,h3,h4,f,X,hd⟩:=h;have hA:=X 0 A rfl;obtain ⟨g,⟨hg,Z⟩,hn⟩:=k (f 0) hA.1 hA.2;refine ⟨hos.trans O,J.trans R,V.trans h3,Rh h4 D,λi=>if i<L1.length then g i else f (i - L1.length+1),?_,?_⟩
 ·intro i C S;by_cases Y:i<L1.length
  ·rw[Ri Y] at S;simp only[Y,if_true];exact hg i C S
  ·rw[Rj (by omega)] at S;simp only[Y,if_false];have:=X (i - L1.length+1) C (by simpa using S);refine ⟨this.1,(hn _ this.2 ?_).1⟩;have hlt:=(Re.1 S).1;exact hd _ _ (by simp;omega) (by simp) (by omega)
 ·intro i j Y hj hne;have hlen:(L1++L).length=L1.length+L.length:=(by simp);by_cases O:i<L1.length <;> by_cases R:j<L1.length <;> simp only[O,R,if_true,if_false]
  ·exact Z i j O R hne
  ·have hjl:j - L1.length+1<(A::L).length:=(by simp;omega);exact (hn _ (X (j - L1.length+1) ((A::L)[j - L1.length+1]) (by simp)).2 (hd _ _ hjl (by simp) (by omega))).2 i O
  ·have hil:i - L1.length+1<(A::L).length:=(by simp;omega);exact ((hn _ (X (i - L1.length+1) ((A::L)[i - L1.length+1]) (by simp)).2 (hd _ _ hil (by simp) (by omega))).2 j R).symm
  ·exact hd _ _ (by simp;omega) (by simp;omega) (by omega)
theorem OkL.one {w:World}{A:aa}{m:Res}(h:A m)(J:m.fits w):OkL w [A] (λ_=>m):=by
 refine ⟨λi B D=>?_,λi j O R S=>?_⟩
 ·cases i with
  | zero=>simp at D;subst D;exact ⟨h,J⟩
  | succ i=>simp at D
 ·simp at O R;omega
theorem Sat.weak (h:Sat w0 w (A::L))(k:∀m,A m->B m):Sat w0 w (B::L):=
 h.head (L1:=[B]) rfl rfl rfl (Ra _) λm D J=>⟨λ_=>m,OkL.one (k m D) J,λn O hd=>⟨O,λ_ _=>hd.symm⟩⟩
theorem Sat.ex {α:Type}{A:α->aa}(h:Sat w0 w (ll A::L)):∃x,Sat w0 w (A x::L):=by
 obtain ⟨O,R,S,V,f,J,hd⟩:=h;obtain ⟨x,hx⟩:=(J 0 _ rfl).1;refine ⟨x,O,R,S,V,f,λi C D=>?_,hd⟩;cases i with
 | zero=>simp at D;subst D;exact ⟨hx,(J 0 _ rfl).2⟩
 | succ i=>exact J (i+1) C (by simpa using D)
theorem Sat.ex_mk {α:Type}{A:α->aa}(x:α)(h:Sat w0 w (A x::L)):Sat w0 w (ll A::L):=h.weak λ_ D=>⟨x,D⟩
theorem Sat.tail (h:Sat w0 w (A::L)):Sat w0 w L:=by
 simpa using h.head (L1:=[]) rfl rfl rfl (Ra _) λm _ _=>⟨λ_=>m,⟨by simp,by simp⟩,λ_ D _=>⟨D,by simp⟩⟩
theorem Sat.pure_ {φ:Prop}(h:Sat w0 w (gE φ::L)):φ/\Sat w0 w L:=⟨by
 obtain ⟨_,_,_,_,f,D,_⟩:=h;exact (D 0 _ rfl).1,h.tail⟩
theorem Sat.pure_mk {φ:Prop}(hp:φ)(h:Sat w0 w L):Sat w0 w (gE φ::L):=by
 obtain ⟨J,O,R,S,f,V,hd⟩:=h;refine ⟨J,O,R,S,λi=>match i with | 0=>λ_=>none | i+1=>f i,λi C D=>?_,λi j X Y Z=>?_⟩
 ·cases i with
  | zero=>simp at D;subst D;exact ⟨hp,λb x hx=>by cases hx⟩
  | succ i=>exact V i C (by simpa using D)
 ·cases i with
  | zero=>exact λb x y hx=>by cases hx
  | succ i=>cases j with
   | zero=>exact λb x y _ hy=>by cases hy
   | succ j=>exact hd i j (by simpa using X) (by simpa using Y) (by omega)
theorem Sat.star (h:Sat w0 w (ny A B::L)):Sat w0 w (A::B::L):=
 h.head (L1:=[A,B]) rfl rfl rfl (Ra _) λm V R=>by
  obtain ⟨m1,m2,hd,S,s2,X,Y⟩:=V;refine ⟨λi=>if i=0 then m1 else m2,⟨λi C D=>?_,λi j Z hj hne=>?_⟩,λn hn J=>⟨hn,λi _=>?_⟩⟩
  ·match i with
   | 0=>simp at D;subst D;exact ⟨X,R.mono S⟩
   | 1=>simp at D;subst D;exact ⟨Y,R.mono s2⟩
   | i+2=>simp at D
  ·simp at Z hj;by_cases O:i=0
   ·have:j≠0:=(by omega);simp only[O,this,if_true,if_false];exact hd
   ·have:j=0:=(by omega);simp only[O,this,if_true,if_false];exact hd.symm
  ·dsimp only;split
   ·exact (J.mono (Res.sub.refl _) S).symm
   ·exact (J.mono (Res.sub.refl _) s2).symm
theorem Sat.two (h:Sat w0 w (A::B::L)):Sat w0 w (ny A B::L):=by
 obtain ⟨h1,h2,h3,h4,f,V,hd⟩:=h;have O:=V 0 _ rfl;have R:=V 1 _ rfl;have J:=hd 0 1 (by simp) (by simp) (by omega);have s2:(f 1).sub ((f 0).union (f 1)):=by
  intro b x hx;unfold Res.union;cases D:f 0 b with
  | none=>simp[hx]
  | some y=>
   have e1:=O.2 b y D;have X:=R.2 b x hx;have:=J b y x D hx;have:y=x:=Prod.ext (by rw[e1] at X;injection X) (this.1.trans this.2.symm);simp[this]
 have s1:(f 0).sub ((f 0).union (f 1)):=λb x hx=>(by simp[Res.union,hx]);refine ⟨h1,h2,h3,h4,λi=>match i with | 0=>(f 0).union (f 1) | i+1=>f (i+2),λi C S=>?_,λi j Y Z hne=>?_⟩
 ·cases i with
  | zero=>
   simp at S;subst S;refine ⟨⟨f 0,f 1,J,s1,s2,O.1,R.1⟩,λb x hx=>?_⟩;simp only[Res.union] at hx;cases D:f 0 b with
   | none=>rw[D] at hx;exact R.2 b x (by simpa using hx)
   | some y=>rw[D] at hx;exact O.2 b x (by rw[D];simpa using hx)
  | succ i=>exact V (i+2) C (by simpa using S)
 ·have dj:∀k,k+1<(ny A B::L).length->((f 0).union (f 1)).dj (f (k+2)):=λk hk b x y hx hy=>by
   simp only[Res.union] at hx;cases D:f 0 b with
   | none=>rw[D] at hx;exact hd 1 (k+2) (by simp) (by simp at hk ⊢;omega) (by omega) b x y (by simpa using hx) hy
   | some z=>rw[D] at hx;exact hd 0 (k+2) (by simp) (by simp at hk ⊢;omega) (by omega) b x y (by rw[D];simpa using hx) hy
  cases i with
  | zero=>cases j with
   | zero=>omega
   | succ j=>exact dj j Z
  | succ i=>cases j with
   | zero=>exact (dj i Y).symm
   | succ j=>exact hd (i+2) (j+2) (by simp at Y ⊢;omega) (by simp at Z ⊢;omega) (by omega)
theorem Sat.at_ {b:Nat}{o:Obj}(h:Sat w0 w (pt b o::L)):w.heap[b]? =some o:=by
 obtain ⟨_,_,_,_,f,D,_⟩:=h;have:=D 0 _ rfl;exact this.2 b (o,false) this.1
theorem Sat.ro_at {b:Nat}{o:Obj}(h:Sat w0 w (ro b o::L)):w.heap[b]? =some o:=by
 obtain ⟨_,_,_,_,f,D,_⟩:=h;have:=D 0 _ rfl;exact this.2 b (o,true) this.1
theorem Sat.freeze {b:Nat}{o:Obj}(h:Sat w0 w (pt b o::L)):Sat w0 w (ro b o::L):=
 h.head (L1:=[ro b o]) rfl rfl rfl (Ra _) λm J O=>by
  refine ⟨λ_=>Res.one b (o,true),OkL.one Res.one_self λc x hx=>?_,λn R D=>⟨R,λi _ c x y hx S=>?_⟩⟩
  ·obtain ⟨rfl,rfl⟩:=Res.one_eq hx;exact O _ (o,false) J
  ·obtain ⟨rfl,rfl⟩:=Res.one_eq hx;have:=(D _ y (o,false) S J).2;cases this
theorem Sat.set {b:Nat}{o o':Obj}{w':World}(h:Sat w0 w (pt b o::L))(Y:w'={w with heap:=w.heap.setIfInBounds b o'}):Sat w0 w' (pt b o'::L):=by
 subst Y;refine h.head (L1:=[pt b o']) rR rR rR (by simp) λm J V=>?_;have S:=V b _ J;have O:=(Rk.1 S).1;refine ⟨λ_=>Res.one b (o',false),OkL.one Res.one_self λc x hx=>?_,λn X D=>⟨λc x hx=>?_,λi _ c x y hx Z=>?_⟩⟩
 ·obtain ⟨rfl,rfl⟩:=Res.one_eq hx;simp[O]
 ·have R:b≠c:=by
   rintro rfl;have:=(D b x (o,false) hx J).2;cases this
  simp only[Rl R];exact X c x hx
 ·obtain ⟨rfl,rfl⟩:=Res.one_eq hx;have:=(D _ y (o,false) Z J).2;cases this
theorem Sat.alloc (h:Sat w0 w L)(o:Obj):Sat w0 {w with heap:=w.heap.push o} (pt w.heap.size o::L):=by
 have O:Sat w0 w (gE True::L):=h.pure_mk trivial;refine O.head (L1:=[pt w.heap.size o]) rR rR rR (by simp) λm _ V=>?_;have D:∀(n:Res),n.fits w->∀c x,n c=some x->c<w.heap.size:=λn J c x hx=>(Rk.1 (J c x hx)).1;refine ⟨λ_=>Res.one w.heap.size (o,false),OkL.one Res.one_self λc x hx=>?_,λn J R=>⟨λc x hx=>?_,λi _ c x y hx S=>?_⟩⟩
 ·obtain ⟨rfl,rfl⟩:=Res.one_eq hx;simp
 ·have:=D n J c x hx;simp only[Array.getElem?_push_lt this];simpa [this] using J c x hx
 ·obtain ⟨rfl,rfl⟩:=Res.one_eq hx;have:=D n J _ y S;omega
theorem Sat.drew (h:Sat w0 w L)(k:Nat):Sat w0 {w with drawn:=k} L:=⟨h.os,h.tape,h.output,h.size,h.parts⟩
theorem Sat.dup (h:Sat w0 w (A::L))(Z:Pers A):Sat w0 w (A::A::L):=
 h.head (L1:=[A,A]) rfl rfl rfl (Ra _) λm S X=>by
  obtain ⟨m',R,O,V⟩:=Z m S;refine ⟨λ_=>m',⟨λi C D=>?_,λi j _ _ _ b x y hx hy=>⟨O b x hx,O b y hy⟩⟩,λn Y J=>⟨Y,λi _=>(J.mono (Res.sub.refl _) R).symm⟩⟩;have:C=A:=by
   match i with
   | 0=>simpa using D.symm
   | 1=>simpa using D.symm
   | i+2=>simp at D
  subst this;exact ⟨V,X.mono R⟩
theorem Pers.ro (b:Nat)(o:Obj):Pers (ro b o):=λm h=>⟨Res.one b (o,true),λc x hx=>by
 obtain ⟨rfl,rfl⟩:=Res.one_eq hx;exact h,λc x hx=>by obtain ⟨rfl,rfl⟩:=Res.one_eq hx;rfl,Res.one_self⟩
theorem Pers.pure_ (φ:Prop):Pers (gE φ):=λ_ h=>⟨λ_=>none,(λb x hx=>nomatch hx),(λb x hx=>nomatch hx),h⟩
theorem Pers.ex {α:Type}{A:α->aa}(h:∀x,Pers (A x)):Pers (ll A):=λm ⟨x,hx⟩=>let ⟨m',a,b,c⟩:=h x m hx;⟨m',a,b,x,c⟩
theorem Pers.old (w0:World):Pers (old w0):=λm h=>⟨λb=>(w0.heap[b]?).map (·,true),λb x hx=>by
 simp[Rb] at hx;obtain ⟨o,D,rfl⟩:=hx;exact h b o D,λb x hx=>by
 simp[Rb] at hx;obtain ⟨o,D,rfl⟩:=hx;rfl,λb o D=>by simp[D]⟩
theorem Sat.old_ro {b:Nat}{o:Obj}{v0:World}(h:Sat w0 w (old v0::L))(D:v0.heap[b]? =some o):Sat w0 w (ro b o::old v0::L):=
 (h.dup (Pers.old v0)).weak λ_ J=>J b o D
theorem Sat.below (h:Sat w0 w (old w0::L)):RowKit.Below w0.heap.size w0 w:=by
 refine ⟨h.os,h.tape,h.output,h.size,λb J=>?_⟩;have D:w0.heap[b]? =some w0.heap[b]:=(by simp[J]);rw[(h.old_ro D).ro_at,D]
end
end Go.Sl
namespace Go.Sl
abbrev GX:=Nat×Option (Nat×Bool)×Value
abbrev ap:=List GX
def gc:ap->Nat->Option (Option (Nat×Bool)×Value)
 | [],_=>none
 | (s,h,v)::E,t=>match Nat.beq s t with | true=>some (h,v) | false=>gc E t
def uz:Bool->Bool->Bool
 | true,b=>b
 | false,true=>false
 | false,false=>true
def look (g:Option (Nat×Bool))(E:ap)(t:Nat):Option Value:=
 match gc E t with
 | some (none,v)=>some v
 | some (some (j,b),v)=>match g with
  | some (j',b')=>match Nat.beq j j' with
   | true=>match uz b b' with | true=>some v | false=>none
   | false=>none
  | none=>none
 | none=>none
def ev (g:Option (Nat×Bool))(E:ap):Operand->Option Value
 | .tmp t=>look g E t
 | .const v=>some v
 | .global x=>some (.pointer (some ⟨x,0,none⟩))
 | .func f=>some (.func (.func f) #[] #[])
def evs (g:Option (Nat×Bool))(E:ap):List Operand->Option (List Value)
 | []=>some []
 | x::xs=>match ev g E x with
  | some v=>match evs g E xs with | some vs=>some (v::vs) | none=>none
  | none=>none
def U:List (Nat×Value)->ap
 | []=>[]
 | (t,v)::l=>(t,none,v)::U l
def keep (E:ap):List Nat->Option ap
 | []=>some []
 | t::ts=>match look none E t with
  | some v=>match keep E ts with | some R=>some ((t,none,v)::R) | none=>none
  | none=>none
def kA:Nat->List Value->ap
 | _,[]=>[]
 | i,v::vs=>(i,none,v)::kA (i+1) vs
def gd (g:Option (Nat×Bool))(a:Act):Prop:=∀j b,g=some (j,b)->a.tmps[j]? =some (.bool b)
structure Nd where
 n:Nat
 ds:List Deferred
structure EOk (n:Nd) (E:ap) (a:Act):Prop where
 defers:a.defers=n.ds
 size:a.tmps.size=n.n
 at_:∀t h v,gc E t=some (h,v)->gd h a->a.tmps[t]? =some v
def GY {a b:Bool}(h:uz a b=true):a=b:=by cases a <;> cases b <;> simp_all [uz]
theorem EOk.look {n:Nd}{E:ap}{a:Act}{g:Option (Nat×Bool)}{t:Nat}{v:Value}(h:EOk n E a)(V:gd g a)(D:look g E t=some v):a.tmps[t]? =some v:=by
 unfold Sl.look at D;split at D
 ·rename_i u J;injection D with D;subst D;exact h.at_ t _ _ J (λj b e=>by cases e)
 ·rename_i j b u J;split at D
  ·rename_i Z Y;split at D
   ·rename_i X;split at D
    ·rename_i S;injection D with D;subst D;have O:=Rm X;have R:=GY S;subst O R;exact h.at_ t _ _ J V
    ·cases D
   ·cases D
  ·cases D
 ·cases D
def yM (a:Act):gd none a:=λ_ _ e=>by cases e
theorem EOk.ev {n:Nd}{E:ap}{a:Act}{g:Option (Nat×Bool)}{x:Operand}{v:Value}(h:EOk n E a)(J:gd g a)(D:ev g E x=some v):a.eval x=v:=by
 cases x with
 | tmp t=>have:=h.look J D;simp[Act.eval,Rn,this]
 | const u=>injection D
 | global u=>injection D
 | func u=>injection D
theorem EOk.evs {n:Nd}{E:ap}{a:Act}{g:Option (Nat×Bool)}(h:EOk n E a)(R:gd g a):∀{O:List Operand} {vs:List Value},evs g E O=some vs->O.map a.eval=vs
 | [],vs,D=>by injection D with D
 | x::O,vs,D=>by
  unfold Sl.evs at D;split at D
  ·rename_i v S;split at D
   ·rename_i V J;injection D with D;subst D;simp[h.ev R S,h.evs R J]
   ·cases D
  ·cases D
def bf (n:Nd)(d:Nat):ap->Bool
 | []=>Nat.blt d n.n
 | (_,none,_)::E=>bf n d E
 | (_,some (j,_),_)::E=>match Nat.beq j d with | true=>false | false=>bf n d E
def uI {n:Nd}{d:Nat}:∀{E:ap},bf n d E=true->d<n.n
 | [],h=>by simpa [bf,Nat.blt_eq] using h
 | (_,none,_)::E,h=>uI (E:=E) h
 | (_,some (j,_),_)::E,h=>by
  unfold bf at h;split at h
  ·cases h
  ·exact uI (E:=E) h
def uJ {n:Nd}{d:Nat}:∀{E:ap} {t:Nat} {j:Nat} {b:Bool} {v:Value},bf n d E=true->gc E t=some (some (j,b),v)->j≠d
 | [],t,j,b,v,h,D=>by cases D
 | (s,none,u)::E,t,j,b,v,h,D=>by
  unfold gc at D;split at D
  ·injection D with D;injection D with J _;cases J
  ·exact uJ (E:=E) h D
 | (s,some (i,c),u)::E,t,j,b,v,h,D=>by
  unfold bf at h;split at h
  ·cases h
  ·rename_i O;unfold gc at D;split at D
   ·injection D with D;injection D with J _;injection J with J;injection J with J _;subst J;exact Ro O
   ·exact uJ (E:=E) h D
def GZ {a:Act}{d:Nat}{v:Value}(h:d<a.tmps.size):(a.put (some d) v).tmps[d]? =some v:=by simp[Act.put,h]
def uK {a:Act}{d t:Nat}{v:Value}(h:d≠t):(a.put (some d) v).tmps[t]? =a.tmps[t]? :=by simp[Act.put,Rl h]
theorem EOk.put {n:Nd}{E:ap}{a:Act}{d:Nat}{g:Option (Nat×Bool)}{v u:Value}(h:EOk n E a)(hd:bf n d E=true)(R:∀j b,g=some (j,b)->j≠d)(Y:gd g a->u=v):
  EOk n ((d,g,v)::E) (a.put (some d) u):=by
 have S:d<a.tmps.size:=(by rw[h.size];exact uI hd);refine ⟨h.defers,by simp[Act.put,h.size],λt k w D V=>?_⟩;unfold gc at D;split at D
 ·rename_i O;have:=Rm O;subst this;injection D with D;injection D with J X;subst J X;rw[GZ S];have:gd g a:=λj b e=>by
   have:=V j b e
   rwa [uK (Ne.symm (R j b e))] at this
  rw[Y this]
 ·rename_i O;rw[uK (Ro O)];refine h.at_ t k w D λj b e=>?_;have J:=V j b e;subst e
  rwa [uK (Ne.symm (uJ hd D))] at J
theorem EOk.put1 {n:Nd}{E:ap}{a:Act}{d:Nat}{v:Value}(h:EOk n E a)(hd:bf n d E=true):EOk n ((d,none,v)::E) (a.put (some d) v):=
 h.put hd (λ_ _ e=>by cases e) λ_=>rfl
theorem EOk.keep {n:Nd}{E:ap}{a:Act}(h:EOk n E a):∀{O:List Nat} {R:ap},keep E O=some R->EOk n R a
 | [],R,D=>by injection D with D;subst D;exact ⟨h.defers,h.size,λ_ _ _ e=>by cases e⟩
 | t::O,R,D=>by
  unfold Sl.keep at D;split at D
  ·rename_i v hv;split at D
   ·rename_i R' X;injection D with D;subst D;refine ⟨h.defers,h.size,λs k w J Z=>?_⟩;unfold gc at J;split at J
    ·rename_i Y;have:=Rm Y;subst this;injection J with J;injection J with S V;subst S V;exact h.look (yM a) hv
    ·exact (h.keep X).at_ s k w J Z
   ·cases D
  ·cases D
abbrev ay:=Exit->Act->World->Prop
inductive KI where
 | code (c:Code)
 | blk (id:Nat)
 | ops (all rest:List Oper)
 | plan (all:List Oper) (C:World->Prop) (rest:List (Nat×Bool))
 | fin (J:Act->World->Prop)
section
variable {P:Program}{ops:Array Oper}{Q:ay}{C:World->Prop}
def AL (P:Program)(C:World->Prop)(o:Oper)(a:Act)(v:Value):Prop:=∀w,C w->(execOp a.eval o).run P w= .ok (.value v) w\/((execOp a.eval o).run P w= .ok .skip w/\v=undef)
def YieldsC (P:Program)(ops:Array Oper)(C:World->Prop)(o:Oper)(v:Value)(a:Act):Prop:=
 (Region.wanted o (yielded ops a.tmps)=true/\AL P C o a v)\/(Region.wanted o (yielded ops a.tmps)=false/\v=undef)
def wpAnyC (P:Program)(ops:Array Oper)(C:World->Prop)(Q:ay):Nat->Array Bool->Act->World->Prop
 | 0,listed,a,w=>C w/\Region.ready .any ops listed=[]/\Q .normal a w
 | fuel+1,listed,a,w=>
  C w/\(Region.ready .any ops listed=[]->Q .normal a w)/\
  ∀i∈Region.ready .any ops listed,wpOp P ops Q i (wpAnyC P ops C Q fuel (listed.setIfInBounds i true)) a w
theorem wpAnyC.cls {fuel:Nat}{D:Array Bool}{a:Act}{w:World}(h:wpAnyC P ops C Q fuel D a w):C w:=by
 cases fuel <;> exact h.1
def rG:∀(fuel:Nat) (D:Array Bool) (a:Act) (w:World),wpAnyC P ops C Q fuel D a w->wpAny P .any ops Q fuel D a w
 | 0,_,_,_,h=>h.2
 | fuel+1,_,_,_,h=>⟨h.2.1,λi J=>wpOp_mono (λa w=>rG fuel _ a w) (h.2.2 i J)⟩
theorem YieldsC.wpOp {i:Nat}{o:Oper}{v:Value}{a:Act}{w:World}{K:Act->World->Prop}(J:ops[i]? =some o)(R:C w)(S:YieldsC P ops C o v a)(h:K (a.put o.dst v) w):wpOp P ops Q i K a w:=by
 unfold Go.wpOp;simp only[J];rcases S with ⟨D,O⟩ | ⟨D,rfl⟩
 ·simp only[D,if_true];refine .inl ?_;unfold Oper.wp;rcases O w R with he | ⟨he,rfl⟩ <;> rw[he] <;> exact h
 ·simp only[D,Rp,if_false];exact h
theorem YieldsC.of_same {o:Oper}{v:Value}{a h:Act}(O:YieldsC P ops C o v a)(D:execOp h.eval o=execOp a.eval o)
  (J:Region.wanted o (yielded ops h.tmps)=Region.wanted o (yielded ops a.tmps)):YieldsC P ops C o v h:=by
 unfold YieldsC AL at*;rw[D,J];exact O
def G6 {o:Oper}{a:Act}{D:Option Tmp}{v:Value}{r:Result Next}{K:Act->World->Prop}{Y:Act->Prop}(J:∀d,D=some d->o.dst≠some d)
  (hQ:∀c a w,Q (.panic c) (a.put D v) w->Q (.panic c) a w) (O:∀u,Y (a.put o.dst u)) (V:∀d u,Y (({a with defers:=d::a.defers}:Act).put o.dst u))
  (h:o.upon P (a.put D v) K Q r):o.upon P a (λZ w'=>Y Z/\K (Z.put D v) w') Q r:=by
 have S:∀u,(a.put D v).put o.dst u=(a.put o.dst u).put D v:=λu=>Act.put_comm a v u J;cases r with
 | ok n w'=>
  cases n <;> simp only[Oper.upon] at h ⊢
  case value u=>exact ⟨O _,by rw[<-S];exact h⟩
  case skip=>exact ⟨O _,by rw[<-S];exact h⟩
  case defer d=>
   have h2:=Act.put_comm ({a with defers:=d::a.defers}:Act) v undef J;have h3:({a.put D v with defers:=d::(a.put D v).defers}:Act)=({a with defers:=d::a.defers}:Act).put D v:=Act.put_defers a D v d;rw[h3] at h;exact ⟨V _ _,by rw[<-h2];exact h⟩
  case enter f args=>exact h.mono λe X R=>by cases e <;> first | (simp only[] at R ⊢;exact ⟨O _,by rw[<-S];exact R⟩) | exact hQ _ _ _ R | exact R
  case row row args=>exact h.mono λu X R=>⟨O _,by rw[<-S];exact R⟩
  all_goals exact h
 | halt x w'=>
  cases x <;> simp only[Oper.upon] at h ⊢ <;> first | exact hQ _ _ _ h | exact h
def G7 {o:Oper}{a:Act}{D:Option Tmp}{v:Value}{w:World}(J:execOp (a.put D v).eval o=execOp a.eval o)(h:o.asks P (a.put D v) w):o.asks P a w:=by
 unfold Oper.asks at*
 rwa [J] at h
def AM {j:Nat}{D J:Oper}{v:Value}(hj:ops[j]? =some J)(S:D.apart ops J=true)
  (V:∀cs b,D.op≠ .select cs b) (X:∀cs b,J.op≠ .select cs b) (hQ:∀c a w,Q (.panic c) (a.put D.dst v) w->Q (.panic c) a w) {K:Act->World->Prop} {a:Act} {w:World}
  (hy:YieldsC P ops C D v a) (h:wpOp P ops Q j K (a.put D.dst v) w):wpOp P ops Q j (λZ w'=>YieldsC P ops C D v Z/\K (Z.put D.dst v) w') a w:=by
 obtain ⟨h1,h2,h3⟩:=Oper.apart_spec S;have O:∀u,YieldsC P ops C D v (a.put J.dst u):=λu=>hy.of_same (execOp_put D V a J.dst u h3) (wanted_put D a J.dst u h3);have R:∀d u,YieldsC P ops C D v (({a with defers:=d::a.defers}:Act).put J.dst u):=λd u=>(O u).of_same (by
  have:(({a with defers:=d::a.defers}:Act).put J.dst u).eval=(a.put J.dst u).eval:=by
   funext x;cases hd:J.dst <;> cases x <;> simp[Act.eval,Act.put]
  rw[this]) (by cases hd:J.dst <;> simp[Act.put])
 unfold wpOp at*;simp only[hj] at*;rw[wanted_put J a D.dst v h1] at h;have he:=execOp_put J X a D.dst v h1;split
 ·rename_i Y;simp only[Y,if_true] at h;rcases h with h | ⟨h,hl⟩
  ·refine .inl ?_;unfold Oper.wp at*;rw[he] at h;exact G6 h2 hQ O R h
  ·exact .inr ⟨G7 he h,hl⟩
 ·rename_i Y;simp only[Y] at h;exact ⟨O _,by rw[<-Act.put_comm a v undef h2];exact h⟩
def AN {i:Nat}{oi:Oper}{v:Value}(hi:ops[i]? =some oi)(V:∀(j:Nat) (o:Oper) cs b,ops[j]? =some o->o.op≠ .select cs b)
  (hQ:∀c a w,Q (.panic c) (a.put oi.dst v) w->Q (.panic c) a w):
  ∀(fuel:Nat) (D:Array Bool) (a:Act) (w:World),
   (∀j oj,ops[j]? =some oj->j≠i->D.getD j true=false->(∀e∈oj.after,Region.binds .any e=true->e.on≠i)->oi.apart ops oj=true)->
   i∈Region.ready .any ops D->YieldsC P ops C oi v a->C w->
   wpAnyC P ops C Q fuel (D.setIfInBounds i true) (a.put oi.dst v) w->wpAnyC P ops C Q (fuel+1) D a w:=by
 intro fuel
 induction fuel with
 | zero=>
  intro D a w _ Z hy hw H;refine ⟨hw,λh=>(by rw[h] at Z;cases Z),λj hj=>?_⟩;by_cases J:j=i
  ·subst J;exact hy.wpOp hi hw H
  ·have:=ready_mono hj J;rw[H.2.1] at this;cases this
 | succ fuel ih=>
  intro D a w O Z hy hw H;refine ⟨hw,λh=>(by rw[h] at Z;cases Z),λj hj=>?_⟩;by_cases J:j=i
  ·subst J;exact hy.wpOp hi hw H
  ·have X:=H.2.2 j (ready_mono hj J);obtain ⟨S,oj,Y,hall⟩:=mem_ready.1 hj;have hnot:∀e∈oj.after,Region.binds .any e=true->e.on≠i:=λe he hb heq=>by
    have X:=hall e he hb;have h0:=(mem_ready.1 Z).1;rw[heq] at X;rcases Rq i D.size with h' | h'
    ·simp[h'] at h0 X;rw[h0] at X;cases X
    ·simp[Rr h'] at X
   have h2:=AM Y (O j oj Y J S hnot) (λcs b=>V i oi cs b hi) (λcs b=>V j oj cs b Y) hQ hy X;have R:∀k ok,ops[k]? =some ok->k≠i->(D.setIfInBounds j true).getD k true=false->
     (∀e∈ok.after,Region.binds .any e=true->e.on≠i)->oi.apart ops ok=true:=λk ok hk hki hun hno=>by
    refine O k ok hk hki ?_ hno;by_cases hjk:j=k
    ·subst hjk;exact S
    ·rw[getD_set_ne true hjk] at hun;exact hun
   refine wpOp_mono (λa' w' h3=>ih (D.setIfInBounds j true) a' w' R (ready_mono Z (Ne.symm J)) h3.1 h3.2.cls ?_) h2;rw[Rs _ _ J];exact h3.2
def eS (ops:Array Oper):List (Nat×Bool)->Array Bool->Bool
 | [],listed=>(Region.ready .any ops listed).isEmpty
 | (i,false)::rest,listed=>(Region.ready .any ops listed).contains i && Region.free .any ops listed i && eS ops rest (listed.setIfInBounds i true)
 | (i,true)::rest,listed=>(Region.ready .any ops listed==[i]) && eS ops rest (listed.setIfInBounds i true)
def lm (P:Program)(ops:Array Oper)(C:World->Prop)(Q:ay):List (Nat×Bool)->Act->World->Prop
 | [],a,w=>C w/\Q .normal a w
 | (i,false)::rest,a,w=>C w/\∃o v,ops[i]? =some o/\YieldsC P ops C o v a/\lm P ops C Q rest (a.put o.dst v) w
 | (i,true)::rest,a,w=>C w/\wpOp P ops Q i (lm P ops C Q rest) a w
def rH (S:Region.noSelect ops=true)(O:∀c a d v w,Q (.panic c) (a.put d v) w->Q (.panic c) a w):∀(l:List (Nat×Bool)) (D:Array Bool) (a:Act) (w:World),
  eS ops l D=true->lm P ops C Q l a w->wpAnyC P ops C Q l.length D a w
 | [],D,a,w,J,h=>⟨h.1,by simpa [eS] using J,h.2⟩
 | (i,false)::l,D,a,w,J,h=>by
  simp only[eS,Ru] at J;obtain ⟨⟨hr,Z⟩,R⟩:=J;obtain ⟨hw,o,v,Y,hy,h⟩:=h;exact AN Y (Region.noSelect_spec S) (λc a w=>O c a _ _ w) l.length D a w (Region.free_spec Y Z) (by simpa using hr) hy hw
   (rH S O l _ _ _ R h)
 | (i,true)::l,D,a,w,J,h=>by
  simp only[eS,Ru,beq_iff_eq] at J;refine ⟨h.1,λV=>(by rw[J.1] at V;cases V),λj X=>?_⟩;rw[J.1] at X;have:j=i:=(by simpa using X);subst this;exact wpOp_mono (λa w=>rH S O l _ a w J.2) h.2
def G8 {id:Nat}{a:Act}{w:World}{l:List (Nat×Bool)}(R:P.follows .mixedOrders=true)(S:Region.noSelect ops=true)(D:l.length=ops.size)
  (O:∀c a d v w,Q (.panic c) (a.put d v) w->Q (.panic c) a w) (J:eS ops l (Array.replicate ops.size false)=true)
  (h:lm P ops C Q l a {w with drawn:=w.drawn+1}):(Code.region id ops true).wp P Q a w:=
 wp_region_any R (rG _ _ _ _ (by rw[<-D];rw[<-D] at J;exact rH S O l _ a _ J h))
end
end Go.Sl
namespace Go.Sl
class Has (L:List aa) (b:Nat) (o:outParam Obj):Prop where
 out:∀w0 w,Sat w0 w L->w.heap[b]? =some o
instance (priority:=high) Has.pt {b:Nat}{o:Obj}{L:List aa}:Has (pt b o::L) b o:=⟨λ_ _ h=>h.at_⟩
instance (priority:=high) Has.ro {b:Nat}{o:Obj}{L:List aa}:Has (ro b o::L) b o:=⟨λ_ _ h=>h.ro_at⟩
instance (priority:=low) Has.tail {A:aa}{b:Nat}{o:Obj}{L:List aa}[h:Has L b o]:Has (A::L) b o:=⟨λw0 w hS=>h.out w0 w hS.tail⟩
class Upd (L:List aa) (b:Nat) (o:outParam Obj) (o':Obj) (L':outParam (List aa)):Prop where
 out:∃i,L[i]? =some (pt b o)/\L'=L.set i (pt b o')
instance (priority:=high) Upd.pt {b:Nat}{o o':Obj}{L:List aa}:Upd (pt b o::L) b o o' (pt b o'::L):=⟨0,rfl,rfl⟩
instance (priority:=low) Upd.tail {A:aa}{b:Nat}{o o':Obj}{L L':List aa}[h:Upd L b o o' L']:Upd (A::L) b o o' (A::L'):=⟨let ⟨i,h1,h2⟩:=h.out;⟨i+1,by simpa using h1,by simp[h2]⟩⟩
def uL {α β:Type}(f:α->β):∀(l:List α) (i:Nat),(l.eraseIdx i).map f=(l.map f).eraseIdx i
 | [],i=>by simp
 | a::l,0=>by simp
 | a::l,i+1=>by simp[uL f l i]
theorem Sat.front {w0 w:World}{A:aa}{L:List aa}{i:Nat}(h:Sat w0 w L)(R:L[i]? =some A):Sat w0 w (A::L.eraseIdx i):=by
 have e:(List.range L.length).map (L[·]?)=L.map some:=by
  apply List.ext_getElem
  ·simp
  ·intro j O S;simp at O ⊢
 refine h.pick (i::(List.range L.length).eraseIdx i) ?_ ?_
 ·simp only[Rv,R];congr 1;rw[uL,e,uL]
 ·refine List.Pairwise.cons (λa J=>?_) ?_
  ·rw[List.mem_eraseIdx_iff_getElem] at J;obtain ⟨j,V,D,rfl⟩:=J;simpa using Ne.symm D
  ·exact Rw (Rx _ _) List.nodup_range
theorem Sat.setAt {w0 w:World}{L:List aa}{i b:Nat}{o o':Obj}(h:Sat w0 w L)(hi:L[i]? =some (pt b o)):Sat w0 {w with heap:=w.heap.setIfInBounds b o'} (L.set i (pt b o')):=by
 obtain ⟨h1,h2,h3,h4,f,hf,hd⟩:=h;have hA:=hf i _ hi;have S:=(Re.1 hi).1;have hb:=hA.2 b _ hA.1;have hlt:=(Rk.1 hb).1;have Z:∀j,j<L.length->j≠i->f j b=none:=λj V R=>by
  cases hx:f j b with
  | none=>rfl
  | some x=>
   have:=(hd j i V S R b x (o,false) hx hA.1).2;cases this
 refine ⟨h1,h2,h3,by simpa using h4,λj=>if j=i then Res.one b (o',false) else f j,λj A J=>?_,λj k V hk R=>?_⟩
 ·by_cases D:j=i
  ·subst D;rw[Ry S] at J;injection J with J;subst J;simp only[if_true];refine ⟨Res.one_self,λc x hx=>?_⟩;obtain ⟨rfl,rfl⟩:=Res.one_eq hx;simp[hlt]
  ·rw[Rz (Ne.symm D)] at J;simp only[D,if_false];have V:=(Re.1 J).1;refine ⟨(hf j A J).1,λc x hx=>?_⟩;have R:b≠c:=by
    rintro rfl;rw[Z j V D] at hx;cases hx
   simp only[Rl R];exact (hf j A J).2 c x hx
 ·have X:j<L.length:=(by simpa using V);have Y:k<L.length:=(by simpa using hk);have d1:∀l,l<L.length->l≠i->(Res.one b (o',false)).dj (f l):=λl hl hli c x y hx hy=>by
   obtain ⟨rfl,rfl⟩:=Res.one_eq hx;rw[Z l hl hli] at hy;cases hy
  by_cases D:j=i
  ·have O:k≠i:=(by omega);simp only[D,O,if_true,if_false];exact d1 k Y O
  ·by_cases O:k=i
   ·simp only[D,O,if_true,if_false];exact (d1 j X D).symm
   ·simp only[D,O,if_false];exact hd j k X Y R
class Rem (L:List aa) (A:aa) (L':outParam (List aa)):Prop where
 out:∃i,L[i]? =some A/\L'=L.eraseIdx i
instance (priority:=high) Rem.head {A:aa}{L:List aa}:Rem (A::L) A L:=⟨0,rfl,rfl⟩
instance (priority:=low) Rem.tail {A B:aa}{L L':List aa}[h:Rem L A L']:Rem (B::L) A (B::L'):=⟨let ⟨i,h1,h2⟩:=h.out;⟨i+1,by simpa using h1,by simp[h2]⟩⟩
theorem Rem.sat {w0 w:World}{A:aa}{L L':List aa}(r:Rem L A L')(h:Sat w0 w L):Sat w0 w (A::L'):=by
 obtain ⟨i,D,rfl⟩:=r.out;exact h.front D
theorem Sat.moveEnd {w0 w:World}{A:aa}{L:List aa}(h:Sat w0 w (A::L)):Sat w0 w (L++ [A]):=by
 refine h.pick ((List.range L.length).map (· +1)++ [0]) ?_ ?_
 ·simp only[RA,RB,Rv,RC];congr 1;apply List.ext_getElem
  ·simp
  ·intro i J R;simp at J ⊢
 ·refine RD.2 ⟨?_,by simp,?_⟩
  ·rw[RE];exact (List.pairwise_lt_range).imp λh=>by omega
  ·intro a D b O;simp at D O;obtain ⟨x,_,rfl⟩:=D;omega
theorem Sat.endFront {w0 w:World}{A:aa}{L:List aa}(h:Sat w0 w (L++ [A])):Sat w0 w (A::L):=by
 have:=h.front (i:=L.length) (A:=A) (by simp);simpa [RF] using this
class Split (L:List aa) (Pre:List aa) (F:outParam (List aa)):Prop where
 out:∀w0 w X,Sat w0 w (L++X)->Sat w0 w (Pre++F++X)
instance Split.nil {L:List aa}:Split L [] L:=⟨λ_ _ _ h=>h⟩
instance Split.cons {L L1 F Pre:List aa}{A:aa}[r:Rem L A L1][s:Split L1 Pre F]:Split L (A::Pre) F:=⟨λw0 w X h=>by
 obtain ⟨i,h1,rfl⟩:=r.out;have hil:=(Re.1 h1).1;have h2:=h.front (i:=i) (A:=A) (by rw[Ri hil];exact h1);rw[RG hil] at h2;have h3:=h2.moveEnd;have h4:=s.out w0 w (X++ [A]) (by simpa using h3);have h5:Sat w0 w ((Pre++F++X)++ [A]):=(by simpa using h4);simpa using h5.endFront⟩
theorem Split.sat {w0 w:World}{L Pre F:List aa}(s:Split L Pre F)(h:Sat w0 w L):Sat w0 w (Pre++F):=by
 simpa using s.out w0 w [] (by simpa using h)
class Sub (L L2:List aa):Prop where
 out:∀w0 w X,Sat w0 w (L++X)->Sat w0 w (L2++X)
instance (priority:=high) Sub.refl {L:List aa}:Sub L L:=⟨λ_ _ _ h=>h⟩
instance (priority:=low) Sub.drop {A:aa}{L L2:List aa}[s:Sub L L2]:Sub (A::L) L2:=⟨λw0 w X h=>s.out w0 w X (Sat.tail (by simpa using h))⟩
instance Sub.take {A:aa}{L L1 L2:List aa}[r:Rem L A L1][s:Sub L1 L2]:Sub L (A::L2):=⟨λw0 w X h=>by
 obtain ⟨i,h1,rfl⟩:=r.out;have hil:=(Re.1 h1).1;have h2:=h.front (i:=i) (A:=A) (by rw[Ri hil];exact h1);rw[RG hil] at h2;have h3:=h2.moveEnd;have h4:=s.out w0 w (X++ [A]) (by simpa using h3);have h5:Sat w0 w ((L2++X)++ [A]):=(by simpa using h4);simpa using h5.endFront⟩
theorem Sub.sat {w0 w:World}{L L2:List aa}(s:Sub L L2)(h:Sat w0 w L):Sat w0 w L2:=by
 simpa using s.out w0 w [] (by simpa using h)
end Go.Sl
namespace Go.Sl
def nA (P:Program)(fn:Func)(w0:World)(R:Value->List aa->Prop):ay:=bodyPost P fn λe w=>match e with
 | .returned v=>∃L,Sat w0 w L/\R v L
 | _=>False
def i6 (D:Nat):Deferred:={target:= .collected D,args:=#[]}
def G9 (P:Program)(fn:Func)(w0:World)(R:Value->List aa->Prop):ay:=λe a w=>match e with
 | .normal | .ret=>∃D w',a.defers=[i6 D]/\(Instr.takeDeferred D).run P w= .ok [] w'/\∃v,(results fn a.tmps).run P w'= .ok v w'/\∃L,Sat w0 w' L/\R v L
 | _=>False
def Ct (P:Program)(f:FuncId)(args:List Value)(L:List aa)(R:Value->List aa->Prop):Prop:=
 ∀w0 w,Sat w0 w L->Calls P f args.toArray w λe w'=>match e with
  | .returned v=>∃L',Sat w0 w' L'/\R v L'
  | _=>False
def kq (P:Program)(Qf:ay):List KI->ay
 | [],e,a,w=>Qf e a w
 | .code c::K,e,a,w=>match e with
  | .normal=>c.wp P (kq P Qf K) a w
  | e=>kq P Qf K e a w
 | .blk id::K,e,a,w=>Exit.inBlock id (kq P Qf K) e a w
 | .ops all rest::K,e,a,w=>match e with
  | .normal=>wpList P all.toArray (kq P Qf K) rest a w
  | e=>kq P Qf K e a w
 | .plan all C rest::K,e,a,w=>match e with
  | .normal=>lm P all.toArray C (kq P Qf K) rest a w
  | e=>kq P Qf K e a w
 | .fin J::K,e,a,w=>match e with
  | .normal=>J a w
  | e=>kq P Qf K e a w
structure Cx where
 P:Program
 fn:Func
 w0:World
 R:Value->List aa->Prop
 n:Nd
def Cx.Q (c:Cx):ay:=λe a w=>nA c.P c.fn c.w0 c.R e a w\/G9 c.P c.fn c.w0 c.R e a w
def G (c:Cx)(K:List KI)(E:ap)(L:List aa):Prop:=∀a w,EOk c.n E a->Sat c.w0 w L->kq c.P c.Q K .normal a w
def i7 {c:Cx}:∀{K:List KI} {D:List PanicEntry} {a:Act} {w:World},¬kq c.P c.Q K (.panic D) a w
 | [],D,a,w,h=>h.elim (λh=>h.2) (λh=>h)
 | .code _::K,D,a,w,h=>i7 (K:=K) h
 | .blk _::K,D,a,w,h=>i7 (K:=K) h
 | .ops _ _::K,D,a,w,h=>i7 (K:=K) h
 | .plan _ _ _::K,D,a,w,h=>i7 (K:=K) h
 | .fin _::K,D,a,w,h=>i7 (K:=K) h
section
variable {c:Cx}{K:List KI}{E:ap}{L:List aa}{x y:Code}
def qb (h:G c (.code x:: .code y::K) E L):G c (.code (.seq x y)::K) E L:=λa w D J=>by
 refine wp_seq (wp_mono (h a w D J) λe a w O=>?_);cases e <;> exact O
def qf (h:G c K E L):G c (.code .skip::K) E L:=λa w D J=>wp_skip (h a w D J)
def qg {id:Nat}(h:G c (.code x:: .blk id::K) E L):G c (.code (.block id x)::K) E L:=λa w D J=>wp_block (wp_mono (h a w D J) λe a w O=>O)
def qD {id:Nat}(h:G c K E L):G c (.blk id::K) E L:=λa w D J=>h a w D J
def qd {t:Operand}{b:Bool}(R:ev none E t=some (.bool b))(J:b=true->G c (.code x::K) E L)(O:b=false->G c (.code y::K) E L):G c (.code (.cond t x y)::K) E L:=
 λa w h D=>wp_cond_split (h.ev (yM a) R) (λe=>J e a w h D) (λe=>O e a w h D)
def wZ {t:Operand}(D:ev none E t=some (.bool true))(h:G c (.code x::K) E L):G c (.code (.cond t x y)::K) E L:=qd D (λ_=>h) (λe=>by cases e)
def wo {t:Operand}(D:ev none E t=some (.bool false))(h:G c (.code y::K) E L):G c (.code (.cond t x y)::K) E L:=qd D (λe=>by cases e) (λ_=>h)
def nC (id:Nat):List KI->Option (List KI)
 | []=>none
 | .blk j::K=>match Nat.beq id j with | true=>some K | false=>nC id K
 | _::K=>nC id K
def mu {P:Program}{O:ay}{id:Nat}{a:Act}{w:World}:∀{K J:List KI},nC id K=some J->kq P O J .normal a w->kq P O K (.exit id) a w
 | [],_,h,_=>by cases h
 | .blk j::K,J,h,D=>by
  unfold nC at h;split at h
  ·rename_i R;injection h with h;subst h;have:=Rm R;show Exit.inBlock j (kq P O K) (.exit id) a w;simp only[Exit.inBlock,this,if_true];exact D
  ·rename_i R;have:=Ro R;show Exit.inBlock j (kq P O K) (.exit id) a w;simp only[Exit.inBlock,this,if_false];exact mu h D
 | .code _::K,J,h,D=>mu (K:=K) h D
 | .ops _ _::K,J,h,D=>mu (K:=K) h D
 | .plan _ _ _::K,J,h,D=>mu (K:=K) h D
 | .fin _::K,J,h,D=>mu (K:=K) h D
def qw {id:Nat}{D:List KI}(R:nC id K=some D)(h:G c D E L):G c (.code (.exit id)::K) E L:=λa w J O=>wp_exit (mu R (h a w J O))
def yu {P:Program}{D:ay}{a:Act}{w:World}(h:D .ret a w):∀{K:List KI},kq P D K .ret a w
 | []=>h
 | .code _::K=>yu h (K:=K)
 | .blk _::K=>yu h (K:=K)
 | .ops _ _::K=>yu h (K:=K)
 | .plan _ _ _::K=>yu h (K:=K)
 | .fin _::K=>yu h (K:=K)
def du (E:ap):List ResultVar->Option (List Value)
 | []=>some []
 | .tmp t::rs=>match look none E t with
  | some v=>match du E rs with | some vs=>some (v::vs) | none=>none
  | none=>none
 | .cell _ _::_=>none
def cG:List Value->Value
 | [v]=>v
 | vs=> .tuple vs.toArray
def mv (a:Act):ResultVar->Sem Value
 | .tmp t=>pure (a.tmps.getD t undef)
 | .cell x t=>do loadVar t (<-asAddr (a.tmps.getD x undef))
def AO {P:Program}{n:Nd}{a:Act}{w:World}(J:EOk n E a):∀{rs:List ResultVar} {vs:List Value},du E rs=some vs->(rs.mapM (mv a)).run P w=Result.ok vs w
 | [],vs,h=>by injection h with h;subst h;simp[Sem.run_pure]
 | ResultVar.tmp t::rs,vs,h=>by
  unfold du at h;split at h
  ·rename_i v R;split at h
   ·rename_i S D;injection h with h;subst h;have O:=J.look (yM a) R;simp[List.mapM_cons,AO J D,mv,Rn,O]
   ·cases h
  ·cases h
 | ResultVar.cell _ _::_,vs,h=>by cases h
def rI (fn:Func)(a:Act):results fn a.tmps=(do
  let vs <-fn.results.mapM (mv a)
  pure (if h:vs.size=1 then vs[0] else .tuple vs)):=by
 unfold results;congr 1
def qB {vs:List Value}{a:Act}{w:World}(V:du E c.fn.results.toList=some vs)(h:EOk c.n E a)(S:Sat c.w0 w L)(O:c.R (cG vs) L)(hds:c.n.ds=[]:=by rfl):
  (a.defers=[]/\∃v,(results c.fn a.tmps).run c.P w= .ok v w/\∃L,Sat c.w0 w L/\c.R v L)\/∃D w',a.defers=[i6 D]/\(Instr.takeDeferred D).run c.P w= .ok [] w'/\∃v,(results c.fn a.tmps).run c.P w'= .ok v w'/\∃L,Sat c.w0 w' L/\c.R v L:=by
 refine .inl ⟨h.defers.trans hds,cG vs,?_,L,S,O⟩;have J:=AO (P:=c.P) (w:=w) h V;rw[rI,RH];simp only[Sem.run_bind,Sem.run_map];rw[J];simp only[Result.andThen_ok,Sem.run_pure];congr 1
 match vs with
 | []=>simp[cG]
 | [v]=>simp[cG]
 | v::u::vs=>simp[cG]
def nD {vs:List Value}(O:du E c.fn.results.toList=some vs)(D:c.R (cG vs) L)(hds:c.n.ds=[]:=by rfl):G c [] E L:=
 λa w h J=>qB (hds:=hds) O h J D
def R1 (val:Value)(ay:List aa):Value->List aa->Prop:=λv L'=>v=val/\L'=ay
def ql {vs:List Value}{val:Value}{ay:List aa}(D:c.R=R1 val ay)(O:du E c.fn.results.toList=some vs)[S:Sub L ay](V:cG vs=val)(hds:c.n.ds=[]:=by rfl):G c (.code .ret::K) E L:=
 λa w h J=>wp_ret (yu (qB (hds:=hds) O h (S.sat J) (by rw[D];exact ⟨V,rfl⟩)))
def fk {vs:List Value}{val:Value}{ay:List aa}(D:c.R=R1 val ay)(O:du E c.fn.results.toList=some vs)[S:Sub L ay](V:cG vs=val)(hds:c.n.ds=[]:=by rfl):G c [] E L:=
 λa w h J=>qB (hds:=hds) O h (S.sat J) (by rw[D];exact ⟨V,rfl⟩)
def dK {L2:List aa}[S:Sub L L2](h:G c K E L2):G c K E L:=λa w D J=>h a w D (S.sat J)
def uM {φ:Prop}(O:∀w,Sat c.w0 w L->φ)(h:φ->G c K E L):G c K E L:=λa w J D=>h (O w D) a w J D
def AP (c:Cx){α:Type}(φ:α->Prop)(Ei:α->ap)(Li:α->List aa)(μ:α->Nat)(m:Nat)(a:Act)(w:World):Prop:=∃z,φ z/\μ z<m/\EOk c.n (Ei z) a/\Sat c.w0 w (Li z)
def qC {α:Type}(φ:α->Prop)(D:α->ap)(J:α->List aa)(μ:α->Nat)(z0:α)(Z:φ z0)(ts:List Nat){S:ap}(hk:keep E ts=some S)(he:S=D z0)[Y:Sub L (J z0)]
  (h:∀z,φ z->G c (.code x:: .fin (AP c φ D J μ (μ z))::K) (D z) (J z)):G c (.code (.loop x)::K) E L:=λa w O R=>by
 refine wp_loop_ghost (λm a w=>∃z,φ z/\m=μ z/\EOk c.n (D z) a/\Sat c.w0 w (J z)) (μ z0) ⟨z0,Z,rfl,he ▸ O.keep hk,Y.sat R⟩ ?_;rintro m a w ⟨z,hz,rfl,O,R⟩;refine wp_mono (h z hz a w O R) λe a w V=>?_;cases e with
 | normal=>obtain ⟨X,h1,h2,h3,h4⟩:=V;exact ⟨μ X,h2,X,h1,rfl,h3,h4⟩
 | _=>exact V
def qk {α:Type}{φ:α->Prop}{D:α->ap}{J:α->List aa}{μ:α->Nat}{m:Nat}(z:α)(R:φ z)(S:μ z<m)(ts:List Nat){h:ap}(Z:keep E ts=some h)(Y:h=D z)[O:Sub L (J z)]:
 G c (.fin (AP c φ D J μ m)::K) E L:=λa w V X=>⟨z,R,S,Y ▸ V.keep Z,O.sat X⟩
def mw (c:Cx){α:Type}(φ:α->Prop)(Ei:α->ap)(Li:α->List aa)(a:Act)(w:World):Prop:=∃z,φ z/\EOk c.n (Ei z) a/\Sat c.w0 w (Li z)
def iq {α:Type}(φ:α->Prop)(J:α->ap)(O:α->List aa)(S:G c (.code x:: .fin (mw c φ J O)::K) E L)(V:∀z,φ z->G c K (J z) (O z)):G c (.code x::K) E L:=λa w h D=>by
 refine wp_mono (S a w h D) λe a w R=>?_;cases e with
 | normal=>obtain ⟨z,X,h,D⟩:=R;exact V z X a w h D
 | _=>exact R
def cT {α:Type}{φ:α->Prop}{D:α->ap}{J:α->List aa}(z:α)(R:φ z)(Z:List Nat){h:ap}(Y:keep E Z=some h)(X:h=D z)[O:Sub L (J z)]:
 G c (.fin (mw c φ D J)::K) E L:=λa w S V=>⟨z,R,X ▸ S.keep Y,O.sat V⟩
structure OpV (c:Cx) (g:Option (Nat×Bool)) (E:ap) (L:List aa) (o:Oper) (v:Value):Prop where
 out:∀a w,EOk c.n E a->gd g a->Sat c.w0 w L->(execOp a.eval o).run c.P w= .ok (.value v) w
structure OpL (c:Cx) (g:Option (Nat×Bool)) (E:ap) (L:List aa) (o:Oper) (N:Value->List aa->Prop):Prop where
 out:∀a w,EOk c.n E a->gd g a->Sat c.w0 w L->∀nx Q,(∀v w' L',Sat c.w0 w' L'->N v L'->nx (a.put o.dst v) w')->o.wp c.P a w nx Q
variable {all rest:List Oper}{d:Nat}{op:Op}{ty:TypeId}{pos:String}{af:Array Edge}{v:Value}{N:Value->List aa->Prop}
def qo {id:Nat}{l:List Oper}(h:G c (.ops l l::K) E L):G c (.code (.region id l.toArray false)::K) E L:=λa w D J=>wp_region_lit (h a w D J)
def qc (h:G c K E L):G c (.ops all []::K) E L:=λa w D J=>h a w D J
def rJ {a:Act}{w:World}{g:Option (Nat×Bool)}{o:Oper}{D:Act->World->Prop}{Q:ay}(h:OpV c g E L o v)(J:EOk c.n E a)(R:gd g a)(O:Sat c.w0 w L)(S:D (a.put o.dst v) w):o.wp c.P a w D Q:=by
 unfold Oper.wp;rw[h.out a w J R O];exact S
def ln (h:OpV c none E L ⟨some d,op,ty,pos,af,none⟩ v)(hd:bf c.n d E=true)(k:G c (.ops all rest::K) ((d,none,v)::E) L):
  G c (.ops all (⟨some d,op,ty,pos,af,none⟩::rest)::K) E L:=λa w D J=>by
 refine wpList_plain rR λR O=>rJ h D (yM a) J (O _ _ (k _ w (D.put1 hd) J))
def AQ (h:OpL c none E L ⟨some d,op,ty,pos,af,none⟩ N)(hd:bf c.n d E=true)(k:∀v L',N v L'->G c (.ops all rest::K) ((d,none,v)::E) L'):
  G c (.ops all (⟨some d,op,ty,pos,af,none⟩::rest)::K) E L:=λa w J R=>by
 refine wpList_plain rR λV S=>h.out a w J (yM a) R V _ λv w' L' D O=>S _ _ (k v L' O _ w' (J.put1 hd) D)
def cl (h:OpL c none E L ⟨none,op,ty,pos,af,none⟩ N)(k:∀v L',N v L'->G c (.ops all rest::K) E L'):
  G c (.ops all (⟨none,op,ty,pos,af,none⟩::rest)::K) E L:=λa w J R=>by
 refine wpList_plain rR λV S=>h.out a w J (yM a) R V _ λv w' L' D O=>S _ _ (k v L' O _ w' J D)
def lp {a:Act}{i s:Nat}{b:Bool}(J:(all[i]?).bind (·.dst)=some s)(D:EOk c.n E a)(O:look none E s=some (.bool b)):yielded all.toArray a.tmps i=some b:=by
 have h:=D.look (yM a) O;simp[yielded,J,h]
def lq {i s:Nat}{b D:Bool}(hi:(all[i]?).bind (·.dst)=some s)(hs:look none E s=some (.bool b))(h:b=D->OpV c (some (s,D)) E L ⟨some d,op,ty,pos,af,some (i,D)⟩ v)(hd:bf c.n d E=true)(Y:Nat.beq s d=false)
  (k:G c (.ops all rest::K) ((d,some (s,D),v)::E) L):G c (.ops all (⟨some d,op,ty,pos,af,some (i,D)⟩::rest)::K) E L:=λa w J V=>by
 have hy:=lp (a:=a) hi J hs;have Z:=J.look (yM a) hs;refine wpList_step λnx hk=>?_;have O:∀j S,some (s,D)=some (j,S)->j≠d:=λj S e=>(by injection e with e;injection e with e _;subst e;exact Ro Y);by_cases R:b=D
 ·rw[RI (by simp[Region.wanted,hy,R])];have X:gd (some (s,D)) a:=λj S e=>(by injection e with e;injection e with e1 e2;subst e1 e2;rw[Z,R]);exact rJ (h R) J X V (hk _ _ (k _ w (J.put hd O λ_=>rfl) V))
 ·rw[RJ (by simp[Region.wanted,hy,R])];refine hk _ _ (k _ w (J.put hd O λX=>?_) V);have:=X s D rfl;rw[Z] at this;exact absurd (by simpa using this) R
def yO {id:Nat}{l:List Oper}{Lf:List aa}(pl:List (Nat×Bool))(R:c.P.follows .mixedOrders=true)(X:Region.noSelect l.toArray=true)(O:pl.length=l.length)(S:eS l.toArray pl (Array.replicate l.length false)=true)
  (h:G c (.plan l (λw=>Sat c.w0 w Lf) pl::K) E L):G c (.code (.region id l.toArray true)::K) E L:=λa w D J=>
 G8 (l:=pl) R X (by simpa using O) (λY a d v w V=>absurd V i7) (by simpa using S) (h a _ D (J.drew _))
def eT {id:Nat}{l:List Oper}(pl:List (Nat×Bool))(J:c.P.follows .mixedOrders=true)(R:Region.noSelect l.toArray=true)(D:pl.length=l.length)(O:eS l.toArray pl (Array.replicate l.length false)=true)
 (h:G c (.plan l (λw=>Sat c.w0 w L) pl::K) E L):G c (.code (.region id l.toArray true)::K) E L:=yO (Lf:=L) pl J R D O h
variable {Lf:List aa}{pl:List (Nat×Bool)}
def qI [J:Sub L Lf](h:G c K E L):G c (.plan all (λw=>Sat c.w0 w Lf) []::K) E L:=λa w O D=>⟨J.sat D,h a w O D⟩
def rK {i:Nat}(S:all[i]? =some ⟨some d,op,ty,pos,af,none⟩)[R:Sub L Lf](h:OpV c none E Lf ⟨some d,op,ty,pos,af,none⟩ v)(hd:bf c.n d E=true)
  (k:G c (.plan all (λw=>Sat c.w0 w Lf) pl::K) ((d,none,v)::E) L):G c (.plan all (λw=>Sat c.w0 w Lf) ((i,false)::pl)::K) E L:=λa w J O=>
 ⟨R.sat O,_,v,by simpa using S, .inl ⟨by simp[Region.wanted],λw' D=> .inl (h.out a w' J (yM a) D)⟩,k _ w (J.put1 hd) O⟩
def nE {i j s:Nat}{b D:Bool}(hi:all[i]? =some ⟨some d,op,ty,pos,af,some (j,D)⟩)(hj:(all[j]?).bind (·.dst)=some s)(hs:look none E s=some (.bool b))[SC:Sub L Lf]
  (h:b=D->OpV c (some (s,D)) E Lf ⟨some d,op,ty,pos,af,some (j,D)⟩ v) (hd:bf c.n d E=true) (Y:Nat.beq s d=false)
  (k:G c (.plan all (λw=>Sat c.w0 w Lf) pl::K) ((d,some (s,D),v)::E) L):G c (.plan all (λw=>Sat c.w0 w Lf) ((i,false)::pl)::K) E L:=λa w J S=>by
 have hy:=lp (a:=a) hj J hs;have hb:=J.look (yM a) hs;have O:∀j V,some (s,D)=some (j,V)->j≠d:=λj V e=>(by injection e with e;injection e with e _;subst e;exact Ro Y);by_cases R:b=D
 ·have X:gd (some (s,D)) a:=λj V e=>(by injection e with e;injection e with e1 e2;subst e1 e2;rw[hb,R]);exact ⟨SC.sat S,_,v,by simpa using hi, .inl ⟨by simp[Region.wanted,hy,R],λw' Z=> .inl ((h R).out a w' J X Z)⟩,k _ w (J.put hd O λ_=>rfl) S⟩
 ·refine ⟨SC.sat S,_,undef,by simpa using hi, .inr ⟨by simp[Region.wanted,hy,R],rfl⟩,k _ w (J.put hd O λX=>?_) S⟩;have:=X s D rfl;rw[hb] at this;exact absurd (by simpa using this) R
def av {i:Nat}(V:all[i]? =some ⟨some d,op,ty,pos,af,none⟩)[R:Sub L Lf](h:OpL c none E L ⟨some d,op,ty,pos,af,none⟩ N)(hd:bf c.n d E=true)
  (k:∀v L',N v L'->G c (.plan all (λw=>Sat c.w0 w Lf) pl::K) ((d,none,v)::E) L'):G c (.plan all (λw=>Sat c.w0 w Lf) ((i,true)::pl)::K) E L:=λa w J O=>by
 refine ⟨R.sat O,?_⟩;unfold wpOp;simp only[RK,V];rw[RI (by simp[Region.wanted])];exact .inl (h.out a w J (yM a) O _ _ λv w' L' D S=>k v L' S _ w' (J.put1 hd) D)
def fl {i:Nat}(V:all[i]? =some ⟨none,op,ty,pos,af,none⟩)[R:Sub L Lf](h:OpL c none E L ⟨none,op,ty,pos,af,none⟩ N)
  (k:∀v L',N v L'->G c (.plan all (λw=>Sat c.w0 w Lf) pl::K) E L'):G c (.plan all (λw=>Sat c.w0 w Lf) ((i,true)::pl)::K) E L:=λa w J O=>by
 refine ⟨R.sat O,?_⟩;unfold wpOp;simp only[RK,V];rw[RI (by simp[Region.wanted])];exact .inl (h.out a w J (yM a) O _ _ λv w' L' D S=>k v L' S _ w' J D)
end
theorem Ct.of {P:Program}{f:FuncId}{fn:Func}{cd:Code}{args:List Value}{L:List aa}{R:Value->List aa->Prop}(hf:P.funcs[f]? =some fn)(S:fn.body=some cd)(n:Nat)(hn:fn.ntmps=n)(hle:args.length<=n)
  (h:∀w0,G ⟨P,fn,w0,R,⟨n,[]⟩⟩ [.code cd] (kA 0 args) L):Ct P f args L R:=λw0 w Y=>by
 refine callsIn_wide.1 (callsIn_of_wp_marks (n:=0) hf S trivial (wpIn_wide.2 (wp_mono (h w0 _ w ?_ Y) λe a w J=>?_)));rotate_left
 ·cases e with
  | normal | ret=>
   rcases J with ⟨hd,v,X,O⟩ | ⟨D,w',hd,ht,v,X,O⟩
   ·show LeavesInM _ _ _ _ _ _ _ _ _;rw[hd];exact ⟨v,X,O⟩
   ·show LeavesInM _ _ _ _ _ _ _ _ _;rw[hd];exact ⟨(λh=>by cases h), .inl ⟨D,w',rfl,ht,v,X,O⟩⟩
  | panic ch=>exact absurd J (λh=>h.elim (λh=>h.2) (λh=>h))
  | exit id=>exact J.elim (λh=>h.elim) (λh=>h.elim)
  | goto l=>exact J.elim (λh=>h.elim) (λh=>h.elim)
  | outgrown=>exact J.elim (λh=>h.elim) (λh=>h.elim)
 refine ⟨rfl,by simp[hn];omega,?_⟩;have key:∀(l:List Value) (i:Nat) (t:Nat) (g:Option (Nat×Bool)) (v:Value),gc (kA i l) t=some (g,v)->i<=t/\l[t - i]? =some v:=by
  intro l
  induction l with
  | nil=>intro i t g v h;cases h
  | cons u l ih=>
   intro i t g v h;simp only[kA] at h;unfold gc at h;split at h
   ·rename_i S;have:=Rm S;subst this;injection h with h;injection h with _ h;subst h;simp
   ·have:=ih (i+1) t g v h;refine ⟨by omega,?_⟩;have e:t - i=(t - (i+1))+1:=(by omega);rw[e];simpa using this.2
 intro t g v Z _;have:=(key args 0 t g v Z).2;simp only[Nat.sub_zero] at this;have V:=(Re.1 this).1;rw[RL (by simpa using V)];simpa using this
theorem Ct.mono {P:Program}{f:FuncId}{args:List Value}{L:List aa}{R J:Value->List aa->Prop}(h:Ct P f args L R)(X:∀v L',R v L'->J v L'):Ct P f args L J:=λw0 w V=>
 (h w0 w V).mono λe w' D=>by
  cases e with
  | returned v=>obtain ⟨L',O,S⟩:=D;exact ⟨L',O,X _ _ S⟩
  | panicked Y=>exact D
  | outgrown=>exact D
end Go.Sl
namespace Go.Sl
abbrev I (n:Int):Value:= .int .i64 n
abbrev By (n:Int):Value:= .int .u8 n
abbrev Bo (b:Bool):Value:= .bool b
abbrev ptr (b o:Nat):Value:= .pointer (some ⟨b,o,none⟩)
abbrev ac (l:List UInt8):Value:= .string ⟨⟨l⟩⟩
def kB {α:Type}[BEq α][LawfulBEq α][DecidableEq α](a b:α):(a==b)=decide (a=b):=by rw[RM];simp
def ao {n:Int}(h: -9223372036854775808<=n/\n<=9223372036854775807):IntKind.i64.wrap n=n:=IntWalk.i64_in n h
def w8 {n:Int}(h:0<=n/\n<=255):IntKind.u8.wrap n=n:=IntWalk.u8_in n h
section
variable {c:Cx}{g:Option (Nat×Bool)}{E:ap}{L:List aa}{d:Option Tmp}{ty:TypeId}{pos:String}{af:Array Edge}{gu:Option (Nat×Bool)}
variable {x y z:Operand}{t u yt:TypeId}{k:IntKind}{a b r:Int}{v v1 v2:Value}
def qn (hx:ev g E x=some v):OpV c g E L ⟨d, .move x,ty,pos,af,gu⟩ v:= .mk λa w h D J=>by
 simp[execOp,h.ev D hx]
def qt (hx:ev g E x=some v):OpV c g E L ⟨d, .assign x,ty,pos,af,gu⟩ v:= .mk λa w h D J=>by
 simp[execOp,h.ev D hx]
def gM {c:Cx}{E:ap}{L:List aa}{K:List KI}{d:Tmp}{x:Operand}{ty:TypeId}{pos:String}{af:Array Edge}{all rest:List Oper}{v:Value}(h:(if bf c.n d E=true then ev none E x else none)=some v)(k:G c (.ops all rest::K) ((d,none,v)::E) L):G c (.ops all (⟨some d, .move x,ty,pos,af,none⟩::rest)::K) E L:=by
 split at h
 ·rename_i hd;exact ln (qn h) hd k
 ·cases h
def gA {c:Cx}{E:ap}{L:List aa}{K:List KI}{d:Tmp}{x:Operand}{ty:TypeId}{pos:String}{af:Array Edge}{all rest:List Oper}{v:Value}(h:(if bf c.n d E=true then ev none E x else none)=some v)(k:G c (.ops all rest::K) ((d,none,v)::E) L):G c (.ops all (⟨some d, .assign x,ty,pos,af,none⟩::rest)::K) E L:=by
 split at h
 ·rename_i hd;exact ln (qt h) hd k
 ·cases h
def dM {c:Cx}{E:ap}{L Lf:List aa}{K:List KI}{d:Tmp}{x:Operand}{ty:TypeId}{pos:String}{af:Array Edge}{all:List Oper}{pl:List (Nat×Bool)}{v:Value}{i:Nat}(D:all[i]? =some ⟨some d, .move x,ty,pos,af,none⟩)[J:Sub L Lf](h:ev none E x=some v)(hd:bf c.n d E=true)(k:G c (.plan all (λw=>Sat c.w0 w Lf) pl::K) ((d,none,v)::E) L):G c (.plan all (λw=>Sat c.w0 w Lf) ((i,false)::pl)::K) E L:=rK D (qn h) hd k
def gQ {c:Cx}{E:ap}{L:List aa}{K:List KI}{d:Tmp}{x:Operand}{ty:TypeId}{pos:String}{af:Array Edge}{all:List Oper}{v:Value}(h:(if bf c.n d E=true then ev none E x else none)=some v)(k:G c K ((d,none,v)::E) L):G c (.ops all (⟨some d, .assign x,ty,pos,af,none⟩:: [])::K) E L:=gA h (qc k)
def gS {c:Cx}{E:ap}{L:List aa}{K:List KI}{id:Nat}{l:List Oper}{y:Code}(h:G c (.ops l l:: .code y::K) E L):G c (.code (.seq (.region id l.toArray false) y)::K) E L:=qb (qo h)
def aD {s:Nat}{b D:Bool}(Z:look g E s=some (.bool b))(Y:ev (some (s,false)) E y=some (.bool D)):OpV c g E L ⟨d, .pick (.tmp s) (.const (.bool true)) y,ty,pos,af,gu⟩ (.bool (b || D)):= .mk λa w O X hS=>by
 have J:=O.look X Z;have V:a.eval (.tmp s)= .bool b:=(by simp[Act.eval,Rn,J]);simp only[execOp,V,asBool];cases b with
 | true=>simp[Act.eval]
 | false=>
  have h:gd (some (s,false)) a:=λj b' e=>(by injection e with e;injection e with R S;subst R S;exact J);simp[O.ev h Y]
def bT {s:Nat}{b D:Bool}(Z:look g E s=some (.bool b))(Y:ev (some (s,true)) E y=some (.bool D)):OpV c g E L ⟨d, .pick (.tmp s) y (.const (.bool false)),ty,pos,af,gu⟩ (.bool (b && D)):= .mk λa w O X hS=>by
 have J:=O.look X Z;have V:a.eval (.tmp s)= .bool b:=(by simp[Act.eval,Rn,J]);simp only[execOp,V,asBool];cases b with
 | false=>simp[Act.eval]
 | true=>
  have h:gd (some (s,true)) a:=λj b' e=>(by injection e with e;injection e with R S;subst R S;exact J);simp[O.ev h Y]
def yr (hx:ev g E x=some (.int k a))(O:ev g E y=some (.int k b))(J:k.wrap (a+b)=r):OpV c g E L ⟨d, .binOp .add t x y yt,ty,pos,af,gu⟩ (.int k r):= .mk λ_ w h D R=>by
 simp[execOp,h.ev D hx,h.ev D O,eqGuard,binOp,Op.intArith,J]
def cZ (hx:ev g E x=some (.int k a))(O:ev g E y=some (.int k b))(J:k.wrap (a - b)=r):OpV c g E L ⟨d, .binOp .sub t x y yt,ty,pos,af,gu⟩ (.int k r):= .mk λ_ w h D R=>by
 simp[execOp,h.ev D hx,h.ev D O,eqGuard,binOp,Op.intArith,J]
def ey (hx:ev g E x=some (.int k a))(O:ev g E y=some (.int k b))(J:k.wrap (a*b)=r):OpV c g E L ⟨d, .binOp .mul t x y yt,ty,pos,af,gu⟩ (.int k r):= .mk λ_ w h D R=>by
 simp[execOp,h.ev D hx,h.ev D O,eqGuard,binOp,Op.intArith,J]
def ir (hx:ev g E x=some (.int k a))(R:ev g E y=some (.int k b))(J:b≠0)(O:k.wrap (a.tdiv b)=r):OpV c g E L ⟨d, .binOp .quo t x y yt,ty,pos,af,gu⟩ (.int k r):= .mk λ_ w h D S=>by
 simp[execOp,h.ev D hx,h.ev D R,eqGuard,binOp,Op.intDiv,O,J]
def kC (hx:ev g E x=some (.int k a))(R:ev g E y=some (.int k b))(J:b≠0)(O:a.tmod b=r):OpV c g E L ⟨d, .binOp .rem t x y yt,ty,pos,af,gu⟩ (.int k r):= .mk λ_ w h D S=>by
 simp[execOp,h.ev D hx,h.ev D R,eqGuard,binOp,Op.intDiv,O,J]
def Ha {op:BinOp}(J:op= .and\/op= .or\/op= .xor\/op= .andNot)(hx:ev g E x=some (.int k a))(R:ev g E y=some (.int k b))(O:∀P w,(Op.intBits op k a b).run P w= .ok v w):OpV c g E L ⟨d, .binOp op t x y yt,ty,pos,af,gu⟩ v:= .mk λ_ w h D S=>by
 rcases J with rfl | rfl | rfl | rfl <;> simp[execOp,h.ev D hx,h.ev D R,eqGuard,binOp,O]
def uN {k2:IntKind}(hx:ev g E x=some (.int k a))(R:ev g E y=some (.int k2 b))(J:¬b<0)(O:k.wrap (a*2 ^ (min b.toNat k.bits))=r):OpV c g E L ⟨d, .binOp .shl t x y yt,ty,pos,af,gu⟩ (.int k r):= .mk λ_ w h D S=>by
 simp[execOp,h.ev D hx,h.ev D R,eqGuard,binOp,Op.shift,O,J]
def fA {k2:IntKind}(hx:ev g E x=some (.int k a))(R:ev g E y=some (.int k2 b))(J:¬b<0)(O:a.fdiv (2 ^ (min b.toNat k.bits))=r):OpV c g E L ⟨d, .binOp .shr t x y yt,ty,pos,af,gu⟩ (.int k r):= .mk λ_ w h D S=>by
 simp[execOp,h.ev D hx,h.ev D R,eqGuard,binOp,Op.shift,O,J]
def qH (hx:ev g E x=some (.int k a))(J:ev g E y=some (.int k b)):OpV c g E L ⟨d, .binOp .lss t x y yt,ty,pos,af,gu⟩ (.bool (decide (a<b))):= .mk λ_ w h D O=>by
 simp[execOp,h.ev D hx,h.ev D J,eqGuard,binOp,Op.intCmp]
def kD (hx:ev g E x=some (.int k a))(J:ev g E y=some (.int k b)):OpV c g E L ⟨d, .binOp .leq t x y yt,ty,pos,af,gu⟩ (.bool (decide (a<=b))):= .mk λ_ w h D O=>by
 simp[execOp,h.ev D hx,h.ev D J,eqGuard,binOp,Op.intCmp]
def qX (hx:ev g E x=some (.int k a))(J:ev g E y=some (.int k b)):OpV c g E L ⟨d, .binOp .gtr t x y yt,ty,pos,af,gu⟩ (.bool (decide (b<a))):= .mk λ_ w h D O=>by
 simp[execOp,h.ev D hx,h.ev D J,eqGuard,binOp,Op.intCmp]
def jt (hx:ev g E x=some (.int k a))(J:ev g E y=some (.int k b)):OpV c g E L ⟨d, .binOp .geq t x y yt,ty,pos,af,gu⟩ (.bool (decide (b<=a))):= .mk λ_ w h D O=>by
 simp[execOp,h.ev D hx,h.ev D J,eqGuard,binOp,Op.intCmp]
def yD (hx:ev g E x=some (.int k a))(J:ev g E y=some (.int k b)):OpV c g E L ⟨d, .binOp .eql t x y yt,ty,pos,af,gu⟩ (.bool (decide (a=b))):= .mk λ_ w h D O=>by
 simp[execOp,h.ev D hx,h.ev D J,eqGuard,binOp,Op.intCmp,kB]
def da (hx:ev g E x=some (.int k a))(J:ev g E y=some (.int k b)):OpV c g E L ⟨d, .binOp .neq t x y yt,ty,pos,af,gu⟩ (.bool (!decide (a=b))):= .mk λ_ w h D O=>by
 simp[execOp,h.ev D hx,h.ev D J,eqGuard,binOp,Op.intCmp,bne,kB]
variable {p q:List UInt8}
def Hb (p q:List UInt8):(⟨⟨p⟩⟩:ByteArray)++⟨⟨q⟩⟩=⟨⟨p++q⟩⟩:=ByteArray.ext (by simp)
def wj (hx:ev g E x=some (ac p))(R:ev g E y=some (ac q))(h:p.length+q.length<=9223372036854775807):OpV c g E L ⟨d, .binOp .add t x y yt,ty,pos,af,gu⟩ (ac (p++q)):= .mk λ_ w D J S=>by
 have O:¬((((⟨⟨p⟩⟩:ByteArray).size+(⟨⟨q⟩⟩:ByteArray).size:Nat):Int) > IntKind.i64.max):=by
  simp only[ByteArray.size,RN,IntKind.max,IntKind.signed,IntKind.bits];simp;omega
 simp only[execOp,D.ev J hx,D.ev J R,eqGuard,binOp,Op.stringOp];rw[RJ O];simp[Hb]
def wl (hx:ev g E x=some (ac p))(J:ev g E y=some (ac q)):OpV c g E L ⟨d, .binOp .eql t x y yt,ty,pos,af,gu⟩ (.bool (decide (p=q))):= .mk λ_ w h D O=>by
 simp[execOp,h.ev D hx,h.ev D J,eqGuard,binOp,Op.stringOp,kB]
def iu (hx:ev g E x=some (ac p))(J:ev g E y=some (ac q)):OpV c g E L ⟨d, .binOp .neq t x y yt,ty,pos,af,gu⟩ (.bool (!decide (p=q))):= .mk λ_ w h D O=>by
 simp[execOp,h.ev D hx,h.ev D J,eqGuard,binOp,Op.stringOp,kB]
def AR (hx:ev g E x=some (ac p))(J:ev g E y=some (ac q)):OpV c g E L ⟨d, .binOp .lss t x y yt,ty,pos,af,gu⟩ (.bool (Op.bytesLess p q)):= .mk λ_ w h D O=>by
 simp[execOp,h.ev D hx,h.ev D J,eqGuard,binOp,Op.stringOp]
def AU (hx:ev g E x=some (ac p))(J:ev g E y=some (ac q)):OpV c g E L ⟨d, .binOp .leq t x y yt,ty,pos,af,gu⟩ (.bool (Op.bytesLess p q || decide (p=q))):= .mk λ_ w h D O=>by
 simp[execOp,h.ev D hx,h.ev D J,eqGuard,binOp,Op.stringOp,kB]
def wb {b:Bool}(hx:ev g E x=some (.bool b)):OpV c g E L ⟨d, .unOp .not t x,ty,pos,af,gu⟩ (.bool (!b)):= .mk λ_ w h D J=>by
 simp[execOp,h.ev D hx,Op.unary]
def yS {ds:TypeDesc}{k2:IntKind}(O:c.P.underlying t=some ds)(hd:c.P.underlying u=some (.int k))(hx:ev g E x=some (.int k2 a))(J:k.wrap a=r):OpV c g E L ⟨d, .convert t u x,ty,pos,af,gu⟩ (.int k r):= .mk λ_ w h D R=>by
 simp[execOp,h.ev D hx,convert,underlying,program,Sem.run,O,hd,Conv.intToInt,J]
def qP {ds:TypeDesc}(O:c.P.underlying t=some ds)(J:(match ds with | .interface _=>false | _=>true)=true)(hx:ev g E x=some v):OpV c g E L ⟨d, .makeInterface t x,ty,pos,af,gu⟩ (.iface t v):= .mk λ_ w h D R=>by
 simp only[execOp,h.ev D hx,Instr.makeInterface,underlying,program,Sem.run_bind,Sem.run,O,Result.andThen_ok,Sem.run_pure];cases ds <;> first | rfl | (cases J)
def qr {vs:Array Value}{i:Nat}(hx:ev g E x=some (.tuple vs))(J:vs[i]? =some v):OpV c g E L ⟨d, .extract x i,ty,pos,af,gu⟩ v:= .mk λ_ w h D O=>by
 simp[execOp,h.ev D hx,Instr.extract,J]
def qa {p:Addr}(hx:ev g E x=some (.pointer (some p))):OpV c g E L ⟨d, .nilCheck x,ty,pos,af,gu⟩ (.pointer (some p)):= .mk λ_ w h D J=>by
 simp[execOp,h.ev D hx]
def ju {fn:Fn}{O R:List Operand}{vs J:List Value}(hx:evs g E O=some vs)(S:evs g E R=some J):OpV c g E L ⟨d, .makeFunc fn O.toArray R.toArray,ty,pos,af,gu⟩ (.func fn vs.toArray J.toArray):= .mk λ_ w h D V=>by
 simp[execOp,h.evs D hx,h.evs D S,Instr.makeFunc]
end
end Go.Sl
namespace Go.Sl
def sl (s:Option Addr)(n cap:Nat):Value:= .slice s n cap
def fe (s:Option Addr)(i:Nat):Value:= .pointer (s.map λp=>p.add i)
def yd:Obj->Nat->Option Value
 | .cells cs _ _,i=>cs[i]?
 | _,_=>none
def Rows (o:Obj)(off sz:Nat)(rows:List (List Value)):Prop:=∀j row,rows[j]? =some row->∀f v,row[f]? =some v->yd o (off+(j*sz+f))=some v
def roL (sz:Nat)(s:Option Addr)(rows:List (List Value)):aa:=λm=>rows=[]\/∃b off o,s=some ⟨b,off,none⟩/\m b=some (o,true)/\Rows o off sz rows
def ai (T sz:Nat)(s:Option Addr)(cap:Nat)(rows:List (List Value)):aa:=λm=>(s=none/\rows=[]/\cap=0)\/
 ∃b cs,s=some ⟨b,0,none⟩/\m b=some (.cells cs T (0,0),false)/\cs.size=cap*sz/\rows.length<=cap/\(∀row∈rows,row.length=sz)/\Rows (.cells cs T (0,0)) 0 sz rows
theorem Pers.roL (sz:Nat)(s:Option Addr)(rows:List (List Value)):Pers (roL sz s rows):=λm h=>by
 rcases h with rfl | ⟨b,off,o,rfl,D,J⟩
 ·exact ⟨λ_=>none,(λb x hx=>nomatch hx),(λb x hx=>nomatch hx), .inl rfl⟩
 ·refine ⟨Res.one b (o,true),λc x hx=>?_,λc x hx=>?_, .inr ⟨b,off,o,rfl,Res.one_self,J⟩⟩
  ·obtain ⟨rfl,rfl⟩:=Res.one_eq hx;exact D
  ·obtain ⟨rfl,rfl⟩:=Res.one_eq hx;rfl
def ge {w:World}{b i:Nat}{o:Obj}{v:Value}(h:w.heap[b]? =some o)(D:yd o i=some v):w.cell? ⟨b,i,none⟩=some v:=by
 unfold World.cell?;simp only[h];cases o <;> simp[yd] at D ⊢;exact D
class SlR (L:List aa) (s:Option Addr) (sz:outParam Nat) (rows:outParam (List (List Value))):Prop where
 out:∀w0 w,Sat w0 w L->rows=[]\/∃b off o,s=some ⟨b,off,none⟩/\w.heap[b]? =some o/\Rows o off sz rows
instance (priority:=high) SlR.ro {sz:Nat}{s:Option Addr}{rows:List (List Value)}{L:List aa}:SlR (roL sz s rows::L) s sz rows:=⟨λw0 w h=>by
 obtain ⟨_,_,_,_,f,hf,_⟩:=h;have:=hf 0 _ rfl;rcases this.1 with h | ⟨b,off,o,h1,h2,h3⟩
 ·exact .inl h
 ·exact .inr ⟨b,off,o,h1,this.2 b _ h2,h3⟩⟩
instance (priority:=high) SlR.ow {T sz cap:Nat}{s:Option Addr}{rows:List (List Value)}{L:List aa}:SlR (ai T sz s cap rows::L) s sz rows:=⟨λw0 w h=>by
 obtain ⟨_,_,_,_,f,hf,_⟩:=h;have:=hf 0 _ rfl;rcases this.1 with ⟨_,h,_⟩ | ⟨b,cs,h1,h2,h3,h4,h5,h6⟩
 ·exact .inl h
 ·exact .inr ⟨b,0,_,h1,this.2 b _ h2,h6⟩⟩
instance (priority:=low) SlR.tail {A:aa}{sz:Nat}{s:Option Addr}{rows:List (List Value)}{L:List aa}[h:SlR L s sz rows]:SlR (A::L) s sz rows:=⟨λw0 w hS=>h.out w0 w hS.tail⟩
def ez (b o n:Nat):(⟨b,o,none⟩:Addr).add n=⟨b,o+n,none⟩:=by
 unfold Addr.add;split
 ·subst_vars;rfl
 ·rfl
section
variable {c:Cx}{g:Option (Nat×Bool)}{E:ap}{L:List aa}{d:Option Tmp}{ty:TypeId}{pos:String}{af:Array Edge}{gu:Option (Nat×Bool)}
variable {x y z:Operand}{t u e:TypeId}{k:IntKind}{v:Value}{s:Option Addr}{b o i j n sz cap off:Nat}
def qY {s:Option Addr}(J:c.P.underlying t=some (.slice e))(hx:ev g E x=some (.slice s n cap)):OpV c g E L ⟨d, .call {callee:= .builtin .len,args:=#[x],argTypes:=#[t]},ty,pos,af,gu⟩ (I n):= .mk λa w h D O=>by
 simp[execOp,resolve,invoke,builtin,Builtin.len_,underlying,program,Sem.run,J,h.ev D hx,goInt]
def yZ {p:List UInt8}(O:c.P.underlying t=some .string)(hx:ev g E x=some (ac p)):OpV c g E L ⟨d, .call {callee:= .builtin .len,args:=#[x],argTypes:=#[t]},ty,pos,af,gu⟩ (I p.length):= .mk λa w h D R=>by
 have J:(⟨⟨p⟩⟩:ByteArray).size=p.length:=rfl;simp only[execOp,resolve,invoke,builtin,Builtin.len_];simp[underlying,program,Sem.run,O,h.ev D hx,goInt,J]
def qm {h:Array Field}{f:Field}(off:Nat)(V:c.P.underlying t=some (.struct h))(J:h[i]? =some f)(S:f.offset=off)(X:∀w,(sizeOf f.type).run c.P w= .ok sz w)(R:sz≠0)(hx:ev g E x=some (ptr b o)):
  OpV c g E L ⟨d, .fieldAddr t x i,ty,pos,af,gu⟩ (ptr b (o+off)):= .mk λa w D O Y=>by
 simp[execOp,D.ev O hx,Instr.fieldAt,underlying,program,Sem.run,V,J,Instr.sureAddr,fieldPlace,X,R,ez,S]
def Hc {h:Array Field}{f:Field}(off:Nat)(V:c.P.underlying t=some (.struct h))(J:h[i]? =some f)(S:f.offset=off)(X:∀w,(sizeOf f.type).run c.P w= .ok sz w)(R:sz≠0){k:Nat}(hx:ev g E x=some (fe (some ⟨b,o,none⟩) k)):
  OpV c g E L ⟨d, .fieldAddr t x i,ty,pos,af,gu⟩ (fe (some ⟨b,o,none⟩) (k+off)):= .mk λa w D O Y=>by
 simp[execOp,D.ev O hx,Instr.fieldAt,underlying,program,Sem.run,V,J,Instr.sureAddr,fieldPlace,X,R,ez,S,fe,RO]
def qE {O:Array Field}{f:Field}{rows:List (List Value)}{J k:Nat}(off:Nat)(hu:c.P.underlying t=some (.struct O))(V:O[i]? =some f)(Z:f.offset=off)(hz:∀w,(sizeOf f.type).run c.P w= .ok sz w)(Y:sz≠0)
  (hx:ev g E x=some (fe s k)) [h:SlR L s J rows] (D:j<rows.length):OpV c g E L ⟨d, .fieldAddr t x i,ty,pos,af,gu⟩ (fe s (k+off)):= .mk λa w S X R=>by
 rcases h.out _ _ R with h | ⟨b,o,_,rfl,_⟩
 ·subst h;simp at D
 ·exact (Hc off hu V Z hz Y hx).out a w S X R
def qv {rows:List (List Value)}{q:Int}{O:Nat}(j:Nat)(Y:c.P.underlying t=some (.slice e))(hz:∀w,(sizeOf e).run c.P w= .ok sz w)(hx:ev g E x=some (sl s n cap))(Z:ev g E y=some (.int k q))(X:q=(j:Int))(J:j<n)
  [h:SlR L s O rows] (D:j<rows.length):OpV c g E L ⟨d, .indexAddr t x y,ty,pos,af,gu⟩ (fe s (j*sz)):= .mk λa w R S V=>by
 subst X;rcases h.out _ _ V with h | ⟨b,o,_,rfl,_⟩
 ·subst h;simp at D
 ·have:(j:Int)<(n:Int):=(by omega);simp[execOp,R.ev S hx,R.ev S Z,Instr.indexAt,underlying,program,Sem.run,Y,sl,fe,asIntOf,this,J,hz,ez]
def yj {q:Int}(j:Nat)(R:c.P.underlying t=some (.array n e))(V:∀w,(sizeOf e).run c.P w= .ok sz w)(hx:ev g E x=some (ptr b o))(S:ev g E y=some (.int k q))(O:q=(j:Int))(h:j<n):
  OpV c g E L ⟨d, .indexAddr t x y,ty,pos,af,gu⟩ (ptr b (o+j*sz)):= .mk λa w D J X=>by
 subst O;have:(j:Int)<(n:Int):=(by omega);simp[execOp,D.ev J hx,D.ev J S,Instr.indexAt,underlying,program,Sem.run,R,asIntOf,Instr.sureAddr,this,h,V,ez]
def kE {q:Int}{cs:Array Value}(j:Nat)(S:c.P.underlying t=some (.array n e))(Y:∀w,(sizeOf e).run c.P w= .ok 1 w)(O:∀w,(isAgg e).run c.P w= .ok false w)(hx:ev g E x=some (.agg cs))(X:ev g E y=some (.int k q))(R:q=(j:Int))(h:j<n)
  (V:cs[j]? =some v):OpV c g E L ⟨d, .index t x y,ty,pos,af,gu⟩ v:= .mk λa w D J Z=>by
 subst R;have:(j:Int)<(n:Int):=(by omega);simp[execOp,D.ev J hx,D.ev J X,Instr.index,underlying,program,Sem.run,S,asIntOf,this,h,Y,part,O,V]
def yo {q:Int}{p:List UInt8}{r:UInt8}(j:Nat)(S:c.P.underlying t=some .string)(hx:ev g E x=some (ac p))(V:ev g E y=some (.int k q))(R:q=(j:Int))(O:p[j]? =some r):
  OpV c g E L ⟨d, .index t x y,ty,pos,af,gu⟩ (By r.toNat):= .mk λa w D J X=>by
 subst R;have h:=(Re.1 O).1;have:(⟨⟨p⟩⟩:ByteArray)[j]? =some r:=by
  rw[getElem?_pos (⟨⟨p⟩⟩:ByteArray) j h];have:=(Re.1 O).2;exact Rd some this
 simp[execOp,D.ev J hx,D.ev J V,Instr.index,underlying,program,Sem.run,S,asIntOf,this]
def AV {h:Array Field}{f:Field}{cs:Array Value}(S:c.P.underlying t=some (.struct h))(O:h[i]? =some f)(J:∀w,(isAgg f.type).run c.P w= .ok false w)(hx:ev g E x=some (.agg cs))(V:cs[f.offset]? =some v):
  OpV c g E L ⟨d, .field t x i,ty,pos,af,gu⟩ v:= .mk λa w D R X=>by
 simp[execOp,D.ev R hx,Instr.field,underlying,program,Sem.run,S,O,asAgg,part,J,V]
def AW {w:World}{a:Addr}{P:Program}(h:w.cell? a=some v):(load a).run P w= .ok v w:=by simp[load,Sem.run,h]
def qu {D:Obj}(R:∀w,(isAgg t).run c.P w= .ok false w)(hx:ev g E x=some (ptr b o))[h:Has L b D](V:yd D o=some v):OpV c g E L ⟨d, .load t x,ty,pos,af,gu⟩ v:= .mk λa w J S O=>by
 have:=ge (h.out _ _ O) V;simp[execOp,J.ev S hx,Instr.loadAt,Instr.sureAddr,loadVar,load,Sem.run,R,this]
def yF {rows:List (List Value)}{row:List Value}{f:Nat}(S:∀w,(isAgg t).run c.P w= .ok false w)(hx:ev g E x=some (fe s (j*sz+f)))[h:SlR L s sz rows](D:rows[j]? =some row)(Y:row[f]? =some v):OpV c g E L ⟨d, .load t x,ty,pos,af,gu⟩ v:= .mk λa w J V R=>by
 rcases h.out _ _ R with h | ⟨b,o,Z,rfl,X,O⟩
 ·subst h;cases D
 ·have:=ge X (O j row D f v Y);simp[execOp,J.ev V hx,Instr.loadAt,Instr.sureAddr,loadVar,load,Sem.run,S,fe,ez,this]
def qM {rows:List (List Value)}{row:List Value}(D:∀w,(isAgg t).run c.P w= .ok false w)(hx:ev g E x=some (fe s (j*sz)))[h:SlR L s sz rows](J:rows[j]? =some row)(O:row[0]? =some v):OpV c g E L ⟨d, .load t x,ty,pos,af,gu⟩ v:=
 yF (f:=0) D hx J O
def ls {P:Program}{w:World}(b:Nat):∀(n i o:Nat) (D:Array Value) (vs:List Value),vs.length=n->(∀k v,vs[k]? =some v->w.cell? ⟨b,o+(i+k),none⟩=some v)->
  (loadCellsFrom ⟨b,o,none⟩ i n D).run P w= .ok (D++vs.toArray) w
 | 0,i,o,D,vs,J,_=>by
  have:vs=[]:=RP.1 J;subst this;simp[loadCellsFrom]
 | n+1,i,o,D,vs,J,h=>by
  match vs,J with
  | v::vs,J=>
   have O:=h 0 v rfl;have S:=ls (P:=P) b n (i+1) o (D.push v) vs (by simpa using J) (λk u R=>by
    have:=h (k+1) u (by simpa using R)
    rwa [show o+(i+(k+1))=o+(i+1+k) by omega] at this)
   simp only[loadCellsFrom,Sem.run_bind,ez,RQ] at O ⊢;rw[AW O];simp only[Result.andThen_ok,S];simp
def qJ {D:Obj}{vs:List Value}(R:∀w,(isAgg t).run c.P w= .ok true w)(hz:∀w,(sizeOf t).run c.P w= .ok sz w)(hx:ev g E x=some (ptr b o))[h:Has L b D](Y:vs.length=sz)(Z:∀k v,vs[k]? =some v->yd D (o+k)=some v):
  OpV c g E L ⟨d, .load t x,ty,pos,af,gu⟩ (.agg vs.toArray):= .mk λa w J S O=>by
 have V:=h.out _ _ O;have:=ls (P:=c.P) (w:=w) b sz 0 o #[] vs Y (λk v X=>by simpa using ge V (Z k v X));simp[execOp,J.ev S hx,Instr.loadAt,Instr.sureAddr,loadVar,R,hz,loadCells,this]
def qZ {rows:List (List Value)}{row:List Value}(S:∀w,(isAgg t).run c.P w= .ok true w)(hz:∀w,(sizeOf t).run c.P w= .ok sz w)(hx:ev g E x=some (fe s (j*sz)))[h:SlR L s sz rows](D:rows[j]? =some row)(Z:row.length=sz):
  OpV c g E L ⟨d, .load t x,ty,pos,af,gu⟩ (.agg row.toArray):= .mk λa w J V R=>by
 rcases h.out _ _ R with h | ⟨b,o,ob,rfl,X,O⟩
 ·subst h;cases D
 ·have:=ls (P:=c.P) (w:=w) b sz 0 (o+j*sz) #[] row Z (λk v Y=>by
   have:=ge X (O j row D k v Y);simpa [RO] using this)
  simp[execOp,J.ev V hx,Instr.loadAt,Instr.sureAddr,loadVar,S,hz,loadCells,fe,ez,this]
end
end Go.Sl
namespace Go.Sl
def one:Value->Bool
 | .agg _=>false
 | .tuple _=>false
 | _=>true
def ones:List Value->Bool
 | []=>true
 | v::vs=>match one v with | true=>ones vs | false=>false
def jv {vs:List Value}(h:ones vs=true):∀v∈vs,one v=true:=by
 induction vs with
 | nil=>simp
 | cons v vs J=>
  unfold ones at h;split at h
  ·intro u D;rcases RR.1 D with rfl | D
   ·assumption
   ·exact J h u D
  ·cases h
def jw {vs:List Value}(h:∀v∈vs,one v=true):ones vs=true:=by
 induction vs with
 | nil=>rfl
 | cons v vs J=>
  unfold ones;rw[h v (by simp)];exact J λu D=>h u (by simp[D])
def yY (cs:Array Value)(o:Nat):List Value->Array Value
 | []=>cs
 | v::vs=>yY (cs.setIfInBounds o v) (o+1) vs
def jx (cs:Array Value)(o:Nat)(vs:List Value):(yY cs o vs).size=cs.size:=by
 induction vs generalizing cs o with
 | nil=>rfl
 | cons v vs h=>simp[yY,h]
def jy (cs:Array Value)(o:Nat)(vs:List Value)(h:o+vs.length<=cs.size)(i:Nat):(yY cs o vs)[i]? =if o<=i/\i<o+vs.length then vs[i - o]? else cs[i]? :=by
 induction vs generalizing cs o with
 | nil=>simp[yY];omega
 | cons v vs R=>
  simp only[yY];rw[R _ _ (by simp at h ⊢;omega)];simp at h ⊢;by_cases O:i=o
  ·subst O;have:i<cs.size:=(by omega);simp[this];omega
  ·by_cases J:o+1<=i/\i<o+1+vs.length
   ·have D:o<=i/\i<o+(vs.length+1):=(by omega);rw[RI J,RI D];obtain ⟨k,rfl⟩:∃k,i=o+1+k:=⟨i - (o+1),by omega⟩;simp[show o+1+k - (o+1)=k by omega,show o+1+k - o=k+1 by omega]
   ·have D:¬(o<=i/\i<o+(vs.length+1)):=(by omega);rw[RJ J,RJ D,Rl (by omega)]
def cL (w:World)(b:Nat)(o:Obj):World:={w with heap:=w.heap.setIfInBounds b o}
def Hd {P:Program}{w:World}{b i:Nat}{cs:Array Value}{T:TypeId}{v:Value}(h:w.heap[b]? =some (.cells cs T (0,0)))(X:i<cs.size)(O:one v=true):
  (store ⟨b,i,none⟩ v).run P w= .ok () (cL w b (.cells (cs.setIfInBounds i v) T (0,0))):=by
 have R:w.cell? ⟨b,i,none⟩=some cs[i]:=ge h (by simp[yd,X]);have V:w.frozen? ⟨b,i,none⟩=false:=(by simp[World.frozen?,h]);have Y:w.setCell ⟨b,i,none⟩ v=cL w b (.cells (cs.setIfInBounds i v) T (0,0)):=by
  unfold World.setCell cL;congr 1;apply RS;intro k;rw[RT,RU];have D:=(Rk.1 h).1;by_cases J:b=k
  ·subst J;have S:=(Rk.1 h).2;simp[D,S]
  ·simp[J]
 show Sem.run P (Sem.store .plain ⟨b,i,none⟩ v (.pure ())) w=_;cases v <;> first | (cases O;done) | simp[Sem.run,R,V,Y]
def yQ {P:Program}(b o:Nat)(T:TypeId):∀(vs:List Value) (w:World) (cs:Array Value) (i:Nat),w.heap[b]? =some (.cells cs T (0,0))->o+i+vs.length<=cs.size->ones vs=true->
  (storeCells ⟨b,o,none⟩ vs i).run P w= .ok () (cL w b (.cells (yY cs (o+i) vs) T (0,0)))
 | [],w,cs,i,h,_,_=>by
  have:cL w b (.cells cs T (0,0))=w:=by
   unfold cL;have D:=(Rk.1 h).1;have V:=(Rk.1 h).2;have:w.heap.setIfInBounds b (.cells cs T (0,0))=w.heap:=by
    apply RS;intro k;rw[RU];by_cases O:b=k
    ·subst O;simp[h,D,V]
    ·simp[O]
   rw[this]
  simp[storeCells,yY,this]
 | v::vs,w,cs,i,h,J,S=>by
  have R:=jv S;have X:=Hd (P:=P) (i:=o+i) h (by simp at J;omega) (R v (by simp));have D:=(Rk.1 h).1;have Z:=yQ (P:=P) b o T vs (cL w b (.cells (cs.setIfInBounds (o+i) v) T (0,0))) (cs.setIfInBounds (o+i) v) (i+1) (by simp[cL,D]) (by simp at J ⊢;omega) (jw λu Y=>R u (by simp[Y]));unfold storeCells;rw[Sem.run_bind,ez,X];simp only[Result.andThen_ok];rw[Z];simp[yY,cL,RO]
section
variable {c:Cx}{g:Option (Nat×Bool)}{E:ap}{L L':List aa}{d:Option Tmp}{ty:TypeId}{pos:String}{af:Array Edge}{gu:Option (Nat×Bool)}
variable {x y z:Operand}{t u e:TypeId}{k:IntKind}{v:Value}{s:Option Addr}{b o i j n sz cap off:Nat}
theorem OpL.of_run {op:Op}{N:Value->List aa->Prop}(h:∀a w,EOk c.n E a->gd g a->Sat c.w0 w L->∃v w' L',(execOp a.eval ⟨d,op,ty,pos,af,gu⟩).run c.P w= .ok (.value v) w'/\Sat c.w0 w' L'/\N v L'):OpL c g E L ⟨d,op,ty,pos,af,gu⟩ N:=by
 constructor;intro a w R V S Y Q X;obtain ⟨v,w',L',D,J,O⟩:=h a w R V S;unfold Oper.wp;rw[D];exact X v w' L' J O
theorem OpL.of_skip {op:Op}{N:Value->List aa->Prop}(h:∀a w,EOk c.n E a->gd g a->Sat c.w0 w L->∃w' L',(execOp a.eval ⟨d,op,ty,pos,af,gu⟩).run c.P w= .ok .skip w'/\Sat c.w0 w' L'/\N undef L'):OpL c g E L ⟨d,op,ty,pos,af,gu⟩ N:=by
 constructor;intro a w R V S Y Q X;obtain ⟨w',L',D,J,O⟩:=h a w R V S;unfold Oper.wp;rw[D];exact X undef w' L' J O
def qA (cs:Array Value)(D:∀w,(zeroValue t).run c.P w= .ok (.agg cs) w):OpL c g E L ⟨d, .alloc t,ty,pos,af,gu⟩ λv L'=>∃b,v=ptr b 0/\L'=pt b (.cells cs t (0,0))::L:=
 .of_run λa w J O h=>⟨ptr w.heap.size 0,_,_,by simp[execOp,Instr.alloc,D,newVar,newRow,newObj,Sem.run,Value.cells],h.alloc _,_,rfl,rfl⟩
def nG (zv:Value)(O:∀w,(zeroValue t).run c.P w= .ok zv w)(D:one zv=true):OpL c g E L ⟨d, .alloc t,ty,pos,af,gu⟩ λv L'=>∃b,v=ptr b 0/\L'=pt b (.cells #[zv] t (0,0))::L:=
 .of_run λa w R S J=>⟨ptr w.heap.size 0,_,_,by
  have h:zv.cells=#[zv]:=(by cases zv <;> first | rfl | cases D);simp[execOp,Instr.alloc,O,newVar,newRow,newObj,Sem.run,h],J.alloc _,_,rfl,rfl⟩
def wR (cs:Array Value)(hx:ev g E x=some v)(J:v.cells=cs):OpL c g E L ⟨d, .box t x,ty,pos,af,gu⟩ λv L'=>∃b,v=ptr b 0/\L'=pt b (.cells cs t (0,0))::L:=
 .of_run λa w h O D=>⟨ptr w.heap.size 0,_,_,by simp[execOp,h.ev O hx,Instr.box,newVar,newRow,newObj,Sem.run,J],D.alloc _,_,rfl,rfl⟩
theorem Upd.sat {w0 w:World}{o o':Obj}(U:Upd L b o o' L')(h:Sat w0 w L):Sat w0 (cL w b o') L'/\w.heap[b]? =some o:=by
 obtain ⟨i,D,rfl⟩:=U.out;exact ⟨h.setAt D,(h.front D).at_⟩
def qG {cs:Array Value}{T:TypeId}(h:Array Value)(hz:∀w,(sizeOf t).run c.P w= .ok 1 w)(hx:ev g E x=some (ptr b o))(hy:ev g E y=some v)(R:one v=true)[hh:Has L b (.cells cs T (0,0))](Z:o<cs.size)(J:cs.setIfInBounds o v=h)[U:Upd L b (.cells cs T (0,0)) (.cells h T (0,0)) L']:
  OpL c g E L ⟨d, .store t x y,ty,pos,af,gu⟩ λ_ D=>D=L':=
 .of_skip λa w S X Y=>by
  subst J;have V:=U.sat Y;have O:v.cells=#[v]:=(by cases v <;> first | rfl | cases R);have hr:=yQ (P:=c.P) b o T [v] w cs 0 V.2 (by simp;omega) (by simp[ones,R]);refine ⟨_,L',?_,V.1,rfl⟩;simp only[execOp,S.ev X hx,S.ev X hy,Instr.storeAt,Instr.sureAddr,storeVar];simp[hz,O,hr,yY]
def qp {cs:Array Value}{T:TypeId}{vs:List Value}(h:Array Value)(hz:∀w,(sizeOf t).run c.P w= .ok sz w)(hx:ev g E x=some (ptr b o))(hy:ev g E y=some (.agg vs.toArray))(Y:vs.length=sz)(V:ones vs=true)[hh:Has L b (.cells cs T (0,0))](Z:o+sz<=cs.size)(J:yY cs o vs=h)[U:Upd L b (.cells cs T (0,0)) (.cells h T (0,0)) L']:
  OpL c g E L ⟨d, .store t x y,ty,pos,af,gu⟩ λ_ D=>D=L':=
 .of_skip λa w O S X=>by
  subst J;have R:=U.sat X;have hr:=yQ (P:=c.P) b o T vs w cs 0 R.2 (by omega) V;refine ⟨_,L',?_,R.1,rfl⟩;simp only[execOp,O.ev S hx,O.ev S hy,Instr.storeAt,Instr.sureAddr,storeVar];simp[hz,Y,Value.cells,hr]
def yW {f:FuncId}{O:List Operand}{vs:List Value}{ats:Array TypeId}{Pre F:List aa}{R:List aa->Value->List aa->Prop}(D:∀args w,(callFunc f args).run c.P w= .ok (.enter f args) w)(hx:evs g E O=some vs)(h:∀F,Ct c.P f vs (Pre++F) (R F))[S:Split L Pre F]:
  OpL c g E L ⟨d, .call {callee:= .value (.func f),args:=O.toArray,argTypes:=ats},ty,pos,af,gu⟩ (R F):=by
 constructor;intro a w Y hg Z nx Q hn;unfold Oper.wp;have hr:(execOp a.eval ⟨d, .call {callee:= .value (.func f),args:=O.toArray,argTypes:=ats},ty,pos,af,gu⟩).run c.P w= .ok (.enter f vs.toArray) w:=by
  simp[execOp,resolve,Act.eval,Deferred.ofValue,invoke,D,<-Y.evs hg hx]
 rw[hr];refine (h F c.w0 w (S.sat Z)).mono λe w' J=>?_;cases e with
 | returned v=>obtain ⟨L',V,X⟩:=J;exact hn v w' L' V X
 | panicked ch=>exact J.elim
 | outgrown=>exact J.elim
end
def jA:List (Nat×Bool):=[(0,false),(1,false),(2,false),(3,false),(4,false),(5,false),(6,true)]
def jB:List (Nat×Bool):=[(0,false),(1,false),(2,false),(3,false),(4,false),(5,false),(6,false),(7,false),(8,false)]
def jC:List (Nat×Bool):=[(0,false),(1,false),(2,false),(3,false),(4,false),(5,false),(6,true),(7,false)]
def jD:List (Nat×Bool):=[(0,false),(1,false),(2,false),(3,false),(4,false),(5,false),(6,false),(7,false),(8,false),(9,false)]
def jE:List (Nat×Bool):=[(0,false),(1,false),(2,false),(3,false),(4,false),(5,false),(6,false),(7,false),(8,false),(9,false),(10,false)]
def jF:List (Nat×Bool):=[(0,false),(1,false),(2,false),(3,false),(4,false),(5,false),(6,false),(7,false),(8,false),(9,false),(10,false),(11,false),(12,false),(13,false),(14,false),(15,false),(16,false)]
def jG:List (Nat×Bool):=[(0,false),(1,false),(2,false),(3,false),(4,false),(5,false),(6,false),(7,true),(8,false),(9,false)]
def jH:List (Nat×Bool):=[(0,false),(1,false),(2,false),(3,false),(4,false),(5,false),(6,false),(7,false),(8,true)]
def jI:List (Nat×Bool):=[(0,false),(1,false),(2,false),(3,false),(4,false),(5,false),(6,false),(7,false),(8,false),(9,false),(10,true),(11,true)]
def jJ:List (Nat×Bool):=[(0,false),(1,false),(2,false),(3,false),(4,false),(5,false),(6,false),(7,false),(8,false),(9,false),(10,false),(11,false),(12,false),(13,false),(14,false)]
def jK:List (Nat×Bool):=[(0,false),(1,false),(2,false),(3,false),(4,false),(5,false),(6,false),(7,false),(8,false),(9,false),(10,false),(11,false),(12,false),(13,false)]
def jL:List (Nat×Bool):=[(0,false),(1,false),(2,false),(3,false),(4,false),(5,false),(6,false),(7,false),(8,false),(9,true),(10,false),(11,false),(12,false),(13,false),(14,false)]
def jM:List (Nat×Bool):=[(0,false),(1,false),(2,false),(3,false),(4,false),(5,false),(6,false),(7,false),(8,false),(9,false),(10,false),(11,false)]
def jN:List (Nat×Bool):=[(0,false),(1,false),(2,false),(3,false),(4,false),(5,false),(6,false),(7,true)]
def jO:List (Nat×Bool):=[(0,false),(1,false),(2,false),(3,false),(4,false),(5,false),(6,false),(7,false),(8,false),(9,false),(10,false),(11,false),(12,false),(13,false),(14,false),(15,false),(16,false),(17,false),(18,false)]
def jP:List (Nat×Bool):=[(0,false),(1,false),(2,false),(3,false),(4,false),(5,false),(6,false),(7,false),(8,true),(9,true)]
def jQ:List (Nat×Bool):=[(0,false),(1,false),(2,false),(3,false),(4,false),(5,false),(6,false)]
def jR:List (Nat×Bool):=[(0,false),(1,false),(2,false),(5,false),(6,false),(8,false),(9,false),(12,false),(13,false),(3,true),(4,false),(7,true),(10,true),(11,false),(14,true),(15,false),(16,false),(17,true),(18,true),(19,false)]
def jS:List (Nat×Bool):=[(0,false),(1,false),(2,false),(3,false),(4,false),(5,false),(6,false),(7,false),(9,false),(8,true),(10,true),(11,true),(12,true),(13,false)]
def jT:List (Nat×Bool):=[(0,false),(1,false),(2,false),(3,false),(4,false),(5,false),(6,false),(7,false),(8,false),(9,false),(10,false),(11,false),(12,false),(13,false),(14,false),(15,false),(16,false),(17,true),(18,false),(19,false),(20,false),(21,false),(22,false)]
def jU:List (Nat×Bool):=[(0,false),(1,false),(2,false),(3,false),(4,false),(5,false),(6,false),(7,false),(8,true),(9,false)]
def gV {c:Cx}{K:List KI}{E:ap}{L:List aa}{all rest:List Oper}{d:Nat}{ty:TypeId}{pos:String}{af:Array Edge}{op:Op}{v:Value}(h:OpV c none E L ⟨some d,op,ty,pos,af,none⟩ v)(k:G c (.ops all rest::K) ((d,none,v)::E) L)(hd:bf c.n d E=true:=by exact rfl):G c (.ops all (⟨some d,op,ty,pos,af,none⟩::rest)::K) E L:=ln h hd k
def gF {c:Cx}{K:List KI}{E:ap}{L:List aa}{all rest:List Oper}{d:Nat}{ty:TypeId}{pos:String}{af:Array Edge}{x:Operand}{t:TypeId}{b o i sz:Nat}{h:Array Field}{f:Field}(off:Nat)(R:c.P.underlying t=some (.struct h))(D:h[i]? =some f)(S:∀w,(sizeOf f.type).run c.P w= .ok sz w)(hx:ev none E x=some (ptr b o))(k:G c (.ops all rest::K) ((d,none,ptr b (o+off))::E) L)(O:f.offset=off:=by exact rfl)(J:sz≠0:=by decide)(hd:bf c.n d E=true:=by exact rfl):G c (.ops all (⟨some d, .fieldAddr t x i,ty,pos,af,none⟩::rest)::K) E L:=ln (qm off R D O S J hx) hd k
def gL {c:Cx}{K:List KI}{E:ap}{L:List aa}{all rest:List Oper}{d:Nat}{ty:TypeId}{pos:String}{af:Array Edge}{x:Operand}{t:TypeId}{b o:Nat}{D:Obj}(v:Value)(J:∀w,(isAgg t).run c.P w= .ok false w)(hx:ev none E x=some (ptr b o))[h:Has L b D](k:G c (.ops all rest::K) ((d,none,v)::E) L)(O:yd D o=some v:=by exact rfl)(hd:bf c.n d E=true:=by exact rfl):G c (.ops all (⟨some d, .load t x,ty,pos,af,none⟩::rest)::K) E L:=ln (qu J hx O) hd k
def gX {c:Cx}{K:List KI}{E:ap}{L:List aa}{all rest:List Oper}{d:Nat}{ty:TypeId}{pos:String}{af:Array Edge}{x:Operand}{vs:Array Value}{i:Nat}(v:Value)(hx:ev none E x=some (.tuple vs))(k:G c (.ops all rest::K) ((d,none,v)::E) L)(h:vs[i]? =some v:=by exact rfl)(hd:bf c.n d E=true:=by exact rfl):G c (.ops all (⟨some d, .extract x i,ty,pos,af,none⟩::rest)::K) E L:=ln (qr hx h) hd k
def gP {c:Cx}{K:List KI}{E:ap}{L:List aa}{all rest:List Oper}{d:Nat}{ty:TypeId}{pos:String}{af:Array Edge}{x y:Operand}{t yt:TypeId}{a b:Int}(hx:ev none E x=some (.int .i64 a))(D:ev none E y=some (.int .i64 b))(h: -9223372036854775808<=a+b/\a+b<=9223372036854775807)(k:G c (.ops all rest::K) ((d,none, .int .i64 (a+b))::E) L)(hd:bf c.n d E=true:=by exact rfl):G c (.ops all (⟨some d, .binOp .add t x y yt,ty,pos,af,none⟩::rest)::K) E L:=ln (yr hx D (ao h)) hd k
def gK {c:Cx}{K:List KI}{E:ap}{L:List aa}{all rest:List Oper}{d:Nat}{ty:TypeId}{pos:String}{af:Array Edge}{op:Op}{v:Value}{i s:Nat}{b D:Bool}(O:(all[i]?).bind (·.dst)=some s)(R:look none E s=some (.bool b))(h:OpV c (some (s,D)) E L ⟨some d,op,ty,pos,af,some (i,D)⟩ v)(k:G c (.ops all rest::K) ((d,some (s,D),v)::E) L)(hd:bf c.n d E=true:=by exact rfl)(J:Nat.beq s d=false:=by exact rfl):G c (.ops all (⟨some d,op,ty,pos,af,some (i,D)⟩::rest)::K) E L:=lq O R (λ_=>h) hd J k
def gI {c:Cx}{K:List KI}{E:ap}{L:List aa}{all rest:List Oper}{d:Nat}{ty:TypeId}{pos:String}{af:Array Edge}{op:Op}{N:Value->List aa->Prop}(h:OpL c none E L ⟨some d,op,ty,pos,af,none⟩ N)(k:∀v L',N v L'->G c (.ops all rest::K) ((d,none,v)::E) L')(hd:bf c.n d E=true:=by exact rfl):G c (.ops all (⟨some d,op,ty,pos,af,none⟩::rest)::K) E L:=AQ h hd k
def gR {c:Cx}{K:List KI}{E:ap}{L:List aa}{all rest:List Oper}{d:Nat}{ty:TypeId}{pos:String}{af:Array Edge}{op:Op}{v:Value}{M:List aa}(h:OpL c none E L ⟨some d,op,ty,pos,af,none⟩ (R1 v M))(k:G c (.ops all rest::K) ((d,none,v)::E) M)(hd:bf c.n d E=true:=by exact rfl):G c (.ops all (⟨some d,op,ty,pos,af,none⟩::rest)::K) E L:=AQ h hd (by rintro _ _ ⟨rfl,rfl⟩;exact k)
def gU {c:Cx}{K:List KI}{E:ap}{L:List aa}{all rest:List Oper}{ty:TypeId}{pos:String}{af:Array Edge}{op:Op}{M:List aa}(h:OpL c none E L ⟨none,op,ty,pos,af,none⟩ (λ_ L'=>L'=M))(k:G c (.ops all rest::K) E M):G c (.ops all (⟨none,op,ty,pos,af,none⟩::rest)::K) E L:=cl h (by rintro _ _ rfl;exact k)
def oC {P:Program}{f:FuncId}{fn:Func}{cd:Code}{args:List Value}{L:List aa}{R:Value->List aa->Prop}{n:Nat}(O:P.funcs[f]? =some fn)(J:fn.body=some cd)(S:fn.ntmps=n)(h:∀w0,G ⟨P,fn,w0,R,⟨n,[]⟩⟩ [.code cd] (kA 0 args) L)(D:args.length<=n:=by simp):Ct P f args L R:=Ct.of O J n S D h
def gD {c:Cx}{K:List KI}{E:ap}{L:List aa}{id:Nat}{l:List Oper}{Lf:List aa}(pl:List (Nat×Bool))(h:G c (.plan l (λw=>Sat c.w0 w Lf) pl::K) E L)(J:c.P.follows .mixedOrders=true:=by kernel_rfl)(R:Region.noSelect l.toArray=true:=by kernel_rfl)(D:pl.length=l.length:=by exact rfl)(O:eS l.toArray pl (Array.replicate l.length false)=true:=by kernel_rfl):G c (.code (.region id l.toArray true)::K) E L:=yO pl J R D O h
def gG {c:Cx}{K:List KI}{E:ap}{L:List aa}{id:Nat}{l:List Oper}(pl:List (Nat×Bool))(h:G c (.plan l (λw=>Sat c.w0 w L) pl::K) E L)(J:c.P.follows .mixedOrders=true:=by kernel_rfl)(R:Region.noSelect l.toArray=true:=by kernel_rfl)(D:pl.length=l.length:=by exact rfl)(O:eS l.toArray pl (Array.replicate l.length false)=true:=by kernel_rfl):G c (.code (.region id l.toArray true)::K) E L:=eT pl J R D O h
def dV {c:Cx}{K:List KI}{E:ap}{L:List aa}{all:List Oper}{d:Nat}{ty:TypeId}{pos:String}{af:Array Edge}{Lf:List aa}{pl:List (Nat×Bool)}{i:Nat}{op:Op}{v:Value}(D:all[i]? =some ⟨some d,op,ty,pos,af,none⟩)[J:Sub L Lf](h:OpV c none E Lf ⟨some d,op,ty,pos,af,none⟩ v)(k:G c (.plan all (λw=>Sat c.w0 w Lf) pl::K) ((d,none,v)::E) L)(hd:bf c.n d E=true:=by exact rfl):G c (.plan all (λw=>Sat c.w0 w Lf) ((i,false)::pl)::K) E L:=rK D h hd k
def dF {c:Cx}{K:List KI}{E:ap}{L:List aa}{all:List Oper}{d:Nat}{ty:TypeId}{pos:String}{af:Array Edge}{Lf:List aa}{pl:List (Nat×Bool)}{i:Nat}{x:Operand}{t:TypeId}{b o j sz:Nat}{h:Array Field}{f:Field}(J:all[i]? =some ⟨some d, .fieldAddr t x j,ty,pos,af,none⟩)[X:Sub L Lf](off:Nat)(S:c.P.underlying t=some (.struct h))(D:h[j]? =some f)(V:∀w,(sizeOf f.type).run c.P w= .ok sz w)(hx:ev none E x=some (ptr b o))(k:G c (.plan all (λw=>Sat c.w0 w Lf) pl::K) ((d,none,ptr b (o+off))::E) L)(R:f.offset=off:=by exact rfl)(O:sz≠0:=by decide)(hd:bf c.n d E=true:=by exact rfl):G c (.plan all (λw=>Sat c.w0 w Lf) ((i,false)::pl)::K) E L:=rK J (qm off S D R V O hx) hd k
def dL {c:Cx}{K:List KI}{E:ap}{L:List aa}{all:List Oper}{d:Nat}{ty:TypeId}{pos:String}{af:Array Edge}{Lf:List aa}{pl:List (Nat×Bool)}{i:Nat}{x:Operand}{t:TypeId}{b o:Nat}{D:Obj}(O:all[i]? =some ⟨some d, .load t x,ty,pos,af,none⟩)[S:Sub L Lf](v:Value)(J:∀w,(isAgg t).run c.P w= .ok false w)(hx:ev none E x=some (ptr b o))[h:Has Lf b D](k:G c (.plan all (λw=>Sat c.w0 w Lf) pl::K) ((d,none,v)::E) L)(R:yd D o=some v:=by exact rfl)(hd:bf c.n d E=true:=by exact rfl):G c (.plan all (λw=>Sat c.w0 w Lf) ((i,false)::pl)::K) E L:=rK O (qu J hx R) hd k
def dJ {c:Cx}{K:List KI}{E:ap}{L:List aa}{all:List Oper}{d:Nat}{ty:TypeId}{pos:String}{af:Array Edge}{Lf:List aa}{pl:List (Nat×Bool)}{i:Nat}{op:Op}{v:Value}{j s:Nat}{b D:Bool}(O:all[i]? =some ⟨some d,op,ty,pos,af,some (j,D)⟩)(R:(all[j]?).bind (·.dst)=some s)(S:look none E s=some (.bool b))[V:Sub L Lf](h:OpV c (some (s,D)) E Lf ⟨some d,op,ty,pos,af,some (j,D)⟩ v)(k:G c (.plan all (λw=>Sat c.w0 w Lf) pl::K) ((d,some (s,D),v)::E) L)(hd:bf c.n d E=true:=by exact rfl)(J:Nat.beq s d=false:=by exact rfl):G c (.plan all (λw=>Sat c.w0 w Lf) ((i,false)::pl)::K) E L:=nE O R S (λ_=>h) hd J k
def uA {c:Cx}{g:Option (Nat×Bool)}{E:ap}{L:List aa}{d:Option Tmp}{ty:TypeId}{pos:String}{af:Array Edge}{gu:Option (Nat×Bool)}{f:FuncId}{J:List Operand}{vs:List Value}{ats:Array TypeId}{F:List aa}{R:List aa->Value->List aa->Prop}(D:∀args w,(callFunc f args).run c.P w= .ok (.enter f args) w)(hx:evs g E J=some vs)(h:∀F,Ct c.P f vs (F) (R F))[S:Split L [] F]:OpL c g E L ⟨d, .call {callee:= .value (.func f),args:=J.toArray,argTypes:=ats},ty,pos,af,gu⟩ (R F):=yW (Pre:=[]) D hx h
def vA {c:Cx}{g:Option (Nat×Bool)}{E:ap}{L:List aa}{d:Option Tmp}{ty:TypeId}{pos:String}{af:Array Edge}{gu:Option (Nat×Bool)}{f:FuncId}{J:List Operand}{vs:List Value}{ats:Array TypeId}{F:List aa}{v:Value}{M:List aa->List aa}(D:∀args w,(callFunc f args).run c.P w= .ok (.enter f args) w)(hx:evs g E J=some vs)(h:∀F,Ct c.P f vs (F) (R1 v (M F)))[S:Split L [] F]:OpL c g E L ⟨d, .call {callee:= .value (.func f),args:=J.toArray,argTypes:=ats},ty,pos,af,gu⟩ (R1 v (M F)):=yW (Pre:=[]) (R:=λF=>R1 v (M F)) D hx h
def uB {c:Cx}{g:Option (Nat×Bool)}{E:ap}{L:List aa}{d:Option Tmp}{ty:TypeId}{pos:String}{af:Array Edge}{gu:Option (Nat×Bool)}{f:FuncId}{J:List Operand}{vs:List Value}{ats:Array TypeId}{A0:aa}{F:List aa}{R:List aa->Value->List aa->Prop}(D:∀args w,(callFunc f args).run c.P w= .ok (.enter f args) w)(hx:evs g E J=some vs)(h:∀F,Ct c.P f vs (A0::F) (R F))[S:Split L [A0] F]:OpL c g E L ⟨d, .call {callee:= .value (.func f),args:=J.toArray,argTypes:=ats},ty,pos,af,gu⟩ (R F):=yW (Pre:=[A0]) D hx h
def vB {c:Cx}{g:Option (Nat×Bool)}{E:ap}{L:List aa}{d:Option Tmp}{ty:TypeId}{pos:String}{af:Array Edge}{gu:Option (Nat×Bool)}{f:FuncId}{J:List Operand}{vs:List Value}{ats:Array TypeId}{A0:aa}{F:List aa}{v:Value}{M:List aa->List aa}(D:∀args w,(callFunc f args).run c.P w= .ok (.enter f args) w)(hx:evs g E J=some vs)(h:∀F,Ct c.P f vs (A0::F) (R1 v (M F)))[S:Split L [A0] F]:OpL c g E L ⟨d, .call {callee:= .value (.func f),args:=J.toArray,argTypes:=ats},ty,pos,af,gu⟩ (R1 v (M F)):=yW (Pre:=[A0]) (R:=λF=>R1 v (M F)) D hx h
def uC {c:Cx}{g:Option (Nat×Bool)}{E:ap}{L:List aa}{d:Option Tmp}{ty:TypeId}{pos:String}{af:Array Edge}{gu:Option (Nat×Bool)}{f:FuncId}{O:List Operand}{vs:List Value}{ats:Array TypeId}{A0 J:aa}{F:List aa}{R:List aa->Value->List aa->Prop}(D:∀args w,(callFunc f args).run c.P w= .ok (.enter f args) w)(hx:evs g E O=some vs)(h:∀F,Ct c.P f vs (A0::J::F) (R F))[S:Split L [A0,J] F]:OpL c g E L ⟨d, .call {callee:= .value (.func f),args:=O.toArray,argTypes:=ats},ty,pos,af,gu⟩ (R F):=yW (Pre:=[A0,J]) D hx h
def vC {c:Cx}{g:Option (Nat×Bool)}{E:ap}{L:List aa}{d:Option Tmp}{ty:TypeId}{pos:String}{af:Array Edge}{gu:Option (Nat×Bool)}{f:FuncId}{O:List Operand}{vs:List Value}{ats:Array TypeId}{A0 J:aa}{F:List aa}{v:Value}{M:List aa->List aa}(D:∀args w,(callFunc f args).run c.P w= .ok (.enter f args) w)(hx:evs g E O=some vs)(h:∀F,Ct c.P f vs (A0::J::F) (R1 v (M F)))[S:Split L [A0,J] F]:OpL c g E L ⟨d, .call {callee:= .value (.func f),args:=O.toArray,argTypes:=ats},ty,pos,af,gu⟩ (R1 v (M F)):=yW (Pre:=[A0,J]) (R:=λF=>R1 v (M F)) D hx h
def uD {c:Cx}{g:Option (Nat×Bool)}{E:ap}{L:List aa}{d:Option Tmp}{ty:TypeId}{pos:String}{af:Array Edge}{gu:Option (Nat×Bool)}{f:FuncId}{V:List Operand}{vs:List Value}{ats:Array TypeId}{A0 J O:aa}{F:List aa}{R:List aa->Value->List aa->Prop}(D:∀args w,(callFunc f args).run c.P w= .ok (.enter f args) w)(hx:evs g E V=some vs)(h:∀F,Ct c.P f vs (A0::J::O::F) (R F))[S:Split L [A0,J,O] F]:OpL c g E L ⟨d, .call {callee:= .value (.func f),args:=V.toArray,argTypes:=ats},ty,pos,af,gu⟩ (R F):=yW (Pre:=[A0,J,O]) D hx h
def vD {c:Cx}{g:Option (Nat×Bool)}{E:ap}{L:List aa}{d:Option Tmp}{ty:TypeId}{pos:String}{af:Array Edge}{gu:Option (Nat×Bool)}{f:FuncId}{V:List Operand}{vs:List Value}{ats:Array TypeId}{A0 J O:aa}{F:List aa}{v:Value}{M:List aa->List aa}(D:∀args w,(callFunc f args).run c.P w= .ok (.enter f args) w)(hx:evs g E V=some vs)(h:∀F,Ct c.P f vs (A0::J::O::F) (R1 v (M F)))[S:Split L [A0,J,O] F]:OpL c g E L ⟨d, .call {callee:= .value (.func f),args:=V.toArray,argTypes:=ats},ty,pos,af,gu⟩ (R1 v (M F)):=yW (Pre:=[A0,J,O]) (R:=λF=>R1 v (M F)) D hx h
def uE {c:Cx}{g:Option (Nat×Bool)}{E:ap}{L:List aa}{d:Option Tmp}{ty:TypeId}{pos:String}{af:Array Edge}{gu:Option (Nat×Bool)}{f:FuncId}{X:List Operand}{vs:List Value}{ats:Array TypeId}{A0 J O V:aa}{F:List aa}{R:List aa->Value->List aa->Prop}(D:∀args w,(callFunc f args).run c.P w= .ok (.enter f args) w)(hx:evs g E X=some vs)(h:∀F,Ct c.P f vs (A0::J::O::V::F) (R F))[S:Split L [A0,J,O,V] F]:OpL c g E L ⟨d, .call {callee:= .value (.func f),args:=X.toArray,argTypes:=ats},ty,pos,af,gu⟩ (R F):=yW (Pre:=[A0,J,O,V]) D hx h
def vE {c:Cx}{g:Option (Nat×Bool)}{E:ap}{L:List aa}{d:Option Tmp}{ty:TypeId}{pos:String}{af:Array Edge}{gu:Option (Nat×Bool)}{f:FuncId}{X:List Operand}{vs:List Value}{ats:Array TypeId}{A0 J O V:aa}{F:List aa}{v:Value}{M:List aa->List aa}(D:∀args w,(callFunc f args).run c.P w= .ok (.enter f args) w)(hx:evs g E X=some vs)(h:∀F,Ct c.P f vs (A0::J::O::V::F) (R1 v (M F)))[S:Split L [A0,J,O,V] F]:OpL c g E L ⟨d, .call {callee:= .value (.func f),args:=X.toArray,argTypes:=ats},ty,pos,af,gu⟩ (R1 v (M F)):=yW (Pre:=[A0,J,O,V]) (R:=λF=>R1 v (M F)) D hx h
def uF {c:Cx}{g:Option (Nat×Bool)}{E:ap}{L:List aa}{d:Option Tmp}{ty:TypeId}{pos:String}{af:Array Edge}{gu:Option (Nat×Bool)}{f:FuncId}{Y:List Operand}{vs:List Value}{ats:Array TypeId}{A0 J O V X:aa}{F:List aa}{R:List aa->Value->List aa->Prop}(D:∀args w,(callFunc f args).run c.P w= .ok (.enter f args) w)(hx:evs g E Y=some vs)(h:∀F,Ct c.P f vs (A0::J::O::V::X::F) (R F))[S:Split L [A0,J,O,V,X] F]:OpL c g E L ⟨d, .call {callee:= .value (.func f),args:=Y.toArray,argTypes:=ats},ty,pos,af,gu⟩ (R F):=yW (Pre:=[A0,J,O,V,X]) D hx h
def vF {c:Cx}{g:Option (Nat×Bool)}{E:ap}{L:List aa}{d:Option Tmp}{ty:TypeId}{pos:String}{af:Array Edge}{gu:Option (Nat×Bool)}{f:FuncId}{Y:List Operand}{vs:List Value}{ats:Array TypeId}{A0 J O V X:aa}{F:List aa}{v:Value}{M:List aa->List aa}(D:∀args w,(callFunc f args).run c.P w= .ok (.enter f args) w)(hx:evs g E Y=some vs)(h:∀F,Ct c.P f vs (A0::J::O::V::X::F) (R1 v (M F)))[S:Split L [A0,J,O,V,X] F]:OpL c g E L ⟨d, .call {callee:= .value (.func f),args:=Y.toArray,argTypes:=ats},ty,pos,af,gu⟩ (R1 v (M F)):=yW (Pre:=[A0,J,O,V,X]) (R:=λF=>R1 v (M F)) D hx h
def uG {c:Cx}{g:Option (Nat×Bool)}{E:ap}{L:List aa}{d:Option Tmp}{ty:TypeId}{pos:String}{af:Array Edge}{gu:Option (Nat×Bool)}{f:FuncId}{Z:List Operand}{vs:List Value}{ats:Array TypeId}{A0 J O V X Y:aa}{F:List aa}{R:List aa->Value->List aa->Prop}(D:∀args w,(callFunc f args).run c.P w= .ok (.enter f args) w)(hx:evs g E Z=some vs)(h:∀F,Ct c.P f vs (A0::J::O::V::X::Y::F) (R F))[S:Split L [A0,J,O,V,X,Y] F]:OpL c g E L ⟨d, .call {callee:= .value (.func f),args:=Z.toArray,argTypes:=ats},ty,pos,af,gu⟩ (R F):=yW (Pre:=[A0,J,O,V,X,Y]) D hx h
def vG {c:Cx}{g:Option (Nat×Bool)}{E:ap}{L:List aa}{d:Option Tmp}{ty:TypeId}{pos:String}{af:Array Edge}{gu:Option (Nat×Bool)}{f:FuncId}{Z:List Operand}{vs:List Value}{ats:Array TypeId}{A0 J O V X Y:aa}{F:List aa}{v:Value}{M:List aa->List aa}(D:∀args w,(callFunc f args).run c.P w= .ok (.enter f args) w)(hx:evs g E Z=some vs)(h:∀F,Ct c.P f vs (A0::J::O::V::X::Y::F) (R1 v (M F)))[S:Split L [A0,J,O,V,X,Y] F]:OpL c g E L ⟨d, .call {callee:= .value (.func f),args:=Z.toArray,argTypes:=ats},ty,pos,af,gu⟩ (R1 v (M F)):=yW (Pre:=[A0,J,O,V,X,Y]) (R:=λF=>R1 v (M F)) D hx h
def uH {c:Cx}{g:Option (Nat×Bool)}{E:ap}{L:List aa}{d:Option Tmp}{ty:TypeId}{pos:String}{af:Array Edge}{gu:Option (Nat×Bool)}{f:FuncId}{xs:List Operand}{vs:List Value}{ats:Array TypeId}{A0 J O V X Y Z:aa}{F:List aa}{R:List aa->Value->List aa->Prop}(D:∀args w,(callFunc f args).run c.P w= .ok (.enter f args) w)(hx:evs g E xs=some vs)(h:∀F,Ct c.P f vs (A0::J::O::V::X::Y::Z::F) (R F))[S:Split L [A0,J,O,V,X,Y,Z] F]:OpL c g E L ⟨d, .call {callee:= .value (.func f),args:=xs.toArray,argTypes:=ats},ty,pos,af,gu⟩ (R F):=yW (Pre:=[A0,J,O,V,X,Y,Z]) D hx h
def vH {c:Cx}{g:Option (Nat×Bool)}{E:ap}{L:List aa}{d:Option Tmp}{ty:TypeId}{pos:String}{af:Array Edge}{gu:Option (Nat×Bool)}{f:FuncId}{xs:List Operand}{vs:List Value}{ats:Array TypeId}{A0 J O V X Y Z:aa}{F:List aa}{v:Value}{M:List aa->List aa}(D:∀args w,(callFunc f args).run c.P w= .ok (.enter f args) w)(hx:evs g E xs=some vs)(h:∀F,Ct c.P f vs (A0::J::O::V::X::Y::Z::F) (R1 v (M F)))[S:Split L [A0,J,O,V,X,Y,Z] F]:OpL c g E L ⟨d, .call {callee:= .value (.func f),args:=xs.toArray,argTypes:=ats},ty,pos,af,gu⟩ (R1 v (M F)):=yW (Pre:=[A0,J,O,V,X,Y,Z]) (R:=λF=>R1 v (M F)) D hx h
end Go.Sl
namespace Go.Sl
def He (l:List Value):∀(off k:Nat) (cs:Array Value),(l.zipIdx k).foldl (λcs (p:Value×Nat)=>cs.setIfInBounds (off+p.2) p.1) cs=yY cs (off+k) l:=by
 induction l with
 | nil=>intros;rfl
 | cons v l h=>intro off k cs;simp[List.zipIdx_cons,yY,h,RO]
def Hf (a cs:Array Value)(off:Nat):a.zipIdx.foldl (λcs (p:Value×Nat)=>cs.setIfInBounds (off+p.2) p.1) cs=yY cs off a.toList:=by
 have:=He a.toList off 0 cs;rw[<-Array.foldl_toList];simpa using this
def nH (k:Nat):List Value->List (Nat×Value)
 | []=>[]
 | v::vs=>(k,v)::nH (k+1) vs
def AX (sz:Nat):∀(vs:List Value) (k:Nat) (D:Array Value),(∀v∈vs,v.cells.size=sz)->(k+vs.length)*sz<=D.size->
  ∃J,Instr.fill (λi=>some (i*sz,sz)) D (nH k vs)=some J/\J.size=D.size/\(∀j v,vs[j]? =some v->∀f u,v.cells[f]? =some u->J[(k+j)*sz+f]? =some u)/\(∀p,p<k*sz->J[p]? =D[p]?)
 | [],k,D,_,_=>⟨D,rfl,rfl,λj v h=>by simp at h,λ_ _=>rfl⟩
 | v::vs,k,D,hv,X=>by
  have O:=hv v (by simp);have hk:(k+(vs.length+1))*sz=k*sz+vs.length*sz+sz:=(by rw[RV,RV,RW];omega);simp only[RX] at X;have Z:k*sz+sz<=D.size:=(by omega);have V:(k+1+vs.length)*sz<=(yY D (k*sz) v.cells.toList).size:=by
   have e:(k+1+vs.length)*sz=k*sz+vs.length*sz+sz:=(by rw[RV,RV,RW];omega);rw[jx];omega
  obtain ⟨J,h1,h2,h3,Y⟩:=AX sz vs (k+1) (yY D (k*sz) v.cells.toList) (λu hu=>hv u (by simp[hu])) V;have ek:(k+1)*sz=k*sz+sz:=(by rw[RV,RW]);refine ⟨J,?_,by rw[h2,jx],λj u S f x R=>?_,λp hp=>?_⟩
  ·unfold nH Instr.fill;have:¬(v.cells.size≠sz\/k*sz+v.cells.size > D.size):=(by rw[O];omega);have h5:=Hf v.cells D (k*sz);simp only[];rw[RJ (by simpa using this)];rw[h5];exact h1
  ·cases j with
   | zero=>
    simp at S;subst S;have hf':f<sz:=(by rw[<-O];exact (Rk.1 R).1);rw[RQ,Y _ (by omega),jy _ _ _ (by simp[O];omega),RI (by simp[O];omega)];simpa using R
   | succ j=>
    have:=h3 j u (by simpa using S) f x R
    rwa [show k+(j+1)=k+1+j by omega]
  ·rw[Y p (by omega),jy _ _ _ (by simp[O];omega),RJ (by omega)]
def rL (g:Option (Nat×Bool))(E:ap):Nat->List (Nat×Operand)->Option (List Value)
 | _,[]=>some []
 | k,(i,x)::ps=>match Nat.beq i k with
  | true=>match ev g E x with
   | some v=>match rL g E (k+1) ps with | some vs=>some (v::vs) | none=>none
   | none=>none
  | false=>none
def AY {n:Nd}{E:ap}{a:Act}{g:Option (Nat×Bool)}(h:EOk n E a)(R:gd g a):∀{O:List (Nat×Operand)} {k:Nat} {vs:List Value},rL g E k O=some vs->O.map (λp=>(p.1,a.eval p.2))=nH k vs
 | [],k,vs,D=>by injection D with D;subst D;rfl
 | (i,x)::O,k,vs,D=>by
  unfold rL at D;split at D
  ·rename_i S;have:=Rm S;subst this;split at D
   ·rename_i v V;split at D
    ·rename_i X J;injection D with D;subst D;simp[nH,h.ev R V,AY h R J]
    ·cases D
   ·cases D
  ·cases D
section
variable {c:Cx}{g:Option (Nat×Bool)}{E:ap}{L L':List aa}{d:Option Tmp}{ty:TypeId}{pos:String}{af:Array Edge}{gu:Option (Nat×Bool)}
variable {x y z:Operand}{t u e:TypeId}{k:IntKind}{v:Value}{s:Option Addr}{b o i j n sz cap off:Nat}
def qj {vs:List Value}{parts:List (Nat×Operand)}{zv:Value}(rows:List (List Value))(hu:c.P.underlying t=some (.slice e))(hz:∀w,(sizeOf e).run c.P w= .ok sz w)(Y:∀w,(zeroValue e).run c.P w= .ok zv w)(hx:rL g E 0 parts=some vs)(hn:vs.length=n)
  (S:vs.map (λv=>v.cells.toList)=rows) (J:∀r∈rows,r.length=sz) (hb:n*sz<=16777216) (h0:0<n*sz):
  OpL c g E L ⟨d, .buildSlice t n parts.toArray,ty,pos,af,gu⟩ λv L'=>∃b,v=sl (some ⟨b,0,none⟩) n n/\L'=ai e sz (some ⟨b,0,none⟩) n rows::L:=
 .of_run λa w hE hg hS=>by
  have hp:=AY hE hg hx;have X:∀v∈vs,v.cells.size=sz:=λv V=>by
   have:=J v.cells.toList (by rw[<-S];exact RY V);simpa using this
  obtain ⟨h,h1,h2,h3,h4⟩:=AX sz vs 0 ((Array.range (n*sz)).map (zv.cells[· % zv.cells.size]!)) X (by simp[hn]);have D:Rows (.cells h e (0,0)) 0 sz rows:=λj row Z f u hf=>by
   subst S;simp only[Rc,Rb] at Z;obtain ⟨v,V,rfl⟩:=Z;have:=h3 j v V f u (by simpa using hf);simpa [yd] using this
  refine ⟨sl (some ⟨w.heap.size,0,none⟩) n n,{w with heap:=w.heap.push (.cells h e (0,0))},ai e sz (some ⟨w.heap.size,0,none⟩) n rows::L,?_,?_,_,rfl,rfl⟩
  ·have R:¬n*sz > 2 ^ 24:=(by omega);have O:n*sz≠0:=(by omega);simp only[execOp,Instr.buildSlice];simp[underlying,program,Sem.run,hu,hz,Y,R,O,hp,h1,newRow,newObj,sl]
  ·refine (hS.alloc _).weak λm hm=> .inr ⟨_,h,rfl,hm,by rw[h2];simp,?_,J,D⟩;rw[<-S];simp[hn]
def mx {sz:Nat}(D:0<sz):∀(rows:List (List Value)),(∀r∈rows,r.length=sz)->∀k,rows.flatten[k]? =(rows[k / sz]?).bind (·[k % sz]?)
 | [],_,k=>by simp
 | r::rows,h,k=>by
  have S:=h r (by simp);have X:=mx D rows (λu V=>h u (by simp[V]));simp only[List.flatten_cons];by_cases J:k<sz
  ·rw[Ri (by omega),RZ J,R3 J]
   rfl
  ·rw[Rj (by omega),S,X];have O:k / sz=(k - sz) / sz+1:=(by rw[<-Nat.div_eq_sub_div D (by omega)]);have R:k % sz=(k - sz) % sz:=Nat.mod_eq_sub_mod (by omega);rw[O,R];simp
def wi {sz:Nat}:∀(rows:List (List Value)),(∀r∈rows,r.length=sz)->rows.flatten.length=rows.length*sz
 | [],_=>by simp
 | r::rows,h=>by
  simp[wi rows (λu D=>h u (by simp[D])),h r (by simp),RV,Nat.add_comm]
theorem Rows.flat {J:Obj}{off sz:Nat}{rows:List (List Value)}(h:Rows J off sz rows)(O:0<sz)(V:∀r∈rows,r.length=sz){k:Nat}{v:Value}(D:rows.flatten[k]? =some v):yd J (off+k)=some v:=by
 rw[mx O rows V] at D;simp only[Option.bind_eq_some_iff] at D;obtain ⟨row,R,S⟩:=D;have:=h _ row R _ v S
 rwa [R4,Nat.div_add_mod] at this
def wa {w0 w:World}{T:TypeId}{rows:List (List Value)}(h:Sat w0 w (ai T sz s cap rows::L)):(s=none/\rows=[]/\cap=0/\Sat w0 w L)\/
  ∃b cs,s=some ⟨b,0,none⟩/\cs.size=cap*sz/\rows.length<=cap/\(∀row∈rows,row.length=sz)/\Rows (.cells cs T (0,0)) 0 sz rows/\Sat w0 w (pt b (.cells cs T (0,0))::L):=by
 have S:=h;obtain ⟨V,X,Y,Z,f,O,hd⟩:=h;rcases (O 0 _ rfl).1 with ⟨D,a2,a3⟩ | ⟨b,cs,D,a2,a3,a4,a5,R⟩
 ·exact .inl ⟨D,a2,a3,S.tail⟩
 ·refine .inr ⟨b,cs,D,a3,a4,a5,R,V,X,Y,Z,f,λi A J=>?_,hd⟩;cases i with
  | zero=>simp at J;subst J;exact ⟨a2,(O 0 _ rfl).2⟩
  | succ i=>exact O (i+1) A (by simpa using J)
def fK {w0 w:World}{T:TypeId}{rows:List (List Value)}{cs:Array Value}(h:Sat w0 w (pt b (.cells cs T (0,0))::L))(D:cs.size=cap*sz)(J:rows.length<=cap)(O:∀row∈rows,row.length=sz)(R:Rows (.cells cs T (0,0)) 0 sz rows):
 Sat w0 w (ai T sz (some ⟨b,0,none⟩) cap rows::L):=h.weak λm S=> .inr ⟨b,cs,rfl,S,D,J,O,R⟩
def Hg {w0 w:World}(T sz:Nat)(h:Sat w0 w L):Sat w0 w (ai T sz none 0 []::L):=(h.pure_mk trivial).weak (A:=gE True) λm _=> .inl ⟨rfl,rfl,rfl⟩
def Hh {w0 w:World}{T:TypeId}{rows:List (List Value)}(h:Sat w0 w (ai T sz s cap rows::L)):Sat w0 w (roL sz s rows::L):=by
 rcases wa h with ⟨rfl,rfl,rfl,D⟩ | ⟨b,cs,rfl,O,a2,a3,a4,D⟩
 ·exact (Sat.pure_mk (φ:=True) trivial D).weak λm _=>Or.inl rfl
 ·exact D.freeze.weak λm J=> .inr ⟨b,0,_,rfl,J,a4⟩
class OwR (L:List aa) (s:Option Addr) (T sz cap:outParam Nat) (rows:outParam (List (List Value))) (F:outParam (List aa)):Prop where
 out:∃i,L[i]? =some (ai T sz s cap rows)/\F=L.eraseIdx i
instance (priority:=high) OwR.head {T:Nat}{rows:List (List Value)}:OwR (ai T sz s cap rows::L) s T sz cap rows L:=⟨0,rfl,rfl⟩
instance (priority:=low) OwR.tail {A:aa}{T:Nat}{rows:List (List Value)}{F:List aa}[h:OwR L s T sz cap rows F]:OwR (A::L) s T sz cap rows (A::F):=⟨let ⟨i,h1,h2⟩:=h.out;⟨i+1,by simpa using h1,by simp[h2]⟩⟩
theorem OwR.sat {w0 w:World}{T:Nat}{rows:List (List Value)}{F:List aa}(r:OwR L s T sz cap rows F)(h:Sat w0 w L):Sat w0 w (ai T sz s cap rows::F):=by
 obtain ⟨i,D,rfl⟩:=r.out;exact h.front D
def AZ (D:Nat):∀(r c:Nat),c<D->Builtin.growBy D r c<=2*D+192
 | 0,c,h=>by simp[Builtin.growBy];omega
 | r+1,c,h=>by
  unfold Builtin.growBy;split
  ·omega
  ·by_cases J:c+(c+768) / 4<D
   ·exact AZ D r _ J
   ·cases r with
    | zero=>simp[Builtin.growBy];omega
    | succ r=>unfold Builtin.growBy;rw[RI (by omega)];omega
def uO (D J:Nat)(h:J<D):Builtin.nextslicecap D J<=2*D+192:=by
 unfold Builtin.nextslicecap;split
 ·omega
 ·split
  ·omega
  ·exact AZ _ _ _ h
def nI {P:Program}{w:World}{rows:List (List Value)}(O:0<sz)(J:∀r∈rows,r.length=sz)(D:rows.length=n)(h:rows=[]\/∃b off o,s=some ⟨b,off,none⟩/\w.heap[b]? =some o/\Rows o off sz rows):
  (Builtin.firstCells sz n (sl s n cap)).run P w= .ok rows.flatten.toArray w:=by
 rcases h with rfl | ⟨b,off,o,rfl,S,R⟩
 ·simp at D;subst D;cases s with
  | none=>simp[Builtin.firstCells,sl,Sem.run_pure]
  | some p=>simp[Builtin.firstCells,sl,loadCells,loadCellsFrom]
 ·have:=ls (P:=P) (w:=w) b (n*sz) 0 off #[] rows.flatten (by rw[wi rows J,D]) (λk v V=>by
   have:=ge S (R.flat O J V);simpa using this)
  simpa [Builtin.firstCells,sl,loadCells] using this
theorem Rows.app {o:Obj}{off:Nat}{r1 r2:List (List Value)}(R:Rows o off sz r1)(S:Rows o (off+r1.length*sz) sz r2):Rows o off sz (r1++r2):=λj row h f v O=>by
 rcases Rq j r1.length with J | D
 ·rw[Ri J] at h;exact R j row h f v O
 ·rw[Rj D] at h;have:=S _ row h f v O;have e:off+r1.length*sz+((j - r1.length)*sz+f)=off+(j*sz+f):=by
   obtain ⟨q,rfl⟩:∃q,j=r1.length+q:=⟨j - r1.length,by omega⟩;rw[show r1.length+q - r1.length=q by omega,RV];omega
  rwa [e] at this
theorem Rows.of_flat {cs:Array Value}{T:TypeId}{off:Nat}{rows:List (List Value)}(J:0<sz)(S:∀r∈rows,r.length=sz)(h:∀k v,rows.flatten[k]? =some v->cs[off+k]? =some v):Rows (.cells cs T (0,0)) off sz rows:=λj row R f v O=>by
 have D:f<sz:=(by rw[<-S row (R5 R)];exact (Re.1 O).1);refine h _ v ?_;rw[mx J rows S,show (j*sz+f) / sz=j by rw[R4,R6 J,RZ D];rfl,show (j*sz+f) % sz=f by rw[R4,R7,R3 D]];simp[R,O]
def my {P:Program}{w:World}:(Builtin.lenOf (sl s n cap)).run P w= .ok n w:=by simp[Builtin.lenOf,sl,Sem.run_pure]
def rN {P:Program}{w:World}(k:Nat):(askRoom k).run P w= .ok () w:=by
 unfold askRoom;split <;> rfl
def uP {P:Program}{w w':World}{base:Option Addr}{X:Value}{m:Nat}{new:Array Value}(R:P.underlying t=some (.slice e))(S:∀w,(sizeOf e).run P w= .ok sz w)(O:(Builtin.lenOf X).run P w= .ok m w)(J:(Builtin.firstCells sz m X).run P w= .ok new w)(h:n+m<=cap)
  (D:(match base with | some a=>storeCells (a.add (n*sz)) new.toList | none=>(pure ():Sem Unit)).run P w= .ok () w'):(Builtin.append_ #[t,t] ty #[.slice base n cap,X]).run P w= .ok (.slice base (n+m) cap) w':=by
 unfold Builtin.append_;cases base with
 | none=>
  have e:w=w':=(by injection D);subst e;simp[underlying,program,Sem.run,R,S,O,J,h]
 | some a=>simp only[] at D;simp[underlying,program,Sem.run,R,S,O,J,h,D]
def Hi {P:Program}{w:World}{base:Option Addr}{X zv:Value}{m:Nat}{old new:Array Value}{h:TypeInfo}(hu:P.underlying t=some (.slice e))(hz:∀w,(sizeOf e).run P w= .ok sz w)(S:∀w,(zeroValue e).run P w= .ok zv w)(R:∀w,(typeInfo e).run P w= .ok h w)
  (Z:(Builtin.lenOf X).run P w= .ok m w) (Y:(Builtin.firstCells sz m X).run P w.drew= .ok new w.drew) (ho:(Builtin.firstCells sz n (.slice base n cap)).run P w.drew= .ok old w.drew) (O:cap<n+m) (V:n+m<=1073741824/\0<h.bytes/\h.bytes<=4096):
  ∃D,n+m<=D/\(Builtin.append_ #[t,t] ty #[.slice base n cap,X]).run P w= .ok (.slice (some ⟨w.heap.size,0,none⟩) (n+m) D) (w.drew.alloc (.cells (old++new++Builtin.zeroCells zv.cells (D - (n+m))) e (0,0))):=by
 have c1:¬n+m<=cap:=(by omega);have c3:¬(Builtin.nextslicecap (n+m) cap*h.bytes > 2 ^ 48):=by
  have h1:=uO (n+m) cap O;have h2:Builtin.nextslicecap (n+m) cap*h.bytes<=(2*1073741824+192)*4096:=R8 (by omega) V.2.2;omega
 have J:=λ(w:World) (k:Nat)=>rN (P:=P) (w:=w) k;refine ⟨(Question.appendCap (n+m) cap e).cut (w.tape w.drawn (.appendCap (n+m) cap e)),by simp[Question.cut],?_⟩;have e0:h.bytes≠0:=(by omega);unfold Builtin.append_;simp[underlying,program,Sem.run,hu,hz,Z,c1,R,choose,Question.forced];rw[RJ (by omega),RJ (by simpa using c3)];simp[J,Y,ho,S,newRow,newObj,Sem.run,Question.cut]
end
end Go.Sl
namespace Go.Sl
section
variable {c:Cx}{g:Option (Nat×Bool)}{E:ap}{L L':List aa}{d:Option Tmp}{ty:TypeId}{pos:String}{af:Array Edge}{gu:Option (Nat×Bool)}
variable {x y z:Operand}{t u e:TypeId}{k:IntKind}{v:Value}{s:Option Addr}{b o i j n sz cap off:Nat}
def rO {a:Act}{w:World}{P:Program}{X Y:Value}{r:Result Value}(hx:a.eval x=X)(D:a.eval y=Y)(h:(Builtin.append_ #[t,u] ty #[X,Y]).run P w=r):
  (execOp a.eval ⟨d, .call {callee:= .builtin .append,args:=#[x,y],argTypes:=#[t,u]},ty,pos,af,gu⟩).run P w=r.andThen λv w'=> .ok (.value v) w':=by
 simp[execOp,resolve,invoke,builtin,hx,D,h]
def uQ {cs:Array Value}{T:TypeId}{rows news:List (List Value)}(Y:0<sz)(O:cs.size=cap*sz)(D:rows.length+news.length<=cap)(hl:∀r∈rows,r.length=sz)(J:∀r∈news,r.length=sz)(hr:Rows (.cells cs T (0,0)) 0 sz rows):
  rows.length*sz+news.flatten.length<=cs.size/\Rows (.cells (yY cs (rows.length*sz) news.flatten) T (0,0)) 0 sz (rows++news):=by
 have h:rows.length*sz+news.flatten.length<=cs.size:=by
  rw[wi news J,O,<-RV];exact R9 _ D
 refine ⟨h,Rows.app (λj row R f v V=>?_) (Rows.of_flat Y J λk v X=>?_)⟩
 ·have:=hr j row R f v V;simp only[yd,Sa] at this ⊢;have S:=(Re.1 R).1;have Z:f<sz:=(by rw[<-hl row (R5 R)];exact (Re.1 V).1);have:j*sz+f<rows.length*sz:=by
   have:(j+1)*sz<=rows.length*sz:=R9 _ S;rw[RV,RW] at this;omega
  rw[jy _ _ _ h,RJ (by omega)]
  assumption
 ·have hk':=(Re.1 X).1;rw[jy _ _ _ h,RI (by omega),Sa,Sb];exact X
def uR {T:TypeId}{rows news:List (List Value)}{rest:Array Value}(R:0<sz)(S:∀r∈rows,r.length=sz)(J:∀r∈news,r.length=sz):
  Rows (.cells (rows.flatten.toArray++news.flatten.toArray++rest) T (0,0)) 0 sz (rows++news):=by
 refine Rows.of_flat R (by intro r V;rcases Sc.1 V with h | h;exact S r h;exact J r h) λk v O=>?_;have D:=(Re.1 O).1;rw[Sa,RL (by simp at D ⊢;omega)];simpa using O
def rP (zv:Array Value)(k:Nat):(Builtin.zeroCells zv k).size=k*zv.size:=by simp[Builtin.zeroCells]
def qN {s2:Option Addr}{m cap2:Nat}{zv:Value}{Z:TypeInfo}{T:Nat}{rows news:List (List Value)}{F:List aa}(hu:c.P.underlying t=some (.slice T))(hz:∀w,(sizeOf T).run c.P w= .ok sz w)(hzv:∀w,(zeroValue T).run c.P w= .ok zv w)(hzs:zv.cells.size=sz)(hti:∀w,(typeInfo T).run c.P w= .ok Z w)(h0:0<sz)
  (hx:ev g E x=some (sl s n cap)) (hy:ev g E y=some (sl s2 m cap2)) [R:OwR L s T sz cap rows F] (hn:rows.length=n) [Y:SlR F s2 sz news] (hm:news.length=m) (S:∀r∈news,r.length=sz) (h1:∀r∈news,ones r=true)
  (hb:n+m<=1073741824/\0<Z.bytes/\Z.bytes<=4096):
  OpL c g E L ⟨d, .call {callee:= .builtin .append,args:=#[x,y],argTypes:=#[t,t]},ty,pos,af,gu⟩ λv L'=>∃s' cap',v=sl s' (n+m) cap'/\L'=ai T sz s' cap' (rows++news)::F:=
 .of_run λa w hE hg hS=>by
  subst hn hm;have V:=R.sat hS;have hY:=Y.out _ _ V.tail;have J:∀w':World,w'.heap=w.heap->(Builtin.firstCells sz news.length (sl s2 news.length cap2)).run c.P w'= .ok news.flatten.toArray w':=λw' hw'=>nI h0 S rfl (by rw[hw'];exact hY);have fl1:ones news.flatten=true:=jw λv hv=>by
   obtain ⟨r,hr,hv⟩:=Sd.1 hv;exact jv (h1 r hr) v hv
  have ex:=λw' v h=>rO (d:=d) (ty:=ty) (pos:=pos) (af:=af) (gu:=gu) (t:=t) (u:=t) (r:= .ok v w') (P:=c.P) (w:=w) (hE.ev hg hx) (hE.ev hg hy) h;by_cases X:rows.length+news.length<=cap
  ·rcases wa V with ⟨rfl,rfl,rfl,hF⟩ | ⟨b,cs,rfl,a1,a2,a3,a4,hP⟩
   ·have hnews0:news=[]:=RP.1 (by omega);subst hnews0;refine ⟨sl none (0+0) 0,w,_,ex w _ ?_,V,none,0,rfl,by simp⟩;exact uP (base:=none) hu hz my (J w rfl) (by simp) rfl
   ·obtain ⟨hle,hrows⟩:=uQ (T:=T) h0 a1 X a3 S a4;have hst:=yQ (P:=c.P) b (rows.length*sz) T news.flatten w cs 0 hP.at_ (by omega) fl1;refine ⟨sl (some ⟨b,0,none⟩) (rows.length+news.length) cap,cL w b (.cells (yY cs (rows.length*sz) news.flatten) T (0,0)),_,ex _ _ ?_,?_,some ⟨b,0,none⟩,cap,rfl,rfl⟩
    ·exact uP (base:=some ⟨b,0,none⟩) hu hz my (J w rfl) X (by simpa [ez] using hst)
    ·refine fK (hP.set (o':= .cells (yY cs (rows.length*sz) news.flatten) T (0,0)) rR) (by rw[jx,a1]) (by simpa using X) ?_ hrows;intro r hr;rcases Sc.1 hr with h | h
     ·exact a3 r h
     ·exact S r h
  ·have D:(∀r∈rows,r.length=sz)/\(rows=[]\/∃b off o,s=some ⟨b,off,none⟩/\w.heap[b]? =some o/\Rows o off sz rows):=by
    rcases wa V with ⟨rfl,rfl,rfl,hF⟩ | ⟨b,cs,rfl,a1,a2,a3,a4,hP⟩
    ·exact ⟨by simp, .inl rfl⟩
    ·exact ⟨a3, .inr ⟨b,0,_,rfl,hP.at_,a4⟩⟩
   have hfo:(Builtin.firstCells sz rows.length (sl s rows.length cap)).run c.P w.drew= .ok rows.flatten.toArray w.drew:=nI h0 D.1 rfl D.2;obtain ⟨O,hc,hrun⟩:=Hi (ty:=ty) (t:=t) (cap:=cap) (n:=rows.length) hu hz hzv hti my (J w.drew rfl) hfo (by omega) hb;refine ⟨_,_,_,ex _ _ hrun,?_,some ⟨w.heap.size,0,none⟩,O,rfl,rfl⟩;have hS2:Sat c.w0 (w.drew.alloc (.cells (rows.flatten.toArray++news.flatten.toArray++Builtin.zeroCells zv.cells (O - (rows.length+news.length))) T (0,0))) _:=(V.tail.drew (w.drawn+1)).alloc _;refine fK hS2 ?_ (by simpa using hc) ?_ (uR h0 D.1 S)
   ·simp only[Se,RN,wi rows D.1,wi news S,rP,hzs];rw[<-RV,<-RV];congr 1;omega
   ·intro r hr;rcases Sc.1 hr with h | h
    ·exact D.1 r h
    ·exact S r h
end
end Go.Sl
namespace Go.Sl
def qW (cs:Array Value):(Value.agg cs).cells=cs:=rfl
def yB {v:Value}(h:one v=true):v.cells=#[v]:=by cases v <;> first | rfl | cases h
section
variable {c:Cx}{g:Option (Nat×Bool)}{E:ap}{L L':List aa}{d:Option Tmp}{ty:TypeId}{pos:String}{af:Array Edge}{gu:Option (Nat×Bool)}{K:List KI}
variable {x y z:Operand}{t u e:TypeId}{k:IntKind}{v:Value}{s:Option Addr}{b o i j n sz cap off:Nat}
theorem Rows.set {cs:Array Value}{T:TypeId}{rows:List (List Value)}{row:List Value}{f:Nat}(hl:∀r∈rows,r.length=sz)(hr:Rows (.cells cs T (0,0)) 0 sz rows)(V:rows[j]? =some row)(hf:f<sz)(Y:j*sz+f<cs.size):
  Rows (.cells (cs.setIfInBounds (j*sz+f) v) T (0,0)) 0 sz (rows.set j (row.set f v)):=λi r J R u D=>by
 have X:=(Re.1 V).1;have hrl:=hl row (R5 V);simp only[yd,Sa];by_cases O:i=j
 ·subst O;rw[Ry X] at J;injection J with J;subst J;by_cases S:R=f
  ·subst S;rw[Ry (by omega)] at D;injection D with D;subst D;simp[Y]
  ·rw[Rz (Ne.symm S)] at D;rw[Rl (by omega)];simpa [yd] using hr i row V R u D
 ·rw[Rz (Ne.symm O)] at J;have hf':R<sz:=(by rw[<-hl r (R5 J)];exact (Re.1 D).1);have Z:j*sz+f≠i*sz+R:=by
   intro he;rcases Rg O with h | h
   ·have:(i+1)*sz<=j*sz:=R9 _ h;rw[RV,RW] at this;omega
   ·have:(j+1)*sz<=i*sz:=R9 _ h;rw[RV,RW] at this;omega
  rw[Rl Z];simpa [yd] using hr i r J R u D
def Hj {rows:List (List Value)}{row:List Value}{f:Nat}(D:∀r∈rows,r.length=sz)(J:rows[j]? =some row):∀r∈rows.set j (row.set f v),r.length=sz:=λr O=>by
 rcases Sf O with h | h
 ·exact D r h
 ·subst h;simpa using D row (R5 J)
def Hk {rows:List (List Value)}{row:List Value}{f:Nat}{T:Nat}{F:List aa}(hz:∀w,(sizeOf t).run c.P w= .ok 1 w)(hx:ev g E x=some (fe s (j*sz+f)))(hy:ev g E y=some v)(J:one v=true)[R:OwR L s T sz cap rows F](h:rows[j]? =some row)(Z:f<sz):
  OpL c g E L ⟨d, .store t x y,ty,pos,af,gu⟩ λ_ L'=>L'=ai T sz s cap (rows.set j (row.set f v))::F:=
 .of_skip λa w O V Y=>by
  rcases wa (R.sat Y) with ⟨rfl,rfl,rfl,_⟩ | ⟨b,cs,rfl,X,a2,a3,a4,S⟩
  ·simp at h
  ·have hjl:=(Re.1 h).1;have D:j*sz+f<cs.size:=by
    have:(j+1)*sz<=cap*sz:=R9 _ (by omega);rw[RV,RW] at this;omega
   have hr:=yQ (P:=c.P) b (j*sz+f) T [v] w cs 0 S.at_ (by simp;omega) (by simp[ones,J]);refine ⟨_,_,?_,fK (S.set (o':= .cells (cs.setIfInBounds (j*sz+f) v) T (0,0)) rfl) (by simpa using X) (by simpa using a2) (Hj a3 h) (a4.set a3 h Z D),rfl⟩;simp only[execOp,O.ev V hx,O.ev V hy,Instr.storeAt,Instr.sureAddr,storeVar,fe,Option.map_some,ez,Sa,Sem.run_bind,Sem.run_pure,Result.andThen_ok];simp[hz,yB J,hr,yY,cL]
def yi (T sz:Nat)(rows:List (List Value))(O:rows=[])(h:G c K E (ai T sz none 0 rows::L)):G c K E L:=λa w D J=>h a w D (O ▸ Hg T sz J)
def A7 (sz:Nat)(rows:List (List Value))(O:rows=[])(h:G c K E (roL sz none rows::L)):G c K E L:=λa w D J=>h a w D ((Sat.pure_mk (φ:=True) trivial J).weak λm _=>Or.inl O)
def yv {rows:List (List Value)}{T:Nat}{F:List aa}(s:Option Addr)[R:OwR L s T sz cap rows F](h:G c K E (roL sz s rows::F)):G c K E L:=λa w D J=>h a w D (Hh (R.sat J))
def bg (T:Nat)(f:Int):Value:=if f=0 then .nilIface else .iface T (I f)
def Hl {P:Program}{w:World}{J:Array (String×TypeId)}{T:Nat}{f:Int}(n:Nat)(D:P.underlying t=some (.interface J)):(Op.equalIn (n+1) t (bg T f) .nilIface).run P w= .ok (decide (f=0)) w:=by
 unfold bg;by_cases h:f=0
 ·simp[h,Op.equalIn,underlying,program,Sem.run,D]
 ·simp[h,Op.equalIn,underlying,program,Sem.run,D]
def A8 {P:Program}{w:World}{D:Array (String×TypeId)}{T:Nat}{f:Int}(h:P.underlying t=some (.interface D)):(Op.equal t (bg T f) .nilIface).run P w= .ok (decide (f=0)) w:=Hl 9999 h
def A9 {P:Program}{w:World}{T:Nat}{f:Int}{op:BinOp}:(eqGuard op t x (.const .nilIface) (bg T f) .nilIface).run P w= .ok () w:=by
 unfold bg;by_cases h:f=0 <;> cases op <;> simp[h,eqGuard]
def eA {Y:Array (String×TypeId)}{T:Nat}{f:Int}(X:c.P.underlying t=some (.interface Y))(hx:ev g E x=some (bg T f)):OpV c g E L ⟨d, .binOp .eql t x (.const .nilIface) u,ty,pos,af,gu⟩ (.bool (decide (f=0))):= .mk λa w R V Z=>by
 have h:=A8 (P:=c.P) (w:=w) (T:=T) (f:=f) X;have D:=A9 (P:=c.P) (w:=w) (t:=t) (x:=x) (T:=T) (f:=f) (op:= .eql);have J:a.eval (.const .nilIface)= .nilIface:=rfl;have O:binOp .eql t (bg T f) .nilIface=(do pure (.bool (<-Op.equal t (bg T f) .nilIface))):=by
  unfold bg;by_cases S:f=0 <;> simp[S,binOp]
 simp[execOp,R.ev V hx,J,D,O,h]
def yP {Y:Array (String×TypeId)}{T:Nat}{f:Int}(X:c.P.underlying t=some (.interface Y))(hx:ev g E x=some (bg T f)):OpV c g E L ⟨d, .binOp .neq t x (.const .nilIface) u,ty,pos,af,gu⟩ (.bool (!decide (f=0))):= .mk λa w R V Z=>by
 have h:=A8 (P:=c.P) (w:=w) (T:=T) (f:=f) X;have D:=A9 (P:=c.P) (w:=w) (t:=t) (x:=x) (T:=T) (f:=f) (op:= .neq);have J:a.eval (.const .nilIface)= .nilIface:=rfl;have O:binOp .neq t (bg T f) .nilIface=(do pure (.bool (!(<-Op.equal t (bg T f) .nilIface)))):=by
  unfold bg;by_cases S:f=0 <;> simp[S,binOp]
 simp[execOp,R.ev V hx,J,D,O,h]
def Hm {k:IntKind}{T:Nat}{f:Int}(R:c.P.underlying T=some (.int k))(hx:ev g E x=some (bg T f))(J:f≠0):OpV c g E L ⟨d, .typeAssert x t T true,ty,pos,af,gu⟩ (.tuple #[I f, .bool true]):= .mk λa w D O S=>by
 have h:=D.ev O hx;simp only[bg,J,if_false] at h;simp[execOp,h,Instr.typeAssert,underlying,program,Sem.run,R]
def Ba {v1 v2:Array Value}{b:Bool}(D:c.P.eqGuardType c.P.depth t=false)(hx:ev g E x=some (.agg v1))(R:ev g E y=some (.agg v2))(h:∀w,(Op.equal t (.agg v1) (.agg v2)).run c.P w= .ok b w):OpV c g E L ⟨d, .binOp .eql t x y u,ty,pos,af,gu⟩ (.bool b):= .mk λa w J O S=>by
 simp[execOp,J.ev O hx,J.ev O R,eqGuard,program,Sem.run,D,binOp,h]
def nJ {v1 v2:Array Value}{b:Bool}(D:c.P.eqGuardType c.P.depth t=false)(hx:ev g E x=some (.agg v1))(R:ev g E y=some (.agg v2))(h:∀w,(Op.equal t (.agg v1) (.agg v2)).run c.P w= .ok b w):OpV c g E L ⟨d, .binOp .neq t x y u,ty,pos,af,gu⟩ (.bool (!b)):= .mk λa w J O S=>by
 simp[execOp,J.ev O hx,J.ev O R,eqGuard,program,Sem.run,D,binOp,h]
def nK {P:Program}{w:World}{k:IntKind}{a b:Int}(n:Nat)(h:P.underlying t=some (.int k)):(Op.equalIn (n+1) t (I a) (I b)).run P w= .ok (decide (a=b)) w:=by
 simp[Op.equalIn,underlying,program,Sem.run,h,kB]
def uS (a b:List UInt8):((⟨⟨a⟩⟩:ByteArray)==⟨⟨b⟩⟩)=decide (a=b):=by
 have:((⟨⟨a⟩⟩:ByteArray)==⟨⟨b⟩⟩)=((⟨a⟩:Array UInt8)==⟨b⟩):=rfl;rw[this,kB];simp
def uT {P:Program}{w:World}{a b:List UInt8}(n:Nat)(h:P.underlying t=some .string):(Op.equalIn (n+1) t (ac a) (ac b)).run P w= .ok (decide (a=b)) w:=by
 have:=uS a b;simp[Op.equalIn,underlying,program,Sem.run,h,this]
def Hn {P:Program}{w:World}{a b:Bool}(n:Nat)(h:P.underlying t=some .bool):(Op.equalIn (n+1) t (Bo a) (Bo b)).run P w= .ok (decide (a=b)) w:=by
 simp[Op.equalIn,underlying,program,Sem.run,h,kB]
def dU (T sz n:Nat)(rows:List (List Value))(F:List aa):Value->List aa->Prop:=λv L'=>∃s cap,v=sl s n cap/\L'=ai T sz s cap rows::F
def wk {vs:List Value}{T m:Nat}{rows:List (List Value)}{F:List aa}(D:c.R=dU T sz n rows F)(V:du E c.fn.results.toList=some vs)(X:cG vs=sl s m cap)(O:m=n)[S:Sub L (ai T sz s cap rows::F)](hds:c.n.ds=[]:=by rfl):G c (.code .ret::K) E L:=
 λa w h J=>wp_ret (yu (qB (hds:=hds) V h (S.sat J) (by rw[D];exact ⟨s,cap,by rw[X,O],rfl⟩)))
variable {all rest:List Oper}{dd:Nat}{op:Op}{N:Value->List aa->Prop}
def yc {i s:Nat}{b D:Bool}(R:(all[i]?).bind (·.dst)=some s)(V:look none E s=some (.bool b))(X:b=D)(h:OpV c none E L ⟨some dd,op,ty,pos,af,some (i,D)⟩ v)(hd:bf c.n dd E=true)
  (k:G c (.ops all rest::K) ((dd,none,v)::E) L):G c (.ops all (⟨some dd,op,ty,pos,af,some (i,D)⟩::rest)::K) E L:=λa w J O=>by
 have Y:=lp (a:=a) R J V;refine wpList_step λZ S=>?_;rw[RI (by simp[Region.wanted,Y,X])];exact rJ h J (yM a) O (S _ _ (k _ w (J.put1 hd) O))
def fB {i s:Nat}{b D:Bool}(V:(all[i]?).bind (·.dst)=some s)(Y:look none E s=some (.bool b))(Z:b=D)(h:OpL c none E L ⟨some dd,op,ty,pos,af,some (i,D)⟩ N)(hd:bf c.n dd E=true)
  (k:∀v L',N v L'->G c (.ops all rest::K) ((dd,none,v)::E) L'):G c (.ops all (⟨some dd,op,ty,pos,af,some (i,D)⟩::rest)::K) E L:=λa w J S=>by
 have hy:=lp (a:=a) V J Y;refine wpList_step λnx X=>?_;rw[RI (by simp[Region.wanted,hy,Z])];exact h.out a w J (yM a) S nx _ λv w' L' O R=>X _ _ (k v L' R _ w' (J.put1 hd) O)
def jz {i s:Nat}{b D:Bool}{L2:List aa}(hi:(all[i]?).bind (·.dst)=some s)(hs:look none E s=some (.bool b))(h:b=D->OpL c (some (s,D)) E L ⟨some dd,op,ty,pos,af,some (i,D)⟩ (R1 v L2))[S:Sub L2 L](hd:bf c.n dd E=true)(Z:Nat.beq s dd=false)
  (k:G c (.ops all rest::K) ((dd,some (s,D),v)::E) L):G c (.ops all (⟨some dd,op,ty,pos,af,some (i,D)⟩::rest)::K) E L:=λa w J hS=>by
 have hy:=lp (a:=a) hi J hs;have hb:=J.look (yM a) hs;refine wpList_step λnx hk=>?_;have O:∀j V,some (s,D)=some (j,V)->j≠dd:=λj V e=>(by injection e with e;injection e with e _;subst e;exact Ro Z);by_cases R:b=D
 ·rw[RI (by simp[Region.wanted,hy,R])];have Y:gd (some (s,D)) a:=λj V e=>(by injection e with e;injection e with e1 e2;subst e1 e2;rw[hb,R]);refine (h R).out a w J Y hS nx _ λv' w' L' X hN=>?_;obtain ⟨rfl,rfl⟩:=hN;exact hk _ _ (k _ w' (J.put hd O λ_=>rfl) (S.sat X))
 ·rw[RJ (by simp[Region.wanted,hy,R])];refine hk _ _ (k _ w (J.put hd O λY=>?_) hS);have:=Y s D rfl;rw[hb] at this;exact absurd (by simpa using this) R
def rQ {k:IntKind}{p q:Int}{ats:Array TypeId}(hx:ev g E x=some (.int k p))(J:ev g E y=some (.int k q)):OpV c g E L ⟨d, .call {callee:= .builtin .max,args:=#[x,y],argTypes:=ats},ty,pos,af,gu⟩ (.int k (if p<q then q else p)):= .mk λa w h D O=>by
 simp[execOp,resolve,invoke,builtin,Builtin.max_,Builtin.max2,h.ev D hx,h.ev D J]
def nM {k:IntKind}{p q:Int}{ats:Array TypeId}(hx:ev g E x=some (.int k p))(J:ev g E y=some (.int k q)):OpV c g E L ⟨d, .call {callee:= .builtin .min,args:=#[x,y],argTypes:=ats},ty,pos,af,gu⟩ (.int k (if q<p then q else p)):= .mk λa w h D O=>by
 simp[execOp,resolve,invoke,builtin,Builtin.min_,Builtin.min2,h.ev D hx,h.ev D J]
def rT (g:Option (Nat×Bool))(E:ap):List (Nat×Operand)->Option (List (Nat×Value))
 | []=>some []
 | (i,x)::ps=>match ev g E x with
  | some v=>match rT g E ps with | some vs=>some ((i,v)::vs) | none=>none
  | none=>none
def Bb {n:Nd}{E:ap}{a:Act}{g:Option (Nat×Bool)}(h:EOk n E a)(R:gd g a):∀{O:List (Nat×Operand)} {vs:List (Nat×Value)},rT g E O=some vs->O.map (λp=>(p.1,a.eval p.2))=vs
 | [],vs,D=>by injection D with D
 | (i,x)::O,vs,D=>by
  unfold rT at D;split at D
  ·rename_i v S;split at D
   ·rename_i V J;injection D with D;subst D;simp[h.ev R S,Bb h R J]
   ·cases D
  ·cases D
def qF {parts:List (Nat×Operand)}{vs:List (Nat×Value)}(hx:rT g E parts=some vs)(J:∀w,(Instr.build t vs.toArray).run c.P w= .ok v w):OpV c g E L ⟨d, .build t parts.toArray,ty,pos,af,gu⟩ v:= .mk λa w h D O=>by
 have:=Bb h D hx;simp[execOp,this,J]
def Ho {a:Act}{w:World}{r:Nat}{X:Obj}{vs:List Value}{ay:List aa}(hf:c.fn.results.toList=[.cell r t])(hx:look none E r=some (ptr b o))(ha:∀w,(isAgg t).run c.P w= .ok true w)(hz:∀w,(sizeOf t).run c.P w= .ok sz w)[h:Has L b X](hl:vs.length=sz)
  (hv:∀k v,vs[k]? =some v->yd X (o+k)=some v) (O:EOk c.n E a) (V:Sat c.w0 w L) [S:Sub L ay] (Z:c.R (.agg vs.toArray) ay) (hds:c.n.ds=[]:=by rfl):(a.defers=[]/\∃v,(results c.fn a.tmps).run c.P w= .ok v w/\∃L,Sat c.w0 w L/\c.R v L)\/∃D w',a.defers=[i6 D]/\(Instr.takeDeferred D).run c.P w= .ok [] w'/\∃v,(results c.fn a.tmps).run c.P w'= .ok v w'/\∃L,Sat c.w0 w' L/\c.R v L:=by
 have hh:=h.out _ _ V;have J:=ls (P:=c.P) (w:=w) b sz 0 o #[] vs hl (λk v hk=>by simpa using ge hh (hv k v hk));have Y:=O.look (yM a) hx;refine .inl ⟨O.defers.trans hds, .agg vs.toArray,?_,ay,S.sat V,Z⟩;rw[rI,RH,hf];simp[mv,Rn,Y,asAddr,loadVar,ha,hz,loadCells,J]
def d7 {r:Nat}{D:Obj}{ay:List aa}(vs:List Value)(O:c.R=R1 (.agg vs.toArray) ay)(Y:c.fn.results.toList=[.cell r t])(hx:look none E r=some (ptr b o))(X:∀w,(isAgg t).run c.P w= .ok true w)(hz:∀w,(sizeOf t).run c.P w= .ok sz w)[h:Has L b D](Z:vs.length=sz)
  (hv:∀k v,vs[k]? =some v->yd D (o+k)=some v) [S:Sub L ay] (hds:c.n.ds=[]:=by rfl):G c (.code .ret::K) E L:=
 λa w J V=>wp_ret (yu (Ho (hds:=hds) (h:=h) (S:=S) Y hx X hz Z hv J V (by rw[O];exact ⟨rfl,rfl⟩)))
end
end Go.Sl
namespace Go.Proofs.YthdjckbjjfiopabGreatDoor
open _root_.Go.Proofs.Tryz
open Go.Sl Go.Proofs
def OH:=@sizeOf3
def OI:=@isAgg3
def OJ:=@sizeOf174
def OK:=@underlying33
def OL:=@underlying3
def OM:=@underlying9
def ON:=@sizeOf9
def OO:=@underlying105
def OP:=@sizeOf162
def OQ:=@isAgg9
def OR:=@zeroValue174
def OS:=@underlying174
def OT:=@underlying37
def OU:=@underlying5
def OV:=@underlying123
def OW:=@underlying268
def OX:=@sizeOf195
def OY:=@underlying117
def OZ:=@underlying121
def O0:=@sizeOf185
def O1:=@underlying35
def O2:=@sizeOf121
def O3:=@underlying187
def O4:=@isAgg174
def O5:=@underlying231
def O6:=@underlying162
def O7:=@sizeOf187
def O8:=@underlying126
def O9:=@underlying46
def Pa:=@underlying185
def Pb:=@underlying190
def Pc:=@zeroValue162
def Pd:=@sizeOf120
def Pe:=@zeroValue3
def Pf:=@isAgg121
def Pg:=@isAgg120
def Ph:=@underlying103
def Pi:=@sizeOf5
def Pj:=@underlying32
def Pk:=@underlying195
def Pm:=@sizeOf86
def Pn:=@sizeOf229
def Po:=@sizeOf183
def Pp:=@isAgg195
def Pq:=@underlying198
def Pr:=@isAgg229
def Ps:=@underlying229
def Pu:=@zeroValue5
def Pv:=@sizeOf4
def Pw:=@isAgg185
def Px:=@underlying273
def Py:=@zeroValue187
def Pz:=@sizeOf188
def PA:=@underlying188
def PB:=@underlying232
def PC:=@underlying183
def PD:=@underlying179
def PE:=@zeroValue183
def PF:=@sizeOf33
def PG:=@sizeOf232
def PH:=@isAgg162
def PI:=@underlying234
def PJ:=@isAgg232
def PK:=@underlying286
def PL:=@underlying71
def PM:=@sizeOf228
def PN:=@underlying86
def PO:=@isAgg4
def PP:=@sizeOf32
def PQ:=@isAgg228
def PR:=@sizeOf124
def PU:=@sizeOf25
def PV:=@sizeOf42
def PW:=@isAgg95
def PX:=@isAgg53
def PY:=@sizeOf184
def PZ:=@underlying184
def P0:=@isAgg124
def P1:=@isAgg25
def P2:=@isAgg33
def P3:=@sizeOf53
def P4:=@isAgg196
def P5:=@underlying91
def P6:=@isAgg42
def P7:=@zeroValue195
def P8:=@underlying22
def P9:=@sizeOf35
def Qa:=@isAgg32
def Qb:=@underlying168
def Qc:=@zeroValue86
def Qd:=@underlying219
def Qe:=@sizeOf71
def Qg:=@sizeOf100
def Qh:=@sizeOf43
def Qi:=@sizeOf196
def Qj:=@isAgg71
def Qk:=@isAgg286
def Ql:=@isAgg100
def Qm:=@underlying100
def Qn:=@sizeOf101
def Qo:=@isAgg43
def Qp:=@underlying43
def Qq:=@sizeOf44
def Qr:=@underlying265
def Qs:=@underlying327
def Qt:=@zeroValue185
def Qu:=@isAgg101
def Qv:=@underlying101
def Qw:=@isAgg44
def Qx:=@underlying44
def Qy:=@runUnderlying174
def Qz:=@sizeOf177
def QA:=@underlying321
def QB:=@isAgg268
def QC:=@isAgg187
def QD:=@sizeOf213
def QE:=@isAgg86
def QF:=@zeroValue9
def QG:=@sizeOf108
def QH:=@sizeOf268
def QI:=@sizeOf41
def QJ:=@isAgg108
def QK:=@underlying203
def QL:=@sizeOf325
def QM:=@underlying325
def QN:=@isAgg183
def QO:=@underlying215
def QP:=@isAgg213
def QQ:=@underlying213
def QR:=@isAgg41
def QS:=@underlying225
def QT:=@zeroValue319
def QU:=@runUnderlying187
def QV:=@sizeOf327
def QW:=@zeroValue123
def QX:=@runUnderlying123
def QY:=@zeroValue166
def QZ:=@underlying166
def Q0:=@zeroValue212
def Q3:=@underlying26
def Q4:=@zeroValue217
def Q5:=@zeroValue223
def Q6:=@runUnderlying183
def Q7:=@runUnderlying195
def Q8:=@runUnderlying162
def Q9:=@runUnderlying126
def kF (v0:Value)(h:one v0=true)(v1:Value)(D:one v1=true)(w:World):(Instr.build 174 #[(0,v0),(1,v1)]).run Tryz.prog w= .ok (.agg #[v0,v1,Bo false]) w:=by
 simp[Instr.build,OR,Qy,Pv,ON,Instr.fill,qW,sl,yB h,yB D]
def Hp (v0:Value)(h:one v0=true)(v1:Value)(D:one v1=true)(v2:Value)(J:one v2=true)(w:World):(Instr.build 174 #[(0,v0),(1,v1),(2,v2)]).run Tryz.prog w= .ok (.agg #[v0,v1,v2]) w:=by
 simp[Instr.build,OR,Qy,Pv,ON,Instr.fill,qW,sl,yB h,yB D,yB J]
def Hq (v0:Value)(h:one v0=true)(v1:Value)(D:one v1=true)(v3:Value)(J:one v3=true)(w:World):(Instr.build 179 #[(0,v0),(1,v1),(3,v3)]).run Tryz.prog w= .ok (.agg #[v0,v1,sl none 0 0,v3,Bo false]) w:=by
 simp[Instr.build,zeroValue179,runUnderlying179,Qz,OH,Pv,Qe,Instr.fill,qW,sl,yB h,yB D,yB J]
def uU (v0:Value)(h:one v0=true)(v1:Value)(D:one v1=true)(w:World):(Instr.build 183 #[(0,v0),(1,v1)]).run Tryz.prog w= .ok (.agg #[v0,v1]) w:=by
 simp[Instr.build,PE,Q6,OH,ON,Instr.fill,qW,sl,yB h,yB D]
def wE (v0:Value)(h:one v0=true)(v1:Value)(D:one v1=true)(v2:Value)(J:one v2=true)(v3:Value)(O:one v3=true)(w:World):(Instr.build 195 #[(0,v0),(1,v1),(2,v2),(3,v3)]).run Tryz.prog w= .ok (.agg #[v0,v1,v2,v3]) w:=by
 simp[Instr.build,P7,Q7,OH,Instr.fill,qW,sl,yB h,yB D,yB J,yB O]
def Hr (v0:Value)(h:one v0=true)(w:World):(Instr.build 198 #[(0,v0)]).run Tryz.prog w= .ok (.agg #[v0,I 0,I 0,I 0,I 0, .pointer none,sl none 0 0]) w:=by
 simp[Instr.build,zeroValue198,runUnderlying198,OX,Qi,PU,PF,Instr.fill,qW,sl,yB h]
def Bc (v0:Value)(h:one v0=true)(v1:Value)(D:one v1=true)(w:World):(Instr.build 231 #[(0,v0),(1,v1)]).run Tryz.prog w= .ok (.agg #[v0,v1]) w:=by
 simp[Instr.build,zeroValue231,runUnderlying231,PM,Pn,Instr.fill,qW,sl,yB h,yB D]
def Hs (v0:Value)(h:one v0=true)(w:World):(Instr.build 234 #[(0,v0)]).run Tryz.prog w= .ok (.agg #[v0]) w:=by
 simp[Instr.build,zeroValue234,runUnderlying234,PG,Instr.fill,qW,sl,yB h]
def Ht (v0:Value)(h:one v0=true)(v1:Value)(D:one v1=true)(v2:Value)(J:one v2=true)(v3:Value)(O:one v3=true)(w:World):(Instr.build 273 #[(0,v0),(1,v1),(2,v2),(3,v3)]).run Tryz.prog w= .ok (.agg #[v0,v1,v2,v3,I 0]) w:=by
 simp[Instr.build,zeroValue273,runUnderlying273,PU,OH,Instr.fill,qW,sl,yB h,yB D,yB J,yB O]
def Hu (v0:Value)(h:one v0=true)(v1:Value)(D:one v1=true)(w:World):(Instr.build 319 #[(0,v0),(1,v1)]).run Tryz.prog w= .ok (.agg #[v0,v1]) w:=by
 simp[Instr.build,QT,runUnderlying319,OH,ON,Instr.fill,qW,sl,yB h,yB D]
abbrev uV:Nat:=117
structure Area where
 fr:Int
 many:Int
 deriving DecidableEq
abbrev wm (f:Int):Value:=bg uV f
def kG (n:Int):Prop:= -9223372036854775808<=n/\n<=9223372036854775807
def qV {cs:Array Value}{vs:List Value}(h:vs.length=cs.size):yY cs 0 vs=vs.toArray:=by
 apply RS;intro i;rw[jy _ _ _ (by omega)];by_cases D:i<vs.length
 ·simp[D]
 ·have J:cs[i]? =none:=(by simp;omega);simp[D,J]
def mk (l:List Area)(p:Nat):Bool:=l.any λa=>decide (a.fr<=p/\(p:Int)<a.fr+a.many)
def mz {α:Type}{l:List α}{k:Nat}{a:α}(h:l[k]? =some a):l.take (k+1)=l.take k++ [a]:=by
 obtain ⟨D,J⟩:=Re.1 h;rw[Sg D,J]
def nO (e f:Int)(J:0<=e)(F:List aa):Ct Tryz.prog 14 [wm e,I f] (F) (R1 (Bo (decide (e=f))) F):=by
 refine Ct.of func14 rR 26 ntmps14 (by simp) λw0=>?_;refine gS (gQ rR (qb (gS (gM rR (gV (eA OT rR) (qc ?_))))));refine qd rfl ?_ ?_ <;> intro D
 ·simp at D;subst D;refine gS (gM rR (gV (yD rR rR) (gQ rR ?_)));refine ql rR rR ?_;show Bo (decide (f=0))=_;rw[decide_eq_decide.2 (show f=0 ↔ 0=f by omega)]
 ·simp at D;refine qf (gS (gM rR (gV (Hm OY rR D) (gM rR (gV (qr rR rR) (gV (qr rR rR) (gA rR (gQ rR (gS (gM rR (gM rR (gK rR rR (qn rR) (gK rR rR (qX rR rR) (gV (bT rR rR) (gM rR (gK rR rR (qn rR) (gK rR rR (qn rR) (gK rR rR (yD rR rR) (gV (bT rR rR) (gQ rR ?_))))))))))))))))))));refine ql rR rR ?_;show Bo ((true && decide (0<f)) && decide (e=f))=_;by_cases h:e=f
  ·subst h;simp;omega
  ·simp[h]
-- counterfoil/counterfoillaw.areas is not in this seat
open Go.Sl Go.Proofs Go.ChangeShapes Go.WideShapes Go.ChangeAt Go.RowKit
def own:ownKnob Tryz.prog.godebug=none:=by kernel_rfl
def zvE:laidOutB Tryz.prog=true:=by kernel_rfl
def OldRows (W:World)(a:Option Addr)(sz:Nat)(rows:List (List Value)):Prop:=rows=[]\/∃b off o,a=some ⟨b,off,none⟩/\W.heap[b]? =some o/\Go.Sl.Rows o off sz rows
theorem OldRows.sat {w0 w:World}{L:List aa}{a:Option Addr}{sz:Nat}{rows:List (List Value)}(h:OldRows w0 a sz rows)(D:Sat w0 w (old w0::L)):Sat w0 w (roL sz a rows::old w0::L):=by
 rcases h with rfl | ⟨b,off,o,rfl,J,R⟩
 ·exact (Sat.pure_mk (φ:=True) trivial D).weak λm _=>Or.inl rfl
 ·exact (D.old_ro J).weak λm O=>Or.inr ⟨b,off,o,rfl,O,R⟩
def Hv {n:Int}(h:(Lit.int .i64 n).wf=true):kG n:=by
 have:=h;simp[Lit.wf,IntKind.min,IntKind.max,IntKind.signed,IntKind.bits] at this;unfold kG;omega
instance:Inhabited Area:=⟨⟨0,0⟩⟩
section
variable {H:Type}{enc:TypeId×Value->H}{W:World}{spare:Nat->Bool}{held:Bool}
def Hw {sz len:Nat}{a:Addr}{rows:List (List Value)}(hl:rows.length=len)(h:∀i row,rows[i]? =some row->∀f v,row[f]? =some v->W.cell? ((a.add (i*sz)).add f)=some v)(S:∀row∈rows,row≠ []):OldRows W (some a) sz rows:=by
 by_cases X:rows=[]
 ·exact .inl X
 ·right;obtain ⟨Y,rs,rfl⟩:=Sh X;obtain ⟨v0,vs,V⟩:=Sh (S Y (by simp));have O:=h 0 Y rfl 0 v0 (by rw[V];rfl);have J:=World.cell?_spot O;simp[Addr.add] at J O;obtain ⟨b,off,Z⟩:=a;simp only at J;subst J;cases R:W.heap[b]? with
  | none=>simp[World.cell?,R] at O
  | some o=>
   refine ⟨b,off,o,rfl,R,λj row hj f v hf=>?_⟩;have D:=h j row hj f v hf;rw[ez,ez] at D;unfold World.cell? at D;simp only[R] at D;cases o <;> simp at D;simpa [yd,RO] using D
def zxj {f:Nat}{args:List Value}{W:World}{L:List aa}(O:Sat W W (L++ [old W]))(h:∀F,Ct Tryz.prog f args (L++F) (R1 (.bool true) (L++F))):
  Calls Tryz.prog f args.toArray W λe w'=>e= .returned (.bool true)/\RowKit.Below W.heap.size W w':=
 (h [old W] W W O).mono λe w' D=>by
  cases e with
  | returned v=>
   obtain ⟨L',J,rfl,rfl⟩:=D;exact ⟨rfl,(J.endFront).below⟩
  | panicked R=>exact D.elim
  | outgrown=>exact D.elim
end
end Go.Proofs.YthdjckbjjfiopabGreatDoor
namespace Go.Sl
section
variable {c:Cx}{g:Option (Nat×Bool)}{E:ap}{L L':List aa}{d:Option Tmp}{ty:TypeId}{pos:String}{af:Array Edge}{gu:Option (Nat×Bool)}{K:List KI}
variable {x y z:Operand}{t u e:TypeId}{k:IntKind}{v v1 v2:Value}{s:Option Addr}{b o i j n sz cap off:Nat}
variable {all rest:List Oper}{dd:Nat}{op:Op}{N:Value->List aa->Prop}
def iv (v:Value)(want:Bool):Bool:=match v with | .bool b=>b !=want | _=>true
def yL {i s:Nat}{vs:Value}{h:Bool}(S:(all[i]?).bind (·.dst)=some s)(X:look none E s=some vs)(J:iv vs h=true)(hd:bf c.n dd E=true)
  (k:G c (.ops all rest::K) ((dd,none,undef)::E) L):G c (.ops all (⟨some dd,op,ty,pos,af,some (i,h)⟩::rest)::K) E L:=λa w D R=>by
 have O:=D.look (yM a) X;have Y:yielded all.toArray a.tmps i≠some h:=by
  cases vs <;> simp[yielded,S,O,iv] at J ⊢
  all_goals (rename_i b;cases b <;> cases h <;> simp at J ⊢)
 refine wpList_step λZ V=>?_;rw[RJ (by simp[Region.wanted,Y])];exact V _ _ (k _ w (D.put1 hd) R)
def cw {q:Bool}(O:ev g E z=some (.bool q))(J:q=true)(hx:ev g E x=some v1):OpV c g E L ⟨d, .pick z x y,ty,pos,af,gu⟩ v1:= .mk λa w h D R=>by
 simp[execOp,h.ev D O,h.ev D hx,asBool,J]
def bZ {q:Bool}(R:ev g E z=some (.bool q))(J:q=false)(O:ev g E y=some v1):OpV c g E L ⟨d, .pick z x y,ty,pos,af,gu⟩ v1:= .mk λa w h D S=>by
 simp[execOp,h.ev D R,h.ev D O,asBool,J]
end
end Go.Sl
namespace Go.Sl
section
variable {c:Cx}{g:Option (Nat×Bool)}{E:ap}{L L':List aa}{d:Option Tmp}{ty:TypeId}{pos:String}{af:Array Edge}{gu:Option (Nat×Bool)}{K:List KI}
variable {x y z:Operand}{t u e:TypeId}{k:IntKind}{v v1 v2:Value}{s:Option Addr}{b o i j n sz cap off:Nat}
theorem Rows.rep {h:Array Value}{T:TypeId}(n:Nat)(X:0<h.size):Rows (.cells ((Array.range (n*h.size)).map (h[· % h.size]!)) T (0,0)) 0 h.size (List.replicate n h.toList):=λj row D f v S=>by
 simp only[Si] at D;split at D
 ·rename_i O;injection D with D;subst D;have J:f<h.size:=(by simpa using (Re.1 S).1);have R:j*h.size+f<n*h.size:=by
   have:(j+1)*h.size<=n*h.size:=R9 _ O;rw[RV,RW] at this;omega
  simp only[yd,Sa];rw[Sj,Sk,RI R];simp only[Option.map_some];rw[R4,R7,R3 J];rw[getElem!_pos h f J];obtain ⟨Y,V⟩:=Re.1 S;rw[<-V];simp
 ·cases D
def Bd {zv:Value}{D:TypeInfo}{m:Int}(n:Nat)(hu:c.P.underlying t=some (.slice e))(hz:∀w,(sizeOf e).run c.P w= .ok sz w)(Z:∀w,(zeroValue e).run c.P w= .ok zv w)(R:∀w,(typeInfo e).run c.P w= .ok D w)
  (Y:zv.cells.size=sz) (h0:0<sz) (hx:ev g E x=some (I m)) (hy:ev g E y=some (I m)) (hn:m=n) (hb:n<=1048576/\D.bytes<=4096):
  OpL c g E L ⟨d, .makeSlice t x y,ty,pos,af,gu⟩ λv L'=>∃b,v=sl (some ⟨b,0,none⟩) n n/\L'=ai e sz (some ⟨b,0,none⟩) n (List.replicate n zv.cells.toList)::L:=
 .of_run λa w hE hg hS=>by
  subst hn;subst Y;have hw:IntKind.i64.wrap (n:Int)=n:=ao (by omega);have h48:(D.bytes:Int)*n<=2 ^ 48:=by
   have h1:D.bytes*n<=4096*1048576:=R8 hb.2 hb.1;have h2:((D.bytes*n:Nat):Int)=(D.bytes:Int)*n:=(by simp);rw[<-h2];omega
  refine ⟨sl (some ⟨w.heap.size,0,none⟩) n n,{w with heap:=w.heap.push (.cells ((Array.range (n*zv.cells.size)).map (zv.cells[· % zv.cells.size]!)) e (0,0))},ai e zv.cells.size (some ⟨w.heap.size,0,none⟩) n (List.replicate n zv.cells.toList)::L,?_,?_,_,rfl,rfl⟩
  ·have O:¬((281474976710656:Int)<(D.bytes:Int)*n):=(by omega);have hi:∀w':World,(asInt (I n)).run c.P w'= .ok (n:Int) w':=λw'=>(by simp[asInt,asIntOf,Sem.run]);have e1:=hE.ev hg hx;have e2:=hE.ev hg hy;have J:=λ(w:World) (k:Nat)=>rN (P:=c.P) (w:=w) k;have hnn:¬((n:Int)<0):=(by omega);have X:IntKind.i64.wrap 0=0:=ao (by omega);by_cases S:n=0
   ·subst S;simp[execOp,Instr.makeSlice,underlying,program,Sem.run,hu,hz,R,e1,e2,asInt,asIntOf,X,J,newRow,newObj,sl];have er:∀f:Nat->Value,Array.map f (Array.range 0)=#[]:=λf=>Sn (by simp);rw[er,er]
   ·have V:¬n*zv.cells.size=0:=by
     have:=So (show 0<n by omega) h0;omega
    simp[execOp,Instr.makeSlice,underlying,program,Sem.run,hu,hz,Z,R,e1,e2,asInt,asIntOf,hw,O,J,newRow,newObj,sl,V];intro h;omega
  ·refine (hS.alloc _).weak λm hm=> .inr ⟨_,_,rfl,hm,by simp,by simp,λrow hr=>?_,Rows.rep n h0⟩;obtain ⟨_,rfl⟩:=Sq.1 hr;simp
def At (ya s:Option Addr)(p sz m:Nat):Prop:=(ya=s/\p=0)\/ya=s.map (·.add (p*sz))\/m=0
def uW {cs:Array Value}{T:TypeId}{rows news:List (List Value)}{l:Nat}(h0:0<sz)(Y:cs.size=cap*sz)(hcap:rows.length<=cap)(hfit:l+news.length<=rows.length)(hl:∀r∈rows,r.length=sz)(J:∀r∈news,r.length=sz)(hr:Rows (.cells cs T (0,0)) 0 sz rows):
  l*sz+news.flatten.length<=cs.size/\Rows (.cells (yY cs (l*sz) news.flatten) T (0,0)) 0 sz (rows.take l++news++rows.drop (l+news.length)):=by
 have S:l*sz+news.flatten.length<=cs.size:=by
  rw[wi news J,Y,<-RV];exact R9 _ (by omega)
 refine ⟨S,λj row D f v O=>?_⟩;have key:∀{j:Nat} {row:List Value} {f:Nat} {v:Value},rows[j]? =some row->row[f]? =some v->(j<l\/l+news.length<=j)->(yY cs (l*sz) news.flatten)[j*sz+f]? =some v:=fun {j row f v} D O Z=>by
  have:=hr j row D f v O;simp only[yd,Sa] at this;have R:f<sz:=(by rw[<-hl row (R5 D)];exact (Re.1 O).1);rw[jy _ _ _ S,RJ]
  ·exact this
  ·rw[wi news J];rintro ⟨h1,X⟩;rcases Z with h | h
   ·have:(j+1)*sz<=l*sz:=R9 _ h;rw[RV,RW] at this;omega
   ·have:(l+news.length)*sz<=j*sz:=R9 _ h;rw[RV] at this;omega
 simp only[yd,Sa];have V:l<=rows.length:=(by omega);rcases Rq j l with h | h
 ·rw[Sr,Ri (by simp;omega),Ss h] at D;exact key D O (.inl h)
 ·rcases Rq j (l+news.length) with X | X
  ·rw[Ri (by simp;omega),Rj (by simp;omega)] at D;simp only[Sv,Sw V] at D;have R:f<sz:=(by rw[<-J row (R5 D)];exact (Re.1 O).1);obtain ⟨q,rfl⟩:∃q,j=l+q:=⟨j - l,by omega⟩;have hq:q<news.length:=(by omega);have hqs:(q+1)*sz<=news.length*sz:=R9 _ hq;rw[RV,RW] at hqs;rw[jy _ _ _ S,RI (by rw[wi news J,RV];omega)];rw[RV,show l*sz+q*sz+f - l*sz=q*sz+f by omega,mx h0 news J];rw[show (q*sz+f) / sz=q by rw[R4,R6 h0,RZ R];rfl,show (q*sz+f) % sz=f by rw[R4,R7,R3 R]];rw[show l+q - l=q by omega] at D;rw[D];exact O
  ·rw[Rj (by simp;omega)] at D;simp only[Sx,Sv,Sw V,Sy] at D;rw[show l+news.length+(j - (l+news.length))=j by omega] at D;exact key D O (.inr X)
theorem At.addr {D:Option Addr}{p m off:Nat}(h:At D (some ⟨b,off,none⟩) p sz m)(J:0<m):D=some ⟨b,off+p*sz,none⟩:=by
 rcases h with ⟨rfl,rfl⟩ | rfl | h
 ·simp
 ·simp[Addr.add]
 ·omega
theorem Rows.part {O:Obj}{off p q:Nat}{rows:List (List Value)}(h:Rows O off sz rows):Rows O (off+p*sz) sz ((rows.drop p).take q):=λj row D f v R=>by
 have J:j<q:=by
  have:=(Re.1 D).1;simp at this;omega
 rw[Ss J,Sy] at D;have:=h _ row D f v R
 rwa [RV,RO,<-RO off] at this
def rU {a:Act}{w:World}{P:Program}{X Y:Value}{r:Result Value}(hx:a.eval x=X)(D:a.eval y=Y)(h:(Builtin.copy_ #[t,u] ty #[X,Y]).run P w=r):
  (execOp a.eval ⟨d, .call {callee:= .builtin .copy,args:=#[x,y],argTypes:=#[t,u]},ty,pos,af,gu⟩).run P w=r.andThen λv w'=> .ok (.value v) w':=by
 simp[execOp,resolve,invoke,builtin,hx,D,h]
def rV {P:Program}{w:World}{m:Nat}{rows:List (List Value)}(D:0<sz)(J:∀r∈rows,r.length=sz)(O:rows.length=n)(h:rows=[]\/∃b off o,s=some ⟨b,off,none⟩/\w.heap[b]? =some o/\Rows o off sz rows):
  (Builtin.firstCells sz n (sl s m cap)).run P w= .ok rows.flatten.toArray w:=by
 have:=nI (P:=P) (w:=w) (cap:=cap) (s:=s) D J O h;cases s <;> simpa [Builtin.firstCells,sl] using this
def mA {s2 xa ya:Option Addr}{l p q m cx cy:Nat}{T:Nat}{rows D:List (List Value)}{F:List aa}(hu:c.P.underlying t=some (.slice T))(hz:∀w,(sizeOf T).run c.P w= .ok sz w)(h0:0<sz)
  (hx:ev g E x=some (sl xa q cx)) (hy:ev g E y=some (sl ya m cy)) [R:OwR L s T sz cap rows F] [Y:SlR L s2 sz D] (hxa:At xa s l sz q) (hya:At ya s2 p sz m) (hk:l+q<=rows.length) (hm:p+m<=D.length)
  (hnl:∀r∈D,r.length=sz) (h1:∀r∈D,ones r=true):
  OpL c g E L ⟨d, .call {callee:= .builtin .copy,args:=#[x,y],argTypes:=#[t,u]},ty,pos,af,gu⟩ λv L'=>v=I (Nat.min m q)/\L'=ai T sz s cap (rows.take l++((D.drop p).take (Nat.min m q))++rows.drop (l+Nat.min m q))::F:=
 .of_run λa w hE hg hS=>by
  have hS1:=R.sat hS;have hY:=Y.out _ _ hS;have e1:=hE.ev hg hx;have e2:=hE.ev hg hy;generalize hr:Nat.min m q=r;have hr1:r<=m:=(by rw[<-hr];exact Sz _ _);have hr2:r<=q:=(by rw[<-hr];exact SA _ _);have J:∀x∈(D.drop p).take r,x.length=sz:=λx hx=>hnl x (SB (SD hx));have O:((D.drop p).take r).length=r:=(by simp;omega);have X:ones ((D.drop p).take r).flatten=true:=jw λv hv=>by
   obtain ⟨x,hx,hv⟩:=Sd.1 hv;exact jv (h1 x (SB (SD hx))) v hv
  have V:(Builtin.firstCells sz r (sl ya m cy)).run c.P w= .ok ((D.drop p).take r).flatten.toArray w:=by
   refine rV h0 J O ?_;by_cases Z:r=0
   ·left;rw[Z];rfl
   ·right;rcases hY with h | ⟨b,off,o,rfl,hh,hR⟩
    ·subst h;simp at hm;omega
    ·exact ⟨b,off+p*sz,o,hya.addr (by omega),hh,hR.part⟩
  have hlo:(Builtin.lenOf (Value.slice ya m cy)).run c.P w= .ok m w:=my;have hfi:(Builtin.firstCells sz r (Value.slice ya m cy)).run c.P w= .ok ((D.drop p).take r).flatten.toArray w:=V;by_cases Z:r=0
  ·subst Z;refine ⟨I ((0:Nat):Int),w,ai T sz s cap rows::F,?_,hS1,rfl,by simp⟩;refine (rU (r:= .ok (I ((0:Nat):Int)) w) e1 e2 ?_).trans rfl;cases xa <;> simp[Builtin.copy_,underlying,program,Sem.run,hu,hz,sl,goInt,storeCells,hlo,hr,hfi]
  ·rcases wa hS1 with ⟨rfl,rfl,rfl,hF⟩ | ⟨b,cs,rfl,a1,a2,a3,a4,hP⟩
   ·simp at hk;omega
   ·obtain ⟨hle,S⟩:=uW (T:=T) (l:=l) (news:=(D.drop p).take r) h0 a1 a2 (by rw[O];omega) a3 J a4;have hst:=yQ (P:=c.P) b (l*sz) T ((D.drop p).take r).flatten w cs 0 hP.at_ (by omega) X;have hxa':=hxa.addr (by omega);subst hxa';refine ⟨I (r:Int),cL w b (.cells (yY cs (l*sz) ((D.drop p).take r).flatten) T (0,0)),_,(rU (r:= .ok (I (r:Int)) _) e1 e2 ?_).trans rfl,?_,rfl,rfl⟩
    ·simp[Builtin.copy_,underlying,program,Sem.run,hu,hz,sl,goInt,hlo,hr,hfi,hst]
    ·rw[O] at S;refine fK (hP.set (o':= .cells (yY cs (l*sz) ((D.drop p).take r).flatten) T (0,0)) rR) (by rw[jx,a1]) (by simp;omega) ?_ S;intro x hx;rcases Sc.1 hx with hx | hx
     ·rcases Sc.1 hx with hx | hx
      ·exact a3 x (SD hx)
      ·exact J x hx
     ·exact a3 x (SB hx)
def uX (R:c.P.underlying t=some (.slice e))(S:∀w,(sizeOf e).run c.P w= .ok sz w):
  OpL c g E L ⟨d, .buildSlice t 0 #[],ty,pos,af,gu⟩ λv L'=>∃b,v=sl (some ⟨b,0,none⟩) 0 0/\L'=ai e sz (some ⟨b,0,none⟩) 0 []::L:=
 .of_run λa w V X D=>by
  refine ⟨sl (some ⟨w.heap.size,0,none⟩) 0 0,{w with heap:=w.heap.push (.cells #[] e (0,0))},ai e sz (some ⟨w.heap.size,0,none⟩) 0 []::L,?_,?_,_,rfl,rfl⟩
  ·have h:∀f:Nat->Value,Array.map f (Array.range 0)=#[]:=λf=>Sn (by simp);simp[execOp,Instr.buildSlice,underlying,program,Sem.run,R,S,newRow,newObj,sl,Instr.fill,h]
  ·exact (D.alloc _).weak λm O=> .inr ⟨_,_,rfl,O,by simp,by simp,by simp,λj row J=>by simp at J⟩
def iw {P:Program}{w:World}{i:Nat}{m:Int}{cd:BoundsCode}(h:m=i)(D:i<=n):(Instr.sliceBound (I m) n cd).run P w= .ok i w:=by
 subst h;simp[Instr.sliceBound,asIntOf,Sem.run,D]
def fN {m:Int}{l:Nat}(S:c.P.underlying t=some (.slice e))(X:∀w,(sizeOf e).run c.P w= .ok sz w)(hx:ev g E x=some (sl s n cap))(V:ev g E y=some (I m))(R:m=l)(O:l<=n):
  OpV c g E L ⟨d, .slice t x (some y) none none,ty,pos,af,gu⟩ (sl (if cap=l then s else s.map (·.add (l*sz))) (n - l) (cap - l)):= .mk λa w h D Y=>by
 have J:=λcd=>iw (P:=c.P) (w:=w) (cd:=cd) R O;simp only[execOp,Instr.sliceAt,Instr.slice,Instr.sliceBounds,Option.map_some,SE,h.ev D hx,h.ev D V,sl];simp[underlying,program,Sem.run,S,X,J]
def jV {m:Int}{h:Nat}(V:c.P.underlying t=some (.slice e))(Y:∀w,(sizeOf e).run c.P w= .ok sz w)(hx:ev g E x=some (sl s n cap))(X:ev g E y=some (I m))(S:m=h)(R:h<=cap):
  OpV c g E L ⟨d, .slice t x none (some y) none,ty,pos,af,gu⟩ (sl s h cap):= .mk λa w D J Z=>by
 have O:=λcd=>iw (P:=c.P) (w:=w) (cd:=cd) S R;simp only[execOp,Instr.sliceAt,Instr.slice,Instr.sliceBounds,Option.map_some,SE,D.ev J hx,D.ev J X,sl];simp[underlying,program,Sem.run,V,Y,O];intro _;cases s <;> simp[Addr.add]
def Hx {m S:Int}{l h:Nat}(hu:c.P.underlying t=some (.slice e))(hz:∀w,(sizeOf e).run c.P w= .ok sz w)(hx:ev g E x=some (sl s n cap))(hy:ev g E y=some (I m))(hm:m=l)(R:ev g E z=some (I S))(O:S=h)(Z:l<=h)(Y:h<=cap):
  OpV c g E L ⟨d, .slice t x (some y) (some z) none,ty,pos,af,gu⟩ (sl (if cap=l then s else s.map (·.add (l*sz))) (h - l) (cap - l)):= .mk λa w D J hS=>by
 have V:=λcd=>iw (P:=c.P) (w:=w) (cd:=cd) hm Z;have X:=λcd=>iw (P:=c.P) (w:=w) (cd:=cd) O Y;simp only[execOp,Instr.sliceAt,Instr.slice,Instr.sliceBounds,Option.map_some,SE,D.ev J hx,D.ev J hy,D.ev J R,sl];simp[underlying,program,Sem.run,hu,hz,V,X]
def uY (p:List UInt8)(l h:Nat):(⟨⟨p⟩⟩:ByteArray).extract l h=⟨⟨(p.take h).drop l⟩⟩:=by
 apply ByteArray.ext;rw[ByteArray.data_extract];simp[List.extract_eq_take_drop,List.drop_take]
def rW {m:Int}{l:Nat}{p:List UInt8}(V:c.P.underlying t=some .string)(hx:ev g E x=some (ac p))(X:ev g E y=some (I m))(R:m=l)(O:l<=p.length):
  OpV c g E L ⟨d, .slice t x (some y) none none,ty,pos,af,gu⟩ (ac (p.drop l)):= .mk λa w h D Y=>by
 have S:(⟨⟨p⟩⟩:ByteArray).size=p.length:=rfl;have J:=λcd=>iw (P:=c.P) (w:=w) (cd:=cd) (n:=p.length) R O;simp only[execOp,Instr.sliceAt,Instr.slice,Instr.sliceBounds,Option.map_some,SE,h.ev D hx,h.ev D X];simp[underlying,program,Sem.run,V,J,uY,S]
def Hy {m:Int}{h:Nat}{p:List UInt8}(X:c.P.underlying t=some .string)(hx:ev g E x=some (ac p))(Y:ev g E y=some (I m))(S:m=h)(R:h<=p.length):
  OpV c g E L ⟨d, .slice t x none (some y) none,ty,pos,af,gu⟩ (ac (p.take h)):= .mk λa w D J Z=>by
 have V:(⟨⟨p⟩⟩:ByteArray).size=p.length:=rfl;have O:=λcd=>iw (P:=c.P) (w:=w) (cd:=cd) (n:=p.length) S R;simp only[execOp,Instr.sliceAt,Instr.slice,Instr.sliceBounds,Option.map_some,SE,D.ev J hx,D.ev J Y];simp[underlying,program,Sem.run,X,O,uY,V]
def ix {m S:Int}{l h:Nat}{p:List UInt8}(hu:c.P.underlying t=some .string)(hx:ev g E x=some (ac p))(hy:ev g E y=some (I m))(hm:m=l)(R:ev g E z=some (I S))(O:S=h)(Z:l<=h)(Y:h<=p.length):
  OpV c g E L ⟨d, .slice t x (some y) (some z) none,ty,pos,af,gu⟩ (ac ((p.take h).drop l)):= .mk λa w D J hS=>by
 have hs:(⟨⟨p⟩⟩:ByteArray).size=p.length:=rfl;have V:=λcd=>iw (P:=c.P) (w:=w) (cd:=cd) hm Z;have X:=λcd=>iw (P:=c.P) (w:=w) (cd:=cd) (n:=p.length) O Y;simp only[execOp,Instr.sliceAt,Instr.slice,Instr.sliceBounds,Option.map_some,SE,D.ev J hx,D.ev J hy,D.ev J R];simp[underlying,program,Sem.run,hu,V,X,uY,hs]
end
end Go.Sl
namespace Go.Sl
def qq (l:List UInt8):List (List Value):=l.map λb=>[By b.toNat]
def i8 (l:List UInt8):(qq l).length=l.length:=by simp[qq]
def Hz (n:Nat):List.replicate n [By 0]=qq (List.replicate n 0):=by simp[qq]
def rX (l:List UInt8):(qq l).flatten=(l.map λb=>(b.toNat:Int)).map (Value.int .u8):=by
 induction l with
 | nil=>rfl
 | cons b l h=>simpa [qq] using h
def HA (l:List UInt8):∀(p:List UInt8),(l.map λb=>(b.toNat:Int)).foldl (λ(r:ByteArray) n=>r.push (UInt8.ofNat n.toNat)) ⟨⟨p⟩⟩=⟨⟨p++l⟩⟩:=by
 induction l with
 | nil=>intro p;simp
 | cons b l h=>
  intro p;have e:(⟨⟨p⟩⟩:ByteArray).push (UInt8.ofNat ((b.toNat:Int)).toNat)=⟨⟨p++ [b]⟩⟩:=by
   have:UInt8.ofNat ((b.toNat:Int)).toNat=b:=(by simp);rw[this];simp[ByteArray.push]
  simp only[Rv,SF,e,h];simp
section
variable {c:Cx}{g:Option (Nat×Bool)}{E:ap}{L L':List aa}{d:Option Tmp}{ty:TypeId}{pos:String}{af:Array Edge}{gu:Option (Nat×Bool)}{K:List KI}
variable {x y z:Operand}{t u e:TypeId}{k:IntKind}{v v1 v2:Value}{s:Option Addr}{b o i j n sz cap off:Nat}
def yg {l:List UInt8}{rows:List (List Value)}(hu:c.P.underlying t=some (.slice e))(X:c.P.underlying e=some (.int .u8))(J:c.P.underlying u=some .string)(hx:ev g E x=some (sl s n cap))[Y:SlR L s 1 rows](hr:rows=qq l)(hn:n=l.length):
  OpV c g E L ⟨d, .convert t u x,ty,pos,af,gu⟩ (ac l):= .mk λa w S Z V=>by
 have O:=Y.out _ _ V;subst hr hn;have R:=S.ev Z hx;have key:(Conv.bytesToString (sl s l.length cap)).run c.P w= .ok (ac l) w:=by
  cases s with
  | none=>
   rcases O with h | ⟨b,off,o,h,_⟩
   ·have:l=[]:=(by simpa [qq] using h);subst this;simp[Conv.bytesToString,sl,Sem.run];rfl
   ·cases h
  | some a=>
   have hl:(loadCells a l.length).run c.P w= .ok ((l.map λb=>(b.toNat:Int)).map (Value.int .u8)).toArray w:=by
    have:=rV (P:=c.P) (w:=w) (cap:=cap) (m:=l.length) (n:=l.length) (sz:=1) (rows:=qq l) (s:=some a) (by decide) (by simp[qq]) (i8 l) O;rw[rX] at this;simpa [Builtin.firstCells,sl] using this
   have:=run_bytesToString w a l.length cap _ hl;rw[show ByteArray.empty=⟨⟨[]⟩⟩ from rfl,HA] at this;simpa [sl] using this
 simp only[execOp,R,sl];simp[convert,underlying,program,Sem.run,hu,J,X];have D:(Conv.bytesToString (Value.slice s l.length cap)).run c.P w= .ok (ac l) w:=key;simp[D]
def fO {n:Int}(h:0<=n/\n<18446744073709551616):IntKind.u64.wrap n=n:=by
 show n % 2 ^ 64=n;omega
def uZ (n:Nat){a m:Int}{yt:TypeId}(hx:ev g E x=some (.int .u64 a))(D:0<=a/\a<18446744073709551616)(S:n<=63)(R:m=2 ^ n - 1):OpV c g E L ⟨d, .binOp .and t x (.const (.int .u64 m)) yt,ty,pos,af,gu⟩ (.int .u64 (a % 2 ^ n)):=by
 refine Ha (.inl rR) hx rR λP w=>?_;have h:(2:Int) ^ n=((2 ^ n:Nat):Int):=(by simp);have Z:2 ^ n<=2 ^ 63:=SG (by decide) S;have V:1<=2 ^ n:=Nat.one_le_two_pow;have e:IntKind.u64.bits=64:=rfl;have J:(BitVec.ofInt IntKind.u64.bits m).toNat=2 ^ n - 1:=by
  rw[BitVec.toNat_ofInt,R,h,e,SH (by omega) (by simp;omega)];omega
 have O:((BitVec.ofInt IntKind.u64.bits a &&& BitVec.ofInt IntKind.u64.bits m).toNat:Int)=a % 2 ^ n:=by
  rw[BitVec.toNat_and,J,Nat.and_two_pow_sub_one_eq_mod,BitVec.toNat_ofInt,e,Int.natCast_emod,SJ (Int.emod_nonneg _ (by simp)),h,SH D.1 (by simpa using D.2)]
 have X:0<=a % 2 ^ n:=Int.emod_nonneg _ (by rw[h];omega);have Y:a % 2 ^ n<2 ^ n:=Int.emod_lt_of_pos _ (by rw[h];omega);simp only[Op.intBits,O];rw[fO (by omega)]
 rfl
def u0 (R:c.P.underlying t=some (.slice e))(hx:ev g E x=some (sl s n cap)):OpV c g E L ⟨d, .binOp .eql t x (.const (.slice none 0 0)) u,ty,pos,af,gu⟩ (Bo s.isNone):= .mk λa w J O S=>by
 have D:a.eval (.const (.slice none 0 0))= .slice none 0 0:=rfl;have h:(Op.equal t (sl s n cap) (.slice none 0 0)).run c.P w= .ok s.isNone w:=by
  show (Op.equalIn (9999+1) _ _ _).run _ _=_;unfold Op.equalIn;cases s <;> simp[underlying,program,Sem.run,R,sl]
 simp only[execOp,J.ev O hx,D,sl,eqGuard,binOp] at h ⊢;simp[h,Sem.run]
end
end Go.Sl
namespace Go.Sl
theorem Sat.dropAll {w0 w:World}:∀{L X:List aa},Sat w0 w (L++X)->Sat w0 w X
 | [],X,h=>h
 | A::L,X,h=>Sat.dropAll (L:=L) (Sat.tail h)
instance Sub.none {L:List aa}:Sub L []:=⟨λw0 w X h=>by simpa using Sat.dropAll h⟩
def lu:List aa->aa
 | []=>gE True
 | A::As=>ny A (lu As)
theorem Sat.list {w0 w:World}:∀{D X:List aa},Sat w0 w (lu D::X)->Sat w0 w (D++X)
 | [],X,h=>h.tail
 | A::D,X,h=>by
  have O:Sat w0 w (lu D::(X++ [A])):=(Sat.star h).moveEnd;have J:=Sat.list O;rw[<-Sr] at J;exact J.endFront
theorem Sat.list_mk {w0 w:World}:∀{D X:List aa},Sat w0 w (D++X)->Sat w0 w (lu D::X)
 | [],X,h=>Sat.pure_mk trivial h
 | A::D,X,h=>by
  have J:Sat w0 w (D++(X++ [A])):=by
   have:=Sat.moveEnd h;simpa using this
  have O:Sat w0 w ((lu D::X)++ [A]):=Sat.list_mk J;exact O.endFront.two
def hx {α:Type}(A:α->List aa):aa:=ll λz=>lu (A z)
theorem Sat.hx {w0 w:World}{α:Type}{A:α->List aa}{X:List aa}(h:Sat w0 w (hx A::X)):∃z,Sat w0 w (A z++X):=let ⟨z,hz⟩:=Sat.ex h;⟨z,hz.list⟩
theorem Sat.hx_mk {w0 w:World}{α:Type}{A:α->List aa}{X:List aa}(z:α)(h:Sat w0 w (A z++X)):Sat w0 w (Go.Sl.hx A::X):=Sat.ex_mk z h.list_mk
section
variable {c:Cx}{g:Option (Nat×Bool)}{E:ap}{L L':List aa}{K:List KI}
def fP {α:Type}{A:α->List aa}{F:List aa}(B:aa)(D:B=hx A)[R:Rem L B F](k:∀z,G c K E (A z++F)):G c K E L:=λa w J O=>by
 have h:=R.sat O;rw[D] at h;obtain ⟨z,S⟩:=h.hx;exact k z a w J S
def gg {T sz cap:Nat}{rows:List (List Value)}{F:List aa}(s:Option Addr)(D:List (List Value))[R:OwR L s T sz cap rows F](h:rows=D)(k:G c K E (ai T sz s cap D::F)):G c K E L:=λa w J O=>by
 subst h;exact k a w J (R.sat O)
def eU {α:Type}{A:α->List aa}{F:List aa}(Pre:List aa)(B:aa)(z:α)(D:B=hx A)(h:A z=Pre)[S:Split L Pre F](k:G c K E (B::F)):G c K E L:=λa w J O=>by
 refine k a w J ?_;rw[D];exact Sat.hx_mk z (h ▸ S.sat O)
end
end Go.Sl
namespace Go.Sl
section
variable {P:Program}{ops:Array Oper}{C:World->Prop}{Q Q1 Q2:ay}{z:Nat}
def HB {i:Nat}{a:Act}{w:World}{K:Act->World->Prop}(S:∀O a w,Q1 (.panic O) a w->Q2 (.panic O) a w)(R:LetsOut Q1->LetsOut Q2)(h:wpOp P ops Q1 i K a w):wpOp P ops Q2 i K a w:=by
 have key:∀(o:Oper) (r:Result Next),o.upon P a K Q1 r->o.upon P a K Q2 r:=λo r h=>by
  cases r with
  | ok n w'=>
   cases n <;> simp only[Oper.upon] at h ⊢
   case enter f args=>exact h.mono λe X D=>by cases e <;> first | exact D | exact S _ _ _ D | exact R D
   all_goals exact h
  | halt x w'=>cases x <;> simp only[Oper.upon] at h ⊢ <;> first | exact S _ _ _ h | exact h
 unfold wpOp at*;split
 ·simpa [*] using h
 ·rename_i o V;simp only[V] at h;split
  ·rename_i J;simp only[J,if_true] at h;exact h.imp (key o _) (λh=>⟨h.1,R h.2⟩)
  ·rename_i J;simp only[J] at h;exact h
def wpAnyZ (P:Program)(ops:Array Oper)(C:World->Prop)(z:Nat)(Q:ay):Nat->Array Bool->Act->World->Prop
 | 0,listed,a,w=>(listed.getD z false=true\/C w)/\Region.ready .any ops listed=[]/\Q .normal a w
 | fuel+1,listed,a,w=>
  (listed.getD z false=true\/C w)/\(Region.ready .any ops listed=[]->Q .normal a w)/\
  ∀i∈Region.ready .any ops listed,wpOp P ops Q i (wpAnyZ P ops C z Q fuel (listed.setIfInBounds i true)) a w
theorem wpAnyZ.cls {fuel:Nat}{D:Array Bool}{a:Act}{w:World}(h:wpAnyZ P ops C z Q fuel D a w):D.getD z false=true\/C w:=by
 cases fuel <;> exact h.1
def Be:∀(fuel:Nat) (D:Array Bool) (a:Act) (w:World),wpAnyZ P ops C z Q fuel D a w->wpAny P .any ops Q fuel D a w
 | 0,_,_,_,h=>h.2
 | fuel+1,_,_,_,h=>⟨h.2.1,λi J=>wpOp_mono (λa w=>Be fuel _ a w) (h.2.2 i J)⟩
def mB (ops:Array Oper):Nat->Nat->Nat->Prop
 | 0,_,_=>False
 | f+1,k,i=>∃ok,ops[k]? =some ok/\∃e∈ok.after,Region.binds .any e=true/\(e.on=i\/mB ops f e.on i)
def u1 (ops:Array Oper)(z i:Nat):Prop:=∀oz,ops[z]? =some oz->∃e∈oz.after,Region.binds .any e=true/\(e.on=i\/mB ops 6 e.on i)
def closed (ops:Array Oper)(listed:Array Bool):Prop:=∀k ok,ops[k]? =some ok->listed.getD k false=true->∀e∈ok.after,Region.binds .any e=true->listed.getD e.on false=true
def Bf {D:Array Bool}{j k:Nat}(h:D.getD k false=true):(D.setIfInBounds j true).getD k false=true:=by
 by_cases J:j=k
 ·subst J;rcases Rq j D.size with O | O
  ·simp[O]
  ·simp[Rr O] at h
 ·rw[getD_set_ne false J];exact h
def u3 {h:Array Bool}{j:Nat}(Y:closed ops h)(Z:j∈Region.ready .any ops h):closed ops (h.setIfInBounds j true):=λk ok O X e V S=>by
 obtain ⟨_,oj,R,D⟩:=mem_ready.1 Z;by_cases J:j=k
 ·subst J;rw[R] at O;injection O with O;subst O;exact Bf (D e V S)
 ·rw[getD_set_ne false J] at X;exact Bf (Y k ok O X e V S)
def Bg {D:Array Bool}(J:closed ops D):∀{f k i:Nat},D.getD k false=true->mB ops f k i->D.getD i false=true
 | 0,_,_,_,h=>h.elim
 | f+1,k,i,V,⟨ok,hok,e,S,R,h⟩=>by
  have O:=J k ok hok V e S R;rcases h with h | h
  ·rw[<-h];exact O
  ·exact Bg J O h
def HC {i:Nat}{oi:Oper}{v:Value}(hi:ops[i]? =some oi)(hsel:∀(j:Nat) (o:Oper) cs b,ops[j]? =some o->o.op≠ .select cs b)
  (hQ:∀c a w,Q (.panic c) (a.put oi.dst v) w->Q (.panic c) a w) (hiz:i≠z) (hz:u1 ops z i):
  ∀(fuel:Nat) (D:Array Bool) (a:Act) (w:World),
   (∀j oj,ops[j]? =some oj->j≠i->D.getD j true=false->(∀e∈oj.after,Region.binds .any e=true->e.on≠i)->oi.apart ops oj=true)->
   i∈Region.ready .any ops D->closed ops D->D.getD z false=false->YieldsC P ops C oi v a->C w->
   wpAnyZ P ops C z Q fuel (D.setIfInBounds i true) (a.put oi.dst v) w->wpAnyZ P ops C z Q (fuel+1) D a w:=by
 intro fuel
 induction fuel with
 | zero=>
  intro D a w _ Z _ _ hy hw H;refine ⟨.inr hw,λh=>(by rw[h] at Z;cases Z),λj hj=>?_⟩;by_cases J:j=i
  ·subst J;exact hy.wpOp hi hw H
  ·have:=ready_mono hj J;rw[H.2.1] at this;cases this
 | succ fuel ih=>
  intro D a w O Z hcl hlz hy hw H;refine ⟨.inr hw,λh=>(by rw[h] at Z;cases Z),λj hj=>?_⟩;by_cases J:j=i
  ·subst J;exact hy.wpOp hi hw H
  ·have h1:=H.2.2 j (ready_mono hj J);obtain ⟨X,oj,S,V⟩:=mem_ready.1 hj;have Y:∀e∈oj.after,Region.binds .any e=true->e.on≠i:=λe he hb heq=>by
    have h1:=V e he hb;have h0:=(mem_ready.1 Z).1;rw[heq] at h1;rcases Rq i D.size with h' | h'
    ·simp[h'] at h0 h1;rw[h0] at h1;cases h1
    ·simp[Rr h'] at h1
   have hjz:j≠z:=λe=>by
    subst e;obtain ⟨e,he,hb,h⟩:=hz oj S;rcases h with h | h
    ·exact Y e he hb h
    ·have h5:=V e he hb;have h6:D.getD i false=true:=Bg hcl h5 h;have h0:=(mem_ready.1 Z).1;rcases Rq i D.size with h' | h'
     ·simp[h'] at h0 h6;rw[h0] at h6;cases h6
     ·simp[Rr h'] at h0
   have h2:=AM S (O j oj S J X Y) (λcs b=>hsel i oi cs b hi) (λcs b=>hsel j oj cs b S) hQ hy h1;have R:∀k ok,ops[k]? =some ok->k≠i->(D.setIfInBounds j true).getD k true=false->
     (∀e∈ok.after,Region.binds .any e=true->e.on≠i)->oi.apart ops ok=true:=λk ok hk hki hun hno=>by
    refine O k ok hk hki ?_ hno;by_cases hjk:j=k
    ·subst hjk;exact X
    ·rw[getD_set_ne true hjk] at hun;exact hun
   have hlz':(D.setIfInBounds j true).getD z false=false:=(by rw[getD_set_ne false hjz];exact hlz);refine wpOp_mono (λa' w' h3=>ih (D.setIfInBounds j true) a' w' R (ready_mono Z (Ne.symm J)) (u3 hcl hj) hlz' h3.1 ?_ ?_) h2
   ·rcases h3.2.cls with h | h
    ·rw[getD_set_ne false hjz,getD_set_ne false hiz] at h;rw[h] at hlz;cases hlz
    ·exact h
   ·rw[Rs _ _ J];exact h3.2
def u4 (hs:Region.noSelect ops=true)(hQ:∀c a d v w,Q (.panic c) (a.put d v) w->Q (.panic c) a w)(Z:∀ch a w,Q1 (.panic ch) a w->Q (.panic ch) a w)(X:LetsOut Q1->LetsOut Q)(Y:∀a w,Q1 .normal a w->wpOp P ops Q z (λa w=>Q .normal a w) a w):
  ∀(l:List (Nat×Bool)) (D:Array Bool) (a:Act) (w:World),
  eS ops (l++ [(z,true)]) D=true->(∀p∈l,p.1≠z/\u1 ops z p.1)->closed ops D->D.getD z true=false->lm P ops C Q1 l a w->wpAnyZ P ops C z Q (l.length+1) D a w
 | [],D,a,w,O,_,_,J,h=>by
  simp only[SK,eS,Ru,beq_iff_eq] at O;refine ⟨.inr h.1,λh0=>(by rw[O.1] at h0;cases h0),λj hj=>?_⟩;rw[O.1] at hj;have:j=z:=(by simpa using hj);subst this;have hlt:j<D.size:=by
   rcases Rq j D.size with V | V
   ·exact V
   ·simp[Rr V] at J
  refine wpOp_mono (λa w hq=>⟨.inl ?_,by simpa using O.2,hq⟩) (Y a w h.2);simp[hlt]
 | (i,false)::l,D,a,w,O,hz,R,J,h=>by
  simp only[SM,eS,Ru] at O;obtain ⟨⟨hr,hf⟩,hp'⟩:=O;obtain ⟨hw,o,v,ho,hy,h⟩:=h;obtain ⟨S,hzi⟩:=hz (i,false) (by simp);have hlz2:D.getD z false=false:=by
   rcases Rq z D.size with V | V
   ·simp[V] at J ⊢;exact J
   ·simp[Rr V] at J
  exact HC ho (Region.noSelect_spec hs) (λc a w=>hQ c a _ _ w) S hzi (l.length+1) D a w (Region.free_spec ho hf) (by simpa using hr) R hlz2 hy hw
   (u4 hs hQ Z X Y l _ _ _ hp' (λp O=>hz p (by simp[O])) (u3 R (by simpa using hr)) (by rw[getD_set_ne true S];exact J) h)
 | (i,true)::l,D,a,w,O,hz,R,J,h=>by
  simp only[SM,eS,Ru,beq_iff_eq] at O;obtain ⟨S,hzi⟩:=hz (i,true) (by simp);refine ⟨.inr h.1,λh0=>(by rw[O.1] at h0;cases h0),λj hj=>?_⟩;rw[O.1] at hj;have:j=i:=(by simpa using hj);subst this;exact HB Z X (wpOp_mono (λa w=>u4 hs hQ Z X Y l _ a w O.2 (λp O=>hz p (by simp[O])) (u3 R (by rw[O.1];simp)) (by rw[getD_set_ne true S];exact J)) h.2)
def rY (ops:Array Oper):Nat->Nat->Nat->Bool
 | 0,_,_=>false
 | f+1,k,i=>match ops[k]? with
  | some ok=>(ok.after.any λe=>Region.binds .any e && Nat.beq e.on i) || ok.after.any λe=>Region.binds .any e && rY ops f e.on i
  | none=>false
def Bh {ops:Array Oper}:∀{f k i:Nat},rY ops f k i=true->mB ops f k i
 | 0,_,_,h=>by cases h
 | f+1,k,i,h=>by
  unfold rY at h;split at h
  ·rename_i ok hok;rw[SN,SO,SO] at h;rcases h with ⟨j,D,h⟩ | ⟨j,D,h⟩
   ·rw[Ru] at h;exact ⟨ok,hok,ok.after[j],SP D,h.1, .inl (Rm h.2)⟩
   ·rw[Ru] at h;exact ⟨ok,hok,ok.after[j],SP D,h.1, .inr (Bh h.2)⟩
  ·cases h
def rZ (ops:Array Oper)(z i:Nat):Bool:=match ops[z]? with
 | some oz=>rY ops 7 z i
 | none=>true
def HD {i:Nat}(h:rZ ops z i=true):u1 ops z i:=λR D=>by
 simp only[rZ,D] at h;obtain ⟨ok,hok,e,O,J,h⟩:=Bh h;rw[D] at hok;injection hok with hok;subst hok;exact ⟨e,O,J,h⟩
def HE {id:Nat}{a:Act}{w:World}{l:List (Nat×Bool)}(Z:P.follows .mixedOrders=true)(hs:Region.noSelect ops=true)(D:l.length+1=ops.size)(J:z<ops.size)
  (Y:∀c a d v w,Q (.panic c) (a.put d v) w->Q (.panic c) a w) (V:∀X a w,Q1 (.panic X) a w->Q (.panic X) a w) (R:LetsOut Q1->LetsOut Q) (S:∀a w,Q1 .normal a w->wpOp P ops Q z (λa w=>Q .normal a w) a w)
  (O:eS ops (l++ [(z,true)]) (Array.replicate ops.size false)=true) (hz:l.all (λp=>!(Nat.beq p.1 z) && rZ ops z p.1)=true)
  (h:lm P ops C Q1 l a {w with drawn:=w.drawn+1}):(Code.region id ops true).wp P Q a w:=
 wp_region_any Z (Be (C:=C) (z:=z) _ _ _ _ (by
  rw[<-D];rw[<-D] at O J;refine u4 hs Y V R S l _ a _ O (λp O=>?_) (λk ok _ D=>by simp[Array.getElem?_replicate] at D;split at D <;> simp at D) (by simp[J]) h;have:=SQ.1 hz p O;simp only[Ru,Bool.not_eq_true'] at this;exact ⟨Ro this.1,HD this.2⟩))
end
section
variable {c:Cx}{E:ap}{L:List aa}{K:List KI}
def fm {id:Nat}{l:List Oper}{Lf:List aa}{J:Oper}(pl:List (Nat×Bool))(z:Nat)(D:l[z]? =some J)(Z:c.P.follows .mixedOrders=true)(hs:Region.noSelect l.toArray=true)(Y:pl.length+1=l.length)
  (hp:eS l.toArray (pl++ [(z,true)]) (Array.replicate l.length false)=true) (hz:pl.all (λp=>!(Nat.beq p.1 z) && rZ l.toArray z p.1)=true)
  (h:G c (.plan l (λw=>Sat c.w0 w Lf) pl:: .ops l [J]::K) E L):G c (.code (.region id l.toArray true)::K) E L:=λa w V X=>by
 have R:z<l.length:=(Re.1 D).1;refine HE (Q1:=kq c.P c.Q (.ops l [J]::K)) (z:=z) (l:=pl) Z hs (by simpa using Y) (by simpa using R) (λS a d v w hq=>absurd hq i7) (λS a w h=>h) (λh=>h) (λa w h=>?_) (by simpa using hp) hz (h a _ V (X.drew _));have O:l.toArray[z]? =some J:=(by simpa using D);unfold wpOp;rw[O];exact h
end
section
variable {c:Cx}{g:Option (Nat×Bool)}{E:ap}{L L':List aa}{d:Option Tmp}{ty:TypeId}{pos:String}{af:Array Edge}{gu:Option (Nat×Bool)}
variable {x y:Operand}{t:TypeId}{v:Value}{s:Option Addr}{j sz cap:Nat}
def HF {rows:List (List Value)}{row:List Value}{T:Nat}{F:List aa}(S:∀w,(sizeOf t).run c.P w= .ok 1 w)(hx:ev g E x=some (fe s (j*sz)))(O:ev g E y=some v)(h:one v=true)[R:OwR L s T sz cap rows F](J:rows[j]? =some row)(D:0<sz):
 OpL c g E L ⟨d, .store t x y,ty,pos,af,gu⟩ λ_ L'=>L'=ai T sz s cap (rows.set j (row.set 0 v))::F:=Hk S (f:=0) (by simpa using hx) O h J D
end
end Go.Sl
namespace Go.Sl
section
variable {c:Cx}{g:Option (Nat×Bool)}{E:ap}{L L':List aa}{d:Option Tmp}{ty:TypeId}{pos:String}{af:Array Edge}{gu:Option (Nat×Bool)}
variable {x y:Operand}{t u e:TypeId}{p:Option Addr}
def Bi {P:Program}{w:World}(h:P.underlying t=some (.pointer e)):(Op.equal t (.pointer p) (.pointer none)).run P w= .ok p.isNone w:=by
 show (Op.equalIn (9999+1) _ _ _).run _ _=_;unfold Op.equalIn;cases p <;> simp[underlying,program,Sem.run,h]
def jW (R:c.P.underlying t=some (.pointer e))(hx:ev g E x=some (.pointer p)):OpV c g E L ⟨d, .binOp .eql t x (.const (.pointer none)) u,ty,pos,af,gu⟩ (Bo p.isNone):= .mk λa w J O S=>by
 have D:a.eval (.const (.pointer none))= .pointer none:=rfl;have h:=Bi (P:=c.P) (w:=w) (p:=p) R;simp only[execOp,J.ev O hx,D,eqGuard,binOp] at h ⊢;simp[h,Sem.run]
end
end Go.Sl
namespace Go.Sl
section
variable {c:Cx}{E:ap}{L:List aa}{d:Nat}{ty:TypeId}{pos:String}{af:Array Edge}{K:List KI}{all:List Oper}{op:Op}{N:Value->List aa->Prop}{Lf:List aa}{pl:List (Nat×Bool)}
def lx {i j s:Nat}{b D:Bool}(X:all[i]? =some ⟨some d,op,ty,pos,af,some (j,D)⟩)(Y:(all[j]?).bind (·.dst)=some s)(Z:look none E s=some (.bool b))(hw:b=D)[S:Sub L Lf]
  (h:OpL c none E L ⟨some d,op,ty,pos,af,some (j,D)⟩ N) (hd:bf c.n d E=true)
  (k:∀v L',N v L'->G c (.plan all (λw=>Sat c.w0 w Lf) pl::K) ((d,none,v)::E) L'):G c (.plan all (λw=>Sat c.w0 w Lf) ((i,true)::pl)::K) E L:=λa w J R=>by
 have hy:=lp (a:=a) Y J Z;refine ⟨S.sat R,?_⟩;unfold wpOp;simp only[RK,X];rw[RI (by simp[Region.wanted,hy,hw])];exact .inl (h.out a w J (yM a) R _ _ λv w' L' O V=>k v L' V _ w' (J.put1 hd) O)
def qz {i j s:Nat}{b D:Bool}{v:Value}(V:all[i]? =some ⟨some d,op,ty,pos,af,some (j,D)⟩)(X:(all[j]?).bind (·.dst)=some s)(Y:look none E s=some (.bool b))(Z:b=D)[S:Sub L Lf]
  (h:OpV c none E Lf ⟨some d,op,ty,pos,af,some (j,D)⟩ v) (hd:bf c.n d E=true)
  (k:G c (.plan all (λw=>Sat c.w0 w Lf) pl::K) ((d,none,v)::E) L):G c (.plan all (λw=>Sat c.w0 w Lf) ((i,false)::pl)::K) E L:=λa w J R=>by
 have hy:=lp (a:=a) X J Y;exact ⟨S.sat R,_,v,by simpa using V, .inl ⟨by simp[Region.wanted,hy,Z],λw' O=> .inl (h.out a w' J (yM a) O)⟩,k _ w (J.put1 hd) R⟩
end
end Go.Sl
namespace Go.Sl
section
variable {c:Cx}{g:Option (Nat×Bool)}{E:ap}{L L':List aa}{d:Option Tmp}{ty:TypeId}{pos:String}{af:Array Edge}{gu:Option (Nat×Bool)}
variable {x y z y3:Operand}{t u e:TypeId}{k:IntKind}{v:Value}{s:Option Addr}{b o i j n sz cap off:Nat}
def fC {f:FuncId}{O:List Operand}{fi cap vs:List Value}{ats:Array TypeId}{Pre F:List aa}{R:List aa->Value->List aa->Prop}(D:∀args w,(callFunc f args).run c.P w= .ok (.enter f args) w)(hf:ev g E x=some (.func (.func f) fi.toArray cap.toArray))(hx:evs g E O=some vs)(h:∀F,Ct c.P f (fi++vs++cap) (Pre++F) (R F))[S:Split L Pre F]:
  OpL c g E L ⟨d, .call {callee:= .value x,args:=O.toArray,argTypes:=ats},ty,pos,af,gu⟩ (R F):=by
 constructor;intro a w V X hS nx Q hn;unfold Oper.wp;have hr:(execOp a.eval ⟨d, .call {callee:= .value x,args:=O.toArray,argTypes:=ats},ty,pos,af,gu⟩).run c.P w= .ok (.enter f (fi++vs++cap).toArray) w:=by
  simp[execOp,resolve,V.ev X hf,Deferred.ofValue,invoke,D,<-V.evs X hx]
 rw[hr];refine (h F c.w0 w (S.sat hS)).mono λe w' J=>?_;cases e with
 | returned v=>obtain ⟨L',Y,Z⟩:=J;exact hn v w' L' Y Z
 | panicked ch=>exact J.elim
 | outgrown=>exact J.elim
theorem Rows.take {O:Obj}{off:Nat}{rows:List (List Value)}(h:Rows O off sz rows)(i:Nat):Rows O off sz (rows.take i):=λj row D f v R=>by
 have J:j<i:=(by have:=(Re.1 D).1;simp at this;omega);rw[Ss J] at D;exact h j row D f v R
def HG {ya:Option Addr}{p m cy:Nat}{T:Nat}{rows:List (List Value)}{F:List aa}(hu:c.P.underlying t=some (.slice T))(hz:∀w,(sizeOf T).run c.P w= .ok sz w)(h0:0<sz)
  (hx:ev g E x=some (sl s i cap)) (hy:ev g E y=some (sl ya m cy)) [R:OwR L s T sz cap rows F] (hya:At ya s p sz m) (hi:i<=rows.length) (hp:p+m<=rows.length) (him:i+m<=rows.length) (hr0:0<rows.length) (h1:∀r∈rows,ones r=true):
  OpL c g E L ⟨d, .call {callee:= .builtin .append,args:=#[x,y],argTypes:=#[t,t]},ty,pos,af,gu⟩ λv L'=>v=sl s (i+m) cap/\L'=ai T sz s cap (rows.take i++(rows.drop p).take m)::F:=
 .of_run λa w hE hg hS=>by
  have Z:=R.sat hS;have ex:=λw' v h=>rO (d:=d) (ty:=ty) (pos:=pos) (af:=af) (gu:=gu) (t:=t) (u:=t) (r:= .ok v w') (P:=c.P) (w:=w) (hE.ev hg hx) (hE.ev hg hy) h;rcases wa Z with ⟨rfl,rfl,rfl,hF⟩ | ⟨b,cs,rfl,a1,a2,a3,a4,Y⟩
  ·simp at hr0
  ·have D:∀r∈(rows.drop p).take m,r.length=sz:=λr S=>a3 r (SB (SD S));have O:((rows.drop p).take m).length=m:=(by simp;omega);have V:(rows.take i).length=i:=(by simp;omega);have X:ones ((rows.drop p).take m).flatten=true:=jw λv hv=>by
    obtain ⟨r,S,hv⟩:=Sd.1 hv;exact jv (h1 r (SB (SD S))) v hv
   have hfi:(Builtin.firstCells sz m (sl ya m cy)).run c.P w= .ok ((rows.drop p).take m).flatten.toArray w:=by
    refine rV h0 D O ?_;by_cases hm0:m=0
    ·left;subst hm0;rfl
    ·exact .inr ⟨b,0+p*sz,_,hya.addr (by omega),Y.at_,a4.part⟩
   obtain ⟨hle,J⟩:=uQ (T:=T) (rows:=rows.take i) (news:=(rows.drop p).take m) h0 a1 (by rw[V,O];omega) (λr S=>a3 r (SD S)) D (a4.take i);rw[V] at hle J;have hst:=yQ (P:=c.P) b (i*sz) T ((rows.drop p).take m).flatten w cs 0 Y.at_ (by omega) X;refine ⟨sl (some ⟨b,0,none⟩) (i+m) cap,cL w b (.cells (yY cs (i*sz) ((rows.drop p).take m).flatten) T (0,0)),_,ex _ _ ?_,?_,rfl,rfl⟩
   ·exact uP (base:=some ⟨b,0,none⟩) hu hz my hfi (by omega) (by simpa [ez] using hst)
   ·refine fK (Y.set (o':= .cells (yY cs (i*sz) ((rows.drop p).take m).flatten) T (0,0)) rR) (by rw[jx,a1]) (by simp;omega) ?_ J;intro r S;rcases Sc.1 S with h | h
    ·exact a3 r (SD h)
    ·exact D r h
def HH {zv:Array Value}(h:ones zv.toList=true)(n:Nat):ones (Builtin.zeroCells zv n).toList=true:=jw λv O=>by
 simp only[Builtin.zeroCells,Array.toList_map,SR,SS,Array.mem_range] at O;obtain ⟨q,J,rfl⟩:=O;have R:0<zv.size:=by
  rcases Nat.eq_zero_or_pos zv.size with h | h
  ·rw[h] at J;simp at J
  ·exact h
 have D:=SU q R;rw[getElem!_pos zv _ D];exact jv h _ (by simp)
def u5 {xa:Option Addr}{l m cx:Nat}{zv:Value}{T:Nat}{rows:List (List Value)}{F:List aa}(s:Option Addr)(hu:c.P.underlying t=some (.slice T))(hzv:∀w,(zeroValue T).run c.P w= .ok zv w)(hzs:zv.cells.size=sz)(Z:ones zv.cells.toList=true)
  (hx:ev g E x=some (sl xa m cx)) [R:OwR L s T sz cap rows F] (Y:At xa s l sz m) (hl:rows.length<=l) (hm:l+m<=cap):
  OpL c g E L ⟨d, .call {callee:= .builtin .clear,args:=#[x],argTypes:=#[t]},ty,pos,af,gu⟩ λv L'=>v= .tuple #[]/\L'=ai T sz s cap rows::F:=
 .of_run λa w hE hg hS=>by
  have D:=R.sat hS;have e1:=hE.ev hg hx;by_cases S:m=0
  ·subst S;refine ⟨.tuple #[],w,_,?_,D,rfl,rfl⟩;cases xa <;> simp[execOp,resolve,invoke,builtin,e1,Builtin.clear_,underlying,program,Sem.run,hu,sl]
  ·rcases wa D with ⟨rfl,rfl,rfl,hF⟩ | ⟨b,cs,rfl,a1,a2,a3,a4,hP⟩
   ·omega
   ·have J:=Y.addr (by omega);subst J;have hzl:(Builtin.zeroCells zv.cells m).toList.length=m*sz:=(by rw[Array.length_toList,rP,hzs]);have O:l*sz+(Builtin.zeroCells zv.cells m).toList.length<=cs.size:=(by rw[hzl,a1,<-RV];exact R9 _ hm);have X:=yQ (P:=c.P) b (0+l*sz) T (Builtin.zeroCells zv.cells m).toList w cs 0 hP.at_ (by omega) (HH Z m);refine ⟨.tuple #[],cL w b (.cells (yY cs (0+l*sz+0) (Builtin.zeroCells zv.cells m).toList) T (0,0)),ai T sz (some ⟨b,0,none⟩) cap rows::F,?_,?_,rfl,rfl⟩
    ·obtain ⟨q,rfl⟩:∃q,m=q+1:=⟨m - 1,by omega⟩;have h:=X;simp only[Sa,RQ] at h;simp[execOp,resolve,invoke,builtin,e1,Builtin.clear_,underlying,program,Sem.run,hu,sl,hzv,h]
    ·refine fK (hP.set (o':= .cells (yY cs (0+l*sz+0) (Builtin.zeroCells zv.cells m).toList) T (0,0)) rR) (by rw[jx,a1]) a2 a3 λq row V f v hf=>?_;have:=a4 q row V f v hf;simp only[yd,Sa,RQ] at this ⊢;have hq':=(Re.1 V).1;have hf':f<sz:=(by rw[<-a3 row (R5 V)];exact (Re.1 hf).1);have h5:(q+1)*sz<=l*sz:=R9 _ (by omega);rw[RV,RW] at h5;rw[jy _ _ _ O,RJ (by omega)];exact this
def Bj {m X Y:Int}{l h q:Nat}(hu:c.P.underlying t=some (.slice e))(hz:∀w,(sizeOf e).run c.P w= .ok sz w)(hx:ev g E x=some (sl s n cap))(hy:ev g E y=some (I m))(hm:m=l)(S:ev g E z=some (I X))(O:X=h)(V:ev g E y3=some (I Y))(R:Y=q)(hl:l<=h)(hh:h<=q)(hq:q<=cap):
  OpV c g E L ⟨d, .slice t x (some y) (some z) (some y3),ty,pos,af,gu⟩ (sl (if q=l then s else s.map (·.add (l*sz))) (h - l) (q - l)):= .mk λa w D J hS=>by
 have Z:=λcd=>iw (P:=c.P) (w:=w) (cd:=cd) hm hl;have h2:=λcd=>iw (P:=c.P) (w:=w) (cd:=cd) O hh;have h3:=λcd=>iw (P:=c.P) (w:=w) (cd:=cd) R hq;simp only[execOp,Instr.sliceAt,Instr.slice,Instr.sliceBounds,Option.map_some,SE,D.ev J hx,D.ev J hy,D.ev J S,D.ev J V,sl];simp[underlying,program,Sem.run,hu,hz,Z,h2,h3]
end
end Go.Sl
namespace Go.Proofs.YthdjckbjjfiopabGreatDoor
open _root_.Go.Proofs.Tryz
open Go.Sl Go.Proofs
abbrev ab:=List UInt8
def aJ (l:List ab):List (List Value):=l.map λs=>[ac s]
def r6 (l:List ab):(aJ l).length=l.length:=by simp[aJ]
def dW (n:Nat):ab:=List.replicate n 0
def yx (s:ab):ab:=s++dW (80 - s.length)
def nP {n:Int}{k:Nat}(D:0<=n)(h:n<2 ^ k):n.fdiv (2 ^ k)=0:=by
 rw[SV _ (by
  have:(0:Int)<2 ^ k:=(by exact Int.pow_pos (by decide));omega)]
 exact Int.ediv_eq_zero_of_lt D h
def fQ (s:ab)(n k:Nat):List (List Value):=List.replicate k [ac s]++List.replicate (n - k) [ac []]
def Bl (s:ab){n k:Nat}(h:k<=n):(fQ s n k).length=n:=by simp[fQ];omega
def Bm (s:ab){n k:Nat}(r:List Value)(h:r∈fQ s n k):r.length=1/\ones r=true:=by
 rcases Sc.1 h with h | h <;> (obtain ⟨_,rfl⟩:=Sq.1 h;exact ⟨rfl,rfl⟩)
def HI (s:ab){n:Nat}(h:1<=n):(List.replicate n [ac []]).take 0++(([[ac s]]:List (List Value)).drop 0).take (Nat.min 1 n)++(List.replicate n [ac []]).drop (0+Nat.min 1 n)=fQ s n 1:=by
 have:Nat.min 1 n=1:=Sw h;simp[fQ,this]
def HJ (s:ab){n k:Nat}(h:k<=n):(fQ s n k).take k++((fQ s n k).drop 0).take (Nat.min k (n - k))++(fQ s n k).drop (k+Nat.min k (n - k))=fQ s n (k+Nat.min k (n - k)):=by
 have D:Nat.min k (n - k)<=k:=Sz _ _;have J:Nat.min k (n - k)<=n - k:=SA _ _;generalize Nat.min k (n - k)=r at*;simp only[fQ,SX];rw[SY (by simp),SY (by simp;omega),List.drop_append,SZ,SZ,S0];simp[S0];rw[Sw D,show n - k - r=n - (k+r) by omega]
abbrev Uw (n:Int):Value:= .int .u64 n
def Bn (s:ab)(D:s.length<=80)(F:List aa):Ct Tryz.prog 100 [ac s] (F) (R1 (ac (yx s)) F):=by
 refine Ct.of func100 rR 10 ntmps100 (by simp) λw0=>?_;refine gS (gQ rR (gS (gM rR (gM rR (gV (yZ OM rR) (gV (cZ rR rR (ao (by omega))) (gI (Bd (80 - s.length) OW Pi Pu Tryz.typeInfo5 rR (by decide) rR rR (by omega) ⟨by omega,by decide⟩) ?_)))))));rintro _ _ ⟨h,rfl,rfl⟩;refine gV (yg (l:=dW (80 - s.length)) OW OU OM rR (Hz _) (by simp[dW])) (gV (wj rR rR (by simp[dW];omega)) (gQ rR ?_));refine ql rR rR ?_;exact rfl
def HK (n:Int)(h:0<=n/\n<4294967296)(F:List aa):Ct Tryz.prog 237 [Uw 1,Uw n] (F) (R1 (.tuple #[Uw 0,Uw n]) F):=by
 refine Ct.of func237 rR 51 ntmps237 (by simp) λw0=>?_;refine gS (gA rR (gQ rR (gS (gM rR (gV (uZ 32 rR (by omega) (by decide) (by decide)) (gQ rR ?_))))));rw[show (1:Int) % 2 ^ 32=1 by decide];refine gS (gM rR (gV (fA (r:=0) rR rR (by decide) (nP (k:=32) (by omega) (by omega))) (gQ rR (gS (gM rR (gV (uZ 32 rR (by omega) (by decide) (by decide)) (gQ rR ?_)))))));rw[show n % 2 ^ 32=n by omega];refine gS (gM rfl (gV (fA (r:=0) rfl rfl (by decide) (nP (k:=32) (by omega) (by omega))) (gQ rfl (gS (gM rfl (gM rfl (gV (ey (r:=n) rfl rfl (by rw[Int.one_mul];exact fO (by omega))) (gQ rfl (gS (gM rfl (gM rfl (gV (ey (r:=0) rfl rfl (by rw[Int.zero_mul];exact fO (by omega))) (gM rfl (gV (fA (r:=0) rfl rfl (by decide) (nP (k:=32) (by omega) (by omega))) (gV (yr (r:=0) rfl rfl (by rw[show (0+0:Int)=0 by omega];exact fO (by omega))) (gQ rfl (gS (gM rfl (gV (uZ 32 rfl (by omega) (by decide) (by decide)) (gQ rfl ?_))))))))))))))))))));rw[show (0:Int) % 2 ^ 32=0 by decide];refine gS (gM rfl (gV (fA (r:=0) rfl rfl (by decide) (nP (k:=32) (by omega) (by omega))) (gQ rfl (gS (gM rfl (gM rfl (gM rfl (gV (ey (r:=0) rfl rfl (by rw[Int.mul_zero];exact fO (by omega))) (gV (yr (r:=0) rfl rfl (by rw[show (0+0:Int)=0 by omega];exact fO (by omega))) (gQ rfl (gS (gM rfl (gM rfl (gV (ey (r:=0) rfl rfl (by rw[Int.zero_mul];exact fO (by omega))) (gM rfl (gV (yr (r:=0) rfl rfl (by rw[show (0+0:Int)=0 by omega];exact fO (by omega))) (gM rfl (gV (fA (r:=0) rfl rfl (by decide) (nP (k:=32) (by omega) (by omega))) (gV (yr (r:=0) rfl rfl (by rw[show (0+0:Int)=0 by omega];exact fO (by omega))) (gQ rfl (gS (gM rfl (gM rfl (gV (ey (r:=n) rfl rfl (by rw[Int.one_mul];exact fO (by omega))) (gQ rfl ?_)))))))))))))))))))))))));refine ql rR rR ?_;exact rfl
def HL (n:Int)(h:0<=n/\n<4294967296)(F:List aa):Ct Tryz.prog 174 [Uw 1,Uw n] (F) (R1 (.tuple #[Uw 0,Uw n]) F):=by
 refine Ct.of func174 rR 30 ntmps174 (by simp) λw0=>?_;refine gS (gA rR (gQ rR (qb ?_)));refine wo rR ?_;refine qf (gS (gM rR (gM rR (gR (vA call237 rR (HK n h)) (gM rR (gV (qr rR rR) (gV (qr rR rR) (gA rR (gQ rR (gS (gM rR (gM rR (gA rR (gQ rR ?_))))))))))))));refine ql rR rR ?_;exact rfl
def HM (x:ab)(s:Option Addr)(cap:Nat)(n:Nat)(S:1<=n/\n<=1048576)(F:List aa):Ct Tryz.prog 99 [sl s 1 cap,I n] (roL 1 s [[ac x]]::F) (dU 9 1 n (aJ (List.replicate n x)) (roL 1 s [[ac x]]::F)):=by
 refine Ct.of func99 rR 48 ntmps99 (by simp) λw0=>?_;refine gS (gQ rR (qb (gS (gM rR (gV (qH rR rR) (qc ?_))))));refine qd rfl ?_ ?_ <;> intro J
 ·exfalso;simp at J;omega
 ·refine qf (gS (gM rR (gV (qY PL rR) (gV (yS (r:=1) OL Qr rR (fO (by decide))) (gM rR (gV (yS OL Qr rR (fO (by omega))) (gR (vA call174 rR (HL n (by omega))) (gM rR (gV (qr rR rR) (gV (qr rR rR) (gA rR (gQ rR (qb (gS (gM rR (gV (qX rR rR) (gM rR (gK rR rR (qn rR) (gK rR rR (qX rR rR) (gV (aD rR rR) (qc ?_)))))))))))))))))))));refine qd rfl ?_ ?_ <;> intro O
  ·exfalso;simp at O;omega
  ·refine qf (gS (gM rR (gV (yS Qr OL rR (ao (by omega))) (gI (Bd n PL ON QF Tryz.typeInfo9 rR (by decide) rR rR rR ⟨by omega,by decide⟩) ?_))));rintro _ _ ⟨h,rfl,rfl⟩;refine gQ rR (gS (gM rR (gM rR (gR (mA (s:=some ⟨h,0,none⟩) (s2:=s) (l:=0) (p:=0) PL ON (by decide) rR rR (.inl ⟨rfl,rfl⟩) (.inl ⟨rfl,rfl⟩) (by simp) (by simp) (by simp) (by simp[ones,one])) ?_))));refine gg (some ⟨h,0,none⟩) (fQ x n 1) (HI x S.1) ?_;rw[show Nat.min 1 n=1 from Sw S.1];refine gQ rR (qb (qg ?_));refine qC (α:=Nat) (λk=>1<=k/\k<=n) (λk=>U [(7,sl (some ⟨h,0,none⟩) n n),(8,I k)]) (λk=>ai 9 1 (some ⟨h,0,none⟩) n (fQ x n k)::roL 1 s [[ac x]]::F) (λk=>n - k) 1 (by omega) [7,8] rfl rR ?_;rintro k ⟨V,X⟩;refine qb (gS (gM rR (gM rR (gV (qY PL rR) (gV (qH rR rR) (qc ?_))))));refine qd rfl ?_ ?_ <;> intro D
   ·simp at D;refine qf (qg ?_);refine yO (Lf:=[]) jG (by kernel_rfl) (by kernel_rfl) rR (by kernel_rfl) ?_;refine dM rR rR rR (dM rR rR rR (dM rR rR rR (dV rR (fN PL ON rR rR rR (by omega)) (dM rR rR rR (dM rR rR rR (dV rR (jV PL ON rR rR rR (by omega)) (av rR (mA (s:=some ⟨h,0,none⟩) (s2:=some ⟨h,0,none⟩) (l:=k) (p:=0) PL ON (by decide) rR rR (.inr (.inl (RJ (by omega)))) (.inl ⟨rfl,rfl⟩) (by rw[Bl x (by omega)];omega) (by rw[Bl x (by omega)];omega) (λr R=>(Bm x r R).1) (λr R=>(Bm x r R).2)) rR ?_)))))));rintro _ _ ⟨rfl,rfl⟩;refine gg (some ⟨h,0,none⟩) (fQ x n (k+Nat.min k (n - k))) (HJ x (by omega)) ?_;have Y:Nat.min k (n - k)<=n - k:=SA _ _;refine dV rR (yr rR rR (ao (by omega))) (dV rR (qt rR) ?_);refine qI ?_;refine qD ?_;have Z:1<=Nat.min k (n - k)/\Nat.min k (n - k)<=n - k:=⟨Nat.le_min.2 ⟨by omega,by omega⟩,SA _ _⟩;exact qk (k+Nat.min k (n - k)) ⟨by omega,by omega⟩ (by omega) [7,8] rfl rfl
   ·simp at D;obtain rfl:k=n:=(by omega);refine gg (some ⟨h,0,none⟩) (aJ (List.replicate k x)) (by simp[fQ,aJ]) ?_;refine qw rR ?_;refine gS (gM rR (gQ rR ?_));exact wk rfl rfl rfl rfl
def HN (l:List ab)(a:Addr)(cap:Nat)(J:l.length<=1048576)(F:List aa):Ct Tryz.prog 101 [sl (some a) l.length cap] (ai 9 1 (some a) cap (aJ l)::F) (dU 9 1 l.length (aJ l) (ai 9 1 (some a) cap (aJ l)::F)):=by
 refine Ct.of func101 rR 8 ntmps101 (by simp) λw0=>?_;refine gS (gQ rR (qb (gS (gM rR (gV (u0 PL rR) (qc ?_))))));refine wo rR ?_;refine qf (gS (gI (uX PL ON) ?_));rintro _ _ ⟨h,rfl,rfl⟩;refine gM rR (gI (qN PL ON QF rR Tryz.typeInfo9 (by decide) rR rR rR (r6 l) (by simp[aJ]) (by simp[aJ,ones,one]) ⟨by omega,by decide,by decide⟩) ?_);rintro _ _ ⟨O,D,rfl,rfl⟩;rw[Sa];simp only[SK];refine gQ rR ?_;exact wk rfl rfl rfl rfl
structure ChangeM where
 key:ab
 val:ab
 gone:Bool
 deriving DecidableEq
def ym (c:ChangeM):List Value:=[ac c.key,ac c.val,Bo c.gone]
def ah (l:List ChangeM):List (List Value):=l.map ym
def qx (l:List ChangeM):(ah l).length=l.length:=by simp[ah]
def yX {l:List ChangeM}{k:Nat}{c:ChangeM}(h:l[k]? =some c):(ah l)[k]? =some (ym c):=by simp[ah,h]
def r9 (c:ChangeM):Bool:=decide (c.key.length<=20) && decide (c.val.length<=60)
def iy (l:List ChangeM)(most:Int):Bool:=decide ((l.length:Int)<=most) && l.all r9
def u6 {α:Type}{p:α->Bool}{l:List α}{k:Nat}{a:α}(h:(l.take k).all p=true)(O:l[k]? =some a)(R:p a=true):(l.take (k+1)).all p=true:=by
 obtain ⟨D,J⟩:=Re.1 O;rw[Sg D,List.all_append,h,J];simp[R]
def sb {α:Type}{p:α->Bool}{l:List α}{k:Nat}{a:α}(h:l[k]? =some a)(D:p a=false):l.all p=false:=by
 rw[List.all_eq_false];exact ⟨a,R5 h,by simp[D]⟩
def HO (l:List ChangeM)(s:Option Addr)(cap:Nat)(h:Int)(Z:l.length<=9223372036854775807)(F:List aa):Ct Tryz.prog 35 [sl s l.length cap,I h] (roL 3 s (ah l)::F) (R1 (Bo (iy l h)) (roL 3 s (ah l)::F)):=by
 refine Ct.of func35 rR 32 ntmps35 (by simp) λw0=>?_;refine gS (gQ rR (qb (gS (gM rR (gV (qY OK rR) (gM rR (gV (qX rR rR) (qc ?_))))))));refine qd rfl ?_ ?_ <;> intro X
 ·simp at X;refine gS (gQ rR ?_);refine ql rR rR ?_;show Bo false=_;rw[show iy l h=false by unfold iy;rw[S5 (by omega)];rfl]
 ·simp at X;refine qf (qb (gS (gQ rR (qg ?_))));refine qC (α:=Nat) (λk=>k<=l.length/\(l.take k).all r9=true) (λk=>U [(0,sl s l.length cap),(5,I k)]) (λ_=>roL 3 s (ah l)::F) (λk=>l.length - k) 0 (by simp) [0,5] rfl rR ?_;rintro k ⟨Y,D⟩;refine qb (gS (gM rR (gM rR (gV (qY OK rR) (gV (qH rR rR) (qc ?_))))));refine qd rfl ?_ ?_ <;> intro R
  ·simp at R;have J:k<l.length:=(by omega);obtain ⟨c,V⟩:∃c,l[k]? =some c:=⟨_,S6 J⟩;have O:k<(ah l).length:=(by rw[qx];exact J);refine qf (qb (qg (gS (gM rR (gM rR (gV (qv k OK OJ rR rR rR J O) (gV (qE (j:=k) 0 OS rR rR ON (by decide) rR O) (gV (yF (v:=ac c.key) OQ rR (yX V) rR) (gV (yZ OM rR) (gV (qX rR rR) (gM rR (gK rR rR (qn rR) (gK rR rR (qn rR) (gK rR rR (qv k OK OJ rR rR rR J O) (gK rR rR (qE (j:=k) 1 OS rR rR ON (by decide) rR O) (gK rR rR (yF (v:=ac c.val) OQ rR (yX V) rR) (gK rR rR (yZ OM rR) (gK rR rR (qX rR rR) (gV (aD rR rR) (qc ?_))))))))))))))))))));refine qd rfl ?_ ?_ <;> intro S
   ·simp at S;refine gS (gQ rR ?_);refine ql rR rR ?_;show Bo false=_;rw[show iy l h=false by unfold iy;rw[sb V (by simp[r9];omega)];simp]
   ·simp at S;refine qf (qD (qo (gM rR (gP rR rR (by omega) (gQ rR ?_)))));exact qk (k+1) ⟨by omega,u6 D V (by simp[r9];omega)⟩ (by omega) [0,5] rfl rfl
  ·simp at R;obtain rfl:k=l.length:=(by omega);rw[S7] at D;refine qw rR ?_;refine gS (gQ rR ?_);refine ql rR rR ?_;show Bo true=_;rw[show iy l h=true by unfold iy;rw[D,S8 (by omega)];rfl]
structure PutM where
 at_:Int
 data:ab
 deriving DecidableEq
def ci (p:PutM):List Value:=[I p.at_,ac p.data]
def aE (l:List PutM):List (List Value):=l.map ci
def yN (l:List PutM):(aE l).length=l.length:=by simp[aE]
def gH {l:List PutM}{k:Nat}{c:PutM}(h:l[k]? =some c):(aE l)[k]? =some (ci c):=by simp[aE,h]
structure ActM where
 kind:ab
 s:ab
 a:Int
 b:Int
 c:Int
 d:Int
 k:Int
 puts:List PutM
 changes:List ChangeM
abbrev ActZ:=(Option Addr×Nat)×(Option Addr×Nat)
def fT (x:ActM)(z:ActZ):List Value:=[ac x.kind,ac x.s,I x.a,I x.b,I x.c,I x.d,Uw x.k,sl z.1.1 x.puts.length z.1.2,sl z.2.1 x.changes.length z.2.2]
def gJ (l:List ActM)(f:Nat->ActZ):List (List Value):=l.mapIdx λi x=>fT x (f i)
def Bp (l:List ActM)(f:Nat->ActZ):(gJ l f).length=l.length:=by simp[gJ]
def mC {l:List ActM}{f:Nat->ActZ}{k:Nat}{x:ActM}(h:l[k]? =some x):(gJ l f)[k]? =some (fT x (f k)):=by simp[gJ,h]
def acts (s:Option Addr)(l:List ActM)(f:Nat->ActZ):aa:=λm=>roL 9 s (gJ l f) m/\∀i x,l[i]? =some x->roL 2 (f i).1.1 (aE x.puts) m/\roL 3 (f i).2.1 (ah x.changes) m
def jX (m:Res):Res:=λb=>match m b with
 | some (o,true)=>some (o,true)
 | _=>none
def HP {m:Res}{b:Nat}{o:Obj}(h:m b=some (o,true)):jX m b=some (o,true):=by simp[jX,h]
def sc {sz:Nat}{s:Option Addr}{rows:List (List Value)}{m:Res}(h:roL sz s rows m):roL sz s rows (jX m):=by
 rcases h with h | ⟨b,off,o,D,J,O⟩
 ·exact .inl h
 ·exact .inr ⟨b,off,o,D,HP J,O⟩
def Bq (s:Option Addr)(l:List ActM)(f:Nat->ActZ):Pers (acts s l f):=λm h=>by
 refine ⟨jX m,λb x hx=>?_,λb x hx=>?_,sc h.1,λi x hx=>⟨sc (h.2 i x hx).1,sc (h.2 i x hx).2⟩⟩
 ·unfold jX at hx;split at hx
  ·rename_i o D;rw[D];exact hx
  ·cases hx
 ·unfold jX at hx;split at hx
  ·injection hx with hx;subst hx;rfl
  ·cases hx
section
variable {c:Cx}{E:ap}{L:List aa}{K:List KI}{s:Option Addr}{l:List ActM}{f:Nat->ActZ}{w0 w:World}
instance (priority:=high) SlR.acts:SlR (acts s l f::L) s 9 (gJ l f):=⟨λw0 w h=>SlR.ro.out w0 w (h.weak (B:=roL 9 s (gJ l f)) λm hm=>hm.1)⟩
def HQ {F:List aa}(s:Option Addr)(l:List ActM)(f:Nat->ActZ)(i:Nat){x:ActM}(hx:l[i]? =some x)[R:Rem L (acts s l f) F](h:G c K E (roL 2 (f i).1.1 (aE x.puts)::acts s l f::F)):G c K E L:=λa w D J=>
 h a w D (((R.sat J).dup (Bq s l f)).weak λm O=>(O.2 i x hx).1)
def HR {F:List aa}(s:Option Addr)(l:List ActM)(f:Nat->ActZ)(i:Nat){x:ActM}(hx:l[i]? =some x)[R:Rem L (acts s l f) F](h:G c K E (roL 3 (f i).2.1 (ah x.changes)::acts s l f::F)):G c K E L:=λa w D J=>
 h a w D (((R.sat J).dup (Bq s l f)).weak λm O=>(O.2 i x hx).2)
end
open Go.Sl Go.Proofs Go.ChangeShapes Go.WideShapes Go.ChangeAt Go.RowKit
section
variable {H:Type}{enc:TypeId×Value->H}{W:World}{t e:TypeId}{cs:List Value}
def Tr (enc:TypeId×Value->H)(W:World)(t:TypeId)(cs:List Value):Prop:=∃fuel x,DataW.trod enc Tryz.prog W 0 (λ_=>true) true fuel t cs=some x
def nQ (O:Tryz.prog.underlying t=some (.int .i64))(h:Tr enc W t cs):∃n,cs=[I n]/\kG n:=by
 obtain ⟨fuel,x,h⟩:=h;obtain ⟨n,D,_,J⟩:=DataW.trod_int O h;exact ⟨n,D,Hv J⟩
def HS {n:Int}(h:(Lit.int .u64 n).wf=true):0<=n/\n<18446744073709551616:=by
 have:=h;simp[Lit.wf,IntKind.min,IntKind.max,IntKind.signed,IntKind.bits] at this;omega
def HT (O:Tryz.prog.underlying t=some (.int .u64))(h:Tr enc W t cs):∃n,cs=[Uw n]/\(0<=n/\n<18446744073709551616):=by
 obtain ⟨fuel,x,h⟩:=h;obtain ⟨n,D,_,J⟩:=DataW.trod_int O h;exact ⟨n,D,HS J⟩
def nS (O:Tryz.prog.underlying t=some .string)(h:Tr enc W t cs):∃s:ab,cs=[ac s]/\s.length<=maxLen:=by
 obtain ⟨fuel,x,h⟩:=h;obtain ⟨s,D,_,J⟩:=DataW.trod_string O h;exact ⟨s.data.toList,by simpa using D,by simpa using J⟩
def HU (J:Tryz.prog.underlying t=some .bool)(h:Tr enc W t cs):∃b,cs=[Bo b]:=by
 obtain ⟨fuel,x,h⟩:=h;obtain ⟨n,D,_⟩:=DataW.trod_bool J h;exact ⟨n,D⟩
def fU {D:Array Field}{f:Field}{i off sz:Nat}(Y:Tryz.prog.underlying t=some (.struct D))(O:D[i]? =some f)(R:f.type=e)(S:f.offset=off)(X:Tryz.prog.cellsOf e=sz)(h:Tr enc W t cs):Tr enc W e ((cs.drop off).take sz):=by
 subst R S X;obtain ⟨fuel,x,h⟩:=h;obtain ⟨Z,n,_,_,_,hl,J⟩:=DataW.trod_struct Y h;have V:=J i f O;have hi:i<D.size:=(Rk.1 O).1;exact ⟨n,Z[i]'(by omega),by rw[V];simp⟩
def u7 {α:Type}[Inhabited α](sz:Nat)(Y:α->List Value)(Q:α->Prop)(ht:Tryz.prog.underlying t=some (.slice e))(hC:Tryz.prog.cellsOf e=sz)(hsz:sz≠0)
  (hel:∀cs,cs.length=sz->Tr enc W e cs->∃x,cs=Y x/\Q x) (h:Tr enc W t cs):
  ∃(s:Option Addr) (l:List α) (cap:Nat),cs=[sl s l.length cap]/\OldRows W s sz (l.map Y)/\(∀x∈l,Q x)/\l.length<=maxLen:=by
 obtain ⟨fuel,x,h⟩:=h;rcases Deep.open_slice ht h with ⟨rfl,_⟩ | ⟨a',len,cap,m,n,D,Pl,rfl,hb,hl,hm,hmm,hx,hi⟩
 ·exact ⟨none,[],0,rfl, .inl rfl,by simp,by simp⟩
 ·have key:∀i,i<len->∃x:α,(∀f v,(Y x)[f]? =some v->W.cell? ((a'.add (i*sz)).add f)=some v)/\(Y x).length=sz/\Q x:=λi hil=>by
   obtain ⟨Z,hc,ht'⟩:=hi i (by simp at hmm;omega);rw[hC] at hc;obtain ⟨_,S,hat⟩:=World.cells?_some hc;obtain ⟨y,rfl,hq⟩:=hel Z S ⟨n,_,ht'⟩;refine ⟨y,λf v R=>?_,S,hq⟩;have hfl:=(Re.1 R).1;have:=hat f (by omega);rw[this,R]
  obtain ⟨f,R⟩:=Deep.choose_lt key;refine ⟨some a',(List.range len).map f,cap,by simp[sl],Hw (len:=len) (by simp) (λi row J g v hg=>?_) (λrow J=>?_),λx hx=>?_,by simp;omega⟩
  ·simp only[RB,Rc,Rb] at J;obtain ⟨j,hj,rfl⟩:=J;obtain ⟨V,X⟩:=Re.1 hj;simp at V X;subst X;exact (R i V).1 g v hg
  ·simp at J;obtain ⟨i,O,rfl⟩:=J;intro h0;have:=(R i O).2.1;rw[h0] at this;exact hsz this.symm
  ·simp at hx;obtain ⟨i,O,rfl⟩:=hx;exact (R i O).2.2
def nT {v:Value}{d:DataW H}{p:List MemPlace}(h:DataW.Trod enc Tryz.prog W 0 (λ_=>true) true t v d p):Tr enc W t v.cells.toList:=let ⟨f,hf⟩:=h;⟨f,_,hf⟩
end
def HV:∃(h:Array Field) (f0 f1:Field),Tryz.prog.underlying 86=some (.struct h)/\(h[0]? =some f0/\f0.type=3/\f0.offset=0)/\(h[1]? =some f1/\f1.type=9/\f1.offset=1):=
 ⟨_,_,_,PN,⟨rfl,rfl,rfl⟩,⟨rfl,rfl,rfl⟩⟩
def HW:∃(h:Array Field) (f0 f1 f2:Field),Tryz.prog.underlying 174=some (.struct h)/\(h[0]? =some f0/\f0.type=9/\f0.offset=0)/\(h[1]? =some f1/\f1.type=9/\f1.offset=1)/\(h[2]? =some f2/\f2.type=4/\f2.offset=2):=
 ⟨_,_,_,_,OS,⟨rfl,rfl,rfl⟩,⟨rfl,rfl,rfl⟩,⟨rfl,rfl,rfl⟩⟩
def HX:∃(h:Array Field) (f0 f1 f2 D J O f6 R S:Field),Tryz.prog.underlying 35=some (.struct h)/\(h[0]? =some f0/\f0.type=9/\f0.offset=0)/\(h[1]? =some f1/\f1.type=9/\f1.offset=1)/\(h[2]? =some f2/\f2.type=3/\f2.offset=2)/\(h[3]? =some D/\D.type=3/\D.offset=3)/\(h[4]? =some J/\J.type=3/\J.offset=4)/\(h[5]? =some O/\O.type=3/\O.offset=5)/\(h[6]? =some f6/\f6.type=31/\f6.offset=6)/\(h[7]? =some R/\R.type=32/\R.offset=7)/\(h[8]? =some S/\S.type=33/\S.offset=8):=
 ⟨_,_,_,_,_,_,_,_,_,_,O1,⟨rfl,rfl,rfl⟩,⟨rfl,rfl,rfl⟩,⟨rfl,rfl,rfl⟩,⟨rfl,rfl,rfl⟩,⟨rfl,rfl,rfl⟩,⟨rfl,rfl,rfl⟩,⟨rfl,rfl,rfl⟩,⟨rfl,rfl,rfl⟩,⟨rfl,rfl,rfl⟩⟩
def nU:Tryz.prog.cellsOf 3=1:=by kernel_rfl
def nV:Tryz.prog.cellsOf 9=1:=by kernel_rfl
def HY:Tryz.prog.cellsOf 4=1:=by kernel_rfl
def nW:Tryz.prog.cellsOf 31=1:=by kernel_rfl
def HZ:Tryz.prog.cellsOf 32=1:=by kernel_rfl
def nX:Tryz.prog.cellsOf 33=1:=by kernel_rfl
def nY:Tryz.prog.cellsOf 86=2:=by kernel_rfl
def u9:Tryz.prog.cellsOf 174=3:=by kernel_rfl
def nZ:Tryz.prog.cellsOf 35=9:=by kernel_rfl
instance:Inhabited PutM:=⟨⟨0,[]⟩⟩
instance:Inhabited ChangeM:=⟨⟨[],[],false⟩⟩
instance:Inhabited ActM:=⟨⟨[],[],0,0,0,0,0,[],[]⟩⟩
def se (p:PutM):Prop:=kG p.at_/\p.data.length<=maxLen
def jY (c:ChangeM):Prop:=c.key.length<=maxLen/\c.val.length<=maxLen
def zoS (x:ActM):Prop:=(x.kind.length<=maxLen/\x.s.length<=maxLen)/\kG x.a/\kG x.b/\kG x.c/\kG x.d/\(0<=x.k/\x.k<18446744073709551616)/\(x.puts.length<=maxLen/\∀p∈x.puts,se p)/\(x.changes.length<=maxLen/\∀p∈x.changes,jY p)
section
variable {H:Type}{enc:TypeId×Value->H}{W:World}{cs:List Value}
def H0 (Y:cs.length=2)(h:Tr enc W 86 cs):∃x:PutM,cs=ci x/\se x:=by
 match cs,Y with
 | [a,b],_=>
  obtain ⟨fs,f0,f1,O,⟨R,t0,Z⟩,⟨S,t1,o1⟩⟩:=HV;have V:Tr enc W 3 [a]:=fU O R t0 Z nU h;have X:Tr enc W 9 [b]:=fU O S t1 o1 nV h;obtain ⟨n,D,w0⟩:=nQ OL V;obtain ⟨s,J,w1⟩:=nS OM X;injection D with D;injection J with J;subst D J;exact ⟨⟨n,s⟩,rfl,w0,w1⟩
def H1 (hl:cs.length=3)(h:Tr enc W 174 cs):∃x:ChangeM,cs=ym x/\jY x:=by
 match cs,hl with
 | [a,b,c],_=>
  obtain ⟨fs,f0,f1,f2,R,⟨S,t0,o0⟩,⟨V,t1,o1⟩,⟨X,t2,o2⟩⟩:=HW;have Y:Tr enc W 9 [a]:=fU R S t0 o0 nV h;have Z:Tr enc W 9 [b]:=fU R V t1 o1 nV h;have h2:Tr enc W 4 [c]:=fU R X t2 o2 HY h;obtain ⟨n,D,w0⟩:=nS OM Y;obtain ⟨s,J,w1⟩:=nS OM Z;obtain ⟨q,O⟩:=HU underlying4 h2;injection D with D;injection J with J;injection O with O;subst D J O;exact ⟨⟨n,s,q⟩,rfl,w0,w1⟩
def H2 (h:Tr enc W 32 cs):∃(s:Option Addr) (l:List PutM) (cap:Nat),cs=[sl s l.length cap]/\OldRows W s 2 (aE l)/\(∀x∈l,se x)/\l.length<=maxLen:=
 u7 2 ci se Pj nY (by decide) (λ_ D h=>H0 D h) h
def H3 (h:Tr enc W 33 cs):∃(s:Option Addr) (l:List ChangeM) (cap:Nat),cs=[sl s l.length cap]/\OldRows W s 3 (ah l)/\(∀x∈l,jY x)/\l.length<=maxLen:=
 u7 3 ym jY OK u9 (by decide) (λ_ D h=>H1 D h) h
def H4 (hl:cs.length=9)(h:Tr enc W 35 cs):∃x:ActM×ActZ,cs=fT x.1 x.2/\zoS x.1/\OldRows W x.2.1.1 2 (aE x.1.puts)/\OldRows W x.2.2.1 3 (ah x.1.changes):=by
 match cs,hl with
 | [v0,v1,v2,v3,v4,v5,v6,v7,v8],_=>
  obtain ⟨fs,f0,f1,f2,f3,f4,f5,f6,f7,f8,D,⟨g0,t0,o0⟩,⟨g1,t1,o1⟩,⟨g2,t2,o2⟩,⟨g3,t3,o3⟩,⟨g4,t4,o4⟩,⟨g5,t5,o5⟩,⟨g6,t6,o6⟩,⟨g7,t7,o7⟩,⟨g8,t8,o8⟩⟩:=HX;have h0:Tr enc W 9 [v0]:=fU D g0 t0 o0 nV h;have h1:Tr enc W 9 [v1]:=fU D g1 t1 o1 nV h;have h2:Tr enc W 3 [v2]:=fU D g2 t2 o2 nU h;have h3:Tr enc W 3 [v3]:=fU D g3 t3 o3 nU h;have h4:Tr enc W 3 [v4]:=fU D g4 t4 o4 nU h;have h5:Tr enc W 3 [v5]:=fU D g5 t5 o5 nU h;have h6:Tr enc W 31 [v6]:=fU D g6 t6 o6 nW h;have h7:Tr enc W 32 [v7]:=fU D g7 t7 o7 HZ h;have h8:Tr enc W 33 [v8]:=fU D g8 t8 o8 nX h;obtain ⟨x0,J,w0⟩:=nS OM h0;obtain ⟨x1,O,w1⟩:=nS OM h1;obtain ⟨x2,R,w2⟩:=nQ OL h2;obtain ⟨x3,S,w3⟩:=nQ OL h3;obtain ⟨x4,V,w4⟩:=nQ OL h4;obtain ⟨x5,X,w5⟩:=nQ OL h5;obtain ⟨x6,Y,w6⟩:=HT underlying31 h6;obtain ⟨s7,x7,c7,Z,r7,w7,l7⟩:=H2 h7;obtain ⟨s8,x8,c8,e8,r8,w8,l8⟩:=H3 h8;injection J with J;injection O with O;injection R with R;injection S with S;injection V with V;injection X with X;injection Y with Y;injection Z with Z;injection e8 with e8;subst J O R S V X Y Z e8;exact ⟨(⟨x0,x1,x2,x3,x4,x5,x6,x7,x8⟩,(s7,c7),(s8,c8)),rfl,⟨⟨w0,w1⟩,w2,w3,w4,w5,w6,⟨l7,w7⟩,⟨l8,w8⟩⟩,r7,r8⟩
def OldActs (W:World)(s:Option Addr)(l:List ActM)(f:Nat->ActZ):Prop:=OldRows W s 9 (gJ l f)/\∀i x,l[i]? =some x->OldRows W (f i).1.1 2 (aE x.puts)/\OldRows W (f i).2.1 3 (ah x.changes)
def H5 (h:Tr enc W 22 cs):∃(s:Option Addr) (l:List ActM) (f:Nat->ActZ) (cap:Nat),cs=[sl s l.length cap]/\OldActs W s l f/\(∀x∈l,zoS x)/\l.length<=maxLen:=by
 obtain ⟨s,l,cap,e,V,J,S⟩:=u7 (α:=ActM×ActZ) 9 (λx=>fT x.1 x.2) _ P8 nZ (by decide) (λ_ R h=>H4 R h) h;refine ⟨s,l.map Prod.fst,λi=>(l.getD i default).2,cap,by simpa using e,⟨?_,λi x hx=>?_⟩,λx hx=>?_,by simpa using S⟩
 ·have:gJ (l.map Prod.fst) (λi=>(l.getD i default).2)=l.map λx=>fT x.1 x.2:=by
   apply S9;intro i;simp only[gJ,List.getElem?_mapIdx,Rc,Ta];cases l[i]? <;> rfl
  rw[this];exact V
 ·simp only[Rc,Rb] at hx;obtain ⟨y,D,rfl⟩:=hx;have O:=(J y (R5 D)).2;simp only[Ta,D,Tb];exact O
 ·simp only[SR] at hx;obtain ⟨y,D,rfl⟩:=hx;exact (J y D).1
theorem OldRows.roL {W:World}{a:Option Addr}{sz:Nat}{rows:List (List Value)}{m:Res}(h:OldRows W a sz rows)(J:old W m):Go.Sl.roL sz a rows m:=by
 rcases h with rfl | ⟨b,off,o,rfl,D,O⟩
 ·exact .inl rfl
 ·exact .inr ⟨b,off,o,rfl,J b o D,O⟩
theorem OldActs.sat {w0 w:World}{L:List aa}{s:Option Addr}{l:List ActM}{f:Nat->ActZ}(h:OldActs w0 s l f)(J:Sat w0 w (old w0::L)):Sat w0 w (acts s l f::old w0::L):=
 (J.dup (Pers.old w0)).weak λm D=>⟨h.1.roL D,λi x hx=>⟨(h.2 i x hx).1.roL D,(h.2 i x hx).2.roL D⟩⟩
def zpP {v:Value}{d:DataW H}{p:List MemPlace}(S:∃a len cap,v= .slice a len cap)(h:DataW.Trod enc Tryz.prog W 0 (λ_=>true) true 22 v d p):
  ∃(s:Option Addr) (l:List ActM) (f:Nat->ActZ) (cap:Nat),v=sl s l.length cap/\OldActs W s l f/\(∀x∈l,zoS x)/\l.length<=maxLen:=by
 obtain ⟨a,len,cap,rfl⟩:=S;obtain ⟨s,l,f,D,e,J,O,R⟩:=H5 (nT h);simp[Value.cells] at e;exact ⟨s,l,f,D,by simp[sl,e],J,O,R⟩
end
end Go.Proofs.YthdjckbjjfiopabGreatDoor