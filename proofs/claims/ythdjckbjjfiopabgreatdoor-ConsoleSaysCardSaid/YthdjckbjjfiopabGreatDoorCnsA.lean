/- Several texts in one: walks and rules used by them. No condition. -/
import Derived.Calls
import Derived.RangeFuncLeaves
import Derived.RangeFuncMany
import Derived.Orders
import Derived.Below
import Derived.Laws.World
import Derived.Tactics
import Derived.Still
import Derived.IntWalk
import Derived.Laws.Strings
import Derived.Deep.LoopGhost
import Derived.Laws.Cells
import Derived.Laws.AppendOwn
import Derived.Test.YthdjckbjjfiopabGreatDoorProg
import Derived.KernelRfl
import Derived.Test.YthdjckbjjfiopabGreatDoorRows
import Derived.WalkKit
import Derived.ProofKit
import Derived.OpenShut
import Derived.ShutString
import Derived.ChangeOld
import Derived.Deep.Slices
import Derived.Laws.BytesString
import Derived.Laws.Externs
import Derived.Lib.Overlaps
import Derived.Maps.RangeRun
import Derived.Lib.UnsafeStr
set_option linter.unusedSimpArgs false
set_option linter.unusedVariables false
set_option synthInstance.maxSize 9999
set_option synthInstance.maxHeartbeats 0
set_option linter.defProp false
set_option maxHeartbeats 800000
namespace Go.Sl
def kd1:=@of_decide_eq_false
def kd0:=@of_decide_eq_true
def plN:List Nat->List (Nat × Bool):=List.map λn=>(n/2,n%2==1)
def kax:=@Nat.le_refl
def kay:=@congrArg
def kaz:=@List.getElem?_eq_some_iff
def kaA:=@List.pairwise_iff_getElem
def kaB:=@Nat.le_trans
def kaC:=@Array.getElem?_eq_some_iff
def kaD:=@Array.getElem?_setIfInBounds_ne
def kaE:=@Option.map_eq_some_iff
def kaF:=@Nat.eq_of_beq_eq_true
def kaG:=@Array.getD_eq_getD_getElem?
def kaH:=@Nat.ne_of_beq_eq_false
def kaI:=@Array.setIfInBounds_comm
def kaJ:=@Bool.and_eq_true
def kaK:=@List.getElem?_set_self
def kaL:=@List.getElem?_set_ne
def kaM:=@List.map_append
def kaN:=@List.map_map
def kaO:=@List.map_cons
def kaP:=@List.map_nil
def kaQ:=@List.getElem?_append_left
def kaR:=@List.eraseIdx_append_of_lt_length
def kaS:=@Array.mapM_eq_mapM_toList
def kaT:=@if_pos
def kaU:=@if_neg
def iOm {c:Prop}{d:Decidable c}{α:Sort _}{a b:α}(h:¬c:=by omega):ite c a b=b:=if_neg h
def kaV:=@List.getElem?_toArray
def kaW:=@Nat.add_assoc
def kaX:=@List.length_cons
def kaY:=@List.mem_map_of_mem
def kaZ:=@Nat.div_eq_of_lt
def ka0:=@Nat.mod_eq_of_lt
def ka1:=@List.getElem?_append_right
def ka2:=@Nat.add_mul
def ka3:=@Nat.lt_or_ge
def ka4:=@Nat.mul_comm
def ka5:=@Nat.mul_add_div
def ka6:=@Nat.mul_add_mod
def ka7:=@Nat.mul_le_mul
def ka8:=@Nat.mul_le_mul_right
def ka9:=@Nat.zero_add
def kba:=@List.mem_flatten
def kbb:=@List.length_eq_zero_iff
def kbc:=@Array.size_append
def kbd:=@List.size_toArray
def kbe:=@List.mem_of_getElem?
def kbf:=@Nat.lt_or_gt_of_ne
def kbg:=@Array.ext_getElem?
def kbh:=@List.take_succ_eq_append_getElem
def kbi:=@List.mem_or_eq_of_mem_set
def kbj:=@List.map_set
def kbk:=@List.take_zero
def kbl:=@List.take_length
def kbm:=@List.any_eq_true
def kbn:=@List.mem_cons
def kbo:=@List.exists_cons_of_ne_nil
def kbp:=@Nat.mul_pos
def kbq:=@List.length_take
def kbr:=@Nat.min_eq_left
def kbs:=@List.getElem?_take_of_lt
def kbt:=@List.mem_of_mem_drop
def kbu:=@List.mem_of_mem_take
def kbv:=@Option.map_none
def kbw:=@Nat.pow_le_pow_right
def kbx:=@List.append_assoc
def kby:=@List.nil_append
def kbz:=@List.cons_append
def kbA:=@Bool.or_eq_true
def kbB:=@Array.any_eq_true
def kbC:=@Array.getElem_mem
def kbD:=@Nat.mod_lt
def kbE:=@Nat.add_zero
def kbF:=@List.mem_append
def kbG:=@Nat.min_le_right
def kbH:=@List.drop_zero
def kbI:=@List.take_append_of_le_length
def kbJ:=@List.take_replicate
def kbK:=@List.drop_replicate
def kbL:=@List.getElem?_map
def kbM:=@Int.toNat_of_nonneg
def kbN:=@List.getElem?_eq_getElem
def kbO:=@List.length_set
def kbP:=@List.drop_of_length_le
def kbQ:=@List.length_replicate
def kbR:=@Option.not_isSome_iff_eq_none
def kbS:=@List.Nodup.sublist
def kbT:=@List.Sublist.map
def kbU:=@List.filter_sublist
def kbV:=@List.mem_map
def kbW:=@List.ext_getElem?
def kbX:=@Array.getElem?_toList
def kbY:=@Array.getElem?_modify
def kbZ:=@List.getElem_map
def kb0:=@List.map_congr_left
def kb1:=@Array.toList_push
def kb2:=@List.nodup_append
def kb3:=@List.nodup_cons
def kb4:=@List.filter_eq_self
def kb5:=@Array.toList_filter
def kb6:=@List.filter_filter
def kb7:=@List.append_of_mem
def kb8:=@List.perm_middle
def kb9:=@List.filter_append
def kca:=@List.filter_cons_of_neg
def kcb:=@List.nodup_range'
def kcc:=@List.length_map
def kcd:=@List.mem_filter
def kce:=@List.countP_eq_length_filter
def kcf:=@List.find?_eq_none
def kcg:=@List.find?_range'_eq_some
def kch:=@List.mem_range'_1
def kci:=@decide_eq_true
def kcj:=@decide_eq_false
def kck:=@Int.fdiv_eq_ediv_of_nonneg
def kcl:=@List.take_left
def kcm:=@List.drop_left
def kcn:=@List.mem_cons_of_mem
def kco:=@Bool.true_and
def kcp:=@List.length_append
def kcq:=@List.mem_cons_self
def kcr:=@List.filter_map
def kcs:=@List.flatMap_cons
def kct:=@List.eraseIdx_cons_succ
def kcu:=@List.perm_append_comm
def kcv:=@List.mem_singleton
def kcw:=@List.drop_eq_getElem_cons
def kcx:=@List.not_mem_nil
def kcy:=@Int.toNat_natCast
def kcz:=@List.drop_length
def kcA:=@Int.eq_ofNat_of_zero_le
def kcB:=@List.pairwise_cons
def kcC:=@List.filter_eq_nil_iff
def kcD:=@List.any_eq_false
def kcE:=@List.length_filter_le
def kcF:=@List.pairwise_append
def kcG:=@List.foldl_cons
def kcH:=@Option.some_get
def kcI:=@List.take_of_length_le
def kcJ:=@List.eraseIdx_eq_take_drop_succ
def kcK:=@List.length_eraseIdx
def kcL:=@List.getElem?_eq_none
def kcM:=@List.length_drop
def kcN:=@List.take_sublist
def kcO:=@List.length_nil
def kcP:=@List.drop_eq_nil_of_le
def kcQ:=@List.drop_succ_cons
def kcR:=@List.take_succ_cons
def kcS:=@Nat.zero_le
def kcT:=@Array.getElem?_setIfInBounds
def kcU:=@List.mem_append_right
def kcV:=@List.append_nil
def kcW:=@Option.ne_none_iff_exists'
def kcX:=@Option.isSome_iff_exists
def kcY:=@Int.le_refl
def kcZ:=@List.findIdx_eq
def kc0:=@List.findIdx_getElem
def kc1:=@List.not_of_lt_findIdx
def kc2:=@List.find?_eq_some_iff_getElem
def kc3:=@List.findIdx_lt_length_of_exists
def kc4:=@List.pairwise_singleton
def kc5:=@Option.bind_some
def kc6:=@List.take_append_drop
def kc7:=@List.drop_drop
def kc8:=@List.drop_append_of_le_length
def kc9:=@List.pairwise_map
def kda:=@List.Pairwise.imp_of_mem
def kdb:=@List.take_add_one
def kdc:=@Bool.or_eq_false_iff
def kdd:=@List.mem_iff_getElem
def kde:=@List.take_set_of_le
def kdf:=@List.drop_set_of_lt
def kdg:=@List.map_take
def kdh:=@Int.lt_or_eq_of_le
def kdi:=@Bool.and_assoc
def kdj:=@List.Pairwise.filter
def kdk:=@List.getElem?_of_mem
def kdl:=@List.findIdx_cons
def kdm:=@Option.isSome_map
def kdn:=@Option.isNone_iff_eq_none
def kdo:=@Nat.add_sub_cancel_left
def kdp:=@List.setIfInBounds_toArray
def kdq:=@List.range'_concat
def kdr:=@List.dropLast_concat_getLast
def kds:=@Int.ofNat_tdiv
def kdt:=@Int.ofNat_tmod
def kdu:=@List.mem_of_mem_eraseIdx
def kdv:=@List.range'_append_1
def kdw:=@List.filter_congr
def kdx:=@List.mem_append_left
def kdy:=@List.length_range
def kdz:=@List.getElem?_range
def kdA:=@List.exists_cons_of_length_eq_add_one
def kdB:=@List.length_eq_one_iff
variable {α:Type}
def W {a:α}:a=a:=rfl
abbrev Res:=Nat->Option (Obj×Bool)
abbrev ag:=Res->Prop
def Res.dj (m n:Res):Prop:=∀b x y,m b=some x->n b=some y->x.2=true/\y.2=true
def Res.fits (m:Res)(w:World):Prop:=∀b x,m b=some x->w.heap[b]? =some x.1
def Res.sub (m n:Res):Prop:=∀b x,m b=some x->n b=some x
def OkL (w:World)(L:List ag)(f:Nat->Res):Prop:=
 (∀i cB,L[i]? =some cB->cB (f i)/\(f i).fits w)/\∀i j,i<L.length->j<L.length->i≠j->(f i).dj (f j)
structure Sat (w0 w:World) (L:List ag):Prop where
 os:w.os=w0.os
 tape:w.tape=w0.tape
 output:w.output=w0.output
 size:w0.heap.size<=w.heap.size
 parts:∃f,OkL w L f
def kU (φ:Prop):ag:=λ_=>φ
def S6 (cB:α->ag):ag:=λm=>∃x,cB x m
def Ee (cB B:ag):ag:=λm=>∃m1 m2,m1.dj m2/\m1.sub m/\m2.sub m/\cB m1/\B m2
def pt (b:Nat)(o:Obj):ag:=λm=>m b=some (o,false)
abbrev pcc (b:Nat)(x:Array Value)(ec:TypeId):=pt b (.cells x ec (0,0))
def ro (b:Nat)(o:Obj):ag:=λm=>m b=some (o,true)
def old (w0:World):ag:=λm=>∀b o,w0.heap[b]? =some o->m b=some (o,true)
def Pers (cB:ag):Prop:=∀m,cB m->∃m',Res.sub m' m/\(∀b x,m' b=some x->x.2=true)/\cB m'
variable {m:Res}
theorem Res.dj.symm {n}(h:m.dj n):n.dj m:=λb x y hx hy=>(h b y x hy hx).symm
theorem Res.dj.mono {n m' J:Res}(h:m.dj n)(h1:m'.sub m)(O:J.sub n):m'.dj J:=λb x y hx hy=>h b x y (h1 b x hx) (O b y hy)
variable {w:World}
theorem Res.fits.mono {m':Res}(h:m.fits w)(h1:m'.sub m):m'.fits w:=λb x hx=>h b x (h1 b x hx)
theorem Res.sub.refl (m:Res):m.sub m:=λ_ _ h=>h
def Res.union (m n:Res):Res:=λb=>(m b).or (n b)
def Res.one (b:Nat)(x:Obj×Bool):Res:=λc=>if c=b then some x else none
variable {b:Nat}
theorem Res.one_eq {c x y}(h:Res.one b x c=some y):c=b/\y=x:=by
 grind[Res.one]
theorem Res.one_self {x}:Res.one b x b=some x:=by simp[Res.one]
variable {cB:ag}
theorem Sat.start w0:Sat w0 w0 [old w0]:=by
 refine ⟨rfl,rfl,rfl,kax _,λ_ b=>(w0.heap[b]?).map (·,true),?_,?_⟩
 ·intro i cB hA;cases i with
  | zero=>
   simp at hA;subst hA;exact ⟨λb o h=>by simp[h],λb x h=>by
    grind⟩
  | succ i=>simp at hA
 grind
variable {w0:World}{L:List ag}
theorem Sat.pick {L'}(O:List Nat)(h:Sat w0 w L)(hL:O.map (L[·]?)=L'.map some)(hn:O.Nodup):Sat w0 w L':=by
 obtain ⟨h1,X,Y,Z,f,hf,hd⟩:=h;have J:∀(i:Nat) (cB:ag),L'[i]? =some cB->∃k:Nat,O[i]? =some k/\L[k]? =some cB:=by
  intro i cB hA;have:(L'.map some)[i]? =some (some cB):=by simp[hA]
  grind
 have V:O.length=L'.length:=(by simpa using kay List.length hL);refine ⟨h1,X,Y,Z,λi=>f (O.getD i 0),?_,?_⟩
 ·grind
 ·intro i j hi hj hne;obtain ⟨k,hk,hA⟩:=J i L'[i] (by simp[hi]);obtain ⟨l,hl,hB⟩:=J j L'[j] (by simp[hj]);have R:O.getD i 0=k:=(by simp[List.getD,hk]);have S:O.getD j 0=l:=(by simp[List.getD,hl]);simp only[R,S];refine hd k l ?_ ?_ ?_
  ·grind
  ·grind
  ·intro e;subst e;obtain ⟨i1,R⟩:=kaz.1 hk;obtain ⟨j1,S⟩:=kaz.1 hl;have hp:=kaA.1 hn
   grind
theorem Sat.head {w' L1}(h:Sat w0 w (cB::L))(hos:w'.os=w.os)(O:w'.tape=w.tape)(S:w'.output=w.output)(J:w.heap.size<=w'.heap.size)(k:∀m,cB m->m.fits w->∃g:Nat->Res,OkL w' L1 g/\(∀(n:Res),n.fits w->n.dj m->n.fits w'/\∀i,i<L1.length->(g i).dj n)):Sat w0 w' (L1++L):=by
 obtain ⟨h1,R,h3,h4,f,V,hd⟩:=h;have hA:=V 0 cB rfl;obtain ⟨g,⟨hg,X⟩,hn⟩:=k (f 0) hA.1 hA.2;refine ⟨hos.trans h1,O.trans R,S.trans h3,kaB h4 J,λi=>if i<L1.length then g i else f (i - L1.length+1),?_,?_⟩
 ·intro i bn hC;by_cases hi:i<L1.length
  ·grind
  grind
 ·intro i j hi hj hne;have hlen:(L1++L).length=L1.length+L.length:=(by simp);by_cases h1:i<L1.length <;> by_cases R:j<L1.length <;> simp only[h1,R,if_true,if_false]
  ·exact X i j h1 R hne
  ·have Z:j - L1.length+1<(cB::L).length:=(by simp;omega);exact (hn _ (V (j - L1.length+1) ((cB::L)[j - L1.length+1]) (by simp)).2 (hd _ _ Z (by simp) (by omega))).2 i h1
  ·have Y:i - L1.length+1<(cB::L).length:=(by simp;omega);exact ((hn _ (V (i - L1.length+1) ((cB::L)[i - L1.length+1]) (by simp)).2 (hd _ _ Y (by simp) (by omega))).2 j R).symm
  grind
variable {B:ag}
theorem OkL.one (h:cB m)(O:m.fits w):OkL w [cB] (λ_=>m):=by
 refine ⟨λi B J=>?_,λi j hi hj hne=>?_⟩
 ·grind
 ·simp at hi hj;omega
theorem Sat.weak (h:Sat w0 w (cB::L))(k:∀m,cB m->B m):Sat w0 w (B::L):=
 h.head (L1:=[B]) rfl rfl rfl (kax _) λm hA J=>⟨λ_=>m,OkL.one (k m hA) J,λn hn hd=>⟨hn,λ_ _=>hd.symm⟩⟩
theorem Sat.ex {cB:α->ag}(h:Sat w0 w (S6 cB::L)):∃x,Sat w0 w (cB x::L):=by
 obtain ⟨h1,J,O,R,f,S,hd⟩:=h;obtain ⟨x,hx⟩:=(S 0 _ rfl).1;refine ⟨x,h1,J,O,R,f,λi bn hC=>?_,hd⟩
 grind
theorem Sat.ex_mk {cB}(x:α)(h:Sat w0 w (cB x::L)):Sat w0 w (S6 cB::L):=h.weak λ_ hm=>⟨x,hm⟩
theorem Sat.tail (h:Sat w0 w (cB::L)):Sat w0 w L:=by
 simpa using h.head (L1:=[]) rfl rfl rfl (kax _) λm _ _=>⟨λ_=>m,⟨by simp,by simp⟩,λ_ hn _=>⟨hn,by simp⟩⟩
theorem Sat.pure_ {φ}(h:Sat w0 w (kU φ::L)):φ/\Sat w0 w L:=⟨by
 obtain ⟨_,_,_,_,f,J,_⟩:=h;exact (J 0 _ rfl).1,h.tail⟩
theorem Sat.pure_mk {φ}(hp:φ)(h:Sat w0 w L):Sat w0 w (kU φ::L):=by
 obtain ⟨h1,J,O,R,f,S,hd⟩:=h;refine ⟨h1,J,O,R,λi=>match i with | 0=>λ_=>none | i+1=>f i,λi bn hC=>?_,λi j hi hj hne=>?_⟩
 ·cases i with
  | zero=>simp at hC;subst hC;exact ⟨hp,λb x hx=>by cases hx⟩
  | succ i=>exact S i bn (by simpa using hC)
 ·cases i with
  | zero=>exact λb x y hx=>by cases hx
  | succ i=>cases j with
   | zero=>exact λb x y _ hy=>by cases hy
   | succ j=>grind
theorem Sat.star (h:Sat w0 w (Ee cB B::L)):Sat w0 w (cB::B::L):=
 h.head (L1:=[cB,B]) rfl rfl rfl (kax _) λm hA O=>by
  obtain ⟨X,Y,hd,R,s2,S,V⟩:=hA;refine ⟨λi=>if i=0 then X else Y,⟨λi bn hC=>?_,λi j hi hj hne=>?_⟩,λn hn J=>⟨hn,λi _=>?_⟩⟩
  ·match i with
   | 0=>simp at hC;subst hC;exact ⟨S,O.mono R⟩
   | 1=>simp at hC;subst hC;exact ⟨V,O.mono s2⟩
   | i+2=>simp at hC
  ·simp at hi hj;by_cases h0:i=0
   ·grind
   ·have:j=0:=(by omega);simp only[h0,this,if_true,if_false];exact hd.symm
  ·dsimp only;split
   ·exact (J.mono (Res.sub.refl _) R).symm
   ·exact (J.mono (Res.sub.refl _) s2).symm
theorem Sat.two (h:Sat w0 w (cB::B::L)):Sat w0 w (Ee cB B::L):=by
 obtain ⟨h1,S,V,X,f,R,hd⟩:=h;have hA:=R 0 _ rfl;have O:=R 1 _ rfl;have J:=hd 0 1 (by simp) (by simp) (by omega);have s2:(f 1).sub ((f 0).union (f 1)):=by
  intro b x hx;unfold Res.union;cases h0:f 0 b with
  | none=>simp[hx]
  | some y=>
   have Z:=hA.2 b y h0;have e2:=O.2 b x hx;have:=J b y x h0 hx
   grind
 have Y:(f 0).sub ((f 0).union (f 1)):=λb x hx=>(by simp[Res.union,hx]);refine ⟨h1,S,V,X,λi=>match i with | 0=>(f 0).union (f 1) | i+1=>f (i+2),λi bn hC=>?_,λi j hi hj hne=>?_⟩
 ·cases i with
  | zero=>
   simp at hC;subst hC;refine ⟨⟨f 0,f 1,J,Y,s2,hA.1,O.1⟩,λb x hx=>?_⟩;simp only[Res.union] at hx;cases h0:f 0 b with
   | none=>rw[h0] at hx;exact O.2 b x (by simpa using hx)
   | some y=>rw[h0] at hx;exact hA.2 b x (by rw[h0];simpa using hx)
  | succ i=>exact R (i+2) bn (by simpa using hC)
 ·have dj:∀k,k+1<(Ee cB B::L).length->((f 0).union (f 1)).dj (f (k+2)):=λk hk b x y hx hy=>by
   simp only[Res.union] at hx;cases h0:f 0 b with
   | none=>rw[h0] at hx;exact hd 1 (k+2) (by simp) (by simp at hk ⊢;omega) (by omega) b x y (by simpa using hx) hy
   | some z=>rw[h0] at hx;exact hd 0 (k+2) (by simp) (by simp at hk ⊢;omega) (by omega) b x y (by rw[h0];simpa using hx) hy
  cases i with
  | zero=>grind
  | succ i=>cases j with
   | zero=>exact (dj i hi).symm
   | succ j=>grind
variable {o:Obj}
theorem Sat.at_ (h:Sat w0 w (pt b o::L)):w.heap[b]? =some o:=by
 obtain ⟨_,_,_,_,f,J,_⟩:=h;have:=J 0 _ rfl;exact this.2 b (o,false) this.1
theorem Sat.ro_at (h:Sat w0 w (ro b o::L)):w.heap[b]? =some o:=by
 obtain ⟨_,_,_,_,f,J,_⟩:=h;have:=J 0 _ rfl;exact this.2 b (o,true) this.1
theorem Sat.freeze (h:Sat w0 w (pt b o::L)):Sat w0 w (ro b o::L):=
 h.head (L1:=[ro b o]) rfl rfl rfl (kax _) λm hA O=>by
  refine ⟨λ_=>Res.one b (o,true),OkL.one Res.one_self λc x hx=>?_,λn hn J=>⟨hn,λi _ c x y hx hy=>?_⟩⟩
  ·obtain ⟨rfl,rfl⟩:=Res.one_eq hx;exact O _ (o,false) hA
  ·obtain ⟨rfl,rfl⟩:=Res.one_eq hx;have:=(J _ y (o,false) hy hA).2;cases this
theorem Sat.set {o' w'}(h:Sat w0 w (pt b o::L))(hw:w'={w with heap:=w.heap.setIfInBounds b o'}):Sat w0 w' (pt b o'::L):=by
 subst hw;refine h.head (L1:=[pt b o']) W W W (by simp) λm hA R=>?_;have O:=R b _ hA;have S:=(kaC.1 O).1;refine ⟨λ_=>Res.one b (o',false),OkL.one Res.one_self λc x hx=>?_,λn hn J=>⟨λc x hx=>?_,λi _ c x y hx hy=>?_⟩⟩
 ·grind[Res.one_eq]
 ·have hne:b≠c:=by
   rintro rfl;have:=(J b x (o,false) hx hA).2;cases this
  simp only[kaD hne];exact hn c x hx
 ·obtain ⟨rfl,rfl⟩:=Res.one_eq hx;have:=(J _ y (o,false) hy hA).2;cases this
theorem Sat.alloc (h:Sat w0 w L)o:Sat w0 {w with heap:=w.heap.push o} (pt w.heap.size o::L):=by
 have O:Sat w0 w (kU True::L):=h.pure_mk trivial;refine O.head (L1:=[pt w.heap.size o]) W W W (by simp) λm _ S=>?_;have J:∀(n:Res),n.fits w->∀c x,n c=some x->c<w.heap.size:=λn hn c x hx=>(kaC.1 (hn c x hx)).1;refine ⟨λ_=>Res.one w.heap.size (o,false),OkL.one Res.one_self λc x hx=>?_,λn hn R=>⟨λc x hx=>?_,λi _ c x y hx hy=>?_⟩⟩
 ·grind[Res.one_eq]
 ·have:=J n hn c x hx;simp only[Array.getElem?_push_lt this];simpa [this] using hn c x hx
 ·obtain ⟨rfl,rfl⟩:=Res.one_eq hx;have:=J n hn _ y hy;omega
theorem Sat.drew (h:Sat w0 w L)k:Sat w0 {w with drawn:=k} L:=⟨h.os,h.tape,h.output,h.size,h.parts⟩
theorem Sat.dup (h:Sat w0 w (cB::L))(hp:Pers cB):Sat w0 w (cB::cB::L):=
 h.head (L1:=[cB,cB]) rfl rfl rfl (kax _) λm hA R=>by
  obtain ⟨m',hs,hr,O⟩:=hp m hA;refine ⟨λ_=>m',⟨λi bn hC=>?_,λi j _ _ _ b x y hx hy=>⟨hr b x hx,hr b y hy⟩⟩,λn hn J=>⟨hn,λi _=>(J.mono (Res.sub.refl _) hs).symm⟩⟩;have:bn=cB:=by
   grind
  subst this;exact ⟨O,R.mono hs⟩
theorem Pers.ro b o:Pers (ro b o):=λm h=>⟨Res.one b (o,true),λc x hx=>by
 obtain ⟨rfl,rfl⟩:=Res.one_eq hx;exact h,λc x hx=>by grind[Res.one_eq],Res.one_self⟩
theorem Pers.pure_ φ:Pers (kU φ):=λ_ h=>⟨λ_=>none,(λb x hx=>nomatch hx),(λb x hx=>nomatch hx),h⟩
theorem Pers.ex {cB:α->ag}(h:∀x,Pers (cB x)):Pers (S6 cB):=λm ⟨x,hx⟩=>let ⟨m',a,b,c⟩:=h x m hx;⟨m',a,b,x,c⟩
theorem Pers.old w0:Pers (old w0):=λm h=>⟨λb=>(w0.heap[b]?).map (·,true),λb x hx=>by
 simp[kaE] at hx;obtain ⟨o,ho,rfl⟩:=hx;exact h b o ho,λb x hx=>by
 grind,λb o ho=>by simp[ho]⟩
theorem Sat.old_ro {v0}(h:Sat w0 w (old v0::L))(J:v0.heap[b]? =some o):Sat w0 w (ro b o::old v0::L):=
 (h.dup (Pers.old v0)).weak λ_ hm=>hm b o J
theorem Sat.below (h:Sat w0 w (old w0::L)):RowKit.Below w0.heap.size w0 w:=by
 refine ⟨h.os,h.tape,h.output,h.size,λb J=>?_⟩;have h1:w0.heap[b]? =some w0.heap[b]:=(by simp[J]);rw[(h.old_ro h1).ro_at,h1]
end Go.Sl
namespace Go.Sl
abbrev Xp:=Nat×Option (Nat×Bool)×Value
abbrev di:=List Xp
def Gn:di->Nat->Option (Option (Nat×Bool)×Value)
 | [],_=>none
 | (s,h,v)::E,t=>match Nat.beq s t with | true=>some (h,v) | false=>Gn E t
def H4:Bool->Bool->Bool
 | true,b=>b
 | false,true=>false
 | false,false=>true
def look (g:Option (Nat×Bool))(E:di)(t:Nat):Option Value:=
 match Gn E t with
 | some (none,v)=>some v
 | some (some (j,b),v)=>match g with
  | some (j',b')=>match Nat.beq j j' with
   | true=>match H4 b b' with | true=>some v | false=>none
   | false=>none
  | none=>none
 | none=>none
def ev (g:Option (Nat×Bool))(E:di):Operand->Option Value
 | .tmp t=>look g E t
 | .const v=>some v
 | .global x=>some (.pointer (some ⟨x,0,none⟩))
 | .func f=>some (.func (.func f) #[] #[])
def evs (g:Option (Nat×Bool))(E:di):List Operand->Option (List Value)
 | []=>some []
 | x::xs=>match ev g E x with
  | some v=>match evs g E xs with | some vs=>some (v::vs) | none=>none
  | none=>none
def U:List (Nat×Value)->di
 | []=>[]
 | (t,v)::l=>(t,none,v)::U l
def keep (E:di):List Nat->Option di
 | []=>some []
 | t::ts=>match look none E t with
  | some v=>match keep E ts with | some R=>some ((t,none,v)::R) | none=>none
  | none=>none
def oa:Nat->List Value->di
 | _,[]=>[]
 | i,v::vs=>(i,none,v)::oa (i+1) vs
def gd (g:Option (Nat×Bool))(a:Act):Prop:=∀j b,g=some (j,b)->a.tmps[j]? =some (.bool b)
structure Nd where
 n:Nat
 ds:List Deferred
structure EOk (n:Nd) (E:di) (a:Act):Prop where
 defers:a.defers=n.ds
 size:a.tmps.size=n.n
 at_:∀t h v,Gn E t=some (h,v)->gd h a->a.tmps[t]? =some v
def LM {a b}(h:H4 a b=true):a=b:=by cases a <;> cases b <;> simp_all [H4]
variable {n:Nd}{E:di}{g:Option (Nat×Bool)}{t:Nat}{v:Value}
theorem EOk.look {a}(h:EOk n E a)(S:gd g a)(hl:look g E t=some v):a.tmps[t]? =some v:=by
 unfold Sl.look at hl;split at hl
 ·rename_i u he;injection hl with hl;subst hl;exact h.at_ t _ _ he (λj b e=>by cases e)
 ·rename_i j b u he;split at hl
  ·rename_i X V;split at hl
   ·rename_i hj;split at hl
    ·rename_i R;injection hl with hl;subst hl;have J:=kaF hj;have O:=LM R;subst J O;exact h.at_ t _ _ he S
    ·cases hl
   ·cases hl
  ·cases hl
 ·cases hl
def cT a:gd none a:=λ_ _ e=>by cases e
theorem EOk.ev {a x}(h:EOk n E a)(J:gd g a)(hl:ev g E x=some v):a.eval x=v:=by
 cases x with
 | tmp t=>have:=h.look J hl;simp[Act.eval,kaG,this]
 | const u=>injection hl
 | global u=>injection hl
 | func u=>injection hl
theorem EOk.evs {n E a g}(h:EOk n E a)(R:gd g a):∀{O:List Operand} {vs:List Value},evs g E O=some vs->O.map a.eval=vs
 | [],vs,hl=>by injection hl with hl
 | x::O,vs,hl=>by
  unfold Sl.evs at hl;split at hl
  ·rename_i v hv;split at hl
   ·rename_i S J;injection hl with hl;subst hl;simp[h.ev R hv,h.evs R J]
   ·cases hl
  ·cases hl
def mb (n:Nd)(d:Nat):di->Bool
 | []=>Nat.blt d n.n
 | (_,none,_)::E=>mb n d E
 | (_,some (j,_),_)::E=>match Nat.beq j d with | true=>false | false=>mb n d E
class NZ (n:Nat):Prop where p:n≠0
instance {n:Nat}:NZ (n+1):=⟨by omega⟩
class LK (g:Option (Nat×Bool))(E:di)(t:Nat)(v:outParam Value):Prop where p:look g E t=some v
class EV (g:Option (Nat×Bool))(E:di)(x:Operand)(v:outParam Value):Prop where p:ev g E x=some v
class EVS (g:Option (Nat×Bool))(E:di)(x:List Operand)(v:outParam (List Value)):Prop where p:evs g E x=some v
class NT {γ α:Type}{D:γ->Nat->Prop}[GetElem? γ Nat α D](l:γ)(i:Nat)(v:outParam α):Prop where p:l[i]? =some v
class EQ (a b:Nat):Prop where p:a=b
instance {n:Nat}:EQ n n:=⟨rfl⟩
class DS (l:List Oper)(i:Nat)(v:outParam Nat):Prop where p:(l[i]?).bind (·.dst)=some v
variable {s:Nat}{w:Value}{h:Option (Nat×Bool)}
instance [n:NZ (s - t+(t - s))][k:LK g E t v]:LK g ((s,h,w)::E) t v:=⟨by
 have z:Nat.beq s t=false:=by
  cases e:Nat.beq s t
  ·rfl
  ·have := kaF e
   have := n.p
   omega
 have := k.p
 simpa [look,Gn,z] using this⟩
instance :LK g ((t,none,v)::E) t v:=⟨by simp [look,Gn]⟩
instance {b:Bool}{j:Nat}:LK (some (j,b)) ((t,some (j,b),v)::E) t v:=⟨by cases b <;> simp [look,Gn,H4]⟩
variable {l:List (Nat×Value)}
instance [h:LK g ((s,none,w)::U l) t v]:LK g (U ((s,w)::l)) t v:=⟨h.p⟩
variable {m:List Value}
instance [h:LK g ((s,none,w)::oa (s+1) m) t v]:LK g (oa s (w::m)) t v:=⟨h.p⟩
instance [h:LK g E t v]:EV g E (.tmp t) v:=⟨h.p⟩
instance :EV g E (.const v) v:=⟨rfl⟩
instance :EV g E (.global t) (.pointer (some ⟨t,0,none⟩)):=⟨rfl⟩
instance :EV g E (.func t) (.func (.func t) #[] #[]):=⟨rfl⟩
instance :EVS g E [] []:=⟨rfl⟩
instance {x:Operand}{y:List Operand}[h:EV g E x v][k:EVS g E y m]:EVS g E (x::y) (v::m):=⟨by simp [evs,h.p,k.p]⟩
variable {i:Nat}{α:Type}{a:α}{u:List α}
instance [h:EQ i 0]:NT (a::u) i a:=⟨by rw[h.p];rfl⟩
variable {b:α}
instance [h:NT u i b]:NT (a::u) (i+1) b:=⟨h.p⟩
instance [h:NT u i b]:NT u.toArray i b:=⟨by simpa using h.p⟩
instance {o:Op}{y:TypeId}{p:String}{f:Array Edge}{k:List Oper}:DS (⟨some t,o,y,p,f,h⟩::k) 0 t:=⟨rfl⟩
instance {o:Oper}{k:List Oper}[h:DS k i t]:DS (o::k) (i+1) t:=⟨h.p⟩
instance {o:Op}{y:TypeId}{p:String}{f:Array Edge}{k r:List Oper}:DS ((⟨some t,o,y,p,f,h⟩::k).append r) 0 t:=⟨rfl⟩
instance {o:Oper}{k r:List Oper}[h:DS (k.append r) i t]:DS ((o::k).append r) (i+1) t:=⟨h.p⟩
instance {k:List Oper}[h:DS k i t]:DS (List.append [] k) i t:=⟨h.p⟩
theorem Gs {n d}:∀{E:di},mb n d E=true->d<n.n
 | [],h=>by grind[mb,Nat.blt_eq]
 | (_,none,_)::E,h=>Gs (E:=E) h
 | (_,some (j,_),_)::E,h=>by
  unfold mb at h;split at h
  ·cases h
  ·exact Gs (E:=E) h
theorem Gt {n d}:∀{E:di} {t:Nat} {j:Nat} {b:Bool} {v:Value},mb n d E=true->Gn E t=some (some (j,b),v)->j≠d
 | [],t,j,b,v,h,he=>by cases he
 | (s,none,u)::E,t,j,b,v,h,he=>by
  unfold Gn at he;split at he
  ·grind
  ·exact Gt (E:=E) h he
 | (s,some (i,c),u)::E,t,j,b,v,h,he=>by
  unfold mb at h;split at h
  ·cases h
  ·rename_i hi;unfold Gn at he;split at he
   ·grind[Nat.ne_of_beq_eq_false]
   ·exact Gt (E:=E) h he
variable {a:Act}{d:Nat}
theorem S7 (h:d<a.tmps.size):(a.put (some d) v).tmps[d]? =some v:=by simp[Act.put,h]
theorem Gu (h:d≠t):(a.put (some d) v).tmps[t]? =a.tmps[t]? :=by simp[Act.put,kaD h]
theorem EOk.put {u}(h:EOk n E a)(hd:mb n d E=true)(O:∀j b,g=some (j,b)->j≠d)(hv:gd g a->u=v):
  EOk n ((d,g,v)::E) (a.put (some d) u):=by
 have R:d<a.tmps.size:=(by rw[h.size];exact Gs hd);refine ⟨h.defers,by simp[Act.put,h.size],λt k w he hk=>?_⟩;unfold Gn at he;split at he
 ·grind[Nat.eq_of_beq_eq_true,S7,gd,Gu]
 ·rename_i J;rw[Gu (kaH J)];refine h.at_ t k w he λj b e=>?_;have h1:=hk j b e
  grind[Gu,Gt]
theorem EOk.put1 (h:EOk n E a)(hd:mb n d E=true):EOk n ((d,none,v)::E) (a.put (some d) v):=
 h.put hd (λ_ _ e=>by cases e) λ_=>rfl
theorem EOk.keep {n E a}(h:EOk n E a):∀{J:List Nat} {R:di},keep E J=some R->EOk n R a
 | [],R,hk=>by injection hk with hk;subst hk;exact ⟨h.defers,h.size,λ_ _ _ e=>by cases e⟩
 | t::J,R,hk=>by
  unfold Sl.keep at hk;split at hk
  ·rename_i v hv;split at hk
   ·rename_i Y S;injection hk with hk;subst hk;refine ⟨h.defers,h.size,λs k w he X=>?_⟩;unfold Gn at he;split at he
    ·rename_i V;have:=kaF V;subst this;injection he with he;injection he with h1 O;subst h1 O;exact h.look (cT a) hv
    ·exact (h.keep S).at_ s k w he X
   ·cases hk
  ·cases hk
abbrev fE:=Exit->Act->World->Prop
inductive KI where
 | code (c:Code)
 | blk (id:Nat)
 | ops (all rest:List Oper)
 | plan (all:List Oper) (bn:World->Prop) (rest:List (Nat×Bool))
 | fin (J:Act->World->Prop)
def Si (P:Program)(bn:World->Prop)(o:Oper)(a:Act)(v:Value):Prop:=∀w,bn w->(execOp a.eval o).run P w= .ok (.value v) w\/((execOp a.eval o).run P w= .ok .skip w/\v=undef)
def YieldsC (P:Program)(ops:Array Oper)(bn:World->Prop)(o:Oper)(v:Value)(a:Act):Prop:=
 (Region.wanted o (yielded ops a.tmps)=true/\Si P bn o a v)\/(Region.wanted o (yielded ops a.tmps)=false/\v=undef)
def wpAnyC (P:Program)(ops:Array Oper)(bn:World->Prop)(Q:fE):Nat->Array Bool->Act->World->Prop
 | 0,listed,a,w=>bn w/\Region.ready .any ops listed=[]/\Q .normal a w
 | fuel+1,listed,a,w=>
  bn w/\(Region.ready .any ops listed=[]->Q .normal a w)/\
  ∀i∈Region.ready .any ops listed,wpOp P ops Q i (wpAnyC P ops bn Q fuel (listed.setIfInBounds i true)) a w
variable {P:Program}{ops:Array Oper}{Q:fE}{bn:World->Prop}{w:World}
theorem wpAnyC.cls {fuel J}(h:wpAnyC P ops bn Q fuel J a w):bn w:=by
 cases fuel <;> exact h.1
def o9:∀(fuel:Nat) (J:Array Bool) (a:Act) (w:World),wpAnyC P ops bn Q fuel J a w->wpAny P .any ops Q fuel J a w
 | 0,_,_,_,h=>h.2
 | fuel+1,_,_,_,h=>⟨h.2.1,λi hi=>wpOp_mono (λa w=>o9 fuel _ a w) (h.2.2 i hi)⟩
theorem YieldsC.wpOp {i o v a w K}(hi:ops[i]? =some o)(hw:bn w)(hy:YieldsC P ops bn o v a)(h:K (a.put o.dst v) w):wpOp P ops Q i K a w:=by
 unfold Go.wpOp;simp only[hi];rcases hy with ⟨J,hv⟩ | ⟨J,rfl⟩
 ·simp only[J,if_true];refine .inl ?_;unfold Oper.wp;rcases hv w hw with he | ⟨he,rfl⟩ <;> rw[he] <;> exact h
 grind
variable {o:Oper}
theorem YieldsC.of_same {J}(hy:YieldsC P ops bn o v a)(he:execOp J.eval o=execOp a.eval o)(hw:Region.wanted o (yielded ops J.tmps)=Region.wanted o (yielded ops a.tmps)):YieldsC P ops bn o v J:=by
 grind[YieldsC,Si]
variable {J:Option Tmp}{K:Act->World->Prop}
theorem LN {r}{Y:Act->Prop}(O:∀d,J=some d->o.dst≠some d)(S:∀c a w,Q (.panic c) (a.put J v) w->Q (.panic c) a w)(V:∀u,Y (a.put o.dst u))(X:∀d u,Y (({a with defers:=d::a.defers}:Act).put o.dst u))(h:o.upon P (a.put J v) K Q r):o.upon P a (λR w'=>Y R/\K (R.put J v) w') Q r:=by
 have hc:∀u,(a.put J v).put o.dst u=(a.put o.dst u).put J v:=λu=>Act.put_comm a v u O;cases r with
 | ok n w'=>
  cases n <;> simp only[Oper.upon] at h ⊢
  case value u=>grind
  case skip=>grind
  case defer d=>
   grind[Act.put_comm,Act.put_defers]
  case enter f args=>exact h.mono λe Z he=>by grind
  grind
 | halt x w'=>
  cases x <;> simp only[Oper.upon] at h ⊢ <;> first | exact S _ _ _ h | exact h
theorem LO (he:execOp (a.put J v).eval o=execOp a.eval o)(h:o.asks P (a.put J v) w):o.asks P a w:=by
 grind[Oper.asks]
theorem AH {j J O}(hj:ops[j]? =some O)(V:J.apart ops O=true)(X:∀cs b,J.op≠ .select cs b)(Y:∀cs b,O.op≠ .select cs b)(hQ:∀c a w,Q (.panic c) (a.put J.dst v) w->Q (.panic c) a w)(hy:YieldsC P ops bn J v a)(h:wpOp P ops Q j K (a.put J.dst v) w):wpOp P ops Q j (λZ w'=>YieldsC P ops bn J v Z/\K (Z.put J.dst v) w') a w:=by
 obtain ⟨h1,h2,h3⟩:=Oper.apart_spec V;have R:∀u,YieldsC P ops bn J v (a.put O.dst u):=λu=>hy.of_same (execOp_put J X a O.dst u h3) (wanted_put J a O.dst u h3);have S:∀d u,YieldsC P ops bn J v (({a with defers:=d::a.defers}:Act).put O.dst u):=λd u=>(R u).of_same (by
  have:(({a with defers:=d::a.defers}:Act).put O.dst u).eval=(a.put O.dst u).eval:=by
   funext x;cases hd:O.dst <;> cases x <;> simp[Act.eval,Act.put]
  rw[this]) (by cases hd:O.dst <;> simp[Act.put])
 unfold wpOp at*;simp only[hj] at*;rw[wanted_put O a J.dst v h1] at h;have he:=execOp_put O Y a J.dst v h1;split
 ·rename_i hw;simp only[hw,if_true] at h;rcases h with h | ⟨h,hl⟩
  ·refine .inl ?_;unfold Oper.wp at*;rw[he] at h;exact LN h2 hQ R S h
  grind[LO]
 grind[Act.put_comm]
theorem tk {Z}(hi:ops[i]? =some Z)(X:∀(j:Nat) (o:Oper) cs b,ops[j]? =some o->o.op≠ .select cs b)(hQ:∀c a w,Q (.panic c) (a.put Z.dst v) w->Q (.panic c) a w):
  ∀(fuel:Nat) (J:Array Bool) (a:Act) (w:World),
   (∀j oj,ops[j]? =some oj->j≠i->J.getD j true=false->(∀e∈oj.after,Region.binds .any e=true->e.on≠i)->Z.apart ops oj=true)->
   i∈Region.ready .any ops J->YieldsC P ops bn Z v a->bn w->
   wpAnyC P ops bn Q fuel (J.setIfInBounds i true) (a.put Z.dst v) w->wpAnyC P ops bn Q (fuel+1) J a w:=by
 intro fuel
 induction fuel with
 | zero=>
  intro J a w _ hr hy hw H;refine ⟨hw,λh=>(by rw[h] at hr;cases hr),λj hj=>?_⟩;by_cases O:j=i
  ·subst O;exact hy.wpOp hi hw H
  ·have:=ready_mono hj O;rw[H.2.1] at this;cases this
 | succ fuel ih=>
  intro J a w R hr hy hw H;refine ⟨hw,λh=>(by rw[h] at hr;cases hr),λj hj=>?_⟩;by_cases O:j=i
  ·subst O;exact hy.wpOp hi hw H
  ·have h1:=H.2.2 j (ready_mono hj O);obtain ⟨V,oj,Y,hall⟩:=mem_ready.1 hj;have hnot:∀e∈oj.after,Region.binds .any e=true->e.on≠i:=λe he hb heq=>by
    have h1:=hall e he hb;have h0:=(mem_ready.1 hr).1
    grind
   have h2:=AH Y (R j oj Y O V hnot) (λcs b=>X i Z cs b hi) (λcs b=>X j oj cs b Y) hQ hy h1;have S:∀k ok,ops[k]? =some ok->k≠i->(J.setIfInBounds j true).getD k true=false->
     (∀e∈ok.after,Region.binds .any e=true->e.on≠i)->Z.apart ops ok=true:=λk ok hk hki hun hno=>by
    refine R k ok hk hki ?_ hno;by_cases hjk:j=k
    ·subst hjk;exact V
    simp_all
   refine wpOp_mono (λa' w' h3=>ih (J.setIfInBounds j true) a' w' S (ready_mono hr (Ne.symm O)) h3.1 h3.2.cls ?_) h2
   grind[Array.setIfInBounds_comm]
def im (ops:Array Oper):List (Nat×Bool)->Array Bool->Bool
 | [],listed=>(Region.ready .any ops listed).isEmpty
 | (i,false)::rest,listed=>(Region.ready .any ops listed).contains i && Region.free .any ops listed i && im ops rest (listed.setIfInBounds i true)
 | (i,true)::rest,listed=>(Region.ready .any ops listed==[i]) && im ops rest (listed.setIfInBounds i true)
def su (P:Program)(ops:Array Oper)(bn:World->Prop)(Q:fE):List (Nat×Bool)->Act->World->Prop
 | [],a,w=>bn w/\Q .normal a w
 | (i,false)::rest,a,w=>bn w/\∃o v,ops[i]? =some o/\YieldsC P ops bn o v a/\su P ops bn Q rest (a.put o.dst v) w
 | (i,true)::rest,a,w=>bn w/\wpOp P ops Q i (su P ops bn Q rest) a w
def ko (hs:Region.noSelect ops=true)(O:∀c a d v w,Q (.panic c) (a.put d v) w->Q (.panic c) a w):∀(l:List (Nat×Bool)) (J:Array Bool) (a:Act) (w:World),
  im ops l J=true->su P ops bn Q l a w->wpAnyC P ops bn Q l.length J a w
 | [],J,a,w,hp,h=>⟨h.1,by simpa [im] using hp,h.2⟩
 | (i,false)::l,J,a,w,hp,h=>by
  simp only[im,kaJ] at hp;obtain ⟨⟨hr,S⟩,R⟩:=hp;obtain ⟨hw,o,v,ho,hy,h⟩:=h;exact tk ho (Region.noSelect_spec hs) (λc a w=>O c a _ _ w) l.length J a w (Region.free_spec ho S) (by simpa using hr) hy hw
   (ko hs O l _ _ _ R h)
 | (i,true)::l,J,a,w,hp,h=>by
  simp only[im,kaJ,beq_iff_eq] at hp;refine ⟨h.1,λh0=>(by rw[hp.1] at h0;cases h0),λj hj=>?_⟩;rw[hp.1] at hj;have:j=i:=(by simpa using hj);subst this;exact wpOp_mono (λa w=>ko hs O l _ a w hp.2) h.2
def xV {id l}(hm:P.follows .mixedOrders=true)(hs:Region.noSelect ops=true)(hl:l.length=ops.size)(J:∀c a d v w,Q (.panic c) (a.put d v) w->Q (.panic c) a w)(hp:im ops l (Array.replicate ops.size false)=true)(h:su P ops bn Q l a {w with drawn:=w.drawn+1}):(Code.region id ops true).wp P Q a w:=
 wp_region_any hm (o9 _ _ _ _ (by rw[<-hl];rw[<-hl] at hp;exact ko hs J l _ a _ hp h))
end Go.Sl
namespace Go.Sl
class Has (L:List ag) (b:Nat) (o:outParam Obj):Prop where
 out:∀w0 w,Sat w0 w L->w.heap[b]? =some o
instance (priority:=high) Has.pt {b:Nat}{o:Obj}{L:List ag}:Has (pt b o::L) b o:=⟨λ_ _ h=>h.at_⟩
instance (priority:=high) Has.ro {b:Nat}{o:Obj}{L:List ag}:Has (ro b o::L) b o:=⟨λ_ _ h=>h.ro_at⟩
instance (priority:=low) Has.tail {cB:ag}{b:Nat}{o:Obj}{L:List ag}[h:Has L b o]:Has (cB::L) b o:=⟨λw0 w hS=>h.out w0 w hS.tail⟩
class Upd (L:List ag) (b:Nat) (o:outParam Obj) (o':Obj) (L':outParam (List ag)):Prop where
 out:∃i,L[i]? =some (pt b o)/\L'=L.set i (pt b o')
instance (priority:=high) Upd.pt {b:Nat}{o o':Obj}{L:List ag}:Upd (pt b o::L) b o o' (pt b o'::L):=⟨0,rfl,rfl⟩
instance (priority:=low) Upd.tail {cB:ag}{b:Nat}{o o':Obj}{L L':List ag}[h:Upd L b o o' L']:Upd (cB::L) b o o' (cB::L'):=⟨let ⟨i,h1,h2⟩:=h.out;⟨i+1,by simpa using h1,by simp[h2]⟩⟩
theorem tl {α β:Type}(f:α->β):∀(l:List α) (i:Nat),(l.eraseIdx i).map f=(l.map f).eraseIdx i
 | [],i=>by simp
 | a::l,0=>by simp
 | a::l,i+1=>by simp[tl f l i]
variable {w w0:World}{cB:ag}{L:List ag}
theorem Sat.front {i}(h:Sat w0 w L)(hi:L[i]? =some cB):Sat w0 w (cB::L.eraseIdx i):=by
 have e:(List.range L.length).map (L[·]?)=L.map some:=by
  apply List.ext_getElem
  ·simp
  grind
 refine h.pick (i::(List.range L.length).eraseIdx i) ?_ ?_
 ·grind[tl]
 grind[List.mem_eraseIdx_iff_getElem]
theorem Sat.setAt {i b o o'}(h:Sat w0 w L)(hi:L[i]? =some (pt b o)):Sat w0 {w with heap:=w.heap.setIfInBounds b o'} (L.set i (pt b o')):=by
 obtain ⟨h1,Z,h3,h4,f,S,hd⟩:=h;have hA:=S i _ hi;have R:=(kaz.1 hi).1;have hb:=hA.2 b _ hA.1;have hlt:=(kaC.1 hb).1;have hno:∀j,j<L.length->j≠i->f j b=none:=λj hj hne=>by
  cases hx:f j b with
  | none=>rfl
  | some x=>
   have:=(hd j i hj R hne b x (o,false) hx hA.1).2;cases this
 refine ⟨h1,Z,h3,by simpa using h4,λj=>if j=i then Res.one b (o',false) else f j,λj cB J=>?_,λj k hj hk hne=>?_⟩
 ·by_cases O:j=i
  ·subst O;rw[kaK R] at J;injection J with J;subst J;simp only[if_true];refine ⟨Res.one_self,λc x hx=>?_⟩
   grind[Res.one_eq]
  ·rw[kaL (Ne.symm O)] at J;simp only[O,if_false];have hj:=(kaz.1 J).1;refine ⟨(S j cB J).1,λc x hx=>?_⟩;have hne:b≠c:=by
    grind
   simp only[kaD hne];exact (S j cB J).2 c x hx
 ·have V:j<L.length:=(by simpa using hj);have hk':k<L.length:=(by simpa using hk);have Y:∀l,l<L.length->l≠i->(Res.one b (o',false)).dj (f l):=λl hl hli c x y hx hy=>by
   grind[Res.one_eq]
  by_cases O:j=i
  ·grind
  ·by_cases X:k=i
   ·simp only[O,X,if_true,if_false];exact (Y j V O).symm
   grind
class Rem (L:List ag) (cB:ag) (L':outParam (List ag)):Prop where
 out:∃i,L[i]? =some cB/\L'=L.eraseIdx i
instance (priority:=high) Rem.head {cB:ag}{L:List ag}:Rem (cB::L) cB L:=⟨0,rfl,rfl⟩
instance (priority:=low) Rem.tail {cB B:ag}{L L':List ag}[h:Rem L cB L']:Rem (B::L) cB (B::L'):=⟨let ⟨i,h1,h2⟩:=h.out;⟨i+1,by simpa using h1,by simp[h2]⟩⟩
theorem Rem.sat {L'}(r:Rem L cB L')(h:Sat w0 w L):Sat w0 w (cB::L'):=by
 obtain ⟨i,h1,rfl⟩:=r.out;exact h.front h1
theorem Sat.moveEnd (h:Sat w0 w (cB::L)):Sat w0 w (L++ [cB]):=by
 refine h.pick ((List.range L.length).map (· +1)++ [0]) ?_ ?_
 ·simp only[kaM,kaN,kaO,kaP];congr 1;apply List.ext_getElem
  ·simp
  grind
 grind[List.pairwise_lt_range]
theorem Sat.endFront (h:Sat w0 w (L++ [cB])):Sat w0 w (cB::L):=by
 have:=h.front (i:=L.length) (cB:=cB) (by simp)
 grind
class Split (L:List ag) (Pre:List ag) (F:outParam (List ag)):Prop where
 out:∀w0 w X,Sat w0 w (L++X)->Sat w0 w (Pre++F++X)
instance Split.nil {L:List ag}:Split L [] L:=⟨λ_ _ _ h=>h⟩
instance Split.cons {L L1 F Pre:List ag}{cB:ag}[r:Rem L cB L1][s:Split L1 Pre F]:Split L (cB::Pre) F:=⟨λw0 w X h=>by
 obtain ⟨i,h1,rfl⟩:=r.out;have hil:=(kaz.1 h1).1;have h2:=h.front (i:=i) (cB:=cB) (by rw[kaQ hil];exact h1);rw[kaR hil] at h2;have h3:=h2.moveEnd;have h4:=s.out w0 w (X++ [cB]) (by simpa using h3);have h5:Sat w0 w ((Pre++F++X)++ [cB]):=(by simpa using h4);simpa using h5.endFront⟩
theorem Split.sat {Pre F}(s:Split L Pre F)(h:Sat w0 w L):Sat w0 w (Pre++F):=by
 simpa using s.out w0 w [] (by simpa using h)
class Sub (L L2:List ag):Prop where
 out:∀w0 w X,Sat w0 w (L++X)->Sat w0 w (L2++X)
instance (priority:=high) Sub.refl {L:List ag}:Sub L L:=⟨λ_ _ _ h=>h⟩
instance (priority:=low) Sub.drop {cB:ag}{L L2:List ag}[s:Sub L L2]:Sub (cB::L) L2:=⟨λw0 w X h=>s.out w0 w X (Sat.tail (by simpa using h))⟩
instance Sub.take {cB:ag}{L L1 L2:List ag}[r:Rem L cB L1][s:Sub L1 L2]:Sub L (cB::L2):=⟨λw0 w X h=>by
 obtain ⟨i,h1,rfl⟩:=r.out;have hil:=(kaz.1 h1).1;have h2:=h.front (i:=i) (cB:=cB) (by rw[kaQ hil];exact h1);rw[kaR hil] at h2;have h3:=h2.moveEnd;have h4:=s.out w0 w (X++ [cB]) (by simpa using h3);have h5:Sat w0 w ((L2++X)++ [cB]):=(by simpa using h4);simpa using h5.endFront⟩
theorem Sub.sat {L2}(s:Sub L L2)(h:Sat w0 w L):Sat w0 w L2:=by
 simpa using s.out w0 w [] (by simpa using h)
end Go.Sl
namespace Go.Sl
def Vj (P:Program)(fn:Func)(w0:World)(R:Value->List ag->Prop):fE:=bodyPost P fn λe w=>match e with
 | .returned v=>∃L,Sat w0 w L/\R v L
 | _=>False
def markD (D:Nat):Deferred:={target:= .collected D,args:=#[]}
def S8 (P:Program)(fn:Func)(w0:World)(R:Value->List ag->Prop):fE:=λe a w=>match e with
 | .normal | .ret=>∃D w',a.defers=[markD D]/\(Instr.takeDeferred D).run P w= .ok [] w'/\∃v,(results fn a.tmps).run P w'= .ok v w'/\∃L,Sat w0 w' L/\R v L
 | _=>False
def Ct (P:Program)(f:FuncId)(args:List Value)(L:List ag)(R:Value->List ag->Prop):Prop:=
 ∀w0 w,Sat w0 w L->Calls P f args.toArray w λe w'=>match e with
  | .returned v=>∃L',Sat w0 w' L'/\R v L'
  | _=>False
def kq (P:Program)(Qf:fE):List KI->fE
 | [],e,a,w=>Qf e a w
 | .code c::K,e,a,w=>match e with
  | .normal=>c.wp P (kq P Qf K) a w
  | e=>kq P Qf K e a w
 | .blk id::K,e,a,w=>Exit.inBlock id (kq P Qf K) e a w
 | .ops all rest::K,e,a,w=>match e with
  | .normal=>wpList P all.toArray (kq P Qf K) rest a w
  | e=>kq P Qf K e a w
 | .plan all bn rest::K,e,a,w=>match e with
  | .normal=>su P all.toArray bn (kq P Qf K) rest a w
  | e=>kq P Qf K e a w
 | .fin J::K,e,a,w=>match e with
  | .normal=>J a w
  | e=>kq P Qf K e a w
structure Cx where
 P:Program
 fn:Func
 w0:World
 R:Value->List ag->Prop
 n:Nd
def Cx.Q (c:Cx):fE:=λe a w=>Vj c.P c.fn c.w0 c.R e a w\/S8 c.P c.fn c.w0 c.R e a w
def G (c:Cx)(K:List KI)(E:di)(L:List ag):Prop:=∀a w,EOk c.n E a->Sat c.w0 w L->kq c.P c.Q K .normal a w
def jo {c:Cx}:∀{K:List KI} {J:List PanicEntry} {a:Act} {w:World},¬kq c.P c.Q K (.panic J) a w
 | [],J,a,w,h=>h.elim (λh=>h.2) (λh=>h)
 | .code _::K,J,a,w,h=>jo (K:=K) h
 | .blk _::K,J,a,w,h=>jo (K:=K) h
 | .ops _ _::K,J,a,w,h=>jo (K:=K) h
 | .plan _ _ _::K,J,a,w,h=>jo (K:=K) h
 | .fin _::K,J,a,w,h=>jo (K:=K) h
variable {c:Cx}{K:List KI}{E:di}{L:List ag}{x y:Code}
def ac (h:G c (.code x:: .code y::K) E L):G c (.code (.seq x y)::K) E L:=λa w J O=>by
 refine wp_seq<|wp_mono (h a w J O) λe a w hq=>?_;cases e <;> exact hq
def ai (h:G c K E L):G c (.code .skip::K) E L:=λa w J O=>wp_skip (h a w J O)
def ak {id}(h:G c (.code x:: .blk id::K) E L):G c (.code (.block id x)::K) E L:=λa w J O=>wp_block (wp_mono (h a w J O) λe a w hq=>hq)
def aE {id}(h:G c K E L):G c (.blk id::K) E L:=λa w J O=>h a w J O
variable {t:Operand}{b:Bool}
def ah [ht:EV none E t (.bool b)](h1:b=true->G c (.code x::K) E L)(R:b=false->G c (.code y::K) E L):G c (.code (.cond t x y)::K) E L:=have ht:=ht.p;λa w J O=>wp_cond_split (J.ev (cT a) ht) (λe=>h1 e a w J O) (λe=>R e a w J O)
def d6 [ht:EV none E t (.bool true)](h1:G c (.code x::K) E L):G c (.code (.cond t x y)::K) E L:=have ht:=ht.p;ah (ht:=⟨ht⟩) (λ_=>h1) (λe=>by cases e)
def dY [ht:EV none E t (.bool false)](h1:G c (.code y::K) E L):G c (.code (.cond t x y)::K) E L:=have ht:=ht.p;ah (ht:=⟨ht⟩) (λe=>by cases e) (λ_=>h1)
def xW (id:Nat):List KI->Option (List KI)
 | []=>none
 | .blk j::K=>match Nat.beq id j with | true=>some K | false=>xW id K
 | _::K=>xW id K
theorem mr {P O id a w}:∀{K J:List KI},xW id K=some J->kq P O J .normal a w->kq P O K (.exit id) a w
 | [],_,h,_=>by cases h
 | .blk j::K,J,h,hk=>by
  unfold xW at h;split at h
  ·grind[Nat.eq_of_beq_eq_true,Exit.inBlock,kq]
  ·rename_i R;have:=kaH R;show Exit.inBlock j (kq P O K) (.exit id) a w;simp only[Exit.inBlock,this,if_false];exact mr h hk
 | .code _::K,J,h,hk=>mr (K:=K) h hk
 | .ops _ _::K,J,h,hk=>mr (K:=K) h hk
 | .plan _ _ _::K,J,h,hk=>mr (K:=K) h hk
 | .fin _::K,J,h,hk=>mr (K:=K) h hk
def aF {id:Nat}{J:List KI}(h:G c J E L)(S:xW id K=some J:=by exact rfl):G c (.code (.exit id)::K) E L:=λa w O R=>wp_exit (mr S (h a w O R))
def cb {P J a w}(h:J .ret a w):∀{K:List KI},kq P J K .ret a w
 | []=>h
 | .code _::K=>cb h (K:=K)
 | .blk _::K=>cb h (K:=K)
 | .ops _ _::K=>cb h (K:=K)
 | .plan _ _ _::K=>cb h (K:=K)
 | .fin _::K=>cb h (K:=K)
variable {v:Value}
def fY (E:di):List ResultVar->Option (List Value)
 | []=>some []
 | .tmp t::rs=>match look none E t with
  | some v=>match fY E rs with | some vs=>some (v::vs) | none=>none
  | none=>none
 | .cell _ _::_=>none
def tn:List Value->Value
 | [v]=>v
 | vs=> .tuple vs.toArray
def u4 (a:Act):ResultVar->Sem Value
 | .tmp t=>pure (a.tmps.getD t undef)
 | .cell x t=>do loadVar t (<-asAddr (a.tmps.getD x undef))
theorem AJ {P n a w}(O:EOk n E a):∀{rs:List ResultVar} {vs:List Value},fY E rs=some vs->(rs.mapM (u4 a)).run P w=Result.ok vs w
 | [],vs,h=>by injection h with h;grind[Sem.run_pure]
 | ResultVar.tmp t::rs,vs,h=>by
  unfold fY at h;split at h
  ·rename_i v hv;split at h
   ·rename_i R J;injection h with h;subst h;have h1:=O.look (cT a) hv;simp[List.mapM_cons,AJ O J,u4,kaG,h1]
   ·cases h
  ·cases h
 | ResultVar.cell _ _::_,vs,h=>by cases h
def pa fn a:results fn a.tmps=(do
  let vs <-fn.results.mapM (u4 a)
  pure (if h:vs.size=1 then vs[0] else .tuple vs)):=by
 unfold results;congr 1
variable {vs:List Value}
def bf {a:Act}{w:World}(hr:fY E c.fn.results.toList=some vs)(J:EOk c.n E a)(S:Sat c.w0 w L)(O:c.R (tn vs) L)(hds:c.n.ds=[]:=by rfl):
  (a.defers=[]/\∃v,(results c.fn a.tmps).run c.P w= .ok v w/\∃L,Sat c.w0 w L/\c.R v L)\/∃D w',a.defers=[markD D]/\(Instr.takeDeferred D).run c.P w= .ok [] w'/\∃v,(results c.fn a.tmps).run c.P w'= .ok v w'/\∃L,Sat c.w0 w' L/\c.R v L:=by
 refine .inl ⟨J.defers.trans hds,tn vs,?_,L,S,O⟩;have h1:=AJ (P:=c.P) (w:=w) J hr;rw[pa,kaS];simp only[Sem.run_bind,Sem.run_map];rw[h1];simp only[Result.andThen_ok,Sem.run_pure];congr 1
 match vs with
 | []=>simp[tn]
 | [v]=>simp[tn]
 | v::u::vs=>simp[tn]
def Vk (hr:fY E c.fn.results.toList=some vs)(O:c.R (tn vs) L)(hds:c.n.ds=[]:=by rfl):G c [] E L:=
 λa w J S=>bf (hds:=hds) hr J S O
def R1 (val:Value)(fE:List ag):Value->List ag->Prop:=λv L'=>v=val/\L'=fE
def am {val:Value}{fE:List ag}(O:c.R=R1 val fE)(hr:fY E c.fn.results.toList=some vs)[S:Sub L fE](hv:tn vs=val)(hds:c.n.ds=[]:=by rfl):G c (.code .ret::K) E L:=
 λa w J V=>wp_ret (cb (bf (hds:=hds) hr J (S.sat V) (by rw[O];exact ⟨hv,rfl⟩)))
def gh {val:Value}{fE:List ag}(O:c.R=R1 val fE)(hr:fY E c.fn.results.toList=some vs)[S:Sub L fE](hv:tn vs=val)(hds:c.n.ds=[]:=by rfl):G c [] E L:=
 λa w J V=>bf (hds:=hds) hr J (S.sat V) (by rw[O];exact ⟨hv,rfl⟩)
def jf {L2}[S:Sub L L2](h:G c K E L2):G c K E L:=λa w J O=>h a w J (S.sat O)
def Cc {φ:Prop}(R:∀w,Sat c.w0 w L->φ)(h:φ->G c K E L):G c K E L:=λa w O J=>h (R w J) a w O J
variable {α:Type}
def Sj (c:Cx)(φ:α->Prop)(Ei:α->di)(Li:α->List ag)(μ:α->Nat)(m:Nat)(a:Act)(w:World):Prop:=∃z,φ z/\μ z<m/\EOk c.n (Ei z) a/\Sat c.w0 w (Li z)
def aL (φ:α->Prop)(O:α->di)(R:α->List ag)(μ:α->Nat)(z0:α)(h0:φ z0)(ts:List Nat){X:di}(hk:keep E ts=some X)[SL:Sub L (R z0)](J:∀z,φ z->G c (.code x:: .fin (Sj c φ O R μ (μ z))::K) (O z) (R z))(he:X=O z0:=by exact rfl):G c (.code (.loop x)::K) E L:=λa w S V=>by
 refine wp_loop_ghost (λm a w=>∃z,φ z/\m=μ z/\EOk c.n (O z) a/\Sat c.w0 w (R z)) (μ z0) ⟨z0,h0,rfl,he ▸ S.keep hk,SL.sat V⟩ ?_;rintro m a w ⟨z,hz,rfl,S,V⟩;refine wp_mono (J z hz a w S V) λe a w hq=>?_;cases e with
 | normal=>obtain ⟨Y,h1,Z,h3,h4⟩:=hq;exact ⟨μ Y,Z,Y,h1,rfl,h3,h4⟩
 | _=>exact hq
def an {φ:α->Prop}{O:α->di}{R:α->List ag}{μ:α->Nat}{m:Nat}(z:α)(h0:φ z)(h1:μ z<m)(X:List Nat){J:di}(hk:keep E X=some J)[SL:Sub L (R z)](he:J=O z:=by exact rfl):
 G c (.fin (Sj c φ O R μ m)::K) E L:=λa w S V=>⟨z,h0,h1,he ▸ S.keep hk,SL.sat V⟩
def Cut (c:Cx)(φ:α->Prop)(Ei:α->di)(Li:α->List ag)(a:Act)(w:World):Prop:=∃z,φ z/\EOk c.n (Ei z) a/\Sat c.w0 w (Li z)
def lV φ R(S:α->List ag)(h1:G c (.code x:: .fin (Cut c φ R S)::K) E L)(V:∀z,φ z->G c K (R z) (S z)):G c (.code x::K) E L:=λa w J O=>by
 refine wp_mono (h1 a w J O) λe a w hq=>?_;cases e with
 | normal=>obtain ⟨z,X,J,O⟩:=hq;exact V z X a w J O
 | _=>exact hq
def cJ {φ:α->Prop}{O:α->di}{R:α->List ag}(z:α)(h0:φ z)(X:List Nat){J:di}(hk:keep E X=some J)[SL:Sub L (R z)](he:J=O z:=by exact rfl):
 G c (.fin (Cut c φ O R)::K) E L:=λa w S V=>⟨z,h0,he ▸ S.keep hk,SL.sat V⟩
structure OpV (c:Cx) (g:Option (Nat×Bool)) (E:di) (L:List ag) (o:Oper) (v:Value):Prop where
 out:∀a w,EOk c.n E a->gd g a->Sat c.w0 w L->(execOp a.eval o).run c.P w= .ok (.value v) w
structure OpL (c:Cx) (g:Option (Nat×Bool)) (E:di) (L:List ag) (o:Oper) (N:Value->List ag->Prop):Prop where
 out:∀a w,EOk c.n E a->gd g a->Sat c.w0 w L->∀nx Q,(∀v w' L',Sat c.w0 w' L'->N v L'->nx (a.put o.dst v) w')->o.wp c.P a w nx Q
variable {l:List Oper}
def al {id}(h:G c (.ops l l::K) E L):G c (.code (.region id l.toArray false)::K) E L:=λa w J O=>wp_region_lit (h a w J O)
variable {all:List Oper}
def ab (h:G c K E L):G c (.ops all []::K) E L:=λa w J O=>h a w J O
def qP {a w g o nx}{Q:fE}(h:OpV c g E L o v)(J:EOk c.n E a)(R:gd g a)(O:Sat c.w0 w L)(hn:nx (a.put o.dst v) w):o.wp c.P a w nx Q:=by
 unfold Oper.wp;rw[h.out a w J R O];exact hn
variable {rest:List Oper}{d:Nat}{op:Op}{ty:TypeId}{pos:String}{af:Array Edge}
def S9 (h:OpV c none E L ⟨some d,op,ty,pos,af,none⟩ v)(hd:mb c.n d E=true)(k:G c (.ops all rest::K) ((d,none,v)::E) L):
  G c (.ops all (⟨some d,op,ty,pos,af,none⟩::rest)::K) E L:=λa w J O=>by
 refine wpList_plain W λnx hk=>qP h J (cT a) O (hk _ _ (k _ w (J.put1 hd) O))
variable {N:Value->List ag->Prop}
def Xc (h:OpL c none E L ⟨some d,op,ty,pos,af,none⟩ N)(hd:mb c.n d E=true)(k:∀v L',N v L'->G c (.ops all rest::K) ((d,none,v)::E) L'):
  G c (.ops all (⟨some d,op,ty,pos,af,none⟩::rest)::K) E L:=λa w O S=>by
 refine wpList_plain W λnx hk=>h.out a w O (cT a) S nx _ λv w' L' J R=>hk _ _ (k v L' R _ w' (O.put1 hd) J)
def io (h:OpL c none E L ⟨none,op,ty,pos,af,none⟩ N)(k:∀v L',N v L'->G c (.ops all rest::K) E L'):
  G c (.ops all (⟨none,op,ty,pos,af,none⟩::rest)::K) E L:=λa w O S=>by
 refine wpList_plain W λnx hk=>h.out a w O (cT a) S nx _ λv w' L' J R=>hk _ _ (k v L' R _ w' O J)
variable {i:Nat}
def jz {a}{s:Nat}(hi:(all[i]?).bind (·.dst)=some s)(J:EOk c.n E a)(hs:look none E s=some (.bool b)):yielded all.toArray a.tmps i=some b:=by
 have h1:=J.look (cT a) hs;simp[yielded,hi,h1]
theorem Gv {s:Nat}{J:Bool}[hi:DS all i s][hs:LK none E s (.bool b)](h:b=J->OpV c (some (s,J)) E L ⟨some d,op,ty,pos,af,some (i,J)⟩ v)(k:G c (.ops all rest::K) ((d,some (s,J),v)::E) L)(hd:mb c.n d E=true:=by exact rfl)(hne:Nat.beq s d=false:=by exact rfl):G c (.ops all (⟨some d,op,ty,pos,af,some (i,J)⟩::rest)::K) E L:=have hi:=hi.p;have hs:=hs.p;λa w O V=>by
 have hy:=jz (a:=a) hi O hs;have Y:=O.look (cT a) hs;refine wpList_step λnx hk=>?_;have R:∀j S,some (s,J)=some (j,S)->j≠d:=λj S e=>(by grind[Nat.ne_of_beq_eq_false]);by_cases hw:b=J
 ·rw[kaT (by grind[Region.wanted])];have X:gd (some (s,J)) a:=λj S e=>(by grind);exact qP (h hw) O X V<|hk _ _<|k _ w (O.put hd R λ_=>rfl) V
 ·rw[kaU (by grind[Region.wanted])];refine hk _ _<|k _ w (O.put hd R λX=>?_) V;have:=X s J rfl
  grind
variable {Lf:List ag}
def cn {id:Nat}(pl:List (Nat×Bool))(h:G c (.plan l (λw=>Sat c.w0 w Lf) pl::K) E L)(hm:c.P.follows .mixedOrders=true:=by kernel_rfl)(hs:Region.noSelect l.toArray=true:=by kernel_rfl)(hl:pl.length=l.length:=by exact rfl)(hp:im l.toArray pl (Array.replicate l.length false)=true:=by kernel_rfl):G c (.code (.region id l.toArray true)::K) E L:=λa w J O=>
 xV (l:=pl) hm hs (by simpa using hl) (λR a d v w hq=>absurd hq jo) (by simpa using hp) (h a _ J (O.drew _))
def dy {id:Nat}(pl:List (Nat×Bool))(h:G c (.plan l (λw=>Sat c.w0 w L) pl::K) E L)(hm:c.P.follows .mixedOrders=true:=by kernel_rfl)(hs:Region.noSelect l.toArray=true:=by kernel_rfl)(hl:pl.length=l.length:=by exact rfl)(hp:im l.toArray pl (Array.replicate l.length false)=true:=by kernel_rfl):G c (.code (.region id l.toArray true)::K) E L:=cn (Lf:=L) pl (hm:=hm) (hs:=hs) (hl:=hl) (hp:=hp) h
def aN [O:Sub L Lf](h:G c K E L):G c (.plan all (λw=>Sat c.w0 w Lf) []::K) E L:=λa w R J=>⟨O.sat J,h a w R J⟩
variable {pl:List (Nat×Bool)}
def WH (hi:all[i]? =some ⟨some d,op,ty,pos,af,none⟩)[S:Sub L Lf](h:OpV c none E Lf ⟨some d,op,ty,pos,af,none⟩ v)(hd:mb c.n d E=true)(k:G c (.plan all (λw=>Sat c.w0 w Lf) pl::K) ((d,none,v)::E) L):G c (.plan all (λw=>Sat c.w0 w Lf) ((i,false)::pl)::K) E L:=λa w O R=>
 ⟨S.sat R,_,v,by simpa using hi, .inl ⟨by simp[Region.wanted],λw' J=> .inl (h.out a w' O (cT a) J)⟩,k _ w (O.put1 hd) R⟩
theorem sv {j s:Nat}{J:Bool}(hi:all[i]? =some ⟨some d,op,ty,pos,af,some (j,J)⟩)[hj:DS all j s][hs:LK none E s (.bool b)][Z:Sub L Lf](h:b=J->OpV c (some (s,J)) E Lf ⟨some d,op,ty,pos,af,some (j,J)⟩ v)(k:G c (.plan all (λw=>Sat c.w0 w Lf) pl::K) ((d,some (s,J),v)::E) L)(hd:mb c.n d E=true:=by exact rfl)(hne:Nat.beq s d=false:=by exact rfl):G c (.plan all (λw=>Sat c.w0 w Lf) ((i,false)::pl)::K) E L:=have hj:=hj.p;have hs:=hs.p;λa w O S=>by
 have hy:=jz (a:=a) hj O hs;have hb:=O.look (cT a) hs;have R:∀j V,some (s,J)=some (j,V)->j≠d:=λj V e=>(by grind[Nat.ne_of_beq_eq_false]);by_cases hw:b=J
 ·have X:gd (some (s,J)) a:=λj V e=>(by grind);exact ⟨Z.sat S,_,v,by simpa using hi, .inl ⟨by grind[Region.wanted],λw' Y=> .inl ((h hw).out a w' O X Y)⟩,k _ w (O.put hd R λ_=>rfl) S⟩
 ·refine ⟨Z.sat S,_,undef,by simpa using hi, .inr ⟨by grind[Region.wanted],rfl⟩,k _ w (O.put hd R λX=>?_) S⟩;have:=X s J rfl
  grind
def cQ (hi:all[i]? =some ⟨some d,op,ty,pos,af,none⟩)[S:Sub L Lf](h:OpL c none E L ⟨some d,op,ty,pos,af,none⟩ N)(k:∀v L',N v L'->G c (.plan all (λw=>Sat c.w0 w Lf) pl::K) ((d,none,v)::E) L')(hd:mb c.n d E=true:=by exact rfl):G c (.plan all (λw=>Sat c.w0 w Lf) ((i,true)::pl)::K) E L:=λa w O R=>by
 refine ⟨S.sat R,?_⟩;unfold wpOp;simp only[kaV,hi];rw[kaT (by simp[Region.wanted])];exact .inl<|h.out a w O (cT a) R _ _ λv w' L' J V=>k v L' V _ w' (O.put1 hd) J
def rE (hi:all[i]? =some ⟨none,op,ty,pos,af,none⟩)[S:Sub L Lf](h:OpL c none E L ⟨none,op,ty,pos,af,none⟩ N)(k:∀v L',N v L'->G c (.plan all (λw=>Sat c.w0 w Lf) pl::K) E L'):G c (.plan all (λw=>Sat c.w0 w Lf) ((i,true)::pl)::K) E L:=λa w O R=>by
 refine ⟨S.sat R,?_⟩;unfold wpOp;simp only[kaV,hi];rw[kaT (by simp[Region.wanted])];exact .inl<|h.out a w O (cT a) R _ _ λv w' L' J V=>k v L' V _ w' O J
variable {args:List Value}{R:Value->List ag->Prop}
theorem Ct.of {P f fn cd}(V:P.funcs[f]? =some fn)(S:fn.body=some cd)n(hn:fn.ntmps=n)(X:args.length<=n)(h:∀w0,G ⟨P,fn,w0,R,⟨n,[]⟩⟩ [.code cd] (oa 0 args) L):Ct P f args L R:=λw0 w O=>by
 refine callsIn_wide.1<|callsIn_of_wp_marks (n:=0) V S trivial<|wpIn_wide.2<|wp_mono (h w0 _ w ?_ O) λe a w hq=>?_;rotate_left
 ·cases e with
  | normal | ret=>
   rcases hq with ⟨hd,v,hr,J⟩ | ⟨D,w',hd,ht,v,hr,J⟩
   ·show LeavesInM _ _ _ _ _ _ _ _ _;rw[hd];exact ⟨v,hr,J⟩
   ·show LeavesInM _ _ _ _ _ _ _ _ _;rw[hd];exact ⟨(λh=>by cases h), .inl ⟨D,w',rfl,ht,v,hr,J⟩⟩
  | panic Y=>exact absurd hq<|λh=>h.elim (λh=>h.2) (λh=>h)
  | exit id=>exact hq.elim (λh=>h.elim)<|λh=>h.elim
  | goto l=>exact hq.elim (λh=>h.elim)<|λh=>h.elim
  | outgrown=>exact hq.elim (λh=>h.elim)<|λh=>h.elim
 refine ⟨rfl,by simp[hn];omega,?_⟩;have key:∀(l:List Value) (i:Nat) (t:Nat) (g:Option (Nat×Bool)) (v:Value),Gn (oa i l) t=some (g,v)->i<=t/\l[t - i]? =some v:=by
  intro l
  induction l with
  | nil=>intro i t g v h;cases h
  | cons u l Z=>
   intro i t g v h;simp only[oa] at h;unfold Gn at h;split at h
   ·simp_all
   grind
 grind
theorem Ct.mono {P f J}(h:Ct P f args L R)(hr:∀v L',R v L'->J v L'):Ct P f args L J:=λw0 w O=>
 (h w0 w O).mono λe w' he=>by
  grind
end Go.Sl
namespace Go.Sl
abbrev I (n:Int):Value:= .int .i64 n
abbrev By (n:Int):Value:= .int .u8 n
abbrev Bo (b:Bool):Value:= .bool b
abbrev ptr (b o:Nat):Value:= .pointer (some ⟨b,o,none⟩)
abbrev ay (l:List UInt8):Value:= .string ⟨⟨l⟩⟩
def Ef {α:Type}[BEq α][LawfulBEq α][DecidableEq α](a b:α):(a==b)=decide (a=b):=by grind
theorem cK {n}(h: -9223372036854775808<=n/\n<=9223372036854775807):IntKind.i64.wrap n=n:=IntWalk.i64_in n h
def w8 {n}(h:0<=n/\n<=255):IntKind.u8.wrap n=n:=IntWalk.u8_in n h
variable {c:Cx}{g gu:Option (Nat×Bool)}{E:di}{L:List ag}{d:Option Tmp}{ty:TypeId}{pos:String}{af:Array Edge}{x:Operand}{v:Value}
def ao [hx:EV g E x v]:OpV c g E L ⟨d, .move x,ty,pos,af,gu⟩ v:=have hx:=hx.p;.mk λa w J O R=>by
 simp[execOp,J.ev O hx]
def ax [hx:EV g E x v]:OpV c g E L ⟨d, .assign x,ty,pos,af,gu⟩ v:=have hx:=hx.p;.mk λa w J O R=>by
 simp[execOp,J.ev O hx]
variable {K:List KI}{d:Tmp}{all:List Oper}
def C {rest:List Oper}[h:EV none E x v](k:G c (.ops all rest::K) ((d,none,v)::E) L)(h0:mb c.n d E=true:=by exact rfl):G c (.ops all (⟨some d, .move x,ty,pos,af,none⟩::rest)::K) E L:=S9 ao h0 k
def gA {rest:List Oper}[h:EV none E x v](k:G c (.ops all rest::K) ((d,none,v)::E) L)(h0:mb c.n d E=true:=by exact rfl):G c (.ops all (⟨some d, .assign x,ty,pos,af,none⟩::rest)::K) E L:=S9 ax h0 k
def dM {Lf:List ag}{pl:List (Nat×Bool)}{i:Nat}(hi:all[i]? =some ⟨some d, .move x,ty,pos,af,none⟩)[J:Sub L Lf][h:EV none E x v](k:G c (.plan all (λw=>Sat c.w0 w Lf) pl::K) ((d,none,v)::E) L)(hd:mb c.n d E=true:=by exact rfl):G c (.plan all (λw=>Sat c.w0 w Lf) ((i,false)::pl)::K) E L:=have h:=h.p;WH hi (ao (hx:=⟨h⟩)) hd k
def T [h:EV none E x v](k:G c K ((d,none,v)::E) L)(h0:mb c.n d E=true:=by exact rfl):G c (.ops all (⟨some d, .assign x,ty,pos,af,none⟩:: [])::K) E L:=gA (ab k) (h0:=h0)
def A {id l y}(h:G c (.ops l l:: .code y::K) E L):G c (.code (.seq (.region id l.toArray false) y)::K) E L:=ac (al h)
variable {d:Option Tmp}{y:Operand}{a:Int}
theorem cv {s b R}[O:LK g E s (.bool b)][hy:EV (some (s,false)) E y (.bool R)]:OpV c g E L ⟨d, .pick (.tmp s) (.const (.bool true)) y,ty,pos,af,gu⟩ (.bool (b || R)):=have O:=O.p;have hy:=hy.p;.mk λa w S X Z=>by
 have h1:=S.look X O;have V:a.eval (.tmp s)= .bool b:=(by simp[Act.eval,kaG,h1]);simp only[execOp,V,asBool];cases b with
 | true=>simp[Act.eval]
 | false=>
  have J:gd (some (s,false)) a:=λj Y e=>(by grind);simp[S.ev J hy]
theorem dc {s b R}[O:LK g E s (.bool b)][hy:EV (some (s,true)) E y (.bool R)]:OpV c g E L ⟨d, .pick (.tmp s) y (.const (.bool false)),ty,pos,af,gu⟩ (.bool (b && R)):=have O:=O.p;have hy:=hy.p;.mk λa w S X Z=>by
 have h1:=S.look X O;have V:a.eval (.tmp s)= .bool b:=(by simp[Act.eval,kaG,h1]);simp only[execOp,V,asBool];cases b with
 | false=>simp[Act.eval]
 | true=>
  have J:gd (some (s,true)) a:=λj Y e=>(by grind);simp[S.ev J hy]
variable {t yt:TypeId}{k:IntKind}{b r:Int}
def bx [hx:EV g E x (.int k a)][hy:EV g E y (.int k b)](hr:k.wrap (a+b)=r):OpV c g E L ⟨d, .binOp .add t x y yt,ty,pos,af,gu⟩ (.int k r):=have hx:=hx.p;have hy:=hy.p;.mk λ_ w J O R=>by
 simp[execOp,J.ev O hx,J.ev O hy,eqGuard,binOp,Op.intArith,hr]
def eG [hx:EV g E x (.int k a)][hy:EV g E y (.int k b)](hr:k.wrap (a - b)=r):OpV c g E L ⟨d, .binOp .sub t x y yt,ty,pos,af,gu⟩ (.int k r):=have hx:=hx.p;have hy:=hy.p;.mk λ_ w J O R=>by
 simp[execOp,J.ev O hx,J.ev O hy,eqGuard,binOp,Op.intArith,hr]
def lW [hx:EV g E x (.int k a)][hy:EV g E y (.int k b)](hr:k.wrap (a*b)=r):OpV c g E L ⟨d, .binOp .mul t x y yt,ty,pos,af,gu⟩ (.int k r):=have hx:=hx.p;have hy:=hy.p;.mk λ_ w J O R=>by
 simp[execOp,J.ev O hx,J.ev O hy,eqGuard,binOp,Op.intArith,hr]
def qd [hx:EV g E x (.int k a)][hy:EV g E y (.int k b)](hr:k.wrap (a.tdiv b)=r)(h0:b≠0:=by decide):OpV c g E L ⟨d, .binOp .quo t x y yt,ty,pos,af,gu⟩ (.int k r):=have hx:=hx.p;have hy:=hy.p;.mk λ_ w J O R=>by
 simp[execOp,J.ev O hx,J.ev O hy,eqGuard,binOp,Op.intDiv,hr,h0]
def tq [hx:EV g E x (.int k a)][hy:EV g E y (.int k b)](hr:a.tmod b=r)(h0:b≠0:=by decide):OpV c g E L ⟨d, .binOp .rem t x y yt,ty,pos,af,gu⟩ (.int k r):=have hx:=hx.p;have hy:=hy.p;.mk λ_ w J O R=>by
 simp[execOp,J.ev O hx,J.ev O hy,eqGuard,binOp,Op.intDiv,hr,h0]
def Ta {op}(ho:op= .and\/op= .or\/op= .xor\/op= .andNot)(hx:ev g E x=some (.int k a))(hy:ev g E y=some (.int k b))(hr:∀P w,(Op.intBits op k a b).run P w= .ok v w):OpV c g E L ⟨d, .binOp op t x y yt,ty,pos,af,gu⟩ v:= .mk λ_ w J O R=>by
 rcases ho with rfl | rfl | rfl | rfl <;> simp[execOp,J.ev O hx,J.ev O hy,eqGuard,binOp,hr]
variable {k2:IntKind}
def LP (hx:ev g E x=some (.int k a))(hy:ev g E y=some (.int k2 b))(h0:¬b<0)(hr:k.wrap (a*2 ^ (min b.toNat k.bits))=r):OpV c g E L ⟨d, .binOp .shl t x y yt,ty,pos,af,gu⟩ (.int k r):= .mk λ_ w J O R=>by
 simp[execOp,J.ev O hx,J.ev O hy,eqGuard,binOp,Op.shift,hr,h0]
def lX [hx:EV g E x (.int k a)][hy:EV g E y (.int k2 b)](hr:a.fdiv (2 ^ (min b.toNat k.bits))=r)(h0:¬b<0:=by decide):OpV c g E L ⟨d, .binOp .shr t x y yt,ty,pos,af,gu⟩ (.int k r):=have hx:=hx.p;have hy:=hy.p;.mk λ_ w J O R=>by
 simp[execOp,J.ev O hx,J.ev O hy,eqGuard,binOp,Op.shift,hr,h0]
def aG [hx:EV g E x (.int k a)][hy:EV g E y (.int k b)]:OpV c g E L ⟨d, .binOp .lss t x y yt,ty,pos,af,gu⟩ (.bool (decide (a<b))):=have hx:=hx.p;have hy:=hy.p;.mk λ_ w J O R=>by
 simp[execOp,J.ev O hx,J.ev O hy,eqGuard,binOp,Op.intCmp]
def qe [hx:EV g E x (.int k a)][hy:EV g E y (.int k b)]:OpV c g E L ⟨d, .binOp .leq t x y yt,ty,pos,af,gu⟩ (.bool (decide (a<=b))):=have hx:=hx.p;have hy:=hy.p;.mk λ_ w J O R=>by
 simp[execOp,J.ev O hx,J.ev O hy,eqGuard,binOp,Op.intCmp]
def aQ [hx:EV g E x (.int k a)][hy:EV g E y (.int k b)]:OpV c g E L ⟨d, .binOp .gtr t x y yt,ty,pos,af,gu⟩ (.bool (decide (b<a))):=have hx:=hx.p;have hy:=hy.p;.mk λ_ w J O R=>by
 simp[execOp,J.ev O hx,J.ev O hy,eqGuard,binOp,Op.intCmp]
def kp [hx:EV g E x (.int k a)][hy:EV g E y (.int k b)]:OpV c g E L ⟨d, .binOp .geq t x y yt,ty,pos,af,gu⟩ (.bool (decide (b<=a))):=have hx:=hx.p;have hy:=hy.p;.mk λ_ w J O R=>by
 simp[execOp,J.ev O hx,J.ev O hy,eqGuard,binOp,Op.intCmp]
def bE [hx:EV g E x (.int k a)][hy:EV g E y (.int k b)]:OpV c g E L ⟨d, .binOp .eql t x y yt,ty,pos,af,gu⟩ (.bool (decide (a=b))):=have hx:=hx.p;have hy:=hy.p;.mk λ_ w J O R=>by
 simp[execOp,J.ev O hx,J.ev O hy,eqGuard,binOp,Op.intCmp,Ef]
def iE [hx:EV g E x (.int k a)][hy:EV g E y (.int k b)]:OpV c g E L ⟨d, .binOp .neq t x y yt,ty,pos,af,gu⟩ (.bool (!decide (a=b))):=have hx:=hx.p;have hy:=hy.p;.mk λ_ w J O R=>by
 simp[execOp,J.ev O hx,J.ev O hy,eqGuard,binOp,Op.intCmp,bne,Ef]
def J6 p q:(⟨⟨p⟩⟩:ByteArray)++⟨⟨q⟩⟩=⟨⟨p++q⟩⟩:=ByteArray.ext (by simp)
variable {p q:List UInt8}
theorem cf [hx:EV g E x (ay p)][hy:EV g E y (ay q)](h:p.length+q.length<=9223372036854775807):OpV c g E L ⟨d, .binOp .add t x y yt,ty,pos,af,gu⟩ (ay (p++q)):=have hx:=hx.p;have hy:=hy.p;.mk λ_ w J O R=>by
 have h1:¬((((⟨⟨p⟩⟩:ByteArray).size+(⟨⟨q⟩⟩:ByteArray).size:Nat):Int) > IntKind.i64.max):=by
  grind[ByteArray.size,IntKind.max,IntKind.bits]
 simp only[execOp,J.ev O hx,J.ev O hy,eqGuard,binOp,Op.stringOp]
 simp_all[J6]
def bV [hx:EV g E x (ay p)][hy:EV g E y (ay q)]:OpV c g E L ⟨d, .binOp .eql t x y yt,ty,pos,af,gu⟩ (.bool (decide (p=q))):=have hx:=hx.p;have hy:=hy.p;.mk λ_ w J O R=>by
 simp[execOp,J.ev O hx,J.ev O hy,eqGuard,binOp,Op.stringOp,Ef]
def lN [hx:EV g E x (ay p)][hy:EV g E y (ay q)]:OpV c g E L ⟨d, .binOp .neq t x y yt,ty,pos,af,gu⟩ (.bool (!decide (p=q))):=have hx:=hx.p;have hy:=hy.p;.mk λ_ w J O R=>by
 simp[execOp,J.ev O hx,J.ev O hy,eqGuard,binOp,Op.stringOp,Ef]
def LQ (hx:ev g E x=some (ay p))(hy:ev g E y=some (ay q)):OpV c g E L ⟨d, .binOp .lss t x y yt,ty,pos,af,gu⟩ (.bool (Op.bytesLess p q)):= .mk λ_ w J O R=>by
 simp[execOp,J.ev O hx,J.ev O hy,eqGuard,binOp,Op.stringOp]
def LS (hx:ev g E x=some (ay p))(hy:ev g E y=some (ay q)):OpV c g E L ⟨d, .binOp .leq t x y yt,ty,pos,af,gu⟩ (.bool (Op.bytesLess p q || decide (p=q))):= .mk λ_ w J O R=>by
 simp[execOp,J.ev O hx,J.ev O hy,eqGuard,binOp,Op.stringOp,Ef]
def cS {b}[hx:EV g E x (.bool b)]:OpV c g E L ⟨d, .unOp .not t x,ty,pos,af,gu⟩ (.bool (!b)):=have hx:=hx.p;.mk λ_ w J O R=>by
 simp[execOp,J.ev O hx,Op.unary]
variable {u:TypeId}
def cG {ds}(hs:c.P.underlying t=some ds)(hd:c.P.underlying u=some (.int k))[hx:EV g E x (.int k2 a)](hr:k.wrap a=r):OpV c g E L ⟨d, .convert t u x,ty,pos,af,gu⟩ (.int k r):=have hx:=hx.p;.mk λ_ w J O R=>by
 simp[execOp,J.ev O hx,convert,underlying,program,Sem.run,hs,hd,Conv.intToInt,hr]
def ba {ds:TypeDesc}(hs:c.P.underlying t=some ds)[hx:EV g E x v](hi:(match ds with | .interface _=>false | _=>true)=true:=by exact rfl):OpV c g E L ⟨d, .makeInterface t x,ty,pos,af,gu⟩ (.iface t v):=have hx:=hx.p;.mk λ_ w J O R=>by
 simp only[execOp,J.ev O hx,Instr.makeInterface,underlying,program,Sem.run_bind,Sem.run,hs,Result.andThen_ok,Sem.run_pure];cases ds <;> first | rfl | (cases hi)
def aB {vs i}[hx:EV g E x (.tuple vs)][hv:NT vs i v]:OpV c g E L ⟨d, .extract x i,ty,pos,af,gu⟩ v:=have hx:=hx.p;have hv:=hv.p;.mk λ_ w J O R=>by
 simp[execOp,J.ev O hx,Instr.extract,hv]
def aa {p}[hx:EV g E x (.pointer (some p))]:OpV c g E L ⟨d, .nilCheck x,ty,pos,af,gu⟩ (.pointer (some p)):=have hx:=hx.p;.mk λ_ w J O R=>by
 simp[execOp,J.ev O hx]
def fV {fn S V vs R}[hx:EVS g E S vs][hy:EVS g E V R]:OpV c g E L ⟨d, .makeFunc fn S.toArray V.toArray,ty,pos,af,gu⟩ (.func fn vs.toArray R.toArray):=have hx:=hx.p;have hy:=hy.p;.mk λ_ w J O X=>by
 simp[execOp,J.evs O hx,J.evs O hy,Instr.makeFunc]
end Go.Sl
namespace Go.Sl
def sl (s:Option Addr)(n cap:Nat):Value:= .slice s n cap
def Am (s:Option Addr)(i:Nat):Value:= .pointer (s.map λp=>p.add i)
def bK:Obj->Nat->Option Value
 | .cells cs _ _,i=>cs[i]?
 | _,_=>none
class OC (b:Obj)(o:Nat)(v:outParam Value):Prop where p:bK b o=some v
instance {l:List Value}{t:TypeId}{f:Nat×Nat}{i:Nat}{v:Value}[h:NT l i v]:OC (.cells l.toArray t f) i v:=⟨by simpa [bK] using h.p⟩
def Rows (o:Obj)(off sz:Nat)(rows:List (List Value)):Prop:=∀j row,rows[j]? =some row->∀f v,row[f]? =some v->bK o (off+(j*sz+f))=some v
def roL (sz:Nat)(s:Option Addr)(rows:List (List Value)):ag:=λm=>rows=[]\/∃b off o,s=some ⟨b,off,none⟩/\m b=some (o,true)/\Rows o off sz rows
def be (ec sz:Nat)(s:Option Addr)(cap:Nat)(rows:List (List Value)):ag:=λm=>(s=none/\rows=[]/\cap=0)\/
 ∃b cs,s=some ⟨b,0,none⟩/\m b=some (.cells cs ec (0,0),false)/\cs.size=cap*sz/\rows.length<=cap/\(∀row∈rows,row.length=sz)/\Rows (.cells cs ec (0,0)) 0 sz rows
theorem Pers.roL sz s rows:Pers (roL sz s rows):=λm h=>by
 rcases h with rfl | ⟨b,off,o,rfl,hm,hr⟩
 ·exact ⟨λ_=>none,(λb x hx=>nomatch hx),(λb x hx=>nomatch hx), .inl rfl⟩
 ·refine ⟨Res.one b (o,true),λc x hx=>?_,λc x hx=>?_, .inr ⟨b,off,o,rfl,Res.one_self,hr⟩⟩
  ·grind[Res.one_eq]
  grind[Res.one_eq]
variable {b i:Nat}{v:Value}
theorem iu {w:World}{o}(h:w.heap[b]? =some o)(J:bK o i=some v):w.cell? ⟨b,i,none⟩=some v:=by
 unfold World.cell?;simp only[h];cases o <;> simp[bK] at J ⊢;exact J
class SlR (L:List ag) (s:Option Addr) (sz:outParam Nat) (rows:outParam (List (List Value))):Prop where
 out:∀w0 w,Sat w0 w L->rows=[]\/∃b off o,s=some ⟨b,off,none⟩/\w.heap[b]? =some o/\Rows o off sz rows
instance (priority:=high) SlR.ro {sz:Nat}{s:Option Addr}{rows:List (List Value)}{L:List ag}:SlR (roL sz s rows::L) s sz rows:=⟨λw0 w h=>by
 obtain ⟨_,_,_,_,f,hf,_⟩:=h;have:=hf 0 _ rfl;rcases this.1 with h | ⟨b,off,o,h1,h2,h3⟩
 ·exact .inl h
 ·exact .inr ⟨b,off,o,h1,this.2 b _ h2,h3⟩⟩
instance (priority:=high) SlR.ow {ec sz cap:Nat}{s:Option Addr}{rows:List (List Value)}{L:List ag}:SlR (be ec sz s cap rows::L) s sz rows:=⟨λw0 w h=>by
 obtain ⟨_,_,_,_,f,hf,_⟩:=h;have:=hf 0 _ rfl;rcases this.1 with ⟨_,h,_⟩ | ⟨b,cs,h1,h2,h3,h4,h5,h6⟩
 ·exact .inl h
 ·exact .inr ⟨b,0,_,h1,this.2 b _ h2,h6⟩⟩
instance (priority:=low) SlR.tail {cB:ag}{sz:Nat}{s:Option Addr}{rows:List (List Value)}{L:List ag}[h:SlR L s sz rows]:SlR (cB::L) s sz rows:=⟨λw0 w hS=>h.out w0 w hS.tail⟩
theorem gi b o n:(⟨b,o,none⟩:Addr).add n=⟨b,o+n,none⟩:=by
 grind[Addr.add]
variable {c:Cx}{g gu:Option (Nat×Bool)}{E:di}{L:List ag}{d:Option Tmp}{e t ty:TypeId}{pos:String}{af:Array Edge}{x:Operand}{cap n:Nat}{s:Option Addr}
def aP (R:c.P.underlying t=some (.slice e))[hx:EV g E x (.slice s n cap)]:OpV c g E L ⟨d, .call {callee:= .builtin .len,args:=#[x],argTypes:=#[t]},ty,pos,af,gu⟩ (I n):=have hx:=hx.p;.mk λa w J O S=>by
 simp[execOp,resolve,invoke,builtin,Builtin.len_,underlying,program,Sem.run,R,J.ev O hx,goInt]
variable {p:List UInt8}
def cD (R:c.P.underlying t=some .string)[hx:EV g E x (ay p)]:OpV c g E L ⟨d, .call {callee:= .builtin .len,args:=#[x],argTypes:=#[t]},ty,pos,af,gu⟩ (I p.length):=have hx:=hx.p;.mk λa w J O S=>by
 have hs:(⟨⟨p⟩⟩:ByteArray).size=p.length:=rfl;simp only[execOp,resolve,invoke,builtin,Builtin.len_];simp[underlying,program,Sem.run,R,J.ev O hx,goInt,hs]
variable {o sz:Nat}{J:Array Field}{f:Field}
def aw (off:Nat)(V:c.P.underlying t=some (.struct J))(R:J[i]? =some f)(X:∀w,(sizeOf f.type).run c.P w= .ok sz w)[hx:EV g E x (ptr b o)](ho:f.offset=off:=by exact rfl)(hn:sz≠0:=by decide):
  OpV c g E L ⟨d, .fieldAddr t x i,ty,pos,af,gu⟩ (ptr b (o+off)):=have hx:=hx.p;.mk λa w O S Y=>by
 simp[execOp,O.ev S hx,Instr.fieldAt,underlying,program,Sem.run,V,R,Instr.sureAddr,fieldPlace,X,hn,gi,ho]
def Gw off(V:c.P.underlying t=some (.struct J))(R:J[i]? =some f)(ho:f.offset=off)(X:∀w,(sizeOf f.type).run c.P w= .ok sz w)(hn:sz≠0){k}(hx:ev g E x=some (Am (some ⟨b,o,none⟩) k)):
  OpV c g E L ⟨d, .fieldAddr t x i,ty,pos,af,gu⟩ (Am (some ⟨b,o,none⟩) (k+off)):= .mk λa w O S Y=>by
 simp[execOp,O.ev S hx,Instr.fieldAt,underlying,program,Sem.run,V,R,Instr.sureAddr,fieldPlace,X,hn,gi,ho,Am,kaW]
variable {j:Nat}{rows:List (List Value)}
def aK {O:Array Field}{J k:Nat}(off:Nat)(Y:c.P.underlying t=some (.struct O))(V:O[i]? =some f)(Z:∀w,(sizeOf f.type).run c.P w= .ok sz w)[hx:EV g E x (Am s k)][h:SlR L s J rows](hne:j<rows.length)(ho:f.offset=off:=by exact rfl)(hn:sz≠0:=by decide):OpV c g E L ⟨d, .fieldAddr t x i,ty,pos,af,gu⟩ (Am s (k+off)):=have hx:=hx.p;.mk λa w S X R=>by
 rcases h.out _ _ R with h | ⟨b,o,_,rfl,_⟩
 ·subst h;simp at hne
 ·exact (Gw off Y V ho Z hn hx).out a w S X R
variable {y:Operand}{k:IntKind}{q:Int}
def av {R:Nat}(j:Nat)(Y:c.P.underlying t=some (.slice e))(Z:∀w,(sizeOf e).run c.P w= .ok sz w)[hx:EV g E x (sl s n cap)][hy:EV g E y (.int k q)](O:j<n)[h:SlR L s R rows](J:j<rows.length)(hj:q=(j:Int):=by exact rfl):OpV c g E L ⟨d, .indexAddr t x y,ty,pos,af,gu⟩ (Am s (j*sz)):=have hx:=hx.p;have hy:=hy.p;.mk λa w S V X=>by
 subst hj;rcases h.out _ _ X with h | ⟨b,o,_,rfl,_⟩
 ·subst h;simp at J
 ·have:(j:Int)<(n:Int):=(by omega);simp[execOp,S.ev V hx,S.ev V hy,Instr.indexAt,underlying,program,Sem.run,Y,sl,Am,asIntOf,this,O,Z,gi]
def bp (j:Nat)(S:c.P.underlying t=some (.array n e))(V:∀w,(sizeOf e).run c.P w= .ok sz w)[hx:EV g E x (ptr b o)][hy:EV g E y (.int k q)](J:j<n)(hj:q=(j:Int):=by exact rfl):
  OpV c g E L ⟨d, .indexAddr t x y,ty,pos,af,gu⟩ (ptr b (o+j*sz)):=have hx:=hx.p;have hy:=hy.p;.mk λa w O R X=>by
 subst hj;have:(j:Int)<(n:Int):=(by omega);simp[execOp,O.ev R hx,O.ev R hy,Instr.indexAt,underlying,program,Sem.run,S,asIntOf,Instr.sureAddr,this,J,V,gi]
variable {cs:Array Value}
def ln (j:Nat)(V:c.P.underlying t=some (.array n e))(X:∀w,(sizeOf e).run c.P w= .ok 1 w)(S:∀w,(isAgg e).run c.P w= .ok false w)[hx:EV g E x (.agg cs)][hy:EV g E y (.int k q)](J:j<n)(hv:cs[j]? =some v)(hj:q=(j:Int):=by exact rfl):OpV c g E L ⟨d, .index t x y,ty,pos,af,gu⟩ v:=have hx:=hx.p;have hy:=hy.p;.mk λa w O R Y=>by
 subst hj;have:(j:Int)<(n:Int):=(by omega);simp[execOp,O.ev R hx,O.ev R hy,Instr.index,underlying,program,Sem.run,V,asIntOf,this,J,X,part,S,hv]
def bW {r:UInt8}(j:Nat)(S:c.P.underlying t=some .string)[hx:EV g E x (ay p)][hy:EV g E y (.int k q)](hv:p[j]? =some r)(hj:q=(j:Int):=by exact rfl):
  OpV c g E L ⟨d, .index t x y,ty,pos,af,gu⟩ (By r.toNat):=have hx:=hx.p;have hy:=hy.p;.mk λa w O R V=>by
 subst hj;have J:=(kaz.1 hv).1;have:(⟨⟨p⟩⟩:ByteArray)[j]? =some r:=by
  rw[getElem?_pos (⟨⟨p⟩⟩:ByteArray) j J];have:=(kaz.1 hv).2;exact kay some this
 simp[execOp,O.ev R hx,O.ev R hy,Instr.index,underlying,program,Sem.run,S,asIntOf,this]
def H5 (X:c.P.underlying t=some (.struct J))(S:J[i]? =some f)(R:∀w,(isAgg f.type).run c.P w= .ok false w)(hx:ev g E x=some (.agg cs))(hv:cs[f.offset]? =some v):
  OpV c g E L ⟨d, .field t x i,ty,pos,af,gu⟩ v:= .mk λa w O V Y=>by
 simp[execOp,O.ev V hx,Instr.field,underlying,program,Sem.run,X,S,asAgg,part,R,hv]
def LU {w a P}(h:w.cell? a=some v):(load a).run P w= .ok v w:=by simp[load,Sem.run,h]
def aA {J}(S:∀w,(isAgg t).run c.P w= .ok false w)[hx:EV g E x (ptr b o)][h:Has L b J][hv:OC J o v]:OpV c g E L ⟨d, .load t x,ty,pos,af,gu⟩ v:=have hx:=hx.p;have hv:=hv.p;.mk λa w O V R=>by
 have:=iu (h.out _ _ R) hv;simp[execOp,O.ev V hx,Instr.loadAt,Instr.sureAddr,loadVar,load,Sem.run,S,this]
variable {row:List Value}
def bS {f}(S:∀w,(isAgg t).run c.P w= .ok false w)[hx:EV g E x (Am s (j*sz+f))][h:SlR L s sz rows](hr:rows[j]? =some row)[hv:NT row f v]:OpV c g E L ⟨d, .load t x,ty,pos,af,gu⟩ v:=have hx:=hx.p;have hv:=hv.p;.mk λa w J V R=>by
 rcases h.out _ _ R with h | ⟨b,o,X,rfl,hh,O⟩
 ·subst h;cases hr
 ·have:=iu hh (O j row hr f v hv);simp[execOp,J.ev V hx,Instr.loadAt,Instr.sureAddr,loadVar,load,Sem.run,S,Am,gi,this]
def aI (J:∀w,(isAgg t).run c.P w= .ok false w)[hx:EV g E x (Am s (j*sz))][h:SlR L s sz rows](hr:rows[j]? =some row)(hv:row[0]? =some v):OpV c g E L ⟨d, .load t x,ty,pos,af,gu⟩ v:=have hx:=hx.p;bS (f:=0) J (hx:=⟨hx⟩) hr (hv:=⟨hv⟩)
variable {u:TypeId}
def fW {P w}b:∀(n i o:Nat) (J:Array Value) (vs:List Value),vs.length=n->(∀k v,vs[k]? =some v->w.cell? ⟨b,o+(i+k),none⟩=some v)->
  (loadCellsFrom ⟨b,o,none⟩ i n J).run P w= .ok (J++vs.toArray) w
 | 0,i,o,J,vs,hl,_=>by
  simp_all[loadCellsFrom]
 | n+1,i,o,J,vs,hl,h=>by
  match vs,hl with
  | v::vs,hl=>
   have h0:=h 0 v rfl;have O:=fW (P:=P) b n (i+1) o (J.push v) vs (by simpa using hl) (λk u hk=>by
    have:=h (k+1) u (by simpa using hk)
    rwa [show o+(i+(k+1))=o+(i+1+k) by omega] at this)
   simp_all[loadCellsFrom,gi]
theorem bj {J:Obj}{vs:List Value}(S:∀w,(isAgg t).run c.P w= .ok true w)(X:∀w,(sizeOf t).run c.P w= .ok sz w)[hx:EV g E x (ptr b o)][h:Has L b J](hv:∀k v,vs[k]? =some v->bK J (o+k)=some v)(hl:vs.length=sz:=by exact rfl):
  OpV c g E L ⟨d, .load t x,ty,pos,af,gu⟩ (.agg vs.toArray):=have hx:=hx.p;.mk λa w O V R=>by
 have hh:=h.out _ _ R;have:=fW (P:=c.P) (w:=w) b sz 0 o #[] vs hl (λk v hk=>by grind[iu]);simp[execOp,O.ev V hx,Instr.loadAt,Instr.sureAddr,loadVar,S,X,loadCells,this]
theorem bO (S:∀w,(isAgg t).run c.P w= .ok true w)(X:∀w,(sizeOf t).run c.P w= .ok sz w)[hx:EV g E x (Am s (j*sz))][h:SlR L s sz rows](hr:rows[j]? =some row)(hl:row.length=sz:=by exact rfl):
  OpV c g E L ⟨d, .load t x,ty,pos,af,gu⟩ (.agg row.toArray):=have hx:=hx.p;.mk λa w J V R=>by
 rcases h.out _ _ R with h | ⟨b,o,Y,rfl,hh,O⟩
 ·subst h;cases hr
 ·have:=fW (P:=c.P) (w:=w) b sz 0 (o+j*sz) #[] row hl (λk v hk=>by
   have:=iu hh (O j row hr k v hk)
   grind)
  simp[execOp,J.ev V hx,Instr.loadAt,Instr.sureAddr,loadVar,S,X,loadCells,Am,gi,this]
end Go.Sl
namespace Go.Sl
def one:Value->Bool
 | .agg _=>false
 | .tuple _=>false
 | _=>true
def ones:List Value->Bool
 | []=>true
 | v::vs=>match one v with | true=>ones vs | false=>false
variable {vs:List Value}
theorem ku (h:ones vs=true):∀v∈vs,one v=true:=by
 induction vs with
 | nil=>simp
 | cons v vs J=>
  grind[ones]
theorem lq (h:∀v∈vs,one v=true):ones vs=true:=by
 induction vs with
 | nil=>rfl
 | cons v vs J=>
  grind[ones]
def cV (cs:Array Value)(o:Nat):List Value->Array Value
 | []=>cs
 | v::vs=>cV (cs.setIfInBounds o v) (o+1) vs
theorem fI cs o vs:(cV cs o vs).size=cs.size:=by
 induction vs generalizing cs o with
 | nil=>rfl
 | cons v vs J=>simp[cV,J]
theorem iU cs o vs(h:o+vs.length<=cs.size)i:(cV cs o vs)[i]? =if o<=i/\i<o+vs.length then vs[i - o]? else cs[i]? :=by
 induction vs generalizing cs o with
 | nil=>simp[cV];omega
 | cons v vs J=>
  grind[cV]
def k7 (w:World)(b:Nat)(o:Obj):World:={w with heap:=w.heap.setIfInBounds b o}
variable {b i:Nat}{cs:Array Value}{ec:TypeId}{v:Value}
theorem J7 {P w}(h:w.heap[b]? =some (.cells cs ec (0,0)))(hi:i<cs.size)(h1:one v=true):
  (store ⟨b,i,none⟩ v).run P w= .ok () (k7 w b (.cells (cs.setIfInBounds i v) ec (0,0))):=by
 have J:w.cell? ⟨b,i,none⟩=some cs[i]:=iu h (by simp[bK,hi]);have O:w.frozen? ⟨b,i,none⟩=false:=(by simp[World.frozen?,h]);have hs:w.setCell ⟨b,i,none⟩ v=k7 w b (.cells (cs.setIfInBounds i v) ec (0,0)):=by
  unfold World.setCell k7;congr 1
  grind
 show Sem.run P (Sem.store .plain ⟨b,i,none⟩ v (.pure ())) w=_;cases v <;> first | (cases h1;done) | simp[Sem.run,J,O,hs]
theorem dz {P}b o ec:∀(vs:List Value) (w:World) (cs:Array Value) (i:Nat),w.heap[b]? =some (.cells cs ec (0,0))->o+i+vs.length<=cs.size->ones vs=true->
  (storeCells ⟨b,o,none⟩ vs i).run P w= .ok () (k7 w b (.cells (cV cs (o+i) vs) ec (0,0)))
 | [],w,cs,i,h,_,_=>by
  have:k7 w b (.cells cs ec (0,0))=w:=by
   unfold k7;have J:=(kaC.1 h).1;have he:=(kaC.1 h).2;have:w.heap.setIfInBounds b (.cells cs ec (0,0))=w.heap:=by
    grind
   rw[this]
  simp[storeCells,cV,this]
 | v::vs,w,cs,i,h,hi,h1=>by
  have hv:=ku h1;have hs:=J7 (P:=P) (i:=o+i) h (by simp at hi;omega) (hv v (by simp));have J:=(kaC.1 h).1;have R:=dz (P:=P) b o ec vs (k7 w b (.cells (cs.setIfInBounds (o+i) v) ec (0,0))) (cs.setIfInBounds (o+i) v) (i+1) (by simp[k7,J]) (by simp at hi ⊢;omega) (lq λu O=>hv u (by simp[O]));unfold storeCells;rw[Sem.run_bind,gi,hs]
  simp_all[cV,k7,kaW]
variable {c:Cx}{g gu:Option (Nat×Bool)}{E:di}{L L':List ag}{d:Option Tmp}{ty:TypeId}{pos:String}{af:Array Edge}{op:Op}{N:Value->List ag->Prop}
theorem OpL.of_run (h:∀a w,EOk c.n E a->gd g a->Sat c.w0 w L->∃v w' L',(execOp a.eval ⟨d,op,ty,pos,af,gu⟩).run c.P w= .ok (.value v) w'/\Sat c.w0 w' L'/\N v L'):OpL c g E L ⟨d,op,ty,pos,af,gu⟩ N:=by
 constructor;intro a w R V S nx Q hn;obtain ⟨v,w',L',h1,J,O⟩:=h a w R V S;unfold Oper.wp;rw[h1];exact hn v w' L' J O
theorem OpL.of_skip (h:∀a w,EOk c.n E a->gd g a->Sat c.w0 w L->∃w' L',(execOp a.eval ⟨d,op,ty,pos,af,gu⟩).run c.P w= .ok .skip w'/\Sat c.w0 w' L'/\N undef L'):OpL c g E L ⟨d,op,ty,pos,af,gu⟩ N:=by
 constructor;intro a w R V S nx Q hn;obtain ⟨w',L',h1,J,O⟩:=h a w R V S;unfold Oper.wp;rw[h1];exact hn undef w' L' J O
variable {t:TypeId}
def aO cs(O:∀w,(zeroValue t).run c.P w= .ok (.agg cs) w):OpL c g E L ⟨d, .alloc t,ty,pos,af,gu⟩ λv L'=>∃b,v=ptr b 0/\L'=pcc b cs t::L:=
 .of_run λa w R S J=>⟨ptr w.heap.size 0,_,_,by simp[execOp,Instr.alloc,O,newVar,newRow,newObj,Sem.run,Value.cells],J.alloc _,_,rfl,rfl⟩
def qf (zv:Value)(R:∀w,(zeroValue t).run c.P w= .ok zv w)(h1:one zv=true:=by exact rfl):OpL c g E L ⟨d, .alloc t,ty,pos,af,gu⟩ λv L'=>∃b,v=ptr b 0/\L'=pcc b #[zv] t::L:=
 .of_run λa w S V O=>⟨ptr w.heap.size 0,_,_,by
  have J:zv.cells=#[zv]:=(by cases zv <;> first | rfl | cases h1);simp[execOp,Instr.alloc,R,newVar,newRow,newObj,Sem.run,J],O.alloc _,_,rfl,rfl⟩
variable {x:Operand}
def dw (cs:Array Value)[hx:EV g E x v](R:v.cells=cs:=by exact rfl):OpL c g E L ⟨d, .box t x,ty,pos,af,gu⟩ λv L'=>∃b,v=ptr b 0/\L'=pcc b cs t::L:=have hx:=hx.p;
 .of_run λa w J S O=>⟨ptr w.heap.size 0,_,_,by simp[execOp,J.ev S hx,Instr.box,newVar,newRow,newObj,Sem.run,R],O.alloc _,_,rfl,rfl⟩
theorem Upd.sat {w0 w o o'}(U:Upd L b o o' L')(h:Sat w0 w L):Sat w0 (k7 w b o') L'/\w.heap[b]? =some o:=by
 obtain ⟨i,h1,rfl⟩:=U.out;exact ⟨h.setAt h1,(h.front h1).at_⟩
variable {y:Operand}{o:Nat}
def aJ (J:Array Value)(hz:∀w,(sizeOf t).run c.P w= .ok 1 w)[hx:EV g E x (ptr b o)][hy:EV g E y v][hh:Has L b (.cells cs ec (0,0))](Y:o<cs.size)[U:Upd L b (.cells cs ec (0,0)) (.cells J ec (0,0)) L'](h1:one v=true:=by exact rfl)(hcs:cs.setIfInBounds o v=J:=by exact rfl):
  OpL c g E L ⟨d, .store t x y,ty,pos,af,gu⟩ λ_ O=>O=L':=have hx:=hx.p;have hy:=hy.p;
 .of_skip λa w R V X=>by
  subst hcs;have S:=U.sat X;have Z:v.cells=#[v]:=(by cases v <;> first | rfl | cases h1);have hr:=dz (P:=c.P) b o ec [v] w cs 0 S.2 (by simp;omega) (by simp[ones,h1]);refine ⟨_,L',?_,S.1,rfl⟩;simp only[execOp,R.ev V hx,R.ev V hy,Instr.storeAt,Instr.sureAddr,storeVar]
  simp_all[cV]
variable {sz:Nat}
def az (J:Array Value)(Z:∀w,(sizeOf t).run c.P w= .ok sz w)[hx:EV g E x (ptr b o)][hy:EV g E y (.agg vs.toArray)][hh:Has L b (.cells cs ec (0,0))](Y:o+sz<=cs.size)[U:Upd L b (.cells cs ec (0,0)) (.cells J ec (0,0)) L'](hl:vs.length=sz:=by exact rfl)(h1:ones vs=true:=by exact rfl)(hcs:cV cs o vs=J:=by exact rfl):
  OpL c g E L ⟨d, .store t x y,ty,pos,af,gu⟩ λ_ O=>O=L':=have hx:=hx.p;have hy:=hy.p;
 .of_skip λa w R V X=>by
  subst hcs;have S:=U.sat X;have hr:=dz (P:=c.P) b o ec vs w cs 0 S.2 (by omega) h1;refine ⟨_,L',?_,S.1,rfl⟩;simp only[execOp,R.ev V hx,R.ev V hy,Instr.storeAt,Instr.sureAddr,storeVar]
  simp_all[Value.cells]
variable {f:FuncId}{O:List Operand}{ats:Array TypeId}{F:List ag}{R:List ag->Value->List ag->Prop}
theorem dQ {ats Pre}(J:∀args w,(callFunc f args).run c.P w= .ok (.enter f args) w)[hx:EVS g E O vs](h:∀F,Ct c.P f vs (Pre++F) (R F))[S:Split L Pre F]:
  OpL c g E L ⟨d, .call {callee:= .value (.func f),args:=O.toArray,argTypes:=ats},ty,pos,af,gu⟩ (R F):=by
 have hx:=hx.p
 constructor;intro a w V Y X nx Q hn;unfold Oper.wp;have hr:(execOp a.eval ⟨d, .call {callee:= .value (.func f),args:=O.toArray,argTypes:=ats},ty,pos,af,gu⟩).run c.P w= .ok (.enter f vs.toArray) w:=by
  simp[execOp,resolve,Act.eval,Deferred.ofValue,invoke,J,<-V.evs Y hx]
 rw[hr];refine (h F c.w0 w (S.sat X)).mono λe w' he=>?_
 grind
def jA:List (Nat×Bool):=[(0,false),(1,false),(2,false),(3,false),(4,false),(5,false),(6,true)]
def jB:List (Nat×Bool):=[(0,false),(1,false),(2,false),(3,false),(4,false),(5,false),(6,false),(7,false),(8,false)]
def jC:List (Nat×Bool):=[(0,false),(1,false),(2,false),(3,false),(4,false),(5,false),(6,false),(7,false),(8,false),(9,false),(10,false),(11,false),(12,false),(13,false),(14,false),(15,false),(16,false)]
def jD:List (Nat×Bool):=[(0,false),(1,false),(2,false),(3,false),(4,false),(5,false),(6,true),(7,false)]
def jE:List (Nat×Bool):=[(0,false),(1,false),(2,false),(3,false),(4,false),(5,false),(6,false),(7,false),(8,true)]
def jF:List (Nat×Bool):=[(0,false),(1,false),(2,false),(3,false),(4,false),(5,false),(6,false),(7,false),(8,false),(9,false)]
def jG:List (Nat×Bool):=[(0,false),(1,false),(2,false),(3,false),(4,false),(5,false),(6,false),(7,false),(8,false),(9,false),(10,false)]
def jH:List (Nat×Bool):=[(0,false),(1,false),(2,false),(3,false),(4,false),(5,false),(6,false),(7,false),(8,false),(9,false),(10,false),(11,false),(12,false),(13,false)]
def jI:List (Nat×Bool):=[(0,false),(1,false),(2,false),(3,false),(4,false),(5,false),(6,false),(7,false),(8,false),(9,false),(10,false),(11,false)]
def jJ:List (Nat×Bool):=[(0,false),(1,false),(2,false),(3,false),(4,false),(5,false),(6,false),(7,true),(8,false),(9,false)]
def jK:List (Nat×Bool):=[(0,false),(1,false),(2,false),(3,false),(4,false),(5,false),(6,false),(7,false),(8,false),(9,false),(10,true),(11,true)]
def jL:List (Nat×Bool):=[(0,false),(1,false),(2,false),(3,false),(4,false),(5,false),(6,false),(7,false),(8,false),(9,false),(10,false),(11,false),(12,false),(13,false),(14,false)]
def jM:List (Nat×Bool):=[(0,false),(1,false),(2,false),(3,false),(4,false),(5,false),(6,false)]
def jN:List (Nat×Bool):=[(0,false),(1,false),(2,false),(3,false),(4,false),(5,false),(6,false),(7,false),(8,false),(9,true),(10,false),(11,false),(12,false),(13,false),(14,false)]
def jO:List (Nat×Bool):=[(0,false),(1,false),(2,false),(3,false),(4,false),(5,false),(6,false),(7,false),(8,false),(9,false),(10,false),(11,false),(12,false),(13,false),(14,false),(15,false),(16,false),(17,false),(18,false)]
def jP:List (Nat×Bool):=[(0,false),(1,false),(2,false),(3,false),(4,false),(5,false),(6,false),(7,false),(8,false),(9,false),(10,true),(11,false),(12,false),(13,false),(14,false),(15,false)]
def jQ:List (Nat×Bool):=[(0,false),(1,false),(2,false),(3,false),(4,false),(5,false),(6,false),(7,false),(8,false),(9,false),(10,true),(11,false)]
def jR:List (Nat×Bool):=[(0,false),(1,false),(2,false),(3,false),(4,false),(5,false),(6,false),(7,true)]
def jS:List (Nat×Bool):=[(0,false),(1,false),(2,false),(3,false),(4,false),(5,false),(6,false),(7,false),(8,false),(9,false),(10,false),(11,false),(12,false),(13,false),(14,false),(15,false),(16,false),(17,false),(18,false),(19,false),(20,false)]
def jT:List (Nat×Bool):=[(0,false),(1,false),(2,false),(3,false),(4,false),(5,false),(6,false),(7,false),(8,true),(9,true)]
def jU:List (Nat×Bool):=[(0,false),(1,false),(2,false),(3,false),(4,false),(5,false),(6,false),(7,false),(8,false),(9,false),(10,false),(11,false),(12,false)]
def jV:List (Nat×Bool):=[(0,false),(1,false),(2,false),(5,false),(6,false),(8,false),(9,false),(12,false),(13,false),(3,true),(4,false),(7,true),(10,true),(11,false),(14,true),(15,false),(16,false),(17,true),(18,true),(19,false)]
def jW:List (Nat×Bool):=[(0,false),(1,false),(2,false),(3,false),(4,false),(5,false),(6,false),(7,false),(8,false),(9,false),(10,false),(11,false),(12,false),(13,false),(14,false),(15,false),(16,false),(17,false)]
def jX:List (Nat×Bool):=[(0,false),(1,false),(2,false),(3,false),(4,false),(5,false),(6,false),(7,true),(8,false)]
def jY:List (Nat×Bool):=[(0,false),(1,false),(2,false),(3,false),(4,false),(5,false),(6,false),(7,false),(9,false),(8,true),(10,true),(11,true),(12,true),(13,false)]
def jZ:List (Nat×Bool):=[(0,false),(1,false),(2,false),(3,false),(4,false),(5,false),(6,false),(7,false),(8,true),(9,true),(10,false),(11,false)]
def ja:List (Nat×Bool):=[(0,false),(1,false),(2,false),(3,false),(4,false),(5,false),(6,false),(7,false),(8,false),(9,false),(10,false),(11,false),(12,false),(13,false),(14,false),(15,false),(16,false),(17,true),(18,false),(19,false),(20,false),(21,false),(22,false)]
def jc:List (Nat×Bool):=[(0,false),(1,false),(2,false),(5,false),(6,false),(10,false),(11,false),(3,true),(4,false),(7,true),(8,false),(9,false),(12,true),(13,false),(14,true),(15,true),(16,false)]
variable {K:List KI}{all:List Oper}{d:Nat}
def M {rest:List Oper}(h:OpV c none E L ⟨some d,op,ty,pos,af,none⟩ v)(k:G c (.ops all rest::K) ((d,none,v)::E) L)(hd:mb c.n d E=true:=by exact rfl):G c (.ops all (⟨some d,op,ty,pos,af,none⟩::rest)::K) E L:=S9 h hd k
variable {J:Array Field}
def gF {rest:List Oper}{sz:Nat}{f:Field}(off:Nat)(R:c.P.underlying t=some (.struct J))(O:J[i]? =some f)(S:∀w,(sizeOf f.type).run c.P w= .ok sz w)[hx:EV none E x (ptr b o)](k:G c (.ops all rest::K) ((d,none,ptr b (o+off))::E) L)(ho:f.offset=off:=by exact rfl)(hn:sz≠0:=by decide)(hd:mb c.n d E=true:=by exact rfl):G c (.ops all (⟨some d, .fieldAddr t x i,ty,pos,af,none⟩::rest)::K) E L:=have hx:=hx.p;S9 (aw off R O (ho:=ho) S (hn:=hn) (hx:=⟨hx⟩)) hd k
def gL {rest:List Oper}{J:Obj}(v:Value)(O:∀w,(isAgg t).run c.P w= .ok false w)[hx:EV none E x (ptr b o)][h:Has L b J](k:G c (.ops all rest::K) ((d,none,v)::E) L)(hv:bK J o=some v:=by exact rfl)(hd:mb c.n d E=true:=by exact rfl):G c (.ops all (⟨some d, .load t x,ty,pos,af,none⟩::rest)::K) E L:=have hx:=hx.p;S9 (aA O (hx:=⟨hx⟩) (hv:=⟨hv⟩)) hd k
def gX {rest:List Oper}{vs:Array Value}(v:Value)[hx:EV none E x (.tuple vs)](k:G c (.ops all rest::K) ((d,none,v)::E) L)(hv:vs[i]? =some v:=by exact rfl)(hd:mb c.n d E=true:=by exact rfl):G c (.ops all (⟨some d, .extract x i,ty,pos,af,none⟩::rest)::K) E L:=have hx:=hx.p;S9 (aB (hx:=⟨hx⟩) (hv:=⟨hv⟩)) hd k
def gP {rest:List Oper}{yt:TypeId}{a b:Int}[hx:EV none E x (.int .i64 a)][hy:EV none E y (.int .i64 b)](k:G c (.ops all rest::K) ((d,none, .int .i64 (a+b))::E) L)(hd:mb c.n d E=true:=by exact rfl)(hr: -9223372036854775808<=a+b/\a+b<=9223372036854775807:=by omega):G c (.ops all (⟨some d, .binOp .add t x y yt,ty,pos,af,none⟩::rest)::K) E L:=have hx:=hx.p;have hy:=hy.p;S9 (bx (hx:=⟨hx⟩) (hy:=⟨hy⟩) (cK hr)) hd k
def gK {rest:List Oper}{s:Nat}{b J:Bool}[hi:DS all i s][hs:LK none E s (.bool b)](h:OpV c (some (s,J)) E L ⟨some d,op,ty,pos,af,some (i,J)⟩ v)(k:G c (.ops all rest::K) ((d,some (s,J),v)::E) L)(hd:mb c.n d E=true:=by exact rfl)(hne:Nat.beq s d=false:=by exact rfl):G c (.ops all (⟨some d,op,ty,pos,af,some (i,J)⟩::rest)::K) E L:=have hi:=hi.p;have hs:=hs.p;Gv (hi:=⟨hi⟩) (hs:=⟨hs⟩) (λ_=>h) (hd:=hd) (hne:=by exact hne) k
def gI {rest:List Oper}(h:OpL c none E L ⟨some d,op,ty,pos,af,none⟩ N)(k:∀v L',N v L'->G c (.ops all rest::K) ((d,none,v)::E) L')(hd:mb c.n d E=true:=by exact rfl):G c (.ops all (⟨some d,op,ty,pos,af,none⟩::rest)::K) E L:=Xc h hd k
def gR {rest:List Oper}{bq:List ag}(h:OpL c none E L ⟨some d,op,ty,pos,af,none⟩ (R1 v bq))(k:G c (.ops all rest::K) ((d,none,v)::E) bq)(hd:mb c.n d E=true:=by exact rfl):G c (.ops all (⟨some d,op,ty,pos,af,none⟩::rest)::K) E L:=Xc h hd (by rintro _ _ ⟨rfl,rfl⟩;exact k)
def gU {rest bq}(h:OpL c none E L ⟨none,op,ty,pos,af,none⟩ (λ_ L'=>L'=bq))(k:G c (.ops all rest::K) E bq):G c (.ops all (⟨none,op,ty,pos,af,none⟩::rest)::K) E L:=io h (by rintro _ _ rfl;exact k)
def oC {P:Program}{fn:Func}{cd:Code}{args:List Value}{R:Value->List ag->Prop}{n:Nat}(S:P.funcs[f]? =some fn)(O:fn.body=some cd)(hn:fn.ntmps=n)(h:∀w0,G ⟨P,fn,w0,R,⟨n,[]⟩⟩ [.code cd] (oa 0 args) L)(J:args.length<=n:=by simp):Ct P f args L R:=Ct.of S O n hn J h
variable {Lf:List ag}
def gD {id:Nat}{l:List Oper}(pl:List (Nat×Bool))(h:G c (.plan l (λw=>Sat c.w0 w Lf) pl::K) E L)(hm:c.P.follows .mixedOrders=true:=by kernel_rfl)(hs:Region.noSelect l.toArray=true:=by kernel_rfl)(hl:pl.length=l.length:=by exact rfl)(hp:im l.toArray pl (Array.replicate l.length false)=true:=by kernel_rfl):G c (.code (.region id l.toArray true)::K) E L:=cn pl (hm:=hm) (hs:=hs) (hl:=hl) (hp:=hp) h
def gG {id:Nat}{l:List Oper}(pl:List (Nat×Bool))(h:G c (.plan l (λw=>Sat c.w0 w L) pl::K) E L)(hm:c.P.follows .mixedOrders=true:=by kernel_rfl)(hs:Region.noSelect l.toArray=true:=by kernel_rfl)(hl:pl.length=l.length:=by exact rfl)(hp:im l.toArray pl (Array.replicate l.length false)=true:=by kernel_rfl):G c (.code (.region id l.toArray true)::K) E L:=dy pl (hm:=hm) (hs:=hs) (hl:=hl) (hp:=hp) h
variable {pl:List (Nat×Bool)}
def dV (hi:all[i]? =some ⟨some d,op,ty,pos,af,none⟩)[J:Sub L Lf](h:OpV c none E Lf ⟨some d,op,ty,pos,af,none⟩ v)(k:G c (.plan all (λw=>Sat c.w0 w Lf) pl::K) ((d,none,v)::E) L)(hd:mb c.n d E=true:=by exact rfl):G c (.plan all (λw=>Sat c.w0 w Lf) ((i,false)::pl)::K) E L:=WH hi h hd k
def dF {j sz:Nat}{f:Field}(hi:all[i]? =some ⟨some d, .fieldAddr t x j,ty,pos,af,none⟩)[V:Sub L Lf](off:Nat)(R:c.P.underlying t=some (.struct J))(O:J[j]? =some f)(S:∀w,(sizeOf f.type).run c.P w= .ok sz w)[hx:EV none E x (ptr b o)](k:G c (.plan all (λw=>Sat c.w0 w Lf) pl::K) ((d,none,ptr b (o+off))::E) L)(ho:f.offset=off:=by exact rfl)(hn:sz≠0:=by decide)(hd:mb c.n d E=true:=by exact rfl):G c (.plan all (λw=>Sat c.w0 w Lf) ((i,false)::pl)::K) E L:=have hx:=hx.p;WH hi (aw off R O (ho:=ho) S (hn:=hn) (hx:=⟨hx⟩)) hd k
def dL {J:Obj}(hi:all[i]? =some ⟨some d, .load t x,ty,pos,af,none⟩)[R:Sub L Lf](v:Value)(O:∀w,(isAgg t).run c.P w= .ok false w)[hx:EV none E x (ptr b o)][h:Has Lf b J](k:G c (.plan all (λw=>Sat c.w0 w Lf) pl::K) ((d,none,v)::E) L)(hv:bK J o=some v:=by exact rfl)(hd:mb c.n d E=true:=by exact rfl):G c (.plan all (λw=>Sat c.w0 w Lf) ((i,false)::pl)::K) E L:=have hx:=hx.p;WH hi (aA O (hx:=⟨hx⟩) (hv:=⟨hv⟩)) hd k
def dJ {j s:Nat}{b J:Bool}(hi:all[i]? =some ⟨some d,op,ty,pos,af,some (j,J)⟩)[hj:DS all j s][hs:LK none E s (.bool b)][O:Sub L Lf](h:OpV c (some (s,J)) E Lf ⟨some d,op,ty,pos,af,some (j,J)⟩ v)(k:G c (.plan all (λw=>Sat c.w0 w Lf) pl::K) ((d,some (s,J),v)::E) L)(hd:mb c.n d E=true:=by exact rfl)(hne:Nat.beq s d=false:=by exact rfl):G c (.plan all (λw=>Sat c.w0 w Lf) ((i,false)::pl)::K) E L:=have hj:=hj.p;have hs:=hs.p;sv hi (hj:=⟨hj⟩) (hs:=⟨hs⟩) (λ_=>h) (hd:=hd) (hne:=by exact hne) k
variable {d:Option Tmp}
def uA {ty pos af gu ats}(J:∀args w,(callFunc f args).run c.P w= .ok (.enter f args) w)[hx:EVS g E O vs](h:∀F,Ct c.P f vs (F) (R F))[S:Split L [] F]:OpL c g E L ⟨d, .call {callee:= .value (.func f),args:=O.toArray,argTypes:=ats},ty,pos,af,gu⟩ (R F):=have hx:=hx.p;dQ (Pre:=[]) J (hx:=⟨hx⟩) h
variable {bq:List ag->List ag}
def vA {ty pos af gu ats}(J:∀args w,(callFunc f args).run c.P w= .ok (.enter f args) w)[hx:EVS g E O vs](h:∀F,Ct c.P f vs (F) (R1 v (bq F)))[S:Split L [] F]:OpL c g E L ⟨d, .call {callee:= .value (.func f),args:=O.toArray,argTypes:=ats},ty,pos,af,gu⟩ (R1 v (bq F)):=have hx:=hx.p;dQ (Pre:=[]) (R:=λF=>R1 v (bq F)) J (hx:=⟨hx⟩) h
variable {A0:ag}
def uB {ty pos af gu ats}(J:∀args w,(callFunc f args).run c.P w= .ok (.enter f args) w)[hx:EVS g E O vs](h:∀F,Ct c.P f vs (A0::F) (R F))[S:Split L [A0] F]:OpL c g E L ⟨d, .call {callee:= .value (.func f),args:=O.toArray,argTypes:=ats},ty,pos,af,gu⟩ (R F):=have hx:=hx.p;dQ (Pre:=[A0]) J (hx:=⟨hx⟩) h
def vB {ty pos af gu ats}(J:∀args w,(callFunc f args).run c.P w= .ok (.enter f args) w)[hx:EVS g E O vs](h:∀F,Ct c.P f vs (A0::F) (R1 v (bq F)))[S:Split L [A0] F]:OpL c g E L ⟨d, .call {callee:= .value (.func f),args:=O.toArray,argTypes:=ats},ty,pos,af,gu⟩ (R1 v (bq F)):=have hx:=hx.p;dQ (Pre:=[A0]) (R:=λF=>R1 v (bq F)) J (hx:=⟨hx⟩) h
variable {V:List Operand}{O:ag}
def uC {ty pos af gu ats}(J:∀args w,(callFunc f args).run c.P w= .ok (.enter f args) w)[hx:EVS g E V vs](h:∀F,Ct c.P f vs (A0::O::F) (R F))[S:Split L [A0,O] F]:OpL c g E L ⟨d, .call {callee:= .value (.func f),args:=V.toArray,argTypes:=ats},ty,pos,af,gu⟩ (R F):=have hx:=hx.p;dQ (Pre:=[A0,O]) J (hx:=⟨hx⟩) h
def vC {ty pos af gu ats}(J:∀args w,(callFunc f args).run c.P w= .ok (.enter f args) w)[hx:EVS g E V vs](h:∀F,Ct c.P f vs (A0::O::F) (R1 v (bq F)))[S:Split L [A0,O] F]:OpL c g E L ⟨d, .call {callee:= .value (.func f),args:=V.toArray,argTypes:=ats},ty,pos,af,gu⟩ (R1 v (bq F)):=have hx:=hx.p;dQ (Pre:=[A0,O]) (R:=λF=>R1 v (bq F)) J (hx:=⟨hx⟩) h
variable {X:List Operand}{V:ag}
def uD {ty pos af gu ats}(J:∀args w,(callFunc f args).run c.P w= .ok (.enter f args) w)[hx:EVS g E X vs](h:∀F,Ct c.P f vs (A0::O::V::F) (R F))[S:Split L [A0,O,V] F]:OpL c g E L ⟨d, .call {callee:= .value (.func f),args:=X.toArray,argTypes:=ats},ty,pos,af,gu⟩ (R F):=have hx:=hx.p;dQ (Pre:=[A0,O,V]) J (hx:=⟨hx⟩) h
def vD {ty pos af gu ats}(J:∀args w,(callFunc f args).run c.P w= .ok (.enter f args) w)[hx:EVS g E X vs](h:∀F,Ct c.P f vs (A0::O::V::F) (R1 v (bq F)))[S:Split L [A0,O,V] F]:OpL c g E L ⟨d, .call {callee:= .value (.func f),args:=X.toArray,argTypes:=ats},ty,pos,af,gu⟩ (R1 v (bq F)):=have hx:=hx.p;dQ (Pre:=[A0,O,V]) (R:=λF=>R1 v (bq F)) J (hx:=⟨hx⟩) h
variable {Y:List Operand}{X:ag}
def uE {ty pos af gu ats}(J:∀args w,(callFunc f args).run c.P w= .ok (.enter f args) w)[hx:EVS g E Y vs](h:∀F,Ct c.P f vs (A0::O::V::X::F) (R F))[S:Split L [A0,O,V,X] F]:OpL c g E L ⟨d, .call {callee:= .value (.func f),args:=Y.toArray,argTypes:=ats},ty,pos,af,gu⟩ (R F):=have hx:=hx.p;dQ (Pre:=[A0,O,V,X]) J (hx:=⟨hx⟩) h
def vE {ty pos af gu ats}(J:∀args w,(callFunc f args).run c.P w= .ok (.enter f args) w)(hx:evs g E Y=some vs)(h:∀F,Ct c.P f vs (A0::O::V::X::F) (R1 v (bq F)))[S:Split L [A0,O,V,X] F]:OpL c g E L ⟨d, .call {callee:= .value (.func f),args:=Y.toArray,argTypes:=ats},ty,pos,af,gu⟩ (R1 v (bq F)):=dQ (Pre:=[A0,O,V,X]) (R:=λF=>R1 v (bq F)) J (hx:=⟨hx⟩) h
variable {Z:List Operand}{Y:ag}
def uF {ty pos af gu ats}(J:∀args w,(callFunc f args).run c.P w= .ok (.enter f args) w)[hx:EVS g E Z vs](h:∀F,Ct c.P f vs (A0::O::V::X::Y::F) (R F))[S:Split L [A0,O,V,X,Y] F]:OpL c g E L ⟨d, .call {callee:= .value (.func f),args:=Z.toArray,argTypes:=ats},ty,pos,af,gu⟩ (R F):=have hx:=hx.p;dQ (Pre:=[A0,O,V,X,Y]) J (hx:=⟨hx⟩) h
def vF {ty pos af gu ats}(J:∀args w,(callFunc f args).run c.P w= .ok (.enter f args) w)(hx:evs g E Z=some vs)(h:∀F,Ct c.P f vs (A0::O::V::X::Y::F) (R1 v (bq F)))[S:Split L [A0,O,V,X,Y] F]:OpL c g E L ⟨d, .call {callee:= .value (.func f),args:=Z.toArray,argTypes:=ats},ty,pos,af,gu⟩ (R1 v (bq F)):=dQ (Pre:=[A0,O,V,X,Y]) (R:=λF=>R1 v (bq F)) J (hx:=⟨hx⟩) h
variable {xs:List Operand}{Z:ag}
def uG {ty pos af gu ats}(J:∀args w,(callFunc f args).run c.P w= .ok (.enter f args) w)(hx:evs g E xs=some vs)(h:∀F,Ct c.P f vs (A0::O::V::X::Y::Z::F) (R F))[S:Split L [A0,O,V,X,Y,Z] F]:OpL c g E L ⟨d, .call {callee:= .value (.func f),args:=xs.toArray,argTypes:=ats},ty,pos,af,gu⟩ (R F):=dQ (Pre:=[A0,O,V,X,Y,Z]) J (hx:=⟨hx⟩) h
def vG {ty pos af gu ats}(J:∀args w,(callFunc f args).run c.P w= .ok (.enter f args) w)(hx:evs g E xs=some vs)(h:∀F,Ct c.P f vs (A0::O::V::X::Y::Z::F) (R1 v (bq F)))[S:Split L [A0,O,V,X,Y,Z] F]:OpL c g E L ⟨d, .call {callee:= .value (.func f),args:=xs.toArray,argTypes:=ats},ty,pos,af,gu⟩ (R1 v (bq F)):=dQ (Pre:=[A0,O,V,X,Y,Z]) (R:=λF=>R1 v (bq F)) J (hx:=⟨hx⟩) h
def uH {ty pos af gu ats A6}(J:∀args w,(callFunc f args).run c.P w= .ok (.enter f args) w)(hx:evs g E xs=some vs)(h:∀F,Ct c.P f vs (A0::O::V::X::Y::Z::A6::F) (R F))[S:Split L [A0,O,V,X,Y,Z,A6] F]:OpL c g E L ⟨d, .call {callee:= .value (.func f),args:=xs.toArray,argTypes:=ats},ty,pos,af,gu⟩ (R F):=dQ (Pre:=[A0,O,V,X,Y,Z,A6]) J (hx:=⟨hx⟩) h
def vH {ty pos af gu ats A6}(J:∀args w,(callFunc f args).run c.P w= .ok (.enter f args) w)(hx:evs g E xs=some vs)(h:∀F,Ct c.P f vs (A0::O::V::X::Y::Z::A6::F) (R1 v (bq F)))[S:Split L [A0,O,V,X,Y,Z,A6] F]:OpL c g E L ⟨d, .call {callee:= .value (.func f),args:=xs.toArray,argTypes:=ats},ty,pos,af,gu⟩ (R1 v (bq F)):=dQ (Pre:=[A0,O,V,X,Y,Z,A6]) (R:=λF=>R1 v (bq F)) J (hx:=⟨hx⟩) h
end Go.Sl
namespace Go.Sl
def Cd l:∀(off k:Nat) (cs:Array Value),(l.zipIdx k).foldl (λcs (p:Value×Nat)=>cs.setIfInBounds (off+p.2) p.1) cs=cV cs (off+k) l:=by
 induction l with
 | nil=>intros;rfl
 | cons v l J=>simp_all[cV,kaW]
theorem An (a cs:Array Value)off:a.zipIdx.foldl (λcs (p:Value×Nat)=>cs.setIfInBounds (off+p.2) p.1) cs=cV cs off a.toList:=by
 have:=Cd a.toList off 0 cs;rw[<-Array.foldl_toList];simpa using this
def qg (k:Nat):List Value->List (Nat×Value)
 | []=>[]
 | v::vs=>(k,v)::qg (k+1) vs
def H6 sz:∀(vs:List Value) (k:Nat) (J:Array Value),(∀v∈vs,v.cells.size=sz)->(k+vs.length)*sz<=J.size->
  ∃O,Instr.fill (λi=>some (i*sz,sz)) J (qg k vs)=some O/\O.size=J.size/\(∀j v,vs[j]? =some v->∀f u,v.cells[f]? =some u->O[(k+j)*sz+f]? =some u)/\(∀p,p<k*sz->O[p]? =J[p]?)
 | [],k,J,_,_=>⟨J,rfl,rfl,λj v h=>by simp at h,λ_ _=>rfl⟩
 | v::vs,k,J,hv,S=>by
  have h0:=hv v (by simp);have hk:(k+(vs.length+1))*sz=k*sz+vs.length*sz+sz:=(by grind);simp only[kaX] at S;have V:k*sz+sz<=J.size:=(by omega);have R:(k+1+vs.length)*sz<=(cV J (k*sz) v.cells.toList).size:=by
   grind[fI]
  obtain ⟨O,h1,X,h3,h4⟩:=H6 sz vs (k+1) (cV J (k*sz) v.cells.toList) (λu Y=>hv u (by simp[Y])) R;have Z:(k+1)*sz=k*sz+sz:=(by grind);refine ⟨O,?_,by rw[X,fI],λj u hj f x hf=>?_,λp hp=>?_⟩
  ·grind[qg,Instr.fill,An]
  ·cases j with
   | zero=>
    grind[iU]
   | succ j=>
    grind
  grind[iU]
def Vl (g:Option (Nat×Bool))(E:di):Nat->List (Nat×Operand)->Option (List Value)
 | _,[]=>some []
 | k,(i,x)::ps=>match Nat.beq i k with
  | true=>match ev g E x with
   | some v=>match Vl g E (k+1) ps with | some vs=>some (v::vs) | none=>none
   | none=>none
  | false=>none
class EVP (g:Option (Nat×Bool))(E:di)(k:Nat)(x:List (Nat×Operand))(v:outParam (List Value)):Prop where p:Vl g E k x=some v
instance {g:Option (Nat×Bool)}{E:di}{k:Nat}:EVP g E k [] []:=⟨rfl⟩
instance {g:Option (Nat×Bool)}{E:di}{k:Nat}{x:Operand}{y:List (Nat×Operand)}{v:Value}{m:List Value}[h:EV g E x v][j:EVP g E (k+1) y m]:EVP g E k ((k,x)::y) (v::m):=⟨by simp [Vl,h.p,j.p]⟩
def LV {n E a g}(h:EOk n E a)(R:gd g a):∀{O:List (Nat×Operand)} {k:Nat} {vs:List Value},Vl g E k O=some vs->O.map (λp=>(p.1,a.eval p.2))=qg k vs
 | [],k,vs,hl=>by injection hl with hl;subst hl;rfl
 | (i,x)::O,k,vs,hl=>by
  unfold Vl at hl;split at hl
  ·rename_i S;have:=kaF S;subst this;split at hl
   ·rename_i v hv;split at hl
    ·rename_i V J;injection hl with hl;subst hl;simp[qg,h.ev R hv,LV h R J]
    ·cases hl
   ·cases hl
  ·cases hl
variable {c:Cx}{g gu:Option (Nat×Bool)}{E:di}{L L':List ag}{d:Option Tmp}{e t ty u:TypeId}{pos:String}{af:Array Edge}{v:Value}{b n sz:Nat}
theorem ap {vs:List Value}{parts:List (Nat×Operand)}{zv:Value}(rows:List (List Value))(hu:c.P.underlying t=some (.slice e))(hz:∀w,(sizeOf e).run c.P w= .ok sz w)(Y:∀w,(zeroValue e).run c.P w= .ok zv w)[hx:EVP g E 0 parts vs](V:∀r∈rows,r.length=sz)(hn:vs.length=n:=by exact rfl)(hr:vs.map (λv=>v.cells.toList)=rows:=by exact rfl)(hb:n*sz<=16777216:=by decide)(h0:0<n*sz:=by decide):
  OpL c g E L ⟨d, .buildSlice t n parts.toArray,ty,pos,af,gu⟩ λv L'=>∃b,v=sl (some ⟨b,0,none⟩) n n/\L'=be e sz (some ⟨b,0,none⟩) n rows::L:=have hx:=hx.p;
 .of_run λa w hE hg hS=>by
  have hp:=LV hE hg hx;have X:∀v∈vs,v.cells.size=sz:=λv hv=>by
   grind[List.mem_map_of_mem]
  obtain ⟨J,h1,Z,h3,h4⟩:=H6 sz vs 0 ((Array.range (n*sz)).map (zv.cells[· % zv.cells.size]!)) X (by simp[hn]);have O:Rows (.cells J e (0,0)) 0 sz rows:=λj row hj f u hf=>by
   grind[bK]
  refine ⟨sl (some ⟨w.heap.size,0,none⟩) n n,{w with heap:=w.heap.push (.cells J e (0,0))},be e sz (some ⟨w.heap.size,0,none⟩) n rows::L,?_,?_,_,rfl,rfl⟩
  ·have S:¬n*sz > 2 ^ 24:=(by omega);have R:n*sz≠0:=(by omega);simp only[execOp,Instr.buildSlice];simp[underlying,program,Sem.run,hu,hz,Y,S,R,hp,h1,newRow,newObj,sl]
  ·refine (hS.alloc _).weak λm hm=> .inr ⟨_,J,rfl,hm,by rw[Z];simp,?_,V,O⟩;rw[<-hr];simp[hn]
variable {k:IntKind}
theorem k8 {sz}(h0:0<sz):∀(rows:List (List Value)),(∀r∈rows,r.length=sz)->∀k,rows.flatten[k]? =(rows[k / sz]?).bind (·[k % sz]?)
 | [],_,k=>by simp
 | r::rows,h,k=>by
  have hr:=h r (by simp);have O:=k8 h0 rows (λu J=>h u (by simp[J]))
  grind[Nat.div_eq_of_lt,Nat.mod_eq_of_lt,List.getElem?_append_right,Nat.div_eq_sub_div,Nat.mod_eq_sub_mod]
theorem dT {sz}:∀(rows:List (List Value)),(∀r∈rows,r.length=sz)->rows.flatten.length=rows.length*sz
 | [],_=>by simp
 | r::rows,h=>by
  simp[dT rows (λu J=>h u (by simp[J])),h r (by simp),ka2,Nat.add_comm]
variable {off:Nat}{rows:List (List Value)}
theorem Rows.flat {J sz}(h:Rows J off sz rows)(h0:0<sz)(hl:∀r∈rows,r.length=sz){k}(hk:rows.flatten[k]? =some v):bK J (off+k)=some v:=by
 rw[k8 h0 rows hl] at hk;simp only[Option.bind_eq_some_iff] at hk;obtain ⟨row,h1,O⟩:=hk;have:=h _ row h1 _ v O
 grind[Nat.div_add_mod]
variable {s:Option Addr}{cap i:Nat}{w w0:World}{ec:TypeId}
def dA (h:Sat w0 w (be ec sz s cap rows::L)):(s=none/\rows=[]/\cap=0/\Sat w0 w L)\/
  ∃b cs,s=some ⟨b,0,none⟩/\cs.size=cap*sz/\rows.length<=cap/\(∀row∈rows,row.length=sz)/\Rows (.cells cs ec (0,0)) 0 sz rows/\Sat w0 w (pcc b cs ec::L):=by
 have S:=h;obtain ⟨h1,V,X,Y,f,O,hd⟩:=h;rcases (O 0 _ rfl).1 with ⟨J,a2,a3⟩ | ⟨b,cs,J,a2,a3,a4,a5,R⟩
 ·exact .inl ⟨J,a2,a3,S.tail⟩
 ·refine .inr ⟨b,cs,J,a3,a4,a5,R,h1,V,X,Y,f,λi cB hA=>?_,hd⟩;cases i with
  | zero=>simp at hA;subst hA;exact ⟨a2,(O 0 _ rfl).2⟩
  | succ i=>exact O (i+1) cB (by simpa using hA)
variable {cs:Array Value}
def fu (h:Sat w0 w (pcc b cs ec::L))(h1:cs.size=cap*sz)(J:rows.length<=cap)(O:∀row∈rows,row.length=sz)(R:Rows (.cells cs ec (0,0)) 0 sz rows):
 Sat w0 w (be ec sz (some ⟨b,0,none⟩) cap rows::L):=h.weak λm hm=> .inr ⟨b,cs,rfl,hm,h1,J,O,R⟩
def PZ ec sz(h:Sat w0 w L):Sat w0 w (be ec sz none 0 []::L):=(h.pure_mk trivial).weak (cB:=kU True) λm _=> .inl ⟨rfl,rfl,rfl⟩
def Tb (h:Sat w0 w (be ec sz s cap rows::L)):Sat w0 w (roL sz s rows::L):=by
 rcases dA h with ⟨rfl,rfl,rfl,J⟩ | ⟨b,cs,rfl,O,a2,a3,a4,J⟩
 ·exact (Sat.pure_mk (φ:=True) trivial J).weak λm _=>Or.inl rfl
 ·exact J.freeze.weak λm hm=> .inr ⟨b,0,_,rfl,hm,a4⟩
class OwR (L:List ag) (s:Option Addr) (ec sz cap:outParam Nat) (rows:outParam (List (List Value))) (F:outParam (List ag)):Prop where
 out:∃i,L[i]? =some (be ec sz s cap rows)/\F=L.eraseIdx i
instance (priority:=high) OwR.head {ec:Nat}{rows:List (List Value)}:OwR (be ec sz s cap rows::L) s ec sz cap rows L:=⟨0,rfl,rfl⟩
instance (priority:=low) OwR.tail {cB:ag}{ec:Nat}{rows:List (List Value)}{F:List ag}[h:OwR L s ec sz cap rows F]:OwR (cB::L) s ec sz cap rows (cB::F):=⟨let ⟨i,h1,h2⟩:=h.out;⟨i+1,by simpa using h1,by simp[h2]⟩⟩
theorem OwR.sat {ec F}(r:OwR L s ec sz cap rows F)(h:Sat w0 w L):Sat w0 w (be ec sz s cap rows::F):=by
 obtain ⟨i,h1,rfl⟩:=r.out;exact h.front h1
theorem AK J:∀(r c:Nat),c<J->Builtin.growBy J r c<=2*J+192
 | 0,c,h=>by simp[Builtin.growBy];omega
 | r+1,c,h=>by
  unfold Builtin.growBy;split
  ·omega
  ·by_cases O:c+(c+768) / 4<J
   ·exact AK J r _ O
   ·cases r with
    | zero=>simp[Builtin.growBy];omega
    | succ r=>grind[Builtin.growBy]
theorem sw J O(h:O<J):Builtin.nextslicecap J O<=2*J+192:=by
 grind[Builtin.nextslicecap,AK]
variable {o:Nat}{P:Program}
theorem ot (h0:0<sz)(hl:∀r∈rows,r.length=sz)(hn:rows.length=n)(h:rows=[]\/∃b off o,s=some ⟨b,off,none⟩/\w.heap[b]? =some o/\Rows o off sz rows):
  (Builtin.firstCells sz n (sl s n cap)).run P w= .ok rows.flatten.toArray w:=by
 rcases h with rfl | ⟨b,off,o,rfl,hh,J⟩
 ·simp at hn;subst hn;cases s with
  | none=>simp[Builtin.firstCells,sl,Sem.run_pure]
  | some p=>simp[Builtin.firstCells,sl,loadCells,loadCellsFrom]
 ·have:=fW (P:=P) (w:=w) b (n*sz) 0 off #[] rows.flatten (by grind[dT]) (λk v hk=>by
   have:=iu hh (J.flat h0 hl hk);simpa using this)
  grind[Builtin.firstCells,sl,loadCells]
variable {j:Nat}
theorem Rows.app {o r1 r2}(h1:Rows o off sz r1)(S:Rows o (off+r1.length*sz) sz r2):Rows o off sz (r1++r2):=λj row hj f v R=>by
 rcases ka3 j r1.length with O | J
 ·rw[kaQ O] at hj;exact h1 j row hj f v R
 ·rw[ka1 J] at hj;have:=S _ row hj f v R;have e:off+r1.length*sz+((j - r1.length)*sz+f)=off+(j*sz+f):=by
   obtain ⟨q,rfl⟩:∃q,j=r1.length+q:=⟨j - r1.length,by omega⟩
   grind
  rwa [e] at this
theorem Rows.of_flat (h0:0<sz)(hl:∀r∈rows,r.length=sz)(h:∀k v,rows.flatten[k]? =some v->cs[off+k]? =some v):Rows (.cells cs ec (0,0)) off sz rows:=λj row hj f v O=>by
 have J:f<sz:=(by grind);refine h _ v ?_;rw[k8 h0 rows hl,show (j*sz+f) / sz=j by grind[Nat.mul_comm,Nat.mul_add_div,Nat.div_eq_of_lt],show (j*sz+f) % sz=f by rw[ka4,ka6,ka0 J]];simp[hj,O]
def ou:(Builtin.lenOf (sl s n cap)).run P w= .ok n w:=by simp[Builtin.lenOf,sl,Sem.run_pure]
def nw k:(askRoom k).run P w= .ok () w:=by
 simp_all
variable {base:Option Addr}
def mA {w' X m new}(R:P.underlying t=some (.slice e))(S:∀w,(sizeOf e).run P w= .ok sz w)(hl:(Builtin.lenOf X).run P w= .ok m w)(O:(Builtin.firstCells sz m X).run P w= .ok new w)(J:n+m<=cap)(hs:(match base with | some a=>storeCells (a.add (n*sz)) new.toList | none=>(pure ():Sem Unit)).run P w= .ok () w'):(Builtin.append_ #[t,t] ty #[.slice base n cap,X]).run P w= .ok (.slice base (n+m) cap) w':=by
 unfold Builtin.append_;cases base with
 | none=>
  have e:w=w':=(by injection hs);subst e;simp[underlying,program,Sem.run,R,S,hl,O,J]
 | some a=>simp only[] at hs;simp[underlying,program,Sem.run,R,S,hl,O,J,hs]
def wJ {X zv m old new J}(Z:P.underlying t=some (.slice e))(hz:∀w,(sizeOf e).run P w= .ok sz w)(hzv:∀w,(zeroValue e).run P w= .ok zv w)(S:∀w,(typeInfo e).run P w= .ok J w)(hl:(Builtin.lenOf X).run P w= .ok m w)(hf:(Builtin.firstCells sz m X).run P w.drew= .ok new w.drew)(ho:(Builtin.firstCells sz n (.slice base n cap)).run P w.drew= .ok old w.drew)(R:cap<n+m)(Y:n+m<=1073741824/\0<J.bytes/\J.bytes<=4096):
  ∃O,n+m<=O/\(Builtin.append_ #[t,t] ty #[.slice base n cap,X]).run P w= .ok (.slice (some ⟨w.heap.size,0,none⟩) (n+m) O) (w.drew.alloc (.cells (old++new++Builtin.zeroCells zv.cells (O - (n+m))) e (0,0))):=by
 have c1:¬n+m<=cap:=(by omega);have c3:¬(Builtin.nextslicecap (n+m) cap*J.bytes > 2 ^ 48):=by
  have h1:=sw (n+m) cap R;have h2:Builtin.nextslicecap (n+m) cap*J.bytes<=(2*1073741824+192)*4096:=ka7 (by omega) Y.2.2;omega
 have V:=λ(w:World) (k:Nat)=>nw (P:=P) (w:=w) k;refine ⟨(Question.appendCap (n+m) cap e).cut (w.tape w.drawn (.appendCap (n+m) cap e)),by simp[Question.cut],?_⟩;have e0:J.bytes≠0:=(by omega);unfold Builtin.append_;simp[underlying,program,Sem.run,Z,hz,hl,c1,S,choose,Question.forced];rw[iOm,kaU (by simpa using c3)]
 simp_all[newRow]
end Go.Sl
namespace Go.Sl
variable {d:Option Tmp}{t ty u:TypeId}{pos:String}{af:Array Edge}{gu:Option (Nat×Bool)}{x y:Operand}{v:Value}
def ny {a:Act}{w P X Y r}(hx:a.eval x=X)(hy:a.eval y=Y)(h:(Builtin.append_ #[t,u] ty #[X,Y]).run P w=r):
  (execOp a.eval ⟨d, .call {callee:= .builtin .append,args:=#[x,y],argTypes:=#[t,u]},ty,pos,af,gu⟩).run P w=r.andThen λv w'=> .ok (.value v) w':=by
 simp_all[execOp,resolve,invoke,builtin]
variable {cap j sz:Nat}{news rows:List (List Value)}
theorem pb {cs ec}(h0:0<sz)(hcs:cs.size=cap*sz)(J:rows.length+news.length<=cap)(hl:∀r∈rows,r.length=sz)(O:∀r∈news,r.length=sz)(hr:Rows (.cells cs ec (0,0)) 0 sz rows):
  rows.length*sz+news.flatten.length<=cs.size/\Rows (.cells (cV cs (rows.length*sz) news.flatten) ec (0,0)) 0 sz (rows++news):=by
 have S:rows.length*sz+news.flatten.length<=cs.size:=by
  rw[dT news O,hcs,<-ka2];exact ka8 _ J
 refine ⟨S,Rows.app (λj row hj f v V=>?_) (Rows.of_flat h0 O λk v hk=>?_)⟩
 ·have:=hr j row hj f v V;simp only[bK,ka9] at this ⊢;have R:=(kaz.1 hj).1;have X:f<sz:=(by grind);have:j*sz+f<rows.length*sz:=by
   have:(j+1)*sz<=rows.length*sz:=ka8 _ R
   grind
  grind[iU]
 grind[iU]
theorem pd {ec rest}(h0:0<sz)(hl:∀r∈rows,r.length=sz)(J:∀r∈news,r.length=sz):
  Rows (.cells (rows.flatten.toArray++news.flatten.toArray++rest) ec (0,0)) 0 sz (rows++news):=by
 grind[Rows.of_flat]
def kv zv k:(Builtin.zeroCells zv k).size=k*zv.size:=by simp[Builtin.zeroCells]
variable {c:Cx}{g:Option (Nat×Bool)}{E:di}{L L':List ag}{s:Option Addr}{b n o off:Nat}
theorem aR {s2:Option Addr}{m cap2:Nat}{zv:Value}{Z:TypeInfo}{ec:Nat}{F:List ag}(hu:c.P.underlying t=some (.slice ec))(hz:∀w,(sizeOf ec).run c.P w= .ok sz w)(hzv:∀w,(zeroValue ec).run c.P w= .ok zv w)(hti:∀w,(typeInfo ec).run c.P w= .ok Z w)[hx:EV g E x (sl s n cap)][hy:EV g E y (sl s2 m cap2)][R:OwR L s ec sz cap rows F][Y:SlR F s2 sz news](hnl:∀r∈news,r.length=sz)(h1:∀r∈news,ones r=true)(hb:n+m<=1073741824/\0<Z.bytes/\Z.bytes<=4096)(hzs:zv.cells.size=sz:=by exact rfl)(h0:0<sz:=by decide)(hn:rows.length=n:=by exact rfl)(hm:news.length=m:=by exact rfl):
  OpL c g E L ⟨d, .call {callee:= .builtin .append,args:=#[x,y],argTypes:=#[t,t]},ty,pos,af,gu⟩ λv L'=>∃s' cap',v=sl s' (n+m) cap'/\L'=be ec sz s' cap' (rows++news)::F:=have hx:=hx.p;have hy:=hy.p;
 .of_run λa w hE hg hS=>by
  subst hn hm;have V:=R.sat hS;have hY:=Y.out _ _ V.tail;have J:∀w':World,w'.heap=w.heap->(Builtin.firstCells sz news.length (sl s2 news.length cap2)).run c.P w'= .ok news.flatten.toArray w':=λw' hw'=>ot h0 hnl rfl (by rw[hw'];exact hY);have fl1:ones news.flatten=true:=lq λv hv=>by
   obtain ⟨r,hr,hv⟩:=kba.1 hv;exact ku (h1 r hr) v hv
  have ex:=λw' v h=>ny (d:=d) (ty:=ty) (pos:=pos) (af:=af) (gu:=gu) (t:=t) (u:=t) (r:= .ok v w') (P:=c.P) (w:=w) (hE.ev hg hx) (hE.ev hg hy) h;by_cases X:rows.length+news.length<=cap
  ·rcases dA V with ⟨rfl,rfl,rfl,hF⟩ | ⟨b,cs,rfl,a1,a2,a3,a4,hP⟩
   ·have hnews0:news=[]:=kbb.1 (by omega);subst hnews0;refine ⟨sl none (0+0) 0,w,_,ex w _ ?_,V,none,0,rfl,by simp⟩;exact mA (base:=none) hu hz ou (J w rfl) (by simp) rfl
   ·obtain ⟨hle,hrows⟩:=pb (ec:=ec) h0 a1 X a3 hnl a4;have hst:=dz (P:=c.P) b (rows.length*sz) ec news.flatten w cs 0 hP.at_ (by omega) fl1;refine ⟨sl (some ⟨b,0,none⟩) (rows.length+news.length) cap,k7 w b (.cells (cV cs (rows.length*sz) news.flatten) ec (0,0)),_,ex _ _ ?_,?_,some ⟨b,0,none⟩,cap,rfl,rfl⟩
    ·exact mA (base:=some ⟨b,0,none⟩) hu hz ou (J w rfl) X (by simpa [gi] using hst)
    ·refine fu (hP.set (o':= .cells (cV cs (rows.length*sz) news.flatten) ec (0,0)) W) (by rw[fI,a1]) (by simpa using X) ?_ hrows
     grind
  ·have O:(∀r∈rows,r.length=sz)/\(rows=[]\/∃b off o,s=some ⟨b,off,none⟩/\w.heap[b]? =some o/\Rows o off sz rows):=by
    rcases dA V with ⟨rfl,rfl,rfl,hF⟩ | ⟨b,cs,rfl,a1,a2,a3,a4,hP⟩
    ·exact ⟨by simp, .inl rfl⟩
    ·exact ⟨a3, .inr ⟨b,0,_,rfl,hP.at_,a4⟩⟩
   have hfo:(Builtin.firstCells sz rows.length (sl s rows.length cap)).run c.P w.drew= .ok rows.flatten.toArray w.drew:=ot h0 O.1 rfl O.2;obtain ⟨S,hc,hrun⟩:=wJ (ty:=ty) (t:=t) (cap:=cap) (n:=rows.length) hu hz hzv hti ou (J w.drew rfl) hfo (by omega) hb;refine ⟨_,_,_,ex _ _ hrun,?_,some ⟨w.heap.size,0,none⟩,S,rfl,rfl⟩;have hS2:Sat c.w0 (w.drew.alloc (.cells (rows.flatten.toArray++news.flatten.toArray++Builtin.zeroCells zv.cells (S - (rows.length+news.length))) ec (0,0))) _:=(V.tail.drew (w.drawn+1)).alloc _;refine fu hS2 ?_ (by simpa using hc) ?_<|pd h0 O.1 hnl
   ·simp only[kbc,kbd,dT rows O.1,dT news hnl,kv,hzs];rw[<-ka2,<-ka2];congr 1;omega
   grind
end Go.Sl
namespace Go.Sl
def bB cs:(Value.agg cs).cells=cs:=rfl
variable {v:Value}
def bJ (h:one v=true):v.cells=#[v]:=by cases v <;> first | rfl | cases h
variable {u:TypeId}{i j sz:Nat}{rows:List (List Value)}{row:List Value}
theorem Rows.set {cs ec f}(hl:∀r∈rows,r.length=sz)(hr:Rows (.cells cs ec (0,0)) 0 sz rows)(hj:rows[j]? =some row)(hf:f<sz)(Y:j*sz+f<cs.size):
  Rows (.cells (cs.setIfInBounds (j*sz+f) v) ec (0,0)) 0 sz (rows.set j (row.set f v)):=λi r hi O u V=>by
 have S:=(kaz.1 hj).1;have Z:=hl row (kbe hj);simp only[bK,ka9];by_cases J:i=j
 ·subst J;rw[kaK S] at hi;injection hi with hi;subst hi;by_cases R:O=f
  ·grind
  ·rw[kaL (Ne.symm R)] at V;rw[kaD (by omega)];simpa [bK] using hr i row hj O u V
 ·rw[kaL (Ne.symm J)] at hi;have X:O<sz:=(by grind);have hne:j*sz+f≠i*sz+O:=by
   intro he;rcases kbf J with h | h
   ·have:(i+1)*sz<=j*sz:=ka8 _ h
    grind
   ·have:(j+1)*sz<=i*sz:=ka8 _ h
    grind
  rw[kaD hne];simpa [bK] using hr i r hi O u V
theorem Ce {f}(hl:∀r∈rows,r.length=sz)(hj:rows[j]? =some row):∀r∈rows.set j (row.set f v),r.length=sz:=λr hr=>by
 grind
variable {c:Cx}{g gu:Option (Nat×Bool)}{E:di}{F L L':List ag}{d:Option Tmp}{t ty:TypeId}{pos:String}{af:Array Edge}{x y:Operand}{s:Option Addr}{ec b cap:Nat}
theorem tr {f:Nat}(hz:∀w,(sizeOf t).run c.P w= .ok 1 w)[hx:EV g E x (Am s (j*sz+f))][hy:EV g E y v][R:OwR L s ec sz cap rows F](hj:rows[j]? =some row)(Z:f<sz)(h1:one v=true:=by exact rfl):
  OpL c g E L ⟨d, .store t x y,ty,pos,af,gu⟩ λ_ L'=>L'=be ec sz s cap (rows.set j (row.set f v))::F:=have hx:=hx.p;have hy:=hy.p;
 .of_skip λa w O V Y=>by
  rcases dA (R.sat Y) with ⟨rfl,rfl,rfl,_⟩ | ⟨b,cs,rfl,X,a2,a3,a4,S⟩
  ·simp at hj
  ·have hjl:=(kaz.1 hj).1;have J:j*sz+f<cs.size:=by
    have:(j+1)*sz<=cap*sz:=ka8 _ (by omega)
    grind
   have hr:=dz (P:=c.P) b (j*sz+f) ec [v] w cs 0 S.at_ (by simp;omega) (by simp[ones,h1]);refine ⟨_,_,?_,fu (S.set (o':= .cells (cs.setIfInBounds (j*sz+f) v) ec (0,0)) rfl) (by simpa using X) (by simpa using a2) (Ce a3 hj) (a4.set a3 hj Z J),rfl⟩;simp only[execOp,O.ev V hx,O.ev V hy,Instr.storeAt,Instr.sureAddr,storeVar,Am,Option.map_some,gi,ka9,Sem.run_bind,Sem.run_pure,Result.andThen_ok]
   simp_all[bJ,cV,k7]
variable {K:List KI}
def aY (ec sz:Nat)(rows:List (List Value))(h:G c K E (be ec sz none 0 rows::L))(hr:rows=[]:=by exact rfl):G c K E L:=λa w J O=>h a w J (hr ▸ PZ ec sz O)
def tt (sz:Nat)(rows:List (List Value))(h:G c K E (roL sz none rows::L))(hr:rows=[]:=by exact rfl):G c K E L:=λa w J O=>h a w J ((Sat.pure_mk (φ:=True) trivial O).weak λm _=>Or.inl hr)
def bz s[R:OwR L s ec sz cap rows F](h:G c K E (roL sz s rows::F)):G c K E L:=λa w J O=>h a w J (Tb (R.sat O))
def fA (ec:Nat)(f:Int):Value:=if f=0 then .nilIface else .iface ec (I f)
variable {P:Program}{w:World}{f:Int}
def P0 {R}n(O:P.underlying t=some (.interface R)):(Op.equalIn (n+1) t (fA ec f) .nilIface).run P w= .ok (decide (f=0)) w:=by
 unfold fA;by_cases J:f=0
 ·simp[J,Op.equalIn,underlying,program,Sem.run,O]
 ·simp[J,Op.equalIn,underlying,program,Sem.run,O]
def rT {O}(J:P.underlying t=some (.interface O)):(Op.equal t (fA ec f) .nilIface).run P w= .ok (decide (f=0)) w:=P0 9999 J
def wk {op}:(eqGuard op t x (.const .nilIface) (fA ec f) .nilIface).run P w= .ok () w:=by
 unfold fA;by_cases J:f=0 <;> cases op <;> simp[J,eqGuard]
variable {op:Op}{Y:Array (String×TypeId)}
theorem fX (X:c.P.underlying t=some (.interface Y))[hx:EV g E x (fA ec f)]:OpV c g E L ⟨d, .binOp .eql t x (.const .nilIface) u,ty,pos,af,gu⟩ (.bool (decide (f=0))):=have hx:=hx.p;.mk λa w S V Z=>by
 have h1:=rT (P:=c.P) (w:=w) (ec:=ec) (f:=f) X;have J:=wk (P:=c.P) (w:=w) (t:=t) (x:=x) (ec:=ec) (f:=f) (op:= .eql);have O:a.eval (.const .nilIface)= .nilIface:=rfl;have R:binOp .eql t (fA ec f) .nilIface=(do pure (.bool (<-Op.equal t (fA ec f) .nilIface))):=by
  grind[binOp]
 simp[execOp,S.ev V hx,O,J,R,h1]
theorem bX (X:c.P.underlying t=some (.interface Y))[hx:EV g E x (fA ec f)]:OpV c g E L ⟨d, .binOp .neq t x (.const .nilIface) u,ty,pos,af,gu⟩ (.bool (!decide (f=0))):=have hx:=hx.p;.mk λa w S V Z=>by
 have h1:=rT (P:=c.P) (w:=w) (ec:=ec) (f:=f) X;have J:=wk (P:=c.P) (w:=w) (t:=t) (x:=x) (ec:=ec) (f:=f) (op:= .neq);have O:a.eval (.const .nilIface)= .nilIface:=rfl;have R:binOp .neq t (fA ec f) .nilIface=(do pure (.bool (!(<-Op.equal t (fA ec f) .nilIface)))):=by
  grind[binOp]
 simp[execOp,S.ev V hx,O,J,R,h1]
variable {k:IntKind}
def AL (X:c.P.underlying ec=some (.int k))(hx:ev g E x=some (fA ec f))(R:f≠0):OpV c g E L ⟨d, .typeAssert x t ec true,ty,pos,af,gu⟩ (.tuple #[I f, .bool true]):= .mk λa w O S V=>by
 have J:=O.ev S hx;simp only[fA,R,if_false] at J
 simp_all[execOp,Instr.typeAssert,underlying]
variable {v1 v2:Array Value}{b:Bool}
def LW (O:c.P.eqGuardType c.P.depth t=false)(hx:ev g E x=some (.agg v1))(hy:ev g E y=some (.agg v2))(J:∀w,(Op.equal t (.agg v1) (.agg v2)).run c.P w= .ok b w):OpV c g E L ⟨d, .binOp .eql t x y u,ty,pos,af,gu⟩ (.bool b):= .mk λa w R S V=>by
 simp[execOp,R.ev S hx,R.ev S hy,eqGuard,program,Sem.run,O,binOp,J]
def LX (O:c.P.eqGuardType c.P.depth t=false)(hx:ev g E x=some (.agg v1))(hy:ev g E y=some (.agg v2))(J:∀w,(Op.equal t (.agg v1) (.agg v2)).run c.P w= .ok b w):OpV c g E L ⟨d, .binOp .neq t x y u,ty,pos,af,gu⟩ (.bool (!b)):= .mk λa w R S V=>by
 simp[execOp,R.ev S hx,R.ev S hy,eqGuard,program,Sem.run,O,binOp,J]
def P1 {a b}n(J:P.underlying t=some (.int k)):(Op.equalIn (n+1) t (I a) (I b)).run P w= .ok (decide (a=b)) w:=by
 simp[Op.equalIn,underlying,program,Sem.run,J,Ef]
def WM a b:((⟨⟨a⟩⟩:ByteArray)==⟨⟨b⟩⟩)=decide (a=b):=by
 have:((⟨⟨a⟩⟩:ByteArray)==⟨⟨b⟩⟩)=((⟨a⟩:Array UInt8)==⟨b⟩):=rfl;rw[this,Ef];simp
def H7 {a b}n(J:P.underlying t=some .string):(Op.equalIn (n+1) t (ay a) (ay b)).run P w= .ok (decide (a=b)) w:=by
 have:=WM a b;simp[Op.equalIn,underlying,program,Sem.run,J,this]
def P2 {a}n(J:P.underlying t=some .bool):(Op.equalIn (n+1) t (Bo a) (Bo b)).run P w= .ok (decide (a=b)) w:=by
 simp[Op.equalIn,underlying,program,Sem.run,J,Ef]
def uX (ec sz n:Nat)(rows:List (List Value))(F:List ag):Value->List ag->Prop:=λv L'=>∃s cap,v=sl s n cap/\L'=be ec sz s cap rows::F
variable {n:Nat}{vs:List Value}
def cU {m:Nat}(O:c.R=uX ec sz n rows F)(hr:fY E c.fn.results.toList=some vs)(hv:tn vs=sl s m cap)(hn:m=n)[S:Sub L (be ec sz s cap rows::F)](hds:c.n.ds=[]:=by rfl):G c (.code .ret::K) E L:=
 λa w J V=>wp_ret (cb (bf (hds:=hds) hr J (S.sat V) (by rw[O];exact ⟨s,cap,by rw[hv,hn],rfl⟩)))
variable {all rest:List Oper}{dd:Nat}{J:Bool}
theorem bh {s:Nat}[hi:DS all i s][hs:LK none E s (.bool b)](h:OpV c none E L ⟨some dd,op,ty,pos,af,some (i,J)⟩ v)(k:G c (.ops all rest::K) ((dd,none,v)::E) L)(hw:b=J:=by exact rfl)(hd:mb c.n dd E=true:=by exact rfl):G c (.ops all (⟨some dd,op,ty,pos,af,some (i,J)⟩::rest)::K) E L:=have hi:=hi.p;have hs:=hs.p;λa w O R=>by
 have hy:=jz (a:=a) hi O hs;refine wpList_step λnx hk=>?_;rw[kaT (by grind[Region.wanted])];exact qP h O (cT a) R<|hk _ _<|k _ w (O.put1 hd) R
variable {N:Value->List ag->Prop}
theorem wK {s:Nat}[hi:DS all i s][hs:LK none E s (.bool b)](h:OpL c none E L ⟨some dd,op,ty,pos,af,some (i,J)⟩ N)(k:∀v L',N v L'->G c (.ops all rest::K) ((dd,none,v)::E) L')(hw:b=J:=by exact rfl)(hd:mb c.n dd E=true:=by exact rfl):G c (.ops all (⟨some dd,op,ty,pos,af,some (i,J)⟩::rest)::K) E L:=have hi:=hi.p;have hs:=hs.p;λa w O V=>by
 have hy:=jz (a:=a) hi O hs;refine wpList_step λnx hk=>?_;rw[kaT (by grind[Region.wanted])];exact h.out a w O (cT a) V nx _ λv w' L' R S=>hk _ _ (k v L' S _ w' (O.put1 hd) R)
variable {e:TypeId}
theorem Tc {s:Nat}{L2}(hi:(all[i]?).bind (·.dst)=some s)(hs:look none E s=some (.bool b))(h:b=J->OpL c (some (s,J)) E L ⟨some dd,op,ty,pos,af,some (i,J)⟩ (R1 v L2))[S:Sub L2 L](hd:mb c.n dd E=true)(hne:Nat.beq s dd=false)(k:G c (.ops all rest::K) ((dd,some (s,J),v)::E) L):G c (.ops all (⟨some dd,op,ty,pos,af,some (i,J)⟩::rest)::K) E L:=λa w O Z=>by
 have hy:=jz (a:=a) hi O hs;have hb:=O.look (cT a) hs;refine wpList_step λnx hk=>?_;have R:∀j V,some (s,J)=some (j,V)->j≠dd:=λj V e=>(by grind[Nat.ne_of_beq_eq_false]);by_cases hw:b=J
 ·rw[kaT (by grind[Region.wanted])];have Y:gd (some (s,J)) a:=λj V e=>(by grind);refine (h hw).out a w O Y Z nx _ λv' w' L' X hN=>?_;obtain ⟨rfl,rfl⟩:=hN;exact hk _ _<|k _ w' (O.put hd R λ_=>rfl)<|S.sat X
 ·rw[kaU (by grind[Region.wanted])];refine hk _ _<|k _ w (O.put hd R λY=>?_) Z;have:=Y s J rfl
  grind
variable {ats:Array TypeId}
def AM {p q ats}(hx:ev g E x=some (.int k p))(hy:ev g E y=some (.int k q)):OpV c g E L ⟨d, .call {callee:= .builtin .max,args:=#[x,y],argTypes:=ats},ty,pos,af,gu⟩ (.int k (if p<q then q else p)):= .mk λa w J O R=>by
 simp[execOp,resolve,invoke,builtin,Builtin.max_,Builtin.max2,J.ev O hx,J.ev O hy]
def LY {p q ats}(hx:ev g E x=some (.int k p))(hy:ev g E y=some (.int k q)):OpV c g E L ⟨d, .call {callee:= .builtin .min,args:=#[x,y],argTypes:=ats},ty,pos,af,gu⟩ (.int k (if q<p then q else p)):= .mk λa w J O R=>by
 simp[execOp,resolve,invoke,builtin,Builtin.min_,Builtin.min2,J.ev O hx,J.ev O hy]
def WI (f:Value->Value)(ec sz n:Nat)(rows:List (List Value))(F:List ag):Value->List ag->Prop:=λv L'=>∃s cap,v=f (sl s n cap)/\L'=be ec sz s cap rows::F
def nA {m:Nat}{f:Value->Value}(O:c.R=WI f ec sz n rows F)(hr:fY E c.fn.results.toList=some vs)(hn:m=n)(hv:tn vs=f (sl s m cap))[S:Sub L (be ec sz s cap rows::F)](hds:c.n.ds=[]:=by rfl):G c (.code .ret::K) E L:=
 λa w J V=>wp_ret (cb (bf (hds:=hds) hr J (S.sat V) (by rw[O];exact ⟨s,cap,by rw[hv,hn],rfl⟩)))
def Vm (g:Option (Nat×Bool))(E:di):List (Nat×Operand)->Option (List (Nat×Value))
 | []=>some []
 | (i,x)::ps=>match ev g E x with
  | some v=>match Vm g E ps with | some vs=>some ((i,v)::vs) | none=>none
  | none=>none
class EVQ (g:Option (Nat×Bool))(E:di)(x:List (Nat×Operand))(v:outParam (List (Nat×Value))):Prop where p:Vm g E x=some v
instance {g:Option (Nat×Bool)}{E:di}:EVQ g E [] []:=⟨rfl⟩
instance {g:Option (Nat×Bool)}{E:di}{i:Nat}{x:Operand}{y:List (Nat×Operand)}{v:Value}{m:List (Nat×Value)}[h:EV g E x v][j:EVQ g E y m]:EVQ g E ((i,x)::y) ((i,v)::m):=⟨by simp [Vm,h.p,j.p]⟩
def LZ {n E a g}(h:EOk n E a)(R:gd g a):∀{O:List (Nat×Operand)} {vs:List (Nat×Value)},Vm g E O=some vs->O.map (λp=>(p.1,a.eval p.2))=vs
 | [],vs,hl=>by injection hl with hl
 | (i,x)::O,vs,hl=>by
  unfold Vm at hl;split at hl
  ·rename_i v hv;split at hl
   ·rename_i S J;injection hl with hl;subst hl;simp[h.ev R hv,LZ h R J]
   ·cases hl
  ·cases hl
def aS {parts vs}[hx:EVQ g E parts vs](hr:∀w,(Instr.build t vs.toArray).run c.P w= .ok v w):OpV c g E L ⟨d, .build t parts.toArray,ty,pos,af,gu⟩ v:=have hx:=hx.p;.mk λa w J O R=>by
 have:=LZ J O hx;simp[execOp,this,hr]
variable {b o:Nat}
theorem Eg {a:Act}{r:Nat}{X:Obj}{fE:List ag}(Z:c.fn.results.toList=[.cell r t])(hx:look none E r=some (ptr b o))(ha:∀w,(isAgg t).run c.P w= .ok true w)(hz:∀w,(sizeOf t).run c.P w= .ok sz w)[h:Has L b X](hl:vs.length=sz)(hv:∀k v,vs[k]? =some v->bK X (o+k)=some v)(O:EOk c.n E a)(V:Sat c.w0 w L)[S:Sub L fE](Y:c.R (.agg vs.toArray) fE)(hds:c.n.ds=[]:=by rfl):(a.defers=[]/\∃v,(results c.fn a.tmps).run c.P w= .ok v w/\∃L,Sat c.w0 w L/\c.R v L)\/∃D w',a.defers=[markD D]/\(Instr.takeDeferred D).run c.P w= .ok [] w'/\∃v,(results c.fn a.tmps).run c.P w'= .ok v w'/\∃L,Sat c.w0 w' L/\c.R v L:=by
 have hh:=h.out _ _ V;have J:=fW (P:=c.P) (w:=w) b sz 0 o #[] vs hl (λk v hk=>by grind[iu]);have h1:=O.look (cT a) hx;refine .inl ⟨O.defers.trans hds, .agg vs.toArray,?_,fE,S.sat V,Y⟩;rw[pa,kaS,Z]
 simp_all[u4,asAddr,loadVar,loadCells]
def eC {r:Nat}{J:Obj}{fE:List ag}(vs:List Value)(V:c.R=R1 (.agg vs.toArray) fE)(Z:c.fn.results.toList=[.cell r t])(hx:look none E r=some (ptr b o))(Y:∀w,(isAgg t).run c.P w= .ok true w)(hz:∀w,(sizeOf t).run c.P w= .ok sz w)[h:Has L b J](hl:vs.length=sz)
  (hv:∀k v,vs[k]? =some v->bK J (o+k)=some v) [S:Sub L fE] (hds:c.n.ds=[]:=by rfl):G c (.code .ret::K) E L:=
 λa w O X=>wp_ret (cb (Eg (hds:=hds) (h:=h) (S:=S) Z hx Y hz hl hv O X (by rw[V];exact ⟨rfl,rfl⟩)))
end Go.Sl
namespace Go.Proofs.YthdjckbjjfiopabGreatDoor
open _root_.Go.Proofs.Tryz
open Go.Sl Go.Proofs
abbrev cqq:=Ct Tryz.prog
def Xu:=@sizeOf3
def Xv:=@isAgg3
def Xw:=@sizeOf174
def Xx:=@sizeOf9
def Xy:=@underlying33
def Xz:=@underlying9
def XA:=@underlying3
def XB:=@underlying105
def XC:=@underlying71
def XD:=@isAgg9
def XE:=@sizeOf162
def XF:=@underlying37
def XG:=@underlying117
def XH:=@zeroValue174
def XI:=@underlying5
def XJ:=@underlying174
def XK:=@underlying123
def XL:=@sizeOf4
def XN:=@underlying268
def XO:=@sizeOf195
def XP:=@underlying121
def XQ:=@underlying162
def XR:=@sizeOf185
def XS:=@sizeOf121
def XT:=@underlying46
def XU:=@isAgg174
def XV:=@underlying187
def XW:=@underlying139
def XX:=@underlying231
def XY:=@underlying126
def XZ:=@underlying134
def X0:=@sizeOf187
def X4:=@zeroValue162
def X5:=@zeroValue3
def X6:=@underlying185
def X7:=@sizeOf120
def X8:=@underlying190
def X9:=@zeroValue9
def Ya:=@isAgg121
def Yb:=@isAgg120
def Yc:=@underlying103
def Yd:=@sizeOf5
def Ye:=@underlying195
def Yf:=@sizeOf229
def Yg:=@sizeOf86
def Yh:=@underlying179
def Yi:=@isAgg195
def Yj:=@underlying198
def Yk:=@isAgg229
def Yl:=@underlying229
def Ym:=@zeroValue5
def Yn:=@sizeOf183
def Yo:=@underlying154
def Yp:=@isAgg4
def Yq:=@underlying32
def Yr:=@underlying132
def Ys:=@underlying131
def Yt:=@sizeOf142
def Yu:=@isAgg185
def Yv:=@underlying152
def Yw:=@underlying273
def Yx:=@zeroValue187
def Yy:=@sizeOf137
def Yz:=@underlying232
def YA:=@sizeOf188
def YB:=@underlying188
def YC:=@sizeOf239
def YD:=@sizeOf132
def YE:=@sizeOf29
def YF:=@underlying183
def YG:=@sizeOf136
def YH:=@sizeOf232
def YI:=@isAgg162
def YJ:=@sizeOf42
def YK:=@underlying137
def YL:=@zeroValue183
def YM:=@sizeOf33
def YN:=@underlying234
def YO:=@isAgg232
def YP:=@underlying286
def YQ:=@sizeOf247
def YR:=@sizeOf131
def YS:=@sizeOf25
def YT:=@isAgg29
def YU:=@sizeOf26
def YV:=@sizeOf124
def YW:=@isAgg42
def YX:=@isAgg137
def YY:=@sizeOf228
def YZ:=@underlying142
def Y0:=@isAgg132
def Y1:=@sizeOf130
def Y2:=@isAgg25
def Y3:=@isAgg228
def Y4:=@isAgg124
def Y5:=@isAgg95
def Y6:=@isAgg53
def Y7:=@underlying86
def Y8:=@underlying239
def Y9:=@isAgg26
def Za:=@sizeOf53
def Zb:=@sizeOf32
def Zc:=@sizeOf184
def Zd:=@underlying184
def Ze:=@underlying247
def Zf:=@zeroValue142
def Zg:=@sizeOf71
def Zh:=@underlying136
def Zi:=@isAgg196
def Zj:=@isAgg33
def Zk:=@underlying91
def Zl:=@zeroValue195
def Zm:=@sizeOf135
def Zn:=@isAgg71
def Zo:=@underlying168
def Zp:=@zeroValue86
def Zq:=@underlying219
def Zr:=@sizeOf56
def Zs:=@sizeOf59
def Zt:=@sizeOf177
def Zu:=@underlying135
def Zv:=@sizeOf100
def Zw:=@sizeOf43
def Zx:=@sizeOf196
def Zy:=@isAgg286
def Zz:=@isAgg100
def ZA:=@underlying100
def ZB:=@sizeOf101
def ZC:=@isAgg43
def ZD:=@underlying43
def ZE:=@sizeOf44
def ZF:=@isAgg56
def ZG:=@isAgg59
def ZH:=@isAgg135
def ZI:=@underlying265
def ZJ:=@underlying327
def ZK:=@zeroValue185
def ZL:=@isAgg101
def ZM:=@underlying101
def ZN:=@isAgg32
def ZO:=@isAgg44
def ZP:=@underlying44
def ZQ:=@underlying130
def ZR:=@runUnderlying174
def ZS:=@zeroValue135
def ZT:=@underlying321
def ZU:=@isAgg268
def ZV:=@sizeOf213
def ZW:=@isAgg86
def ZX:=@isAgg131
def ZY:=@zeroValue247
def ZZ:=@zeroValue136
def Z0:=@sizeOf319
def Z1:=@sizeOf108
def Z2:=@sizeOf268
def Z3:=@isAgg187
def Z4:=@sizeOf41
def Z5:=@zeroValue239
def Z6:=@zeroValue319
def Z7:=@isAgg136
def Z8:=@underlying177
def Z9:=@isAgg108
def kaa:=@underlying203
def kab:=@sizeOf325
def kac:=@underlying325
def kad:=@underlying215
def kae:=@isAgg213
def kaf:=@underlying213
def kag:=@isAgg41
def kah:=@underlying225
def kai:=@runUnderlying187
def kaj:=@sizeOf327
def kak:=@zeroValue123
def kal:=@runUnderlying123
def kam:=@zeroValue166
def kan:=@underlying166
def kao:=@zeroValue212
def kap:=@zeroValue217
def kaq:=@zeroValue223
def kar:=@runUnderlying142
def kas:=@runUnderlying183
def kau:=@runUnderlying195
def kav:=@runUnderlying162
def kaw:=@runUnderlying126
def Gx v0(h0:one v0=true)v4(J:one v4=true)w:(Instr.build 134 #[(0,v0),(4,v4)]).run Tryz.prog w= .ok (.agg #[v0,ay [],ay [],ay [],ay [],ay [],ay [],ay [],ay [],ay [],ay [],ay [],ay [],ay [],ay [],ay [],ay [],sl none 0 0,I 0,v4,sl none 0 0]) w:=by
 simp[Instr.build,zeroValue134,runUnderlying134,Y1,YR,YD,Xu,Instr.fill,bB,sl,bJ h0,bJ J]
def Gy v0(h0:one v0=true)v4(J:one v4=true)w:(Instr.build 139 #[(0,v0),(4,v4)]).run Tryz.prog w= .ok (.agg #[v0,ay [],ay [],ay [],ay [],ay [],ay [],ay [],ay [],ay [],ay [],ay [],ay [],ay [],ay [],ay [],ay [],Bo false,Bo false,Bo false,Bo false,Bo false,Bo false,Bo false,Bo false,Bo false,Bo false,Bo false,Bo false,Bo false,Bo false,Bo false,Bo false,I 0,v4,sl none 0 0]) w:=by
 simp[Instr.build,zeroValue139,runUnderlying139,Y1,YG,Yy,Xu,Instr.fill,bB,sl,bJ h0,bJ J]
def sx v0(h0:one v0=true)v1(h1:one v1=true)w:(Instr.build 142 #[(0,v0),(1,v1)]).run Tryz.prog w= .ok (.agg #[v0,v1]) w:=by
 simp[Instr.build,Zf,kar,Xu,Instr.fill,bB,sl,bJ h0,bJ h1]
def Gz v0(h0:one v0=true)v1(h1:one v1=true)w:(Instr.build 152 #[(0,v0),(1,v1)]).run Tryz.prog w= .ok (.agg #[v0,v1, .pointer none]) w:=by
 simp[Instr.build,zeroValue152,runUnderlying152,YS,YU,Zr,Instr.fill,bB,sl,bJ h0,bJ h1]
def GA v0(h0:one v0=true)v1(h1:one v1=true)w:(Instr.build 154 #[(0,v0),(1,v1)]).run Tryz.prog w= .ok (.agg #[v0,v1]) w:=by
 simp[Instr.build,zeroValue154,runUnderlying154,YE,Zs,Instr.fill,bB,sl,bJ h0,bJ h1]
def iF v0(h0:one v0=true)v1(h1:one v1=true)w:(Instr.build 174 #[(0,v0),(1,v1)]).run Tryz.prog w= .ok (.agg #[v0,v1,Bo false]) w:=by
 simp[Instr.build,XH,ZR,XL,Xx,Instr.fill,bB,sl,bJ h0,bJ h1]
def Cf v0(h0:one v0=true)v1(h1:one v1=true)v2(J:one v2=true)w:(Instr.build 174 #[(0,v0),(1,v1),(2,v2)]).run Tryz.prog w= .ok (.agg #[v0,v1,v2]) w:=by
 simp[Instr.build,XH,ZR,XL,Xx,Instr.fill,bB,sl,bJ h0,bJ h1,bJ J]
def Cg v0(h0:one v0=true)v1(h1:one v1=true)v3(J:one v3=true)w:(Instr.build 179 #[(0,v0),(1,v1),(3,v3)]).run Tryz.prog w= .ok (.agg #[v0,v1,sl none 0 0,v3,Bo false]) w:=by
 simp[Instr.build,zeroValue179,runUnderlying179,Zt,Xu,XL,Zg,Instr.fill,bB,sl,bJ h0,bJ h1,bJ J]
def sy v0(h0:one v0=true)v1(h1:one v1=true)w:(Instr.build 183 #[(0,v0),(1,v1)]).run Tryz.prog w= .ok (.agg #[v0,v1]) w:=by
 simp[Instr.build,YL,kas,Xu,Xx,Instr.fill,bB,sl,bJ h0,bJ h1]
def eY v0(h0:one v0=true)v1(h1:one v1=true)v2(J:one v2=true)v3(O:one v3=true)w:(Instr.build 195 #[(0,v0),(1,v1),(2,v2),(3,v3)]).run Tryz.prog w= .ok (.agg #[v0,v1,v2,v3]) w:=by
 simp[Instr.build,Zl,kau,Xu,Instr.fill,bB,sl,bJ h0,bJ h1,bJ J,bJ O]
def L3 v0(h0:one v0=true)w:(Instr.build 198 #[(0,v0)]).run Tryz.prog w= .ok (.agg #[v0,I 0,I 0,I 0,I 0, .pointer none,sl none 0 0]) w:=by
 simp[Instr.build,zeroValue198,runUnderlying198,XO,Zx,YS,YM,Instr.fill,bB,sl,bJ h0]
def xX v0(h0:one v0=true)v1(h1:one v1=true)w:(Instr.build 231 #[(0,v0),(1,v1)]).run Tryz.prog w= .ok (.agg #[v0,v1]) w:=by
 simp[Instr.build,zeroValue231,runUnderlying231,YY,Yf,Instr.fill,bB,sl,bJ h0,bJ h1]
def L4 v0(h0:one v0=true)w:(Instr.build 234 #[(0,v0)]).run Tryz.prog w= .ok (.agg #[v0]) w:=by
 simp[Instr.build,zeroValue234,runUnderlying234,YH,Instr.fill,bB,sl,bJ h0]
def xY v0(h0:one v0=true)v1(h1:one v1=true)v2(J:one v2=true)v3(O:one v3=true)w:(Instr.build 273 #[(0,v0),(1,v1),(2,v2),(3,v3)]).run Tryz.prog w= .ok (.agg #[v0,v1,v2,v3,I 0]) w:=by
 simp[Instr.build,zeroValue273,runUnderlying273,YS,Xu,Instr.fill,bB,sl,bJ h0,bJ h1,bJ J,bJ O]
def GB v0(h0:one v0=true)v1(h1:one v1=true)w:(Instr.build 319 #[(0,v0),(1,v1)]).run Tryz.prog w= .ok (.agg #[v0,v1]) w:=by
 simp[Instr.build,Z6,runUnderlying319,Xu,Xx,Instr.fill,bB,sl,bJ h0,bJ h1]
abbrev WN:Nat:=117
structure Area where
 fr:Int
 many:Int
 deriving DecidableEq
abbrev Ch (a:Area):List Value:=[I a.fr,I a.many]
abbrev bQ (f:Int):Value:=fA WN f
def aV (l:List Area):List (List Value):=l.map Ch
def Td (n:Int):Prop:= -9223372036854775808<=n/\n<=9223372036854775807
variable {l:List Area}{k:Nat}{a:Area}
def jp (h:l[k]? =some a):(aV l)[k]? =some (Ch a):=by simp[aV,h]
def dN l:(aV l).length=l.length:=by simp[aV]
def Ci:Int->List Area->Int
 | _,[]=>0
 | e,a::l=>if a.fr<0\/a.many<1\/a.fr > 16 - a.many\/a.many > 16 then 1 else if a.fr<=e then 3 else Ci (a.fr+a.many) l
def bL (m:Nat->Bool):List Value:=(List.range 16).map λi=>Bo (m i)
def bA (m:Nat->Bool):Array Value:=(bL m).toArray
def jh m:(bL m).length=16:=by simp[bL]
variable {m:Nat->Bool}{j:Nat}
def Sk (h:j<16):(bL m)[j]? =some (Bo (m j)):=by simp[bL,h]
def qQ {ec:Nat}{fr}(h:j<16):bK (.cells (bA m) ec fr) (0+j*1)=some (Bo (m j)):=by simp[bK,bA,bL,h]
theorem ls {ec:Nat}{fr}:∀k v,(bL m)[k]? =some v->bK (.cells (bA m) ec fr) (0+k)=some v:=λk v h=>by grind[bK,bA]
theorem x3 (h:j<16)b:(bA m).setIfInBounds (0+j*1) (Bo b)=bA (λi=>if i=j then b else m i):=by
 grind[bA,bL]
def qR m:ones (bL m)=true:=lq λv hv=>by
 simp[bL] at hv;obtain ⟨a,_,rfl⟩:=hv;rfl
theorem bG {cs:Array Value}{vs:List Value}(h:vs.length=cs.size:=by exact rfl):cV cs 0 vs=vs.toArray:=by
 apply kbg
 grind[iU]
theorem L5 {m'}(h:∀j,j<16->m j=m' j):bA m=bA m':=by
 grind[bA,bL]
def mk (l:List Area)(p:Nat):Bool:=l.any λa=>decide (a.fr<=p/\(p:Int)<a.fr+a.many)
def P3 (m:Nat->Bool)(a:Area)(i:Nat)(p:Nat):Bool:=m p || decide (a.fr<=p/\(p:Int)<a.fr+i)
def Cj (l:List Area):Prop:=∀a∈l,0<=a.fr/\1<=a.many/\a.fr+a.many<=16
theorem H8:bA (mk [])=Array.replicate 16 (Bo false):=by
 grind[bA,bL,mk]
theorem P4 (h:l[k]? =some a)(J:0<=a.many):P3 (mk (l.take k)) a a.many.toNat=mk (l.take (k+1)):=by
 grind[P3,mk,List.take_succ_eq_append_getElem]
theorem L6 m a:m=P3 m a 0:=by
 grind[P3]
theorem P5 {i:Nat}(hj:(j:Int)=a.fr+i)(h0:0<=a.fr):(λp=>if p=j then true else P3 m a i p)=P3 m a (i+1):=by
 grind[P3]
def lC (l:List Area):Area:=l.getD (l.length - 1) ⟨0,0⟩
def wl (m:Nat->Bool)(k:Nat)(l:List Area):List Area:=
 if m k=true then (if 0<l.length/\(lC l).fr+(lC l).many=k then l.set (l.length - 1) ⟨(lC l).fr,(lC l).many+1⟩ else l++ [⟨k,1⟩]) else l
def fJ (m:Nat->Bool):Nat->List Area
 | 0=>[]
 | k+1=>wl m k (fJ m k)
theorem qh (h:0<l.length):l[l.length - 1]? =some (lC l):=by
 grind[lC]
theorem qi m:∀k,(fJ m k).length<=k/\∀a∈fJ m k,0<=a.fr/\1<=a.many/\a.fr+a.many<=k
 | 0=>by simp[fJ]
 | k+1=>by
  obtain ⟨h1,J⟩:=qi m k;simp only[fJ,wl];split
  ·split
   ·rename_i hm hl;refine ⟨by simp;omega,λa O=>?_⟩;rcases kbi O with h | h
    ·have:=J a h;omega
    ·subst h;have:=J _ (kbe (qh hl.1));simp;omega
   grind
  grind
abbrev dr (m:Nat->Bool):List Area:=fJ m 16
def J8:(aV l).set j ((Ch a).set 1 (I (a.many+1)))=aV (l.set j ⟨a.fr,a.many+1⟩):=by simp[aV,Ch,kbj]
def AN l x y:aV l++ [[I x,I y]]=aV (l++ [⟨x,y⟩]):=by simp[aV,Ch]
def L7 (m:Nat->Bool)(k:Nat)(z:List Area×Int):List Area×Int:=
 let f:=if (decide ((k:Int)<16) && m k) && decide (z.2<0) then (k:Int) else z.2
 if !(decide ((k:Int)<16) && m k) && decide (0<=f) then (z.1++ [⟨f,k - f⟩], -1) else (z.1,f)
def dl (m:Nat->Bool):Nat->List Area×Int
 | 0=>([], -1)
 | k+1=>L7 m k (dl m k)
theorem xj m:∀k,k<=16->(dl m k).2<k/\ -1<=(dl m k).2/\(dl m k).1.length<=k/\
  ((dl m k).2<0->fJ m k=(dl m k).1/\((dl m k).1=[]\/(lC (dl m k).1).fr+(lC (dl m k).1).many<k))/\
  (0<=(dl m k).2->fJ m k=(dl m k).1++ [⟨(dl m k).2,k - (dl m k).2⟩])
 | 0,_=>by simp[dl,fJ]
 | k+1,hk=>by
  obtain ⟨h1,J,S,O,R⟩:=xj m k (by omega);simp only[dl,fJ]
  grind[L7,wl,lC]
theorem Te m:(dl m 17).1=dr m:=by
 obtain ⟨h1,J,_,O,R⟩:=xj m 16 (by omega)
 grind[L7,dl]
def lu l s cap(hl:l.length<=1000000)(hv:Cj l)F:cqq 213 [sl s l.length cap] (roL 2 s (aV l)::F) (R1 (.agg (bA (mk l))) (roL 2 s (aV l)::F)):=by
 refine Ct.of func213 W 26 ntmps213 (by simp) λw0=>?_;refine A<|gI (aO (Array.replicate 16 (Bo false)) ZS) ?_;rintro _ _ ⟨R,rfl,rfl⟩;refine ab<|A<|gI (aO (bA (mk (l.take 0))) (λw=>by rw[kbk,H8];exact ZS w)) ?_;rintro _ _ ⟨S,rfl,rfl⟩;refine ab<|ac<|A<|C<|M (aP Ys)<|C<|ab<|ak ?_;refine aL (α:=Nat) (λk=>k<=l.length) (λk=>U [(2,ptr R 0),(3,ptr S 0),(7,sl s l.length cap),(8,I l.length),(9,I k)]) (λk=>pcc S (bA (mk (l.take k))) 135::pcc R (Array.replicate 16 (Bo false)) 135::roL 2 s (aV l)::F) (λk=>l.length - k) 0 (by simp) [2,3,7,8,9] rfl ?_;intro k hk;refine A<|M aG<|ab<|ac<|ah ?_ ?_<;>intro J
 ·obtain ⟨a,V⟩:∃a,l[k]? =some a:=⟨l[k]'(by simp at J;omega),by simp at J;simp⟩;have X:k<l.length:=(kaz.1 V).1;have hkr:k<(aV l).length:=(by rw[dN];exact X);have hr:=jp V;obtain ⟨Y,hv2,hv3⟩:=hv a (kbe V);refine ai<|ac<|ak<|A<|M (av _ Ys Yt (by assumption) (by assumption))<|M (bO isAgg142 Yt (by assumption))<|gI (aO #[I 0,I 0] Zf) ?_;rintro _ _ ⟨Z,rfl,rfl⟩;refine gU (az #[I a.fr,I a.many] Yt (by decide))<|ab<|A<|gF 1 YZ W Xu<|M (aA Xv)<|C<|ab ?_;rw[L6 (mk (l.take k)) a];refine ak ?_;refine aL (α:=Nat) (λi=>(i:Int)<=a.many) (λi=>U [(2,ptr R 0),(3,ptr S 0),(5,ptr Z 0),(7,sl s l.length cap),(8,I l.length),(9,I k),(14,I a.many),(15,I i)]) (λi=>pcc S (bA (P3 (mk (l.take k)) a i)) 135::pcc Z #[I a.fr,I a.many] 142::pcc R (Array.replicate 16 (Bo false)) 135::roL 2 s (aV l)::F) (λi=>a.many.toNat - i) 0 (by simp;omega) [2,3,5,7,8,9,14,15] rfl ?_;intro i hi;refine A<|M aG<|ab<|ac<|ah ?_ ?_<;>intro O
  ·simp at O;refine ai<|ac<|ak<|A<|C<|T<|al<|gF 0 YZ W Xu<|M (aA Xv)<|C<|gP<|M (bp (a.fr+i).toNat Zu XL (hj:=by omega) (by omega))<|gU (aJ (bA (P3 (mk (l.take k)) a (i+1))) XL (by simp[bA,bL];omega) (hcs:=by rw[x3 (by omega),P5 (by omega) Y]))<|ab<|aE<|al<|gP<|C<|ab ?_;exact an (i+1) (by omega) (by omega) [2,3,5,7,8,9,14,15] rfl
  ·simp at O;obtain rfl:i=a.many.toNat:=(by omega);rw[P4 V (by omega)];refine aF ?_;refine aE<|al<|gP<|C<|ab ?_;exact an (k+1) (by omega) (by omega) [2,3,7,8,9] rfl
 ·simp at J;obtain rfl:k=l.length:=(by omega);rw[kbl];refine aF ?_;refine A<|M (bj (vs:=bL (mk l)) ZH Zm (hl:=jh _) ls)<|gU (az (bA (mk l)) Zm (hl:=by exact jh _) (h1:=by exact qR _) (by simp) (hcs:=by exact bG (h:=by simp[bL])))<|ab ?_;exact eC (bL (mk l)) rfl rfl rfl ZH Zm (jh _) ls
def pf m F:cqq 214 [.agg (bA m)] (F) (uX 142 2 (dr m).length (aV (dr m)) F):=by
 refine Ct.of func214 W 50 ntmps214 (by simp) λw0=>?_;refine A<|gI (dw (bA m)) ?_;rintro _ _ ⟨b1,rfl,rfl⟩;refine T<|ac ?_;refine aY 142 2 (aV (fJ m 0)) ?_;refine al<|T<|ac<|A<|T<|ak ?_;refine aL (α:=Nat×Option Addr×Nat) (λz=>z.1<=16) (λz=>U [(1,ptr b1 0),(3,sl z.2.1 (fJ m z.1).length z.2.2),(4,I z.1)]) (λz=>be 142 2 z.2.1 z.2.2 (aV (fJ m z.1))::pcc b1 (bA m) 135::F) (λz=>16 - z.1) (0,none,0) (by simp) [1,3,4] rfl ?_;rintro ⟨k,s,cap⟩ X;simp only[] at X ⊢;have hfk:=qi m k;refine ac<|A<|C<|M aG<|ab<|ah ?_ ?_<;>intro h7
 ·simp at h7;have hk:k<16:=(by omega);refine ai<|ac<|ak<|ac<|A<|C<|M (bp k Zu XL hk)<|M (aA Yp (hv:=⟨qQ hk⟩))<|M cS<|ab<|ah ?_ ?_<;>intro O
  ·simp at O;have e:fJ m (k+1)=fJ m k:=(by simp[fJ,wl,O]);rw[<-e];skip;refine aF ?_;refine al<|C<|gP<|T ?_;exact an (k+1,s,cap) (by simp;omega) (by simp;omega) [1,3,4] rfl
  ·simp at O;obtain ⟨hfl,V⟩:=hfk;have e:fJ m (k+1)=wl m k (fJ m k):=rfl;generalize hlp:fJ m k=lp at*;unfold wl at e;rw[kaT O] at e;refine ai<|A<|C<|M (aP Ys)<|T<|ac ?_;refine dy jO ?_;refine dM W<|dV W aQ<|dM W<|dJ W ao<|dJ W ao<|sv W (λJ=>eG (cK (by simp at J;omega)))<|sv W (λJ=>av (lp.length - 1) Ys Yt (hj:=by simp at J;omega) (by simp at J;omega) (by rw[dN];simp at J;omega))<|sv W (λJ=>aK (j:=0) 0 YZ W Xu (by rw[dN];simp at J;omega))<|sv W (λJ=>bS Xv (jp (qh (by simp at J;omega))))<|dJ W ao<|dJ W ao<|sv W (λJ=>eG (cK (by simp at J;omega)))<|sv W (λJ=>av (lp.length - 1) Ys Yt (hj:=by simp at J;omega) (by simp at J;omega) (by rw[dN];simp at J;omega))<|sv W (λJ=>aK (j:=0) 1 YZ W Xu (by rw[dN];simp at J;omega))<|sv W (λJ=>bS Xv (jp (qh (by simp at J;omega))))<|sv W (λJ=>bx (cK (by have:=V _ (kbe (qh (by simp at J;omega)));omega)))<|dJ W ao<|dJ W bE<|dV W dc ?_;refine aN<|ah ?_ ?_<;>intro S
   ·simp at S;rw[kaT (by omega)] at e;have R:=qh (l:=lp) (by omega);have AG:=V _ (kbe R);refine al<|C<|C<|M (eG (cK (by omega)))<|M (av (lp.length - 1) Ys Yt (hj:=by omega) (by omega) (by rw[dN];omega))<|M (aK (j:=0) 1 YZ W Xu (by rw[dN];omega))<|M (bS Xv (jp R))<|gP<|M (av (lp.length - 1) Ys Yt (hj:=by omega) (by omega) (by rw[dN];omega))<|M (aK (j:=0) 1 YZ W Xu (by rw[dN];omega))<|io (tr (row:=Ch (lC lp)) Xu (jp R) (by decide)) ?_;rintro _ _ rfl;rw[J8,<-e];refine ab<|aE<|al<|C<|gP<|T ?_;exact an (k+1,s,cap) (by simp;omega) (by simp;omega) [1,3,4] rfl (he:=by simp[U,e])
   ·have Y:¬(0<lp.length/\(lC lp).fr+(lC lp).many=k):=(by simp at S;omega);rw[kaU Y] at e;refine al<|C<|C<|M (aS (sx _ W _ W))<|gI (ap [[I k,I 1]] Ys Yt Zf (by simp)) ?_;rintro _ _ ⟨b47,rfl,rfl⟩;refine gI (aR Ys Yt Zf Tryz.typeInfo142 (hn:=by exact dN _) (by simp) (by simp[ones,one]) ⟨by omega,by decide,by decide⟩) ?_;rintro _ _ ⟨s48,Z,rfl,rfl⟩;rw[AN,<-e];refine T<|aE<|al<|C<|gP<|T ?_;exact an (k+1,s48,Z) (by simp;omega) (by simp;omega) [1,3,4] rfl (he:=by simp[U,e])
 ·simp at h7;obtain rfl:k=16:=(by omega);refine aF ?_;refine A<|C<|T ?_;exact cU rfl rfl rfl rfl
def tu (m n:Nat->Bool)(p:Nat):Bool:=m p || n p
def uY (m:Nat->Bool)(sz:Int)(p:Nat):Bool:=m p && decide ((p:Int)<sz)
def Ao (f g:Nat->Bool)(k:Nat)(p:Nat):Bool:=if p<k then f p else g p
theorem H9 f g(h:k<16)b(J:b=f k):(bA (Ao f g k)).setIfInBounds (0+k*1) (Bo b)=bA (Ao f g (k+1)):=by
 rw[x3 h]
 grind[L5,Ao]
def Eh f g:Ao f g 0=g:=by funext p;simp[Ao]
def qS {m m'}(h:∀j,j<16->m j=m' j):∀k,k<=16->fJ m k=fJ m' k
 | 0,_=>rfl
 | k+1,hk=>by simp only[fJ,wl,qS h k (by omega),h k (by omega)]
def lx a b s R cap J(Y:a.length<=1000000)(Z:b.length<=1000000)(S:Cj a)(V:Cj b)F:cqq 150 [sl s a.length cap,sl R b.length J] (roL 2 s (aV a)::roL 2 R (aV b)::F) (uX 142 2 (dr (tu (mk a) (mk b))).length (aV (dr (tu (mk a) (mk b)))) (roL 2 s (aV a)::roL 2 R (aV b)::F)):=by
 refine Ct.of func150 W 27 ntmps150 (by simp) λw0=>?_;refine A<|T<|A<|C<|gR (vB call213 (lu _ _ _ Y S))<|gI (aO (Array.replicate 16 (Bo false)) ZS) ?_;rintro _ _ ⟨X,rfl,rfl⟩;refine gU (az (bA (Ao (tu (mk a) (mk b)) (mk a) 0)) Zm (hl:=by exact jh _) (h1:=by exact qR _) (by simp) (hcs:=by rw[Eh];exact bG (h:=by simp[bL])))<|ab<|ac<|A<|C<|gR (vB call213 (lu _ _ _ Z V))<|C<|ab<|ak ?_;refine aL (α:=Nat) (λk=>k<=16) (λk=>U [(5,ptr X 0),(11, .agg (bA (mk b))),(12,I k)]) (λk=>pcc X (bA (Ao (tu (mk a) (mk b)) (mk a) k)) 135::roL 2 s (aV a)::roL 2 R (aV b)::F) (λk=>16 - k) 0 (by simp) [5,11,12] rfl ?_;intro k hk;refine A<|M aG<|ab<|ac<|ah ?_ ?_<;>intro O
 ·simp at O;have hk:k<16:=(by omega);refine ai<|ac<|ak<|A<|C<|M (ln k Zu XL Yp hk (by simpa [bA] using Sk hk))<|gA<|T<|al<|C<|C<|M (bp k Zu XL hk)<|M (aA Yp (hv:=⟨qQ hk⟩))<|C<|gK ao<|M cv<|M (bp k Zu XL hk)<|gU (aJ (bA (Ao (tu (mk a) (mk b)) (mk a) (k+1))) XL (by simp[bA,bL];omega) (hcs:=by exact H9 _ _ hk _ (by simp[Ao,tu])))<|ab<|aE<|al<|gP<|C<|ab ?_;exact an (k+1) (by omega) (by omega) [5,11,12] rfl
 ·simp at O;obtain rfl:k=16:=(by omega);refine aF ?_;refine A<|M (bj (vs:=bL (Ao (tu (mk a) (mk b)) (mk a) 16)) ZH Zm (hl:=jh _) ls)<|gI (uA call214 (pf (Ao (tu (mk a) (mk b)) (mk a) 16))) ?_;rintro _ _ ⟨s9,c9,rfl,rfl⟩;rw[show dr (Ao (tu (mk a) (mk b)) (mk a) 16)=dr (tu (mk a) (mk b)) from qS (λj hj=>by simp[Ao,hj]) 16 (kax _)];refine T ?_;exact cU rfl rfl rfl rfl
def Ej a s cap sz(S:a.length<=1000000)(O:Cj a)F:cqq 145 [sl s a.length cap,I sz] (roL 2 s (aV a)::F) (uX 142 2 (dr (uY (mk a) sz)).length (aV (dr (uY (mk a) sz))) (roL 2 s (aV a)::F)):=by
 refine Ct.of func145 W 25 ntmps145 (by simp) λw0=>?_;refine A<|T<|A<|C<|gR (vB call213 (lu _ _ _ S O))<|gI (aO (Array.replicate 16 (Bo false)) ZS) ?_;rintro _ _ ⟨R,rfl,rfl⟩;refine gU (az (bA (Ao (uY (mk a) sz) (mk a) 0)) Zm (hl:=by exact jh _) (h1:=by exact qR _) (by simp) (hcs:=by rw[Eh];exact bG (h:=by simp[bL])))<|ab<|ac<|A<|C<|ab<|ak ?_;refine aL (α:=Nat) (λk=>k<=16) (λk=>U [(1,I sz),(5,ptr R 0),(9,I k)]) (λk=>pcc R (bA (Ao (uY (mk a) sz) (mk a) k)) 135::roL 2 s (aV a)::F) (λk=>16 - k) 0 (by simp) [1,5,9] rfl ?_;intro k hk;refine A<|M aG<|ab<|ac<|ah ?_ ?_<;>intro J
 ·simp at J;have hk:k<16:=(by omega);refine ai<|ac<|ak<|A<|C<|T<|al<|C<|C<|M (bp k Zu XL hk)<|M (aA Yp (hv:=⟨qQ hk⟩))<|C<|gK ao<|gK ao<|gK aG<|M dc<|M (bp k Zu XL hk)<|gU (aJ (bA (Ao (uY (mk a) sz) (mk a) (k+1))) XL (by simp[bA,bL];omega) (hcs:=by exact H9 _ _ hk _ (by simp[Ao,uY])))<|ab<|aE<|al<|gP<|C<|ab ?_;exact an (k+1) (by omega) (by omega) [1,5,9] rfl
 ·simp at J;obtain rfl:k=16:=(by omega);refine aF ?_;refine A<|M (bj (vs:=bL (Ao (uY (mk a) sz) (mk a) 16)) ZH Zm (hl:=jh _) ls)<|gI (uA call214 (pf (Ao (uY (mk a) sz) (mk a) 16))) ?_;rintro _ _ ⟨V,c9,rfl,rfl⟩;rw[show dr (Ao (uY (mk a) sz) (mk a) 16)=dr (uY (mk a) sz) from qS (λj hj=>by simp[Ao,hj]) 16 (kax _)];refine T ?_;exact cU rfl rfl rfl rfl
def Ek (l:List Area)(p:Int):Bool:=l.any λa=>decide (a.fr<=p/\p<a.fr+a.many)
theorem mc {α:Type}{l:List α}{a}(h:l[k]? =some a):l.take (k+1)=l.take k++ [a]:=by
 grind[List.take_succ_eq_append_getElem]
def pg (m:Nat->Bool)(from_ many:Int):Nat->Nat->(Nat->Bool)->Int->(Nat->Bool)×Int
 | 0,_,out,_=>(out, -1)
 | r+1,k,out,n=>if (!m k || decide ((k:Int)<from_))=true then pg m from_ many r (k+1) out n
  else if n=many then (out,k) else pg m from_ many r (k+1) (λi=>if i=k then true else out i) (n+1)
def ov (m:Nat->Bool)(from_ many:Int):(Nat->Bool)×Int:=pg m from_ many 16 0 (λ_=>false) 0
def P7 m from_ many(h:k<16)out n:pg m from_ many (16 - k) k out n=if (!m k || decide ((k:Int)<from_))=true then pg m from_ many (16 - (k+1)) (k+1) out n
  else if n=many then (out,(k:Int)) else pg m from_ many (16 - (k+1)) (k+1) (λi=>if i=k then true else out i) (n+1):=by
 rw[show 16 - k=(16 - (k+1))+1 by omega,pg]
def L8:bA (λ_=>false)=Array.replicate 16 (Bo false):=H8
def El l s cap p(hp:Td p)(hl:l.length<=1000000)(hv:Cj l)F:cqq 211 [sl s l.length cap,I p] (roL 2 s (aV l)::F) (R1 (Bo (Ek l p)) (roL 2 s (aV l)::F)):=by
 refine Ct.of func211 W 27 ntmps211 (by simp) λw0=>?_;simp only[Td] at hp;refine A<|T<|ac<|A<|C<|M (aP Ys)<|C<|ab<|ak ?_;refine aL (α:=Nat) (λk=>k<=l.length/\Ek (l.take k) p=false) (λk=>U [(1,I p),(7,sl s l.length cap),(8,I l.length),(9,I k)]) (λ_=>roL 2 s (aV l)::F) (λk=>l.length - k) 0 ⟨by simp,rfl⟩ [1,7,8,9] rfl ?_;rintro k ⟨hk,O⟩;refine A<|M aG<|ab<|ac<|ah ?_ ?_<;>intro R
 ·obtain ⟨a,J⟩:∃a,l[k]? =some a:=⟨l[k]'(by simp at R;omega),by simp at R;simp⟩;have V:k<l.length:=(kaz.1 J).1;have X:k<(aV l).length:=(by rw[dN];exact V);have Y:=jp J;obtain ⟨hv1,hv2,hv3⟩:=hv a (kbe J);refine ai<|ac<|ak<|A<|M (av _ Ys Yt (by assumption) (by assumption))<|M (bO isAgg142 Yt (by assumption))<|gI (aO #[I 0,I 0] Zf) ?_;rintro _ _ ⟨b6,rfl,rfl⟩;refine gU (az #[I a.fr,I a.many] Yt (by decide))<|ab<|A<|C<|gF 0 YZ W Xu<|M (aA Xv)<|M kp<|C<|gK ao<|gK (aw 0 YZ W Xu)<|gK (aA Xv)<|Gv (λZ=>eG (cK (by simp at Z;omega)))<|gK (aw 1 YZ W Xu)<|gK (aA Xv)<|gK aG<|M dc<|ab ?_;apply ah<;>intro S
  ·simp at S;refine A<|T ?_;refine am W W ?_;show Bo true=_;have:Ek l p=true:=(by simp only[Ek,kbm];exact ⟨a,kbe J,by simp;omega⟩);rw[this]
  ·simp at S;refine ai<|aE<|al<|gP<|C<|ab ?_;exact an (k+1) ⟨by omega,by rw[mc J];simp only[Ek,List.any_append] at O ⊢;rw[O];simp;intro hx;have:=S hx;omega⟩ (by omega) [1,7,8,9] rfl
 ·simp at R;obtain rfl:k=l.length:=(by omega);rw[kbl] at O;refine aF ?_;refine A<|T ?_;refine am W W ?_;show Bo false=_;rw[O]
def Ck l s cap from_ many(hl:l.length<=1000000)(hv:Cj l)F:cqq 210 [sl s l.length cap,I from_,I many] (roL 2 s (aV l)::F) (WI (λv=> .tuple #[v,I (ov (mk l) from_ many).2]) 142 2 (dr (ov (mk l) from_ many).1).length (aV (dr (ov (mk l) from_ many).1)) (roL 2 s (aV l)::F)):=by
 refine Ct.of func210 W 40 ntmps210 (by simp) λw0=>?_;refine A<|gA<|T<|A<|C<|gR (vB call213 (lu _ _ _ hl hv))<|gI (aO (Array.replicate 16 (Bo false)) ZS) ?_;rintro _ _ ⟨b8,rfl,rfl⟩;refine gU (az (bA (mk l)) Zm (hl:=by exact jh _) (h1:=by exact qR _) (by simp) (hcs:=by exact bG (h:=by simp[bL])))<|ab<|A<|gI (aO (bA (λ_=>false)) (λw=>by rw[L8];exact ZS w)) ?_;rintro _ _ ⟨Z,rfl,rfl⟩;refine ab<|A<|T<|ac<|A<|M (bj (vs:=bL (mk l)) ZH Zm (hl:=jh _) ls)<|C<|ab<|ak ?_;refine aL (α:=Nat×(Nat->Bool)×Nat) (λz=>z.1<=16/\z.2.2<=z.1/\ov (mk l) from_ many=pg (mk l) from_ many (16 - z.1) z.1 z.2.1 z.2.2) (λz=>U [(1,I from_),(2,I many),(9,ptr Z 0),(10,I z.2.2),(15, .agg (bA (mk l))),(16,I z.1)]) (λz=>pcc Z (bA z.2.1) 135::roL 2 s (aV l)::F) (λz=>16 - z.1) (0,(λ_=>false),0) ⟨by simp,by simp,rfl⟩ [1,2,9,10,15,16] rfl ?_;rintro ⟨k,out,n⟩ ⟨X,hn,J⟩;simp only[] at X hn J ⊢;refine A<|M aG<|ab<|ac<|ah ?_ ?_<;>intro V
 ·simp at V;have hk:k<16:=(by omega);rw[P7 _ _ _ hk] at J;refine ai<|ac<|ak<|A<|C<|M (ln k Zu XL Yp hk (by simpa [bA] using Sk hk))<|gA<|T<|ac<|A<|C<|M cS<|C<|gK ao<|gK ao<|gK aG<|M cv<|ab<|ah ?_ ?_<;>intro O
  ·have R:=O;simp at O;refine aF ?_;refine al<|gP<|C<|ab ?_;exact an (k+1,out,n) ⟨by simp;omega,by simp;omega,by rw[J,kaT (by simp;omega)]⟩ (by simp;omega) [1,2,9,10,15,16] rfl
  ·have R:=O;simp at O;refine ai<|ac<|A<|C<|C<|M bE<|ab<|ah ?_ ?_<;>intro S
   ·simp at S;refine A<|M (bj (vs:=bL (out)) ZH Zm (hl:=jh _) ls)<|gI (uA call214 (pf out)) ?_;rintro _ _ ⟨s9,c9,rfl,rfl⟩;refine C<|gA<|T ?_;rw[kaU (by rw[R];simp),kaT S] at J;rw[J];exact nA (f:=λv=> .tuple #[v,I k]) rfl rfl rfl rfl
   ·simp at S;refine ai<|A<|C<|M (bp k Zu XL hk)<|gU (aJ (bA (λi=>if i=k then true else out i)) XL (by simp[bA,bL];omega) (hcs:=by exact x3 hk true))<|ab<|al<|C<|gP<|T<|aE<|al<|gP<|C<|ab ?_;exact an (k+1,(λi=>if i=k then true else out i),n+1) ⟨by simp;omega,by simp;omega,by rw[J,kaU (by simp;omega),iOm];rfl⟩ (by simp;omega) [1,2,9,10,15,16] rfl
 ·simp at V;obtain rfl:k=16:=(by omega);refine aF ?_;refine A<|M (bj (vs:=bL (out)) ZH Zm (hl:=jh _) ls)<|gI (uA call214 (pf out)) ?_;rintro _ _ ⟨s9,c9,rfl,rfl⟩;refine gA<|T ?_;have Y:ov (mk l) from_ many=(out, -1):=J;rw[Y];exact nA (f:=λv=> .tuple #[v,I (-1)]) rfl rfl rfl rfl
def AO (l:List Area)(k i:Nat)(p:Nat):Bool:=if p<k then mk l p else if p=k then mk (l.take i) k else false
def L9 l:AO l 0 0=λ_=>false:=by funext p;simp[AO,mk]
theorem Ma:AO l k l.length=AO l (k+1) 0:=by
 grind[AO,mk]
theorem P9 {i}(h:l[i]? =some a)(J:a.fr<=k/\(k:Int)<a.fr+a.many):(λp=>if p=k then true else AO l k i p)=AO l k (i+1):=by
 funext p
 simp only[AO,mc h]
 grind[mk]
theorem Mb {i}(h:l[i]? =some a)(J:¬(a.fr<=k/\(k:Int)<a.fr+a.many)):AO l k i=AO l k (i+1):=by
 funext p
 simp only[AO,mc h]
 grind[mk]
def Qa l:bA (AO l 16 0)=bA (mk l):=L5 λj hj=>by simp[AO,hj]
def Cl l s cap(hl:l.length<=1000000)(hv:Cj l)F:cqq 147 [sl s l.length cap] (roL 2 s (aV l)::F) (R1 (.agg (bA (mk l))) (roL 2 s (aV l)::F)):=by
 refine Ct.of func147 W 41 ntmps147 (by simp) λw0=>?_;refine A<|gI (aO (Array.replicate 16 (Bo false)) ZZ) ?_;rintro _ _ ⟨V,rfl,rfl⟩;refine ab<|A<|gI (aO (bA (AO l 0 0)) (λw=>by rw[L9,L8];exact ZZ w)) ?_;rintro _ _ ⟨X,rfl,rfl⟩;refine ab<|ac<|A<|T<|ak ?_;refine aL (α:=Nat) (λk=>k<=16) (λk=>U [(0,sl s l.length cap),(2,ptr V 0),(3,ptr X 0),(4,I k)]) (λk=>pcc X (bA (AO l k 0)) 136::pcc V (Array.replicate 16 (Bo false)) 136::roL 2 s (aV l)::F) (λk=>16 - k) 0 (by simp) [0,2,3,4] rfl ?_;intro k hk;refine ac<|A<|C<|M aG<|ab<|ah ?_ ?_<;>intro Z
 ·simp at Z;have hk:k<16:=(by omega);refine ai<|ac<|ak<|A<|T<|ak ?_;refine aL (α:=Nat) (λi=>i<=l.length) (λi=>U [(0,sl s l.length cap),(2,ptr V 0),(3,ptr X 0),(4,I k),(5,I i)]) (λi=>pcc X (bA (AO l k i)) 136::pcc V (Array.replicate 16 (Bo false)) 136::roL 2 s (aV l)::F) (λi=>l.length - i) 0 (by simp) [0,2,3,4,5] rfl ?_;intro i hi;refine ac<|A<|C<|C<|M (aP Ys)<|M aG<|ab<|ah ?_ ?_<;>intro S
  ·simp at S;have hin:i<l.length:=(by omega);obtain ⟨a,J⟩:∃a,l[i]? =some a:=⟨l[i]'(by omega),by simp⟩;have R:i<l.length:=(kaz.1 J).1;have Y:i<(aV l).length:=(by rw[dN];exact R);have hr_a:=jp J;obtain ⟨hv1,hv2,hv3⟩:=hv a (kbe J);refine ai<|ac<|ak<|ac<|gG (plN [0,2,4,6,8,10,12,14,16,18,20,22,24,26,28,30,32,34,36,38,40,42])<|dM W<|dM W<|dM W<|dV W (av _ Ys Yt (by assumption) (by assumption))<|dV W (aK (j:=_) 0 YZ W Xu (by assumption))<|dV W (bS Xv (by assumption))<|dV W kp<|dM W<|dJ W ao<|dJ W ao<|dJ W ao<|dJ W (av _ Ys Yt (by assumption) (by assumption))<|dJ W (aK (j:=_) 0 YZ W Xu (by assumption))<|dJ W (bS Xv (by assumption))<|dJ W ao<|dJ W ao<|dJ W (av _ Ys Yt (by assumption) (by assumption))<|dJ W (aK (j:=_) 1 YZ W Xu (by assumption))<|dJ W (bS Xv (by assumption))<|sv W (λhg=>bx (cK (by simp at hg;omega)))<|dJ W aG<|dV W dc ?_;refine aN<|ah ?_ ?_<;>intro O
   ·simp at O;refine al<|C<|M (bp k Zh XL hk)<|gU (aJ (bA (AO l k (i+1))) XL (by simp[bA,bL];omega) (hcs:=by rw[x3 hk,P9 J O]))<|ab<|aE<|al<|C<|gP<|T ?_;exact an (i+1) (by omega) (by omega) [0,2,3,4,5] rfl
   ·simp at O;refine ai<|aE<|al<|C<|gP<|T ?_;rw[Mb J (by omega)];exact an (i+1) (by omega) (by omega) [0,2,3,4,5] rfl
  ·simp at S;obtain rfl:i=l.length:=(by omega);rw[Ma];refine aF ?_;refine aE<|al<|C<|gP<|T ?_;exact an (k+1) (by omega) (by omega) [0,2,3,4] rfl
 ·simp at Z;obtain rfl:k=16:=(by omega);refine aF ?_;refine A<|M (bj (vs:=bL (AO l 16 0)) Z7 YG (hl:=jh _) ls)<|gU (az (bA (AO l 16 0)) YG (hl:=by exact jh _) (h1:=by exact qR _) (by simp) (hcs:=by exact bG (h:=by simp[bL])))<|ab ?_;rw[<-Qa l];exact eC (bL (AO l 16 0)) rfl rfl rfl Z7 YG (jh _) ls
def Cm (m:Nat->Bool)(k:Nat)(f:Int):Int:=if ((decide ((k:Int)<16) && m k) && decide (f<0))=true then (k:Int) else f
theorem Em m k:dl m (k+1)=if (!(decide ((k:Int)<16) && m k) && decide (0<=Cm m k (dl m k).2))=true then ((dl m k).1++ [⟨Cm m k (dl m k).2,k - Cm m k (dl m k).2⟩], -1) else ((dl m k).1,Cm m k (dl m k).2):=rfl
def J9 (h:(!(decide ((k:Int)<16) && m k) && decide (0<=Cm m k (dl m k).2))=true):dl m (k+1)=((dl m k).1++ [⟨Cm m k (dl m k).2,k - Cm m k (dl m k).2⟩], -1):=by
 rw[Em,kaT h]
theorem GC (h:(!(decide ((k:Int)<16) && m k) && decide (0<=Cm m k (dl m k).2))=false):dl m (k+1)=((dl m k).1,Cm m k (dl m k).2):=by
 grind[Em]
theorem Tf (hk:k<=16): -1<=Cm m k (dl m k).2/\Cm m k (dl m k).2<=k:=by
 obtain ⟨h1,J,_⟩:=xj m k hk
 grind[Cm]
def u5 m F:cqq 152 [.agg (bA m)] (F) (uX 142 2 (dr m).length (aV (dr m)) F):=by
 refine Ct.of func152 W 39 ntmps152 (by simp) λw0=>?_;refine A<|gI (dw (bA m)) ?_;rintro _ _ ⟨b1,rfl,rfl⟩;refine T<|ac ?_;refine aY 142 2 (aV (dl m 0).1) ?_;refine al<|T<|A<|T<|ac<|A<|T<|ak ?_;refine aL (α:=Nat×Option Addr×Nat) (λz=>z.1<=17) (λz=>U [(1,ptr b1 0),(3,sl z.2.1 (dl m z.1).1.length z.2.2),(4,I (dl m z.1).2),(5,I z.1)]) (λz=>be 142 2 z.2.1 z.2.2 (aV (dl m z.1).1)::pcc b1 (bA m) 136::F) (λz=>17 - z.1) (0,none,0) (by simp) [1,3,4,5] rfl ?_;rintro ⟨k,s,cap⟩ R;simp only[] at R ⊢;refine ac<|A<|C<|M qe<|ab<|ah ?_ ?_<;>intro Y
 ·simp at Y;have hk:k<=16:=(by omega);obtain ⟨hb1,hb2,hb3,_⟩:=xj m k hk;refine ai<|ac<|ak<|A<|C<|M aG<|C<|gK ao<|Gv (λV=>bp k Zh XL (by simp at V;omega))<|Gv (λV=>aA Yp (hv:=⟨qQ (by simp at V;omega)⟩))<|M dc<|T<|ac<|A<|C<|C<|gK ao<|gK aG<|M dc<|ab ?_;refine lV (α:=Unit) (λ_=>True) (λ_=>U [(1,ptr b1 0),(3,sl s (dl m k).1.length cap),(4,I (Cm m k (dl m k).2)),(5,I k),(6, .bool (decide ((k:Int)<16) && m k))]) (λ_=>be 142 2 s cap (aV (dl m k).1)::pcc b1 (bA m) 136::F) ?_ ?_
  ·apply ah<;>intro J
   ·refine al<|C<|T ?_;exact cJ () trivial [1,3,4,5,6] rfl (he:=by simp only[Cm,J];rfl)
   ·refine ai ?_;exact cJ () trivial [1,3,4,5,6] rfl (he:=by simp only[Cm,J];rfl)
  rintro ⟨⟩ -;refine A<|C<|M cS<|C<|gK ao<|gK kp<|M dc<|ab<|ah ?_ ?_<;>intro O
  ·refine A<|C<|C<|C<|C<|M (eG (cK (by have:=Tf (m:=m) hk;omega)))<|M (aS (sx _ W _ W))<|gI (ap [[I (Cm m k (dl m k).2),I (k - Cm m k (dl m k).2)]] Ys Yt Zf (by simp)) ?_;rintro _ _ ⟨Z,rfl,rfl⟩;refine gI (aR Ys Yt Zf Tryz.typeInfo142 (hn:=by exact dN _) (by simp) (by simp[ones,one]) ⟨by omega,by decide,by decide⟩) ?_;rintro _ _ ⟨X,c37,rfl,rfl⟩;rw[AN];refine T<|al<|T<|aE<|al<|C<|gP<|T ?_;have e:=J9 O;have S:(dl m (k+1)).1=(dl m k).1++ [⟨Cm m k (dl m k).2,k - Cm m k (dl m k).2⟩]:=(by rw[e]);rw[<-S];exact an (k+1,X,c37) (by simp;omega) (by simp;omega) [1,3,4,5] rfl (he:=by simp[U,e])
  ·refine ai<|aE<|al<|C<|gP<|T ?_;have e:=GC O;have S:(dl m (k+1)).1=(dl m k).1:=(by rw[e]);rw[<-S];exact an (k+1,s,cap) (by simp;omega) (by simp;omega) [1,3,4,5] rfl (he:=by simp[U,e])
 ·simp at Y;obtain rfl:k=17:=(by omega);rw[Te];refine aF ?_;refine A<|C<|T ?_;exact cU rfl rfl rfl rfl
def u6 e f(he:0<=e)F:cqq 14 [bQ e,I f] (F) (R1 (Bo (decide (e=f))) F):=by
 refine Ct.of func14 W 26 ntmps14 (by simp) λw0=>?_;refine A<|T<|ac<|A<|C<|M (fX XF)<|ab<|ah ?_ ?_<;>intro J
 ·simp at J;subst J;refine A<|C<|M bE<|T ?_;refine am W W ?_;show Bo (decide (f=0))=_;rw[decide_eq_decide.2 (show f=0 ↔ 0=f by omega)]
 ·simp at J;refine ai<|A<|C<|M (AL XG W J)<|C<|M aB<|M aB<|gA<|T<|A<|C<|C<|gK ao<|gK aQ<|M dc<|C<|gK ao<|gK ao<|gK bE<|M dc<|T ?_;refine am W W ?_;show Bo ((true && decide (0<f)) && decide (e=f))=_;by_cases h:e=f
  ·subst h;simp;omega
  ·simp[h]
def cM (m:Nat->Bool):Nat->Nat
 | 0=>0
 | k+1=>cM m k+if m k=true then 1 else 0
def Mc:∀{l:List Area} {e:Int},Ci e l=0->Cj l/\∀a∈l,e<a.fr
 | [],e,_=>by simp[Cj]
 | a::l,e,h=>by
  unfold Ci at h;split at h
  ·omega
  ·split at h
   ·omega
   ·rename_i h1 S;obtain ⟨O,R⟩:=Mc h;refine ⟨λb J=>?_,λb J=>?_⟩
    ·rcases kbn.1 J with rfl | J
     ·omega
     ·exact O b J
    ·rcases kbn.1 J with rfl | J
     ·omega
     ·have:=R b J;omega
theorem ly m:(dr m).length<=1000000:=by have:=(qi m 16).1;show (fJ m 16).length<=_;omega
open Go.Sl Go.Proofs Go.ChangeShapes Go.WideShapes Go.ChangeAt Go.RowKit
def own:ownKnob Tryz.prog.godebug=none:=by kernel_rfl
def laidOut:laidOutB Tryz.prog=true:=by kernel_rfl
def OldRows (bk:World)(a:Option Addr)(sz:Nat)(rows:List (List Value)):Prop:=rows=[]\/∃b off o,a=some ⟨b,off,none⟩/\bk.heap[b]? =some o/\Go.Sl.Rows o off sz rows
variable {rows:List (List Value)}
theorem OldRows.sat {w0 w L a sz}(h:OldRows w0 a sz rows)(J:Sat w0 w (old w0::L)):Sat w0 w (roL sz a rows::old w0::L):=by
 rcases h with rfl | ⟨b,off,o,rfl,O,hr⟩
 ·exact (Sat.pure_mk (φ:=True) trivial J).weak λm _=>Or.inl rfl
 ·exact (J.old_ro O).weak λm hm=>Or.inr ⟨b,off,o,rfl,hm,hr⟩
instance:Inhabited Area:=⟨⟨0,0⟩⟩
variable {bk:World}
def GD {sz len a}(hl:rows.length=len)(h:∀i row,rows[i]? =some row->∀f v,row[f]? =some v->bk.cell? ((a.add (i*sz)).add f)=some v)(hne:∀row∈rows,row≠ []):OldRows bk (some a) sz rows:=by
 by_cases h0:rows=[]
 ·exact .inl h0
 ·right;obtain ⟨V,rs,rfl⟩:=kbo h0;obtain ⟨v0,vs,S⟩:=kbo (hne V (by simp));have R:=h 0 V rfl 0 v0 (by rw[S];rfl);have O:=World.cell?_spot R;simp[Addr.add] at O R;obtain ⟨b,off,X⟩:=a;simp only at O;subst O;cases hh:bk.heap[b]? with
  | none=>simp[World.cell?,hh] at R
  | some o=>
   refine ⟨b,off,o,rfl,hh,λj row hj f v Y=>?_⟩;have J:=h j row hj f v Y;rw[gi,gi] at J;unfold World.cell? at J;simp only[hh] at J;cases o <;> simp at J;simpa [bK,kaW] using J
def law_of {f:Nat}{args L}(J:Sat bk bk (L++ [old bk]))(h:∀F,cqq f args (L++F) (R1 (.bool true) (L++F))):
  Calls Tryz.prog f args.toArray bk λe w'=>e= .returned (.bool true)/\RowKit.Below bk.heap.size bk w':=
 (h [old bk] bk bk J).mono λe w' he=>by
  cases e with
  | returned v=>
   obtain ⟨L',h1,rfl,rfl⟩:=he;exact ⟨rfl,(h1.endFront).below⟩
  | panicked O=>exact he.elim
  | outgrown=>exact he.elim
end Go.Proofs.YthdjckbjjfiopabGreatDoor
namespace Go.Sl
variable {b:Nat}
def u7 (v:Value)(want:Bool):Bool:=match v with | .bool b=>b !=want | _=>true
variable {c:Cx}{E:di}{L:List ag}{ty:TypeId}{pos:String}{af:Array Edge}{K:List KI}{all rest:List Oper}{dd:Nat}{op:Op}
theorem bi {i s:Nat}{vs:Value}{J:Bool}[hi:DS all i s][hs:LK none E s vs](k:G c (.ops all rest::K) ((dd,none,undef)::E) L)(hw:u7 vs J=true:=by exact rfl)(hd:mb c.n dd E=true:=by exact rfl):G c (.ops all (⟨some dd,op,ty,pos,af,some (i,J)⟩::rest)::K) E L:=have hi:=hi.p;have hs:=hs.p;λa w O R=>by
 have h1:=O.look (cT a) hs;have hy:yielded all.toArray a.tmps i≠some J:=by
  grind[yielded,u7]
 refine wpList_step λnx hk=>?_;rw[kaU (by simp[Region.wanted,hy])];exact hk _ _<|k _ w (O.put1 hd) R
variable {g gu:Option (Nat×Bool)}{d:Option Tmp}{x y z:Operand}{v1:Value}
def eV {q:Bool}[J:EV g E z (.bool q)][hx:EV g E x v1](hq:q=true:=by exact rfl):OpV c g E L ⟨d, .pick z x y,ty,pos,af,gu⟩ v1:=have J:=J.p;have hx:=hx.p;.mk λa w O R S=>by
 simp[execOp,O.ev R J,O.ev R hx,asBool,hq]
def fa {q:Bool}[J:EV g E z (.bool q)][hy:EV g E y v1](hq:q=false:=by exact rfl):OpV c g E L ⟨d, .pick z x y,ty,pos,af,gu⟩ v1:=have J:=J.p;have hy:=hy.p;.mk λa w O R S=>by
 simp[execOp,O.ev R J,O.ev R hy,asBool,hq]
end Go.Sl
namespace Go.Sl
variable {v:Value}{j:Nat}
theorem Rows.rep {J:Array Value}{ec}n(h0:0<J.size):Rows (.cells ((Array.range (n*J.size)).map (J[· % J.size]!)) ec (0,0)) 0 J.size (List.replicate n J.toList):=λj row hj f v V=>by
 simp only[List.getElem?_replicate] at hj;split at hj
 ·rename_i O;injection hj with hj;subst hj;have R:f<J.size:=(by grind);have S:j*J.size+f<n*J.size:=by
   have:(j+1)*J.size<=n*J.size:=ka8 _ O
   grind
  grind[bK,Nat.mul_comm,Nat.mul_add_mod,Nat.mod_eq_of_lt]
 ·cases hj
variable {c:Cx}{g gu:Option (Nat×Bool)}{E:di}{L L':List ag}{d:Option Tmp}{e t ty:TypeId}{pos:String}{af:Array Edge}{x y:Operand}{k:IntKind}{b sz:Nat}{m:Int}
theorem wm {zv J}(n:Nat)(hu:c.P.underlying t=some (.slice e))(hz:∀w,(sizeOf e).run c.P w= .ok sz w)(Z:∀w,(zeroValue e).run c.P w= .ok zv w)(S:∀w,(typeInfo e).run c.P w= .ok J w)(hzs:zv.cells.size=sz)(h0:0<sz)(hx:ev g E x=some (I m))(hy:ev g E y=some (I m))(hn:m=n)(hb:n<=1048576/\J.bytes<=4096):
  OpL c g E L ⟨d, .makeSlice t x y,ty,pos,af,gu⟩ λv L'=>∃b,v=sl (some ⟨b,0,none⟩) n n/\L'=be e sz (some ⟨b,0,none⟩) n (List.replicate n zv.cells.toList)::L:=
 .of_run λa w hE hg hS=>by
  subst hn;subst hzs;have hw:IntKind.i64.wrap (n:Int)=n:=cK (by omega);have h48:(J.bytes:Int)*n<=2 ^ 48:=by
   have h1:J.bytes*n<=4096*1048576:=ka7 hb.2 hb.1
   grind
  refine ⟨sl (some ⟨w.heap.size,0,none⟩) n n,{w with heap:=w.heap.push (.cells ((Array.range (n*zv.cells.size)).map (zv.cells[· % zv.cells.size]!)) e (0,0))},be e zv.cells.size (some ⟨w.heap.size,0,none⟩) n (List.replicate n zv.cells.toList)::L,?_,?_,_,rfl,rfl⟩
  ·have R:¬((281474976710656:Int)<(J.bytes:Int)*n):=(by omega);have hi:∀w':World,(asInt (I n)).run c.P w'= .ok (n:Int) w':=λw'=>(by simp[asInt,asIntOf,Sem.run]);have e1:=hE.ev hg hx;have e2:=hE.ev hg hy;have O:=λ(w:World) (k:Nat)=>nw (P:=c.P) (w:=w) k;have hnn:¬((n:Int)<0):=(by omega);have Y:IntKind.i64.wrap 0=0:=cK (by omega);by_cases V:n=0
   ·subst V;simp[execOp,Instr.makeSlice,underlying,program,Sem.run,hu,hz,S,e1,e2,asInt,asIntOf,Y,O,newRow,newObj,sl]
    grind
   ·have X:¬n*zv.cells.size=0:=by
     have:=kbp (show 0<n by omega) h0;omega
    simp[execOp,Instr.makeSlice,underlying,program,Sem.run,hu,hz,Z,S,e1,e2,asInt,asIntOf,hw,R,O,newRow,newObj,sl,X];intro h;omega
  ·refine (hS.alloc _).weak λm hm=> .inr ⟨_,_,rfl,hm,by simp,by simp,λrow hr=>?_,Rows.rep n h0⟩
   grind
def At (ya s:Option Addr)(p sz m:Nat):Prop:=(ya=s/\p=0)\/ya=s.map (·.add (p*sz))\/m=0
variable {cap l:Nat}{rows:List (List Value)}
theorem u9 {cs ec news}(h0:0<sz)(hcs:cs.size=cap*sz)(Z:rows.length<=cap)(hfit:l+news.length<=rows.length)(hl:∀r∈rows,r.length=sz)(O:∀r∈news,r.length=sz)(hr:Rows (.cells cs ec (0,0)) 0 sz rows):
  l*sz+news.flatten.length<=cs.size/\Rows (.cells (cV cs (l*sz) news.flatten) ec (0,0)) 0 sz (rows.take l++news++rows.drop (l+news.length)):=by
 have J:l*sz+news.flatten.length<=cs.size:=by
  rw[dT news O,hcs,<-ka2];exact ka8 _ (by omega)
 refine ⟨J,λj row hj f v hf=>?_⟩;have key:∀{j:Nat} {row:List Value} {f:Nat} {v:Value},rows[j]? =some row->row[f]? =some v->(j<l\/l+news.length<=j)->(cV cs (l*sz) news.flatten)[j*sz+f]? =some v:=fun {j row f v} hj hf S=>by
  have:=hr j row hj f v hf;simp only[bK,ka9] at this;have R:f<sz:=(by grind);rw[iU _ _ _ J,kaU]
  ·exact this
  ·rw[dT news O];rintro ⟨h1,Y⟩;rcases S with h | h
   ·have:(j+1)*sz<=l*sz:=ka8 _ h
    grind
   ·have:(l+news.length)*sz<=j*sz:=ka8 _ h
    grind
 simp only[bK,ka9];have V:l<=rows.length:=(by omega);rcases ka3 j l with h | h
 ·grind
 ·rcases ka3 j (l+news.length) with Y | Y
  ·rw[kaQ (by simp;omega),ka1 (by simp;omega)] at hj;simp only[kbq,kbr V] at hj;have R:f<sz:=(by grind);obtain ⟨q,rfl⟩:∃q,j=l+q:=⟨j - l,by omega⟩;have hq:q<news.length:=(by omega);have X:(q+1)*sz<=news.length*sz:=ka8 _ hq;rw[ka2,Nat.one_mul] at X;rw[iU _ _ _ J,kaT (by grind[dT])];rw[ka2,show l*sz+q*sz+f - l*sz=q*sz+f by omega,k8 h0 news O]
   grind[Nat.mul_comm,Nat.mul_add_div,Nat.div_eq_of_lt,Nat.mul_add_mod,Nat.mod_eq_of_lt]
  ·rw[ka1 (by simp;omega)] at hj
   grind
variable {off:Nat}
theorem At.addr {J p m}(h:At J (some ⟨b,off,none⟩) p sz m)(hm:0<m):J=some ⟨b,off+p*sz,none⟩:=by
 rcases h with ⟨rfl,rfl⟩ | rfl | h
 ·simp
 ·simp[Addr.add]
 ·omega
theorem Rows.part {O p q}(h:Rows O off sz rows):Rows O (off+p*sz) sz ((rows.drop p).take q):=λj row hj f v R=>by
 have J:j<q:=by
  grind
 rw[kbs J,List.getElem?_drop] at hj;have:=h _ row hj f v R
 grind
variable {u:TypeId}{w:World}{P:Program}
def qT {a:Act}{X Y r}(hx:a.eval x=X)(hy:a.eval y=Y)(h:(Builtin.copy_ #[t,u] ty #[X,Y]).run P w=r):
  (execOp a.eval ⟨d, .call {callee:= .builtin .copy,args:=#[x,y],argTypes:=#[t,u]},ty,pos,af,gu⟩).run P w=r.andThen λv w'=> .ok (.value v) w':=by
 simp_all[execOp,resolve,invoke,builtin]
variable {s:Option Addr}{n o:Nat}
def ph {m}(h0:0<sz)(hl:∀r∈rows,r.length=sz)(hn:rows.length=n)(h:rows=[]\/∃b off o,s=some ⟨b,off,none⟩/\w.heap[b]? =some o/\Rows o off sz rows):
  (Builtin.firstCells sz n (sl s m cap)).run P w= .ok rows.flatten.toArray w:=by
 have:=ot (P:=P) (w:=w) (cap:=cap) (s:=s) h0 hl hn h;cases s <;> simpa [Builtin.firstCells,sl] using this
theorem sC {s2 xa ya p q m cx cy}{ec:Nat}{J F}(hu:c.P.underlying t=some (.slice ec))(hz:∀w,(sizeOf ec).run c.P w= .ok sz w)(h0:0<sz)(hx:ev g E x=some (sl xa q cx))(hy:ev g E y=some (sl ya m cy))[R:OwR L s ec sz cap rows F][Y:SlR L s2 sz J](hxa:At xa s l sz q)(hya:At ya s2 p sz m)(hk:l+q<=rows.length)(hm:p+m<=J.length)(hnl:∀r∈J,r.length=sz)(h1:∀r∈J,ones r=true):
  OpL c g E L ⟨d, .call {callee:= .builtin .copy,args:=#[x,y],argTypes:=#[t,u]},ty,pos,af,gu⟩ λv L'=>v=I (Nat.min m q)/\L'=be ec sz s cap (rows.take l++((J.drop p).take (Nat.min m q))++rows.drop (l+Nat.min m q))::F:=
 .of_run λa w hE hg hS=>by
  have hS1:=R.sat hS;have hY:=Y.out _ _ hS;have e1:=hE.ev hg hx;have e2:=hE.ev hg hy;generalize hr:Nat.min m q=r;have hr1:r<=m:=(by grind);have hr2:r<=q:=(by grind);have S:∀x∈(J.drop p).take r,x.length=sz:=λx hx=>hnl x (kbt (kbu hx));have O:((J.drop p).take r).length=r:=(by simp;omega);have Z:ones ((J.drop p).take r).flatten=true:=lq λv hv=>by
   obtain ⟨x,hx,hv⟩:=kba.1 hv
   grind[ku]
  have X:(Builtin.firstCells sz r (sl ya m cy)).run c.P w= .ok ((J.drop p).take r).flatten.toArray w:=by
   refine ph h0 S O ?_;by_cases hr0:r=0
   ·left;rw[hr0];rfl
   ·right;rcases hY with h | ⟨b,off,o,rfl,hh,hR⟩
    ·grind
    ·exact ⟨b,off+p*sz,o,hya.addr (by omega),hh,hR.part⟩
  have AG:(Builtin.lenOf (Value.slice ya m cy)).run c.P w= .ok m w:=ou;have hfi:(Builtin.firstCells sz r (Value.slice ya m cy)).run c.P w= .ok ((J.drop p).take r).flatten.toArray w:=X;by_cases hr0:r=0
  ·subst hr0;refine ⟨I ((0:Nat):Int),w,be ec sz s cap rows::F,?_,hS1,rfl,by simp⟩;refine (qT (r:= .ok (I ((0:Nat):Int)) w) e1 e2 ?_).trans rfl;cases xa <;> simp[Builtin.copy_,underlying,program,Sem.run,hu,hz,sl,goInt,storeCells,AG,hr,hfi]
  ·rcases dA hS1 with ⟨rfl,rfl,rfl,hF⟩ | ⟨b,cs,rfl,a1,a2,a3,a4,hP⟩
   ·simp at hk;omega
   ·obtain ⟨hle,V⟩:=u9 (ec:=ec) (l:=l) (news:=(J.drop p).take r) h0 a1 a2 (by rw[O];omega) a3 S a4;have hst:=dz (P:=c.P) b (l*sz) ec ((J.drop p).take r).flatten w cs 0 hP.at_ (by omega) Z;have hxa':=hxa.addr (by omega);subst hxa';refine ⟨I (r:Int),k7 w b (.cells (cV cs (l*sz) ((J.drop p).take r).flatten) ec (0,0)),_,(qT (r:= .ok (I (r:Int)) _) e1 e2 ?_).trans rfl,?_,rfl,rfl⟩
    ·simp[Builtin.copy_,underlying,program,Sem.run,hu,hz,sl,goInt,AG,hr,hfi,hst]
    ·rw[O] at V;refine fu (hP.set (o':= .cells (cV cs (l*sz) ((J.drop p).take r).flatten) ec (0,0)) W) (by rw[fI,a1]) (by simp;omega) ?_ V
     grind
def x4 (R:c.P.underlying t=some (.slice e))(S:∀w,(sizeOf e).run c.P w= .ok sz w):
  OpL c g E L ⟨d, .buildSlice t 0 #[],ty,pos,af,gu⟩ λv L'=>∃b,v=sl (some ⟨b,0,none⟩) 0 0/\L'=be e sz (some ⟨b,0,none⟩) 0 []::L:=
 .of_run λa w V X O=>by
  refine ⟨sl (some ⟨w.heap.size,0,none⟩) 0 0,{w with heap:=w.heap.push (.cells #[] e (0,0))},be e sz (some ⟨w.heap.size,0,none⟩) 0 []::L,?_,?_,_,rfl,rfl⟩
  ·have J:∀f:Nat->Value,Array.map f (Array.range 0)=#[]:=λf=>Array.eq_empty_of_size_eq_zero (by simp);simp[execOp,Instr.buildSlice,underlying,program,Sem.run,R,S,newRow,newObj,sl,Instr.fill,J]
  ·exact (O.alloc _).weak λm hm=> .inr ⟨_,_,rfl,hm,by simp,by simp,by simp,λj row hj=>by simp at hj⟩
def gj {i:Nat}{cd}(h:m=i)(hn:i<=n):(Instr.sliceBound (I m) n cd).run P w= .ok i w:=by
 simp_all[Instr.sliceBound,asIntOf]
def iG (S:c.P.underlying t=some (.slice e))(V:∀w,(sizeOf e).run c.P w= .ok sz w)(hx:ev g E x=some (sl s n cap))(hy:ev g E y=some (I m))(hm:m=l)(hl:l<=n):
  OpV c g E L ⟨d, .slice t x (some y) none none,ty,pos,af,gu⟩ (sl (if cap=l then s else s.map (·.add (l*sz))) (n - l) (cap - l)):= .mk λa w J O R=>by
 have h1:=λcd=>gj (P:=c.P) (w:=w) (cd:=cd) hm hl;simp only[execOp,Instr.sliceAt,Instr.slice,Instr.sliceBounds,Option.map_some,kbv,J.ev O hx,J.ev O hy,sl]
 simp_all[underlying]
variable {h:Nat}
def lO (S:c.P.underlying t=some (.slice e))(V:∀w,(sizeOf e).run c.P w= .ok sz w)(hx:ev g E x=some (sl s n cap))(hy:ev g E y=some (I m))(hm:m=h)(hl:h<=cap):
  OpV c g E L ⟨d, .slice t x none (some y) none,ty,pos,af,gu⟩ (sl s h cap):= .mk λa w J O R=>by
 have h1:=λcd=>gj (P:=c.P) (w:=w) (cd:=cd) hm hl;simp only[execOp,Instr.sliceAt,Instr.slice,Instr.sliceBounds,Option.map_some,kbv,J.ev O hx,J.ev O hy,sl]
 simp_all[underlying,Addr.add]
variable {z:Operand}
def x5 {S}(Y:c.P.underlying t=some (.slice e))(Z:∀w,(sizeOf e).run c.P w= .ok sz w)(hx:ev g E x=some (sl s n cap))(hy:ev g E y=some (I m))(hm:m=l)(R:ev g E z=some (I S))(hm2:S=h)(hl:l<=h)(hh:h<=cap):
  OpV c g E L ⟨d, .slice t x (some y) (some z) none,ty,pos,af,gu⟩ (sl (if cap=l then s else s.map (·.add (l*sz))) (h - l) (cap - l)):= .mk λa w J O X=>by
 have h1:=λcd=>gj (P:=c.P) (w:=w) (cd:=cd) hm hl;have V:=λcd=>gj (P:=c.P) (w:=w) (cd:=cd) hm2 hh;simp only[execOp,Instr.sliceAt,Instr.slice,Instr.sliceBounds,Option.map_some,kbv,J.ev O hx,J.ev O hy,J.ev O R,sl]
 simp_all[underlying]
theorem va p l h:(⟨⟨p⟩⟩:ByteArray).extract l h=⟨⟨(p.take h).drop l⟩⟩:=by
 apply ByteArray.ext
 grind[ByteArray.data_extract]
variable {p:List UInt8}
def tv (S:c.P.underlying t=some .string)[hx:EV g E x (ay p)][hy:EV g E y (I m)](hl:l<=p.length)(hm:m=l:=by exact rfl):
  OpV c g E L ⟨d, .slice t x (some y) none none,ty,pos,af,gu⟩ (ay (p.drop l)):=have hx:=hx.p;have hy:=hy.p;.mk λa w J O R=>by
 have hs:(⟨⟨p⟩⟩:ByteArray).size=p.length:=rfl;have h1:=λcd=>gj (P:=c.P) (w:=w) (cd:=cd) (n:=p.length) hm hl;simp only[execOp,Instr.sliceAt,Instr.slice,Instr.sliceBounds,Option.map_some,kbv,J.ev O hx,J.ev O hy]
 simp_all[underlying,va]
def Ia (S:c.P.underlying t=some .string)(hx:ev g E x=some (ay p))(hy:ev g E y=some (I m))(hm:m=h)(hl:h<=p.length):
  OpV c g E L ⟨d, .slice t x none (some y) none,ty,pos,af,gu⟩ (ay (p.take h)):= .mk λa w J O R=>by
 have hs:(⟨⟨p⟩⟩:ByteArray).size=p.length:=rfl;have h1:=λcd=>gj (P:=c.P) (w:=w) (cd:=cd) (n:=p.length) hm hl;simp only[execOp,Instr.sliceAt,Instr.slice,Instr.sliceBounds,Option.map_some,kbv,J.ev O hx,J.ev O hy]
 simp_all[underlying,va]
def fG {S:Int}(Y:c.P.underlying t=some .string)[hx:EV g E x (ay p)][hy:EV g E y (I m)][J:EV g E z (I S)](hl:l<=h)(hm:m=l:=by exact rfl)(hm2:S=h:=by exact rfl)(hh:h<=p.length:=by omega):
  OpV c g E L ⟨d, .slice t x (some y) (some z) none,ty,pos,af,gu⟩ (ay ((p.take h).drop l)):=have hx:=hx.p;have hy:=hy.p;have J:=J.p;.mk λa w O R X=>by
 have hs:(⟨⟨p⟩⟩:ByteArray).size=p.length:=rfl;have h1:=λcd=>gj (P:=c.P) (w:=w) (cd:=cd) hm hl;have V:=λcd=>gj (P:=c.P) (w:=w) (cd:=cd) (n:=p.length) hm2 hh;simp only[execOp,Instr.sliceAt,Instr.slice,Instr.sliceBounds,Option.map_some,kbv,O.ev R hx,O.ev R hy,O.ev R J]
 simp_all[underlying,va]
end Go.Sl
namespace Go.Sl
def aC (l:List UInt8):List (List Value):=l.map λb=>[By b.toNat]
theorem gO l:(aC l).length=l.length:=by simp[aC]
def GE n:List.replicate n [By 0]=aC (List.replicate n 0):=by simp[aC]
theorem nC l:(aC l).flatten=(l.map λb=>(b.toNat:Int)).map (Value.int .u8):=by
 induction l with
 | nil=>rfl
 | cons b l J=>simpa [aC] using J
def GF (l:List UInt8):∀(p:List UInt8),(l.map λb=>(b.toNat:Int)).foldl (λ(r:ByteArray) n=>r.push (UInt8.ofNat n.toNat)) ⟨⟨p⟩⟩=⟨⟨p++l⟩⟩:=by
 induction l with
 | nil=>intro p;simp
 | cons b l J=>
  simp_all
variable {c:Cx}{g gu:Option (Nat×Bool)}{E:di}{L:List ag}{d:Option Tmp}{e t ty u:TypeId}{pos:String}{af:Array Edge}{x:Operand}{s:Option Addr}{b cap n o off sz:Nat}
theorem cg {l:List UInt8}{rows:List (List Value)}(hu:c.P.underlying t=some (.slice e))(he:c.P.underlying e=some (.int .u8))(O:c.P.underlying u=some .string)[hx:EV g E x (sl s n cap)][Y:SlR L s 1 rows](hr:rows=aC l)(hn:n=l.length:=by exact rfl):
  OpV c g E L ⟨d, .convert t u x,ty,pos,af,gu⟩ (ay l):=have hx:=hx.p;.mk λa w V Z X=>by
 have R:=Y.out _ _ X;subst hr hn;have S:=V.ev Z hx;have key:(Conv.bytesToString (sl s l.length cap)).run c.P w= .ok (ay l) w:=by
  cases s with
  | none=>
   rcases R with h | ⟨b,off,o,h,_⟩
   ·have:l=[]:=(by simpa [aC] using h);subst this;simp[Conv.bytesToString,sl,Sem.run];rfl
   ·cases h
  | some a=>
   have hl:(loadCells a l.length).run c.P w= .ok ((l.map λb=>(b.toNat:Int)).map (Value.int .u8)).toArray w:=by
    have:=ph (P:=c.P) (w:=w) (cap:=cap) (m:=l.length) (n:=l.length) (sz:=1) (rows:=aC l) (s:=some a) (by decide) (by simp[aC]) (gO l) R
    grind[nC,Builtin.firstCells,sl]
   have:=run_bytesToString w a l.length cap _ hl;rw[show ByteArray.empty=⟨⟨[]⟩⟩ from rfl,GF] at this;simpa [sl] using this
 simp only[execOp,S,sl];simp[convert,underlying,program,Sem.run,hu,O,he];have J:(Conv.bytesToString (Value.slice s l.length cap)).run c.P w= .ok (ay l) w:=key;simp[J]
def sE {n}(h:0<=n/\n<18446744073709551616):IntKind.u64.wrap n=n:=by
 show n % 2 ^ 64=n;omega
theorem xl n{a m yt}[hx:EV g E x (.int .u64 a)](X:0<=a/\a<18446744073709551616)(hn:n<=63)(hm:m=2 ^ n - 1):OpV c g E L ⟨d, .binOp .and t x (.const (.int .u64 m)) yt,ty,pos,af,gu⟩ (.int .u64 (a % 2 ^ n)):=by
 have hx:=hx.p
 refine Ta (.inl W) hx W λP w=>?_;have h1:(2:Int) ^ n=((2 ^ n:Nat):Int):=(by simp);have hp:2 ^ n<=2 ^ 63:=kbw (by decide) hn;have O:1<=2 ^ n:=Nat.one_le_two_pow;have e:IntKind.u64.bits=64:=rfl;have R:(BitVec.ofInt IntKind.u64.bits m).toNat=2 ^ n - 1:=by
  grind
 have J:((BitVec.ofInt IntKind.u64.bits a &&& BitVec.ofInt IntKind.u64.bits m).toNat:Int)=a % 2 ^ n:=by
  grind[Nat.and_two_pow_sub_one_eq_mod,BitVec.toNat_ofInt]
 have S:0<=a % 2 ^ n:=Int.emod_nonneg _ (by rw[h1];omega);have V:a % 2 ^ n<2 ^ n:=Int.emod_lt_of_pos _ (by rw[h1];omega);simp only[Op.intBits,J];rw[sE (by omega)]
 rfl
def GG (V:c.P.underlying t=some (.slice e))(hx:ev g E x=some (sl s n cap)):OpV c g E L ⟨d, .binOp .eql t x (.const (.slice none 0 0)) u,ty,pos,af,gu⟩ (Bo s.isNone):= .mk λa w R S X=>by
 have O:a.eval (.const (.slice none 0 0))= .slice none 0 0:=rfl;have J:(Op.equal t (sl s n cap) (.slice none 0 0)).run c.P w= .ok s.isNone w:=by
  show (Op.equalIn (9999+1) _ _ _).run _ _=_;unfold Op.equalIn;cases s <;> simp[underlying,program,Sem.run,V,sl]
 simp only[execOp,R.ev S hx,O,sl,eqGuard,binOp] at J ⊢;simp[J,Sem.run]
end Go.Sl
namespace Go.Sl
variable {w w0:World}
theorem Sat.dropAll:∀{L X:List ag},Sat w0 w (L++X)->Sat w0 w X
 | [],X,h=>h
 | cB::L,X,h=>Sat.dropAll (L:=L) (Sat.tail h)
instance Sub.none {L:List ag}:Sub L []:=⟨λw0 w X h=>by simpa using Sat.dropAll h⟩
def x6:List ag->ag
 | []=>kU True
 | cB::As=>Ee cB (x6 As)
theorem Sat.list:∀{J X:List ag},Sat w0 w (x6 J::X)->Sat w0 w (J++X)
 | [],X,h=>h.tail
 | cB::J,X,h=>by
  have h1:Sat w0 w (x6 J::(X++ [cB])):=(Sat.star h).moveEnd;have O:=Sat.list h1;rw[<-kbx] at O;exact O.endFront
theorem Sat.list_mk:∀{J X:List ag},Sat w0 w (J++X)->Sat w0 w (x6 J::X)
 | [],X,h=>Sat.pure_mk trivial h
 | cB::J,X,h=>by
  have h1:Sat w0 w (J++(X++ [cB])):=by
   have:=Sat.moveEnd h;simpa using this
  have O:Sat w0 w ((x6 J::X)++ [cB]):=Sat.list_mk h1;exact O.endFront.two
variable {α:Type}
def hx (cB:α->List ag):ag:=S6 λz=>x6 (cB z)
theorem Sat.hx {cB:α->List ag}{X}(h:Sat w0 w (hx cB::X)):∃z,Sat w0 w (cB z++X):=let ⟨z,hz⟩:=Sat.ex h;⟨z,hz.list⟩
theorem Sat.hx_mk {cB X}(z:α)(h:Sat w0 w (cB z++X)):Sat w0 w (Go.Sl.hx cB::X):=Sat.ex_mk z h.list_mk
variable {c:Cx}{E:di}{F L:List ag}{K:List KI}
def ji {cB:α->List ag}B(J:B=hx cB)[R:Rem L B F](k:∀z,G c K E (cB z++F)):G c K E L:=λa w O S=>by
 have h:=R.sat S;rw[J] at h;obtain ⟨z,V⟩:=h.hx;exact k z a w O V
def kw {ec sz cap rows}s J[R:OwR L s ec sz cap rows F](h:rows=J)(k:G c K E (be ec sz s cap J::F)):G c K E L:=λa w O S=>by
 subst h;exact k a w O<|R.sat S
def gW {cB:α->List ag}(Pre:List ag)(B:ag)(z:α)[S:Split L Pre F](k:G c K E (B::F))(J:B=hx cB:=by exact rfl)(hA:cB z=Pre:=by exact rfl):G c K E L:=λa w O R=>by
 refine k a w O ?_;rw[J];exact Sat.hx_mk z<|hA ▸ S.sat R
end Go.Sl
namespace Go.Sl
variable {P:Program}{ops:Array Oper}{Q1 Q2:fE}{w:World}
theorem Ka {i a K}(hp:∀J a w,Q1 (.panic J) a w->Q2 (.panic J) a w)(hl:LetsOut Q1->LetsOut Q2)(h:wpOp P ops Q1 i K a w):wpOp P ops Q2 i K a w:=by
 have key:∀(o:Oper) (r:Result Next),o.upon P a K Q1 r->o.upon P a K Q2 r:=λo r h=>by
  cases r with
  | ok n w'=>
   cases n <;> simp only[Oper.upon] at h ⊢
   case enter f args=>exact h.mono λe O he=>by grind
   all_goals exact h
  | halt x w'=>cases x <;> simp only[Oper.upon] at h ⊢ <;> first | exact hp _ _ _ h | exact h
 unfold wpOp at*;split
 ·simpa [*] using h
 ·rename_i o ho;simp only[ho] at h;split
  ·rename_i hw;simp only[hw,if_true] at h;exact h.imp (key o _)<|λh=>⟨h.1,hl h.2⟩
  grind
def wpAnyZ (P:Program)(ops:Array Oper)(bn:World->Prop)(z:Nat)(Q:fE):Nat->Array Bool->Act->World->Prop
 | 0,listed,a,w=>(listed.getD z false=true\/bn w)/\Region.ready .any ops listed=[]/\Q .normal a w
 | fuel+1,listed,a,w=>
  (listed.getD z false=true\/bn w)/\(Region.ready .any ops listed=[]->Q .normal a w)/\
  ∀i∈Region.ready .any ops listed,wpOp P ops Q i (wpAnyZ P ops bn z Q fuel (listed.setIfInBounds i true)) a w
variable {bn:World->Prop}{Q:fE}{z:Nat}{J:Array Bool}
theorem wpAnyZ.cls {fuel a}(h:wpAnyZ P ops bn z Q fuel J a w):J.getD z false=true\/bn w:=by
 cases fuel <;> exact h.1
def x7:∀(fuel:Nat) (J:Array Bool) (a:Act) (w:World),wpAnyZ P ops bn z Q fuel J a w->wpAny P .any ops Q fuel J a w
 | 0,_,_,_,h=>h.2
 | fuel+1,_,_,_,h=>⟨h.2.1,λi hi=>wpOp_mono (λa w=>x7 fuel _ a w) (h.2.2 i hi)⟩
def AP (ops:Array Oper):Nat->Nat->Nat->Prop
 | 0,_,_=>False
 | f+1,k,i=>∃ok,ops[k]? =some ok/\∃e∈ok.after,Region.binds .any e=true/\(e.on=i\/AP ops f e.on i)
def sF (ops:Array Oper)(z i:Nat):Prop:=∀oz,ops[z]? =some oz->∃e∈oz.after,Region.binds .any e=true/\(e.on=i\/AP ops 6 e.on i)
def closed (ops:Array Oper)(listed:Array Bool):Prop:=∀k ok,ops[k]? =some ok->listed.getD k false=true->∀e∈ok.after,Region.binds .any e=true->listed.getD e.on false=true
theorem rU {j k}(h:J.getD k false=true):(J.setIfInBounds j true).getD k false=true:=by
 by_cases O:j=k
 ·subst O;rcases ka3 j J.size with R | R
  ·simp[R]
  grind
 simp_all
theorem sG {j}(V:closed ops J)(hj:j∈Region.ready .any ops J):closed ops (J.setIfInBounds j true):=λk ok hk hl e he S=>by
 obtain ⟨_,Y,X,R⟩:=mem_ready.1 hj;by_cases O:j=k
 ·grind[rU]
 ·rw[getD_set_ne false O] at hl;exact rU<|V k ok hk hl e he S
def tw {J}(O:closed ops J):∀{f k i:Nat},J.getD k false=true->AP ops f k i->J.getD i false=true
 | 0,_,_,_,h=>h.elim
 | f+1,k,i,hk,⟨ok,hok,e,he,R,h⟩=>by
  have h1:=O k ok hok hk e he R;rcases h with h | h
  ·rw[<-h];exact h1
  ·exact tw O h1 h
theorem Cn {i oi v}(hi:ops[i]? =some oi)(hsel:∀(j:Nat) (o:Oper) cs b,ops[j]? =some o->o.op≠ .select cs b)(hQ:∀c a w,Q (.panic c) (a.put oi.dst v) w->Q (.panic c) a w)(hiz:i≠z)(hz:sF ops z i):
  ∀(fuel:Nat) (J:Array Bool) (a:Act) (w:World),
   (∀j oj,ops[j]? =some oj->j≠i->J.getD j true=false->(∀e∈oj.after,Region.binds .any e=true->e.on≠i)->oi.apart ops oj=true)->
   i∈Region.ready .any ops J->closed ops J->J.getD z false=false->YieldsC P ops bn oi v a->bn w->
   wpAnyZ P ops bn z Q fuel (J.setIfInBounds i true) (a.put oi.dst v) w->wpAnyZ P ops bn z Q (fuel+1) J a w:=by
 intro fuel
 induction fuel with
 | zero=>
  intro J a w _ hr _ _ hy hw H;refine ⟨.inr hw,λh=>(by rw[h] at hr;cases hr),λj hj=>?_⟩;by_cases O:j=i
  ·subst O;exact hy.wpOp hi hw H
  ·have:=ready_mono hj O;rw[H.2.1] at this;cases this
 | succ fuel ih=>
  intro J a w R hr hcl hlz hy hw H;refine ⟨.inr hw,λh=>(by rw[h] at hr;cases hr),λj hj=>?_⟩;by_cases O:j=i
  ·subst O;exact hy.wpOp hi hw H
  ·have h1:=H.2.2 j (ready_mono hj O);obtain ⟨Y,oj,V,X⟩:=mem_ready.1 hj;have Z:∀e∈oj.after,Region.binds .any e=true->e.on≠i:=λe he hb heq=>by
    have h1:=X e he hb;have h0:=(mem_ready.1 hr).1
    grind
   have hjz:j≠z:=λe=>by
    subst e;obtain ⟨e,he,hb,h⟩:=hz oj V;rcases h with h | h
    ·exact Z e he hb h
    ·have h5:=X e he hb;have h6:J.getD i false=true:=tw hcl h5 h;have h0:=(mem_ready.1 hr).1
     grind
   have h2:=AH V (R j oj V O Y Z) (λcs b=>hsel i oi cs b hi) (λcs b=>hsel j oj cs b V) hQ hy h1;have S:∀k ok,ops[k]? =some ok->k≠i->(J.setIfInBounds j true).getD k true=false->
     (∀e∈ok.after,Region.binds .any e=true->e.on≠i)->oi.apart ops ok=true:=λk ok hk hki hun hno=>by
    refine R k ok hk hki ?_ hno;by_cases hjk:j=k
    ·subst hjk;exact Y
    simp_all
   have hlz':(J.setIfInBounds j true).getD z false=false:=(by simp_all);refine wpOp_mono (λa' w' h3=>ih (J.setIfInBounds j true) a' w' S (ready_mono hr (Ne.symm O)) (sG hcl hj) hlz' h3.1 ?_ ?_) h2
   ·rcases h3.2.cls with h | h
    ·simp_all
    ·exact h
   grind[Array.setIfInBounds_comm]
theorem mB (hs:Region.noSelect ops=true)(hQ:∀c a d v w,Q (.panic c) (a.put d v) w->Q (.panic c) a w)(Y:∀ch a w,Q1 (.panic ch) a w->Q (.panic ch) a w)(V:LetsOut Q1->LetsOut Q)(X:∀a w,Q1 .normal a w->wpOp P ops Q z (λa w=>Q .normal a w) a w):
  ∀(l:List (Nat×Bool)) (J:Array Bool) (a:Act) (w:World),
  im ops (l++ [(z,true)]) J=true->(∀p∈l,p.1≠z/\sF ops z p.1)->closed ops J->J.getD z true=false->su P ops bn Q1 l a w->wpAnyZ P ops bn z Q (l.length+1) J a w
 | [],J,a,w,hp,_,_,O,h=>by
  simp only[kby,im,kaJ,beq_iff_eq] at hp;refine ⟨.inr h.1,λh0=>(by rw[hp.1] at h0;cases h0),λj hj=>?_⟩;rw[hp.1] at hj;have:j=z:=(by simpa using hj);subst this;have hlt:j<J.size:=by
   grind
  refine wpOp_mono (λa w hq=>⟨.inl ?_,by simpa using hp.2,hq⟩)<|X a w h.2;simp[hlt]
 | (i,false)::l,J,a,w,hp,hz,R,O,h=>by
  simp only[kbz,im,kaJ] at hp;obtain ⟨⟨hr,hf⟩,hp'⟩:=hp;obtain ⟨hw,o,v,ho,hy,h⟩:=h;obtain ⟨S,hzi⟩:=hz (i,false) (by simp);have Z:J.getD z false=false:=by
   rcases ka3 z J.size with h' | h'
   ·simp[h'] at O ⊢;exact O
   ·simp[Array.getElem?_eq_none h'] at O
  exact Cn ho (Region.noSelect_spec hs) (λc a w=>hQ c a _ _ w) S hzi (l.length+1) J a w (Region.free_spec ho hf) (by simpa using hr) R Z hy hw
   (mB hs hQ Y V X l _ _ _ hp' (λp hp=>hz p (by simp[hp])) (sG R (by simpa using hr)) (by rw[getD_set_ne true S];exact O) h)
 | (i,true)::l,J,a,w,hp,hz,R,O,h=>by
  simp only[kbz,im,kaJ,beq_iff_eq] at hp;obtain ⟨S,hzi⟩:=hz (i,true) (by simp);refine ⟨.inr h.1,λh0=>(by rw[hp.1] at h0;cases h0),λj hj=>?_⟩;rw[hp.1] at hj;have:j=i:=(by simpa using hj);subst this;exact Ka Y V<|wpOp_mono (λa w=>mB hs hQ Y V X l _ a w hp.2 (λp hp=>hz p (by simp[hp])) (sG R (by rw[hp.1];simp)) (by rw[getD_set_ne true S];exact O)) h.2
def Co (ops:Array Oper):Nat->Nat->Nat->Bool
 | 0,_,_=>false
 | f+1,k,i=>match ops[k]? with
  | some ok=>(ok.after.any λe=>Region.binds .any e && Nat.beq e.on i) || ok.after.any λe=>Region.binds .any e && Co ops f e.on i
  | none=>false
def wn {ops}:∀{f k i:Nat},Co ops f k i=true->AP ops f k i
 | 0,_,_,h=>by cases h
 | f+1,k,i,h=>by
  unfold Co at h;split at h
  ·rename_i ok hok;rw[kbA,kbB,kbB] at h;rcases h with ⟨j,hj,h⟩ | ⟨j,hj,h⟩
   ·rw[kaJ] at h;exact ⟨ok,hok,ok.after[j],kbC hj,h.1, .inl (kaF h.2)⟩
   ·rw[kaJ] at h;exact ⟨ok,hok,ok.after[j],kbC hj,h.1, .inr (wn h.2)⟩
  ·cases h
def Cp (ops:Array Oper)(z i:Nat):Bool:=match ops[z]? with
 | some oz=>Co ops 7 z i
 | none=>true
theorem En {i}(h:Cp ops z i=true):sF ops z i:=λR J=>by
 simp only[Cp,J] at h;obtain ⟨ok,hok,e,he,O,h⟩:=wn h
 grind
theorem wL {id a l}(hm:P.follows .mixedOrders=true)(hs:Region.noSelect ops=true)(hl:l.length+1=ops.size)(J:z<ops.size)(X:∀c a d v w,Q (.panic c) (a.put d v) w->Q (.panic c) a w)(S:∀V a w,Q1 (.panic V) a w->Q (.panic V) a w)(O:LetsOut Q1->LetsOut Q)(R:∀a w,Q1 .normal a w->wpOp P ops Q z (λa w=>Q .normal a w) a w)(hp:im ops (l++ [(z,true)]) (Array.replicate ops.size false)=true)(Y:l.all (λp=>!(Nat.beq p.1 z) && Cp ops z p.1)=true)(h:su P ops bn Q1 l a {w with drawn:=w.drawn+1}):(Code.region id ops true).wp P Q a w:=
 wp_region_any hm (x7 (bn:=bn) (z:=z) _ _ _ _ (by
  rw[<-hl];rw[<-hl] at hp J;refine mB hs X S O R l _ a _ hp (λp hp=>?_) (λk ok _ hl=>by simp[Array.getElem?_replicate] at hl;grind) (by simp[J]) h
  grind[Nat.ne_of_beq_eq_false,En]))
variable {c:Cx}{E:di}{L:List ag}{K:List KI}
def eE {id:Nat}{l:List Oper}{Lf:List ag}{O:Oper}(pl:List (Nat×Bool))(z:Nat)[J:NT l z O](h:G c (.plan l (λw=>Sat c.w0 w Lf) pl:: .ops l [O]::K) E L)(hm:c.P.follows .mixedOrders=true:=by kernel_rfl)(hs:Region.noSelect l.toArray=true:=by kernel_rfl)(hl:pl.length+1=l.length:=by exact rfl)(hp:im l.toArray (pl++ [(z,true)]) (Array.replicate l.length false)=true:=by kernel_rfl)(Z:pl.all (λp=>!(Nat.beq p.1 z) && Cp l.toArray z p.1)=true:=by kernel_rfl):G c (.code (.region id l.toArray true)::K) E L:=have J:=J.p;λa w X Y=>by
 have S:z<l.length:=(kaz.1 J).1;refine wL (Q1:=kq c.P c.Q (.ops l [O]::K)) (z:=z) (l:=pl) hm hs (by simpa using hl) (by simpa using S) (λV a d v w hq=>absurd hq jo) (λV a w h=>h) (λh=>h) (λa w h=>?_) (by simpa using hp) Z<|h a _ X<|Y.drew _;have R:l.toArray[z]? =some O:=(by simpa using J);unfold wpOp;rw[R];exact h
variable {g gu:Option (Nat×Bool)}{L':List ag}{d:Option Tmp}{t ty:TypeId}{pos:String}{af:Array Edge}{x y:Operand}{v:Value}{s:Option Addr}{cap j sz:Nat}
def AQ {rows row ec F}(O:∀w,(sizeOf t).run c.P w= .ok 1 w)(hx:ev g E x=some (Am s (j*sz)))(hy:ev g E y=some v)(h1:one v=true)[R:OwR L s ec sz cap rows F](hj:rows[j]? =some row)(J:0<sz):
 OpL c g E L ⟨d, .store t x y,ty,pos,af,gu⟩ λ_ L'=>L'=be ec sz s cap (rows.set j (row.set 0 v))::F:=tr O (f:=0) (hx:=⟨by simpa using hx⟩) (hy:=⟨hy⟩) (h1:=by exact h1) hj J
end Go.Sl
namespace Go.Sl
variable {e t:TypeId}{p:Option Addr}
def Md {P w}(J:P.underlying t=some (.pointer e)):(Op.equal t (.pointer p) (.pointer none)).run P w= .ok p.isNone w:=by
 show (Op.equalIn (9999+1) _ _ _).run _ _=_;unfold Op.equalIn;cases p <;> simp[underlying,program,Sem.run,J]
variable {c:Cx}{g gu:Option (Nat×Bool)}{E:di}{L:List ag}{d:Option Tmp}{ty u:TypeId}{pos:String}{af:Array Edge}{x:Operand}
def vb (V:c.P.underlying t=some (.pointer e))[hx:EV g E x (.pointer p)]:OpV c g E L ⟨d, .binOp .eql t x (.const (.pointer none)) u,ty,pos,af,gu⟩ (Bo p.isNone):=have hx:=hx.p;.mk λa w R S X=>by
 have O:a.eval (.const (.pointer none))= .pointer none:=rfl;have J:=Md (P:=c.P) (w:=w) (p:=p) V;simp only[execOp,R.ev S hx,O,eqGuard,binOp] at J ⊢;simp[J,Sem.run]
end Go.Sl
namespace Go.Sl
variable {c:Cx}{E:di}{L Lf:List ag}{d:Nat}{ty:TypeId}{pos:String}{af:Array Edge}{K:List KI}{all:List Oper}{op:Op}{N:Value->List ag->Prop}{pl:List (Nat×Bool)}
theorem Qb {i j s:Nat}{b J:Bool}(hi:all[i]? =some ⟨some d,op,ty,pos,af,some (j,J)⟩)[hj:DS all j s][hs:LK none E s (.bool b)][V:Sub L Lf](h:OpL c none E L ⟨some d,op,ty,pos,af,some (j,J)⟩ N)(hd:mb c.n d E=true)(k:∀v L',N v L'->G c (.plan all (λw=>Sat c.w0 w Lf) pl::K) ((d,none,v)::E) L')(hw:b=J:=by exact rfl):G c (.plan all (λw=>Sat c.w0 w Lf) ((i,true)::pl)::K) E L:=have hj:=hj.p;have hs:=hs.p;λa w O S=>by
 have hy:=jz (a:=a) hj O hs;refine ⟨V.sat S,?_⟩;unfold wpOp;simp only[kaV,hi];rw[kaT (by grind[Region.wanted])];exact .inl<|h.out a w O (cT a) S _ _ λv w' L' R X=>k v L' X _ w' (O.put1 hd) R
theorem aU {i j s:Nat}{b J:Bool}{v:Value}(hi:all[i]? =some ⟨some d,op,ty,pos,af,some (j,J)⟩)[hj:DS all j s][hs:LK none E s (.bool b)][V:Sub L Lf](h:OpV c none E Lf ⟨some d,op,ty,pos,af,some (j,J)⟩ v)(k:G c (.plan all (λw=>Sat c.w0 w Lf) pl::K) ((d,none,v)::E) L)(hw:b=J:=by exact rfl)(hd:mb c.n d E=true:=by exact rfl):G c (.plan all (λw=>Sat c.w0 w Lf) ((i,false)::pl)::K) E L:=have hj:=hj.p;have hs:=hs.p;λa w O S=>by
 have hy:=jz (a:=a) hj O hs;exact ⟨V.sat S,_,v,by simpa using hi, .inl ⟨by grind[Region.wanted],λw' R=> .inl (h.out a w' O (cT a) R)⟩,k _ w (O.put1 hd) S⟩
end Go.Sl
namespace Go.Sl
variable {c:Cx}{g gu:Option (Nat×Bool)}{E:di}{F L:List ag}{d:Option Tmp}{ty:TypeId}{pos:String}{af:Array Edge}{x:Operand}
theorem gc {f O fi cap vs ats Pre}{R:List ag->Value->List ag->Prop}(J:∀args w,(callFunc f args).run c.P w= .ok (.enter f args) w)(Z:ev g E x=some (.func (.func f) fi.toArray cap.toArray))(hx:evs g E O=some vs)(h:∀F,Ct c.P f (fi++vs++cap) (Pre++F) (R F))[S:Split L Pre F]:
  OpL c g E L ⟨d, .call {callee:= .value x,args:=O.toArray,argTypes:=ats},ty,pos,af,gu⟩ (R F):=by
 constructor;intro a w V X Y nx Q hn;unfold Oper.wp;have hr:(execOp a.eval ⟨d, .call {callee:= .value x,args:=O.toArray,argTypes:=ats},ty,pos,af,gu⟩).run c.P w= .ok (.enter f (fi++vs++cap).toArray) w:=by
  simp[execOp,resolve,V.ev X Z,Deferred.ofValue,invoke,J,<-V.evs X hx]
 rw[hr];refine (h F c.w0 w (S.sat Y)).mono λe w' he=>?_
 grind
variable {v:Value}{j sz:Nat}{rows:List (List Value)}
theorem Rows.take {O off}(h:Rows O off sz rows)i:Rows O off sz (rows.take i):=λj row hj f v R=>by
 have J:j<i:=(by grind);rw[kbs J] at hj;exact h j row hj f v R
variable {L':List ag}{y:Operand}{t u:TypeId}{s:Option Addr}{b cap i:Nat}
theorem x8 {ya p m cy}{ec:Nat}(hu:c.P.underlying t=some (.slice ec))(hz:∀w,(sizeOf ec).run c.P w= .ok sz w)(h0:0<sz)(hx:ev g E x=some (sl s i cap))(hy:ev g E y=some (sl ya m cy))[R:OwR L s ec sz cap rows F](hya:At ya s p sz m)(hi:i<=rows.length)(hp:p+m<=rows.length)(him:i+m<=rows.length)(hr0:0<rows.length)(h1:∀r∈rows,ones r=true):
  OpL c g E L ⟨d, .call {callee:= .builtin .append,args:=#[x,y],argTypes:=#[t,t]},ty,pos,af,gu⟩ λv L'=>v=sl s (i+m) cap/\L'=be ec sz s cap (rows.take i++(rows.drop p).take m)::F:=
 .of_run λa w hE hg hS=>by
  have Z:=R.sat hS;have ex:=λw' v h=>ny (d:=d) (ty:=ty) (pos:=pos) (af:=af) (gu:=gu) (t:=t) (u:=t) (r:= .ok v w') (P:=c.P) (w:=w) (hE.ev hg hx) (hE.ev hg hy) h;rcases dA Z with ⟨rfl,rfl,rfl,hF⟩ | ⟨b,cs,rfl,a1,a2,a3,a4,Y⟩
  ·simp at hr0
  ·have J:∀r∈(rows.drop p).take m,r.length=sz:=λr hr=>a3 r (kbt (kbu hr));have S:((rows.drop p).take m).length=m:=(by simp;omega);have V:(rows.take i).length=i:=(by simp;omega);have X:ones ((rows.drop p).take m).flatten=true:=lq λv hv=>by
    obtain ⟨r,hr,hv⟩:=kba.1 hv
    grind[ku]
   have hfi:(Builtin.firstCells sz m (sl ya m cy)).run c.P w= .ok ((rows.drop p).take m).flatten.toArray w:=by
    refine ph h0 J S ?_;by_cases hm0:m=0
    ·left;subst hm0;rfl
    ·exact .inr ⟨b,0+p*sz,_,hya.addr (by omega),Y.at_,a4.part⟩
   obtain ⟨hle,O⟩:=pb (ec:=ec) (rows:=rows.take i) (news:=(rows.drop p).take m) h0 a1 (by rw[V,S];omega) (λr hr=>a3 r (kbu hr)) J (a4.take i);rw[V] at hle O;have hst:=dz (P:=c.P) b (i*sz) ec ((rows.drop p).take m).flatten w cs 0 Y.at_ (by omega) X;refine ⟨sl (some ⟨b,0,none⟩) (i+m) cap,k7 w b (.cells (cV cs (i*sz) ((rows.drop p).take m).flatten) ec (0,0)),_,ex _ _ ?_,?_,rfl,rfl⟩
   ·exact mA (base:=some ⟨b,0,none⟩) hu hz ou hfi (by omega) (by simpa [gi] using hst)
   ·refine fu (Y.set (o':= .cells (cV cs (i*sz) ((rows.drop p).take m).flatten) ec (0,0)) W) (by rw[fI,a1]) (by simp;omega) ?_ O
    grind
theorem Kb {zv}(h:ones zv.toList=true)n:ones (Builtin.zeroCells zv n).toList=true:=lq λv hv=>by
 grind[Builtin.zeroCells,Nat.mod_lt,ku]
theorem nD {xa l m cx zv}{ec:Nat}s(hu:c.P.underlying t=some (.slice ec))(hzv:∀w,(zeroValue ec).run c.P w= .ok zv w)(hzs:zv.cells.size=sz)(Z:ones zv.cells.toList=true)[hx:EV g E x (sl xa m cx)][R:OwR L s ec sz cap rows F](Y:At xa s l sz m)(hl:rows.length<=l)(hm:l+m<=cap):
  OpL c g E L ⟨d, .call {callee:= .builtin .clear,args:=#[x],argTypes:=#[t]},ty,pos,af,gu⟩ λv L'=>v= .tuple #[]/\L'=be ec sz s cap rows::F:=have hx:=hx.p;
 .of_run λa w hE hg hS=>by
  have O:=R.sat hS;have e1:=hE.ev hg hx;by_cases V:m=0
  ·subst V;refine ⟨.tuple #[],w,_,?_,O,rfl,rfl⟩;cases xa <;> simp[execOp,resolve,invoke,builtin,e1,Builtin.clear_,underlying,program,Sem.run,hu,sl]
  ·rcases dA O with ⟨rfl,rfl,rfl,hF⟩ | ⟨b,cs,rfl,a1,a2,a3,a4,hP⟩
   ·omega
   ·have S:=Y.addr (by omega);subst S;have hzl:(Builtin.zeroCells zv.cells m).toList.length=m*sz:=(by rw[Array.length_toList,kv,hzs]);have hle:l*sz+(Builtin.zeroCells zv.cells m).toList.length<=cs.size:=(by rw[hzl,a1,<-ka2];exact ka8 _ hm);have X:=dz (P:=c.P) b (0+l*sz) ec (Builtin.zeroCells zv.cells m).toList w cs 0 hP.at_ (by omega) (Kb Z m);refine ⟨.tuple #[],k7 w b (.cells (cV cs (0+l*sz+0) (Builtin.zeroCells zv.cells m).toList) ec (0,0)),be ec sz (some ⟨b,0,none⟩) cap rows::F,?_,?_,rfl,rfl⟩
    ·obtain ⟨q,rfl⟩:∃q,m=q+1:=⟨m - 1,by omega⟩;have J:=X;simp only[ka9,kbE] at J;simp[execOp,resolve,invoke,builtin,e1,Builtin.clear_,underlying,program,Sem.run,hu,sl,hzv,J]
    ·refine fu (hP.set (o':= .cells (cV cs (0+l*sz+0) (Builtin.zeroCells zv.cells m).toList) ec (0,0)) W) (by rw[fI,a1]) a2 a3 λq row hq f v hf=>?_;have:=a4 q row hq f v hf;simp only[bK,ka9,kbE] at this ⊢;have hq':=(kaz.1 hq).1;have hf':f<sz:=(by grind);have h5:(q+1)*sz<=l*sz:=ka8 _ (by omega)
     grind[iU]
variable {y3 z:Operand}{e:TypeId}{n:Nat}
def Me {m X Y}{l h q:Nat}(hu:c.P.underlying t=some (.slice e))(hz:∀w,(sizeOf e).run c.P w= .ok sz w)(hx:ev g E x=some (sl s n cap))(hy:ev g E y=some (I m))(hm:m=l)(S:ev g E z=some (I X))(hm2:X=h)(V:ev g E y3=some (I Y))(R:Y=q)(hl:l<=h)(hh:h<=q)(hq:q<=cap):
  OpV c g E L ⟨d, .slice t x (some y) (some z) (some y3),ty,pos,af,gu⟩ (sl (if q=l then s else s.map (·.add (l*sz))) (h - l) (q - l)):= .mk λa w J O hS=>by
 have h1:=λcd=>gj (P:=c.P) (w:=w) (cd:=cd) hm hl;have Z:=λcd=>gj (P:=c.P) (w:=w) (cd:=cd) hm2 hh;have h3:=λcd=>gj (P:=c.P) (w:=w) (cd:=cd) R hq;simp only[execOp,Instr.sliceAt,Instr.slice,Instr.sliceBounds,Option.map_some,kbv,J.ev O hx,J.ev O hy,J.ev O S,J.ev O V,sl]
 simp_all[underlying]
end Go.Sl
namespace Go.Proofs.YthdjckbjjfiopabGreatDoor
open _root_.Go.Proofs.Tryz
open Go.Sl Go.Proofs
abbrev Bytes:=List UInt8
def strR (l:List Bytes):List (List Value):=l.map λs=>[ay s]
def aZ l:(strR l).length=l.length:=by simp[strR]
def jq (n:Nat):Bytes:=List.replicate n 0
def ca (s:Bytes):Bytes:=s++jq (80 - s.length)
variable {n:Int}{k:Nat}
theorem Eo (h0:0<=n:=by omega)(h:n<2 ^ k:=by omega):n.fdiv (2 ^ k)=0:=by
 grind[Int.ediv_eq_zero_of_lt]
def tx (s:Bytes)(n k:Nat):List (List Value):=List.replicate k [ay s]++List.replicate (n - k) [ay []]
variable {n:Nat}
def Ep s(h:k<=n):(tx s n k).length=n:=by simp[tx];omega
def Er s r(h:r∈tx s n k):r.length=1/\ones r=true:=by
 rcases kbF.1 h with h | h <;> (obtain ⟨_,rfl⟩:=List.mem_replicate.1 h;exact ⟨rfl,rfl⟩)
theorem GH (s:Bytes)(h:1<=n):(List.replicate n [ay []]).take 0++(([[ay s]]:List (List Value)).drop 0).take (Nat.min 1 n)++(List.replicate n [ay []]).drop (0+Nat.min 1 n)=tx s n 1:=by
 grind[tx]
theorem Kc s(h:k<=n):(tx s n k).take k++((tx s n k).drop 0).take (Nat.min k (n - k))++(tx s n k).drop (k+Nat.min k (n - k))=tx s n (k+Nat.min k (n - k)):=by
 have h1:Nat.min k (n - k)<=k:=Nat.min_le_left _ _;have J:Nat.min k (n - k)<=n - k:=kbG _ _;generalize Nat.min k (n - k)=r at*;simp only[tx,kbH];rw[kbI (by simp),kbI (by simp;omega),List.drop_append,kbJ,kbJ,kbK];simp[kbK]
 grind
abbrev Uw (n:Int):Value:= .int .u64 n
def tz (s:Bytes)(hs:s.length<=80)F:cqq 100 [ay s] (F) (R1 (ay (ca s)) F):=by
 refine Ct.of func100 W 10 ntmps100 (by simp) λw0=>?_;refine A<|T<|A<|C<|C<|M (cD Xz)<|M (eG (cK (by omega)))<|gI (wm (80 - s.length) XN Yd Ym Tryz.typeInfo5 W (by decide) W W (by omega) ⟨by omega,by decide⟩) ?_;rintro _ _ ⟨J,rfl,rfl⟩;refine M (cg (l:=jq (80 - s.length)) XN XI Xz (GE _) (hn:=by simp[jq]))<|M (cf (by simp[jq];omega))<|T ?_;refine am W W ?_;exact rfl
def Cq n(hn:0<=n/\n<4294967296)F:cqq 237 [Uw 1,Uw n] (F) (R1 (.tuple #[Uw 0,Uw n]) F):=by
 refine Ct.of func237 W 51 ntmps237 (by simp) λw0=>?_;refine A<|gA<|T<|A<|C<|M (xl 32 (by omega) (by decide) (by decide))<|T ?_;rw[show (1:Int) % 2 ^ 32=1 by decide];refine A<|C<|M (lX (r:=0) (Eo (k:=32)))<|T<|A<|C<|M (xl 32 (by omega) (by decide) (by decide))<|T ?_;rw[show n % 2 ^ 32=n by omega];refine A<|C<|M (lX (r:=0) (Eo (k:=32)))<|T<|A<|C<|C<|M (lW (r:=n) (by rw[Int.one_mul];exact sE (by omega)))<|T<|A<|C<|C<|M (lW (r:=0) (by rw[Int.zero_mul];exact sE (by omega)))<|C<|M (lX (r:=0) (Eo (k:=32)))<|M (bx (r:=0) (by rw[show (0+0:Int)=0 by omega];exact sE (by omega)))<|T<|A<|C<|M (xl 32 (by omega) (by decide) (by decide))<|T ?_;rw[show (0:Int) % 2 ^ 32=0 by decide];refine A<|C<|M (lX (r:=0) (Eo (k:=32)))<|T<|A<|C<|C<|C<|M (lW (r:=0) (by rw[Int.mul_zero];exact sE (by omega)))<|M (bx (r:=0) (by rw[show (0+0:Int)=0 by omega];exact sE (by omega)))<|T<|A<|C<|C<|M (lW (r:=0) (by rw[Int.zero_mul];exact sE (by omega)))<|C<|M (bx (r:=0) (by rw[show (0+0:Int)=0 by omega];exact sE (by omega)))<|C<|M (lX (r:=0) (Eo (k:=32)))<|M (bx (r:=0) (by rw[show (0+0:Int)=0 by omega];exact sE (by omega)))<|T<|A<|C<|C<|M (lW (r:=n) (by rw[Int.one_mul];exact sE (by omega)))<|T ?_;refine am W W ?_;exact rfl
def GI n(hn:0<=n/\n<4294967296)F:cqq 174 [Uw 1,Uw n] (F) (R1 (.tuple #[Uw 0,Uw n]) F):=by
 refine Ct.of func174 W 30 ntmps174 (by simp) λw0=>?_;refine A<|gA<|T<|ac ?_;refine dY ?_;refine ai<|A<|C<|C<|gR (vA call237 (Cq n hn))<|C<|M aB<|M aB<|gA<|T<|A<|C<|C<|gA<|T ?_;refine am W W ?_;exact rfl
def Ap (x:Bytes)s cap(n:Nat)(hn:1<=n/\n<=1048576)F:cqq 99 [sl s 1 cap,I n] (roL 1 s [[ay x]]::F) (uX 9 1 n (strR (List.replicate n x)) (roL 1 s [[ay x]]::F)):=by
 refine Ct.of func99 W 48 ntmps99 (by simp) λw0=>?_;refine A<|T<|ac<|A<|C<|M aG<|ab<|ah ?_ ?_<;>intro R
 ·exfalso;simp at R;omega
 ·refine ai<|A<|C<|M (aP XC)<|M (cG (r:=1) XA ZI (sE (by decide)))<|C<|M (cG XA ZI (sE (by omega)))<|gR (vA call174 (GI n (by omega)))<|C<|M aB<|M aB<|gA<|T<|ac<|A<|C<|M aQ<|C<|gK ao<|gK aQ<|M cv<|ab<|ah ?_ ?_<;>intro S
  ·exfalso;simp at S;omega
  ·refine ai<|A<|C<|M (cG ZI XA (cK (by omega)))<|gI (wm n XC Xx X9 Tryz.typeInfo9 W (by decide) W W W ⟨by omega,by decide⟩) ?_;rintro _ _ ⟨J,rfl,rfl⟩;refine T<|A<|C<|C ?_;refine gR (sC (s:=some ⟨J,0,none⟩) (s2:=s) (l:=0) (p:=0) XC Xx (by decide) W W (.inl ⟨rfl,rfl⟩) (.inl ⟨rfl,rfl⟩) (by simp) (by simp) (by simp) (by simp[ones,one])) ?_;refine kw (some ⟨J,0,none⟩) (tx x n 1) (GH x hn.1) ?_;rw[show Nat.min 1 n=1 from kbr hn.1];refine T<|ac<|ak ?_;refine aL (α:=Nat) (λk=>1<=k/\k<=n) (λk=>U [(7,sl (some ⟨J,0,none⟩) n n),(8,I k)]) (λk=>be 9 1 (some ⟨J,0,none⟩) n (tx x n k)::roL 1 s [[ay x]]::F) (λk=>n - k) 1 (by omega) [7,8] rfl ?_;rintro k ⟨V,X⟩;refine ac<|A<|C<|C<|M (aP XC)<|M aG<|ab<|ah ?_ ?_<;>intro O
   ·simp at O;refine ai<|ak ?_;refine cn (Lf:=[]) jJ ?_;refine dM W<|dM W<|dM W<|dV W (iG XC Xx W W W (by omega))<|dM W<|dM W<|dV W (lO XC Xx W W W (by omega)) ?_;refine cQ W (sC (s:=some ⟨J,0,none⟩) (s2:=some ⟨J,0,none⟩) (l:=k) (p:=0) XC Xx (by decide) W W (.inr (.inl (kaU (by omega)))) (.inl ⟨rfl,rfl⟩) (by rw[Ep x (by omega)];omega) (by rw[Ep x (by omega)];omega) (λr hr=>(Er x r hr).1) (λr hr=>(Er x r hr).2)) ?_;rintro _ _ ⟨rfl,rfl⟩;refine kw (some ⟨J,0,none⟩) (tx x n (k+Nat.min k (n - k))) (Kc x (by omega)) ?_;have Y:Nat.min k (n - k)<=n - k:=kbG _ _;refine dV W (bx (cK (by omega)))<|dV W ax ?_;refine aN ?_;refine aE ?_;have hm:1<=Nat.min k (n - k)/\Nat.min k (n - k)<=n - k:=⟨Nat.le_min.2 ⟨by omega,by omega⟩,kbG _ _⟩;exact an (k+Nat.min k (n - k)) ⟨by omega,by omega⟩ (by omega) [7,8] rfl
   ·simp at O;obtain rfl:k=n:=(by omega);refine kw (some ⟨J,0,none⟩) (strR (List.replicate k x)) (by simp[tx,strR]) ?_;refine aF ?_;refine A<|C<|T ?_;exact cU rfl rfl rfl rfl
def Cr l a cap(hl:l.length<=1048576)F:cqq 101 [sl (some a) l.length cap] (be 9 1 (some a) cap (strR l)::F) (uX 9 1 l.length (strR l) (be 9 1 (some a) cap (strR l)::F)):=by
 refine Ct.of func101 W 8 ntmps101 (by simp) λw0=>?_;refine A<|T<|ac<|A<|C<|M (GG XC W)<|ab ?_;refine dY ?_;refine ai<|A<|gI (x4 XC Xx) ?_;rintro _ _ ⟨J,rfl,rfl⟩;refine C<|gI (aR XC Xx X9 Tryz.typeInfo9 (hm:=by exact aZ l) (by simp[strR]) (by simp[strR,ones,one]) ⟨by omega,by decide,by decide⟩) ?_;rintro _ _ ⟨R,O,rfl,rfl⟩;rw[ka9];simp only[kby];refine T ?_;exact cU rfl rfl rfl rfl
structure ChangeM where
 key:Bytes
 val:Bytes
 gone:Bool
 deriving DecidableEq
def bg (c:ChangeM):List Value:=[ay c.key,ay c.val,Bo c.gone]
instance {c:ChangeM}{i:Nat}{v:Value}[h:NT [ay c.key,ay c.val,Bo c.gone] i v]:NT (bg c) i v:=⟨h.p⟩
def bI (l:List ChangeM):List (List Value):=l.map bg
theorem aT l:(bI l).length=l.length:=by simp[bI]
def de {l c}(h:l[k]? =some c):(bI l)[k]? =some (bg c):=by simp[bI,h]
structure PutM where
 at_:Int
 data:Bytes
 deriving DecidableEq
abbrev j2 (p:PutM):List Value:=[I p.at_,ay p.data]
def dh (l:List PutM):List (List Value):=l.map j2
def df l:(dh l).length=l.length:=by simp[dh]
def kx {l c}(h:l[k]? =some c):(dh l)[k]? =some (j2 c):=by simp[dh,h]
structure ActM where
 kind:Bytes
 s:Bytes
 a:Int
 b:Int
 c:Int
 d:Int
 k:Int
 puts:List PutM
 changes:List ChangeM
abbrev Ke:=(Option Addr×Nat)×(Option Addr×Nat)
abbrev Tg (x:ActM)(z:Ke):List Value:=[ay x.kind,ay x.s,I x.a,I x.b,I x.c,I x.d,Uw x.k,sl z.1.1 x.puts.length z.1.2,sl z.2.1 x.changes.length z.2.2]
def Qc (l:List ActM)(f:Nat->Ke):List (List Value):=l.mapIdx λi x=>Tg x (f i)
def acts (s:Option Addr)(l:List ActM)(f:Nat->Ke):ag:=λm=>roL 9 s (Qc l f) m/\∀i x,l[i]? =some x->roL 2 (f i).1.1 (dh x.puts) m/\roL 3 (f i).2.1 (bI x.changes) m
def Vh (m:Res):Res:=λb=>match m b with
 | some (o,true)=>some (o,true)
 | _=>none
def Th {m b o}(h:m b=some (o,true)):Vh m b=some (o,true):=by simp[Vh,h]
variable {s:Option Addr}{rows:List (List Value)}
def Qd {sz m}(h:roL sz s rows m):roL sz s rows (Vh m):=by
 rcases h with h | ⟨b,off,o,h1,J,O⟩
 ·exact .inl h
 ·exact .inr ⟨b,off,o,h1,Th J,O⟩
variable {L:List ag}{l:List ActM}{f:Nat->Ke}{w w0:World}
instance (priority:=high) SlR.acts:SlR (acts s l f::L) s 9 (Qc l f):=⟨λw0 w h=>SlR.ro.out w0 w (h.weak (B:=roL 9 s (Qc l f)) λm hm=>hm.1)⟩
open Go.Sl Go.Proofs Go.ChangeShapes Go.WideShapes Go.ChangeAt Go.RowKit
variable {H:Type}
def Tr (enc:TypeId×Value->H)(bk:World)(t:TypeId)(cs:List Value):Prop:=∃fuel x,DataW.trod enc Tryz.prog bk 0 (λ_=>true) true fuel t cs=some x
variable {enc:TypeId×Value->H}{bk:World}{t:TypeId}{cs:List Value}
def Ti (ht:Tryz.prog.underlying t=some .string)(h:Tr enc bk t cs):∃s:Bytes,cs=[ay s]/\s.length<=maxLen:=by
 obtain ⟨fuel,x,h⟩:=h;obtain ⟨s,h1,_,J⟩:=DataW.trod_string ht h;exact ⟨s.data.toList,by simpa using h1,by simpa using J⟩
variable {e:TypeId}
def Mf {α:Type}[Inhabited α]sz Y(Q:α->Prop)(ht:Tryz.prog.underlying t=some (.slice e))(hC:Tryz.prog.cellsOf e=sz)(hsz:sz≠0)(hel:∀cs,cs.length=sz->Tr enc bk e cs->∃x,cs=Y x/\Q x)(h:Tr enc bk t cs):
  ∃(s:Option Addr) (l:List α) (cap:Nat),cs=[sl s l.length cap]/\OldRows bk s sz (l.map Y)/\(∀x∈l,Q x)/\l.length<=maxLen:=by
 obtain ⟨fuel,x,h⟩:=h;rcases Deep.open_slice ht h with ⟨rfl,_⟩ | ⟨a',len,cap,m,n,D,Pl,rfl,hb,hl,hm,hmm,hx,hi⟩
 ·exact ⟨none,[],0,rfl, .inl rfl,by simp,by simp⟩
 ·have key:∀i,i<len->∃x:α,(∀f v,(Y x)[f]? =some v->bk.cell? ((a'.add (i*sz)).add f)=some v)/\(Y x).length=sz/\Q x:=λi hil=>by
   obtain ⟨Z,hc,ht'⟩:=hi i (by simp at hmm;omega);rw[hC] at hc;obtain ⟨_,S,hat⟩:=World.cells?_some hc;obtain ⟨y,rfl,hq⟩:=hel Z S ⟨n,_,ht'⟩;refine ⟨y,λf v R=>?_,S,hq⟩;have hfl:=(kaz.1 R).1;have:=hat f (by omega);rw[this,R]
  obtain ⟨f,R⟩:=Deep.choose_lt key;refine ⟨some a',(List.range len).map f,cap,by simp[sl],GD (len:=len) (by simp) (λi row J g v hg=>?_) (λrow J=>?_),λx hx=>?_,by simp;omega⟩
  ·simp only[kaN,kbL,kaE] at J;obtain ⟨j,hj,rfl⟩:=J;obtain ⟨V,X⟩:=kaz.1 hj;simp at V X;subst X;exact (R i V).1 g v hg
  ·simp at J;obtain ⟨i,O,rfl⟩:=J;intro h0;have:=(R i O).2.1;rw[h0] at this;exact hsz this.symm
  ·simp at hx;obtain ⟨i,O,rfl⟩:=hx;exact (R i O).2.2
def Vn {v d p}(h:DataW.Trod enc Tryz.prog bk 0 (λ_=>true) true t v d p):Tr enc bk t v.cells.toList:=let ⟨f,hf⟩:=h;⟨f,_,hf⟩
def Vo:Tryz.prog.cellsOf 9=1:=by kernel_rfl
instance:Inhabited PutM:=⟨⟨0,[]⟩⟩
instance:Inhabited ChangeM:=⟨⟨[],[],false⟩⟩
instance:Inhabited ActM:=⟨⟨[],[],0,0,0,0,0,[],[]⟩⟩
def OldActs (bk:World)(s:Option Addr)(l:List ActM)(f:Nat->Ke):Prop:=OldRows bk s 9 (Qc l f)/\∀i x,l[i]? =some x->OldRows bk (f i).1.1 2 (dh x.puts)/\OldRows bk (f i).2.1 3 (bI x.changes)
theorem OldRows.roL {a sz m}(h:OldRows bk a sz rows)(hm:old bk m):Go.Sl.roL sz a rows m:=by
 rcases h with rfl | ⟨b,off,o,rfl,J,hr⟩
 ·exact .inl rfl
 ·exact .inr ⟨b,off,o,rfl,hm b o J,hr⟩
theorem OldActs.sat (h:OldActs w0 s l f)(J:Sat w0 w (old w0::L)):Sat w0 w (acts s l f::old w0::L):=
 (J.dup (Pers.old w0)).weak λm hm=>⟨h.1.roL hm,λi x hx=>⟨(h.2 i x hx).1.roL hm,(h.2 i x hx).2.roL hm⟩⟩
structure DiskM where
 kept:List Bytes
 now:List Bytes
 wait:List (Nat×Bytes)
 fuse:Int
 down:Bool
def eW (l:List (Nat×Bytes)):List (List Value):=l.map λt=>[I t.1,ay t.2]
def AR l:(eW l).length=l.length:=by simp[eW]
def pi (ec TT b:Nat)(D:DiskM)(z:(Option Addr×Nat)×(Option Addr×Nat)×(Option Addr×Nat)):List ag:=
 [pcc b #[sl z.1.1 D.kept.length z.1.2,sl z.2.1.1 D.now.length z.2.1.2,sl z.2.2.1 D.wait.length z.2.2.2,I D.fuse,Bo D.down] ec,be 9 1 z.1.1 z.1.2 (strR D.kept),be 9 1 z.2.1.1 z.2.1.2 (strR D.now),be TT 2 z.2.2.1 z.2.2.2 (eW D.wait)]
def cj (ec TT b:Nat)(D:DiskM):ag:=hx (pi ec TT b D)
def dm (D:DiskM):Int:=if D.down=true\/D.fuse=0 then 9 else 0
def dx (D:DiskM):DiskM:=if D.down=true then D else if D.fuse=0 then ⟨D.kept,D.now,D.wait, -1,true⟩ else ⟨D.kept,D.now,D.wait,if D.fuse - 1< -1 then -1 else D.fuse - 1,D.down⟩
def qj (D:DiskM)(n:Int):Bytes×Int:=if D.down=true then ([],9) else if n<0\/(D.now.length:Int)<=n then ([],1) else ((D.now[n.toNat]?).getD [],0)
variable {D:DiskM}{n:Int}
theorem GJ (h:D.down=true):qj D n=([],9):=by grind[qj]
theorem Kf (h:D.down=false)(hn:n<0\/(D.now.length:Int)<=n):qj D n=([],1):=by grind[qj]
theorem tA {x}(h:D.down=false)(hn:¬(n<0\/(D.now.length:Int)<=n))(hx:D.now[n.toNat]? =some x):qj D n=(x,0):=by grind[qj]
def eX {l}{x:Bytes}(h:l[k]? =some x):(strR l)[k]? =some [ay x]:=by simp[strR,h]
def ox (D:DiskM)(n:Int)(s:Bytes):Prop:=n<0\/(D.now.length:Int)<=n\/80<s.length
instance (D:DiskM)(n:Int)(s:Bytes):Decidable (ox D n s):=by unfold ox;infer_instance
def du (D:DiskM)(n:Int)(s:Bytes):Int:=if ox D n s then 1 else dm D
def eA (D:DiskM)(n:Int)(s:Bytes):DiskM:=⟨D.kept,D.now.set n.toNat (ca s),D.wait++ [(n.toNat,ca s)],D.fuse,D.down⟩
def cH (D:DiskM)(n:Int)(s:Bytes):DiskM:=if ox D n s then D else if dm D=0 then eA (dx D) n s else dx D
theorem fq D:(dx D).now=D.now:=by grind[dx]
theorem eb D:(dx D).kept=D.kept:=by grind[dx]
theorem fe D:(dx D).wait=D.wait:=by grind[dx]
def Es l j(x y:Bytes):(strR l).set j ([ay x].set 0 (ay y))=strR (l.set j y):=by simp[strR,kbj]
def Kg l(h:0<=n)(x:Bytes):eW l++ [[I n,ay x]]=eW (l++ [(n.toNat,x)]):=by simp[eW,kbM h]
def tB b D(Y: -1<=D.fuse/\D.fuse<=9223372036854775807)F:cqq 238 [ptr b 0] (cj 179 319 b (D)::F) (R1 (bQ (dm D)) (cj 179 319 b (dx D)::F)):=by
 refine Ct.of func238 W 35 ntmps238 (by simp) λw0=>?_;refine ji (cj 179 319 b (D)) W ?_;rintro ⟨⟨O,c1⟩,⟨s2,c2⟩,⟨R,c3⟩⟩;show G _ _ _ (pcc b #[sl O (D.kept).length c1,sl s2 (D.now).length c2,sl R (D.wait).length c3,I (D.fuse),Bo (D.down)] 179::be 9 1 O c1 (strR (D.kept))::be 9 1 s2 c2 (strR (D.now))::be 319 2 R c3 (eW (D.wait))::F);refine A<|T<|ac<|A<|C<|M aa<|gF 4 Yh W XL<|M (aA Yp)<|M cS<|C<|gK ao<|gK aa<|gK (aw 3 Yh W Xu)<|gK (aA Xv)<|gK bE<|M dc<|ab<|ah ?_ ?_<;>intro S
 ·simp at S;obtain ⟨X,V⟩:=S;refine al<|C<|C<|M aa<|gF 4 Yh W XL<|gU (aJ #[sl O (D.kept).length c1,sl s2 (D.now).length c2,sl R (D.wait).length c3,I (D.fuse),Bo (true)] XL (by simp))<|M aa<|gF 3 Yh W Xu<|gU (aJ #[sl O (D.kept).length c1,sl s2 (D.now).length c2,sl R (D.wait).length c3,I (-1),Bo (true)] Xu (by simp))<|ab<|ac<|A<|C<|M aa<|gF 4 Yh W XL<|M (aA Yp)<|ab<|ah ?_ ?_<;>intro J
  ·refine A<|M (ba XG)<|T ?_;refine gW (cB:=pi 179 319 b ⟨D.kept,D.now,D.wait, -1,true⟩) [pcc b #[sl O (D.kept).length c1,sl s2 (D.now).length c2,sl R (D.wait).length c3,I (-1),Bo (true)] 179,be 9 1 O c1 (strR (D.kept)),be 9 1 s2 c2 (strR (D.now)),be 319 2 R c3 (eW (D.wait))] (cj 179 319 b (⟨D.kept,D.now,D.wait, -1,true⟩)) ((O,c1),(s2,c2),(R,c3)) ?_;rw[show (⟨D.kept,D.now,D.wait, -1,true⟩:DiskM)=dx D by simp[dx,X,V]];exact am rfl rfl (by rw[show dm D=9 by simp[dm,V]];rfl)
  ·cases J
 ·simp at S;refine ai<|ac<|A<|C<|M aa<|gF 4 Yh W XL<|M (aA Yp)<|ab<|ah ?_ ?_<;>intro J
  ·refine A<|M (ba XG)<|T ?_;refine gW (cB:=pi 179 319 b ⟨D.kept,D.now,D.wait,D.fuse,D.down⟩) [pcc b #[sl O (D.kept).length c1,sl s2 (D.now).length c2,sl R (D.wait).length c3,I (D.fuse),Bo (D.down)] 179,be 9 1 O c1 (strR (D.kept)),be 9 1 s2 c2 (strR (D.now)),be 319 2 R c3 (eW (D.wait))] (cj 179 319 b (⟨D.kept,D.now,D.wait,D.fuse,D.down⟩)) ((O,c1),(s2,c2),(R,c3)) ?_;rw[show (⟨D.kept,D.now,D.wait,D.fuse,D.down⟩:DiskM)=dx D by unfold dx;rw[kaT J]];exact am rfl rfl (by rw[show dm D=9 by simp[dm,J]];rfl)
  ·refine ai<|A<|C<|C<|M aa<|gF 3 Yh W Xu<|M (aA Xv)<|M (eG (cK (by omega)))<|M (AM W W)<|M aa<|gF 3 Yh W Xu<|gU (aJ #[sl O (D.kept).length c1,sl s2 (D.now).length c2,sl R (D.wait).length c3,I (if D.fuse - 1< -1 then -1 else D.fuse - 1),Bo (D.down)] Xu (by simp))<|ab<|A<|T ?_;refine gW (cB:=pi 179 319 b ⟨D.kept,D.now,D.wait,if D.fuse - 1< -1 then -1 else D.fuse - 1,D.down⟩) [pcc b #[sl O (D.kept).length c1,sl s2 (D.now).length c2,sl R (D.wait).length c3,I (if D.fuse - 1< -1 then -1 else D.fuse - 1),Bo (D.down)] 179,be 9 1 O c1 (strR (D.kept)),be 9 1 s2 c2 (strR (D.now)),be 319 2 R c3 (eW (D.wait))] (cj 179 319 b (⟨D.kept,D.now,D.wait,if D.fuse - 1< -1 then -1 else D.fuse - 1,D.down⟩)) ((O,c1),(s2,c2),(R,c3)) ?_;rw[show (⟨D.kept,D.now,D.wait,if D.fuse - 1< -1 then -1 else D.fuse - 1,D.down⟩:DiskM)=dx D by simp[dx,J,S J]];exact am rfl rfl (by rw[show dm D=0 by simp[dm,J,S J]];rfl)
def ew b D F:cqq 112 [ptr b 0] (cj 179 319 b (D)::F) (R1 (I D.now.length) (cj 179 319 b (D)::F)):=by
 refine Ct.of func112 W 8 ntmps112 (by simp) λw0=>?_;refine ji (cj 179 319 b (D)) W ?_;rintro ⟨⟨J,c1⟩,⟨s2,c2⟩,⟨O,c3⟩⟩;show G _ _ _ (pcc b #[sl J (D.kept).length c1,sl s2 (D.now).length c2,sl O (D.wait).length c3,I (D.fuse),Bo (D.down)] 179::be 9 1 J c1 (strR (D.kept))::be 9 1 s2 c2 (strR (D.now))::be 319 2 O c3 (eW (D.wait))::F);refine A<|T<|A<|C<|M aa<|gF 1 Yh W Zg<|M (aA Zn)<|M (aP XC)<|T ?_;refine gW (cB:=pi 179 319 b ⟨D.kept,D.now,D.wait,D.fuse,D.down⟩) [pcc b #[sl J (D.kept).length c1,sl s2 (D.now).length c2,sl O (D.wait).length c3,I (D.fuse),Bo (D.down)] 179,be 9 1 J c1 (strR (D.kept)),be 9 1 s2 c2 (strR (D.now)),be 319 2 O c3 (eW (D.wait))] (cj 179 319 b (⟨D.kept,D.now,D.wait,D.fuse,D.down⟩)) ((J,c1),(s2,c2),(O,c3)) ?_;show G _ _ _ (cj 179 319 b (D)::F);exact am rfl rfl rfl
def tC b D F:cqq 111 [ptr b 0] (cj 179 319 b (D)::F) (R1 (Bo D.down) (cj 179 319 b (D)::F)):=by
 refine Ct.of func111 W 7 ntmps111 (by simp) λw0=>?_;refine ji (cj 179 319 b (D)) W ?_;rintro ⟨⟨J,c1⟩,⟨s2,c2⟩,⟨O,c3⟩⟩;show G _ _ _ (pcc b #[sl J (D.kept).length c1,sl s2 (D.now).length c2,sl O (D.wait).length c3,I (D.fuse),Bo (D.down)] 179::be 9 1 J c1 (strR (D.kept))::be 9 1 s2 c2 (strR (D.now))::be 319 2 O c3 (eW (D.wait))::F);refine A<|T<|A<|C<|M aa<|gF 4 Yh W XL<|M (aA Yp)<|T ?_;refine gW (cB:=pi 179 319 b ⟨D.kept,D.now,D.wait,D.fuse,D.down⟩) [pcc b #[sl J (D.kept).length c1,sl s2 (D.now).length c2,sl O (D.wait).length c3,I (D.fuse),Bo (D.down)] 179,be 9 1 J c1 (strR (D.kept)),be 9 1 s2 c2 (strR (D.now)),be 319 2 O c3 (eW (D.wait))] (cj 179 319 b (⟨D.kept,D.now,D.wait,D.fuse,D.down⟩)) ((J,c1),(s2,c2),(O,c3)) ?_;show G _ _ _ (cj 179 319 b (D)::F);exact am rfl rfl rfl
def pj b D n F:cqq 113 [ptr b 0,I n] (cj 179 319 b (D)::F) (R1 (.tuple #[ay (qj D n).1,bQ (qj D n).2]) (cj 179 319 b (D)::F)):=by
 refine Ct.of func113 W 30 ntmps113 (by simp) λw0=>?_;refine ji (cj 179 319 b (D)) W ?_;rintro ⟨⟨J,c1⟩,⟨s2,c2⟩,⟨O,c3⟩⟩;show G _ _ _ (pcc b #[sl J (D.kept).length c1,sl s2 (D.now).length c2,sl O (D.wait).length c3,I (D.fuse),Bo (D.down)] 179::be 9 1 J c1 (strR (D.kept))::be 9 1 s2 c2 (strR (D.now))::be 319 2 O c3 (eW (D.wait))::F);refine A<|gA<|T<|ac<|A<|C<|M aa<|gF 4 Yh W XL<|M (aA Yp)<|ab<|ah ?_ ?_<;>intro Y
 ·refine A<|M (ba XG)<|gA<|T ?_;refine gW (cB:=pi 179 319 b ⟨D.kept,D.now,D.wait,D.fuse,D.down⟩) [pcc b #[sl J (D.kept).length c1,sl s2 (D.now).length c2,sl O (D.wait).length c3,I (D.fuse),Bo (D.down)] 179,be 9 1 J c1 (strR (D.kept)),be 9 1 s2 c2 (strR (D.now)),be 319 2 O c3 (eW (D.wait))] (cj 179 319 b (⟨D.kept,D.now,D.wait,D.fuse,D.down⟩)) ((J,c1),(s2,c2),(O,c3)) ?_;show G _ _ _ (cj 179 319 b (D)::F);exact am rfl rfl (by rw[GJ Y];rfl)
 ·refine ai<|ac<|A<|C<|M aG<|C<|gK ao<|gK ao<|gK aa<|gK (aw 1 Yh W Zg)<|gK (aA Zn)<|gK (aP XC)<|gK kp<|M cv<|ab<|ah ?_ ?_<;>intro R
  ·simp at R;refine A<|M (ba XG)<|gA<|T ?_;refine gW (cB:=pi 179 319 b ⟨D.kept,D.now,D.wait,D.fuse,D.down⟩) [pcc b #[sl J (D.kept).length c1,sl s2 (D.now).length c2,sl O (D.wait).length c3,I (D.fuse),Bo (D.down)] 179,be 9 1 J c1 (strR (D.kept)),be 9 1 s2 c2 (strR (D.now)),be 319 2 O c3 (eW (D.wait))] (cj 179 319 b (⟨D.kept,D.now,D.wait,D.fuse,D.down⟩)) ((J,c1),(s2,c2),(O,c3)) ?_;show G _ _ _ (cj 179 319 b (D)::F);exact am rfl rfl (by rw[Kf Y (by omega)];rfl)
  ·simp at R;have Z:¬(n<0\/(D.now.length:Int)<=n):=(by omega);obtain ⟨x,hx⟩:∃x,D.now[n.toNat]? =some x:=⟨_,kbN (by omega)⟩;have X:=eX hx;have S:n.toNat<D.now.length:=(by omega);have V:n.toNat<(strR D.now).length:=(by rw[aZ];exact S);refine ai<|A<|C<|M aa<|gF 1 Yh W Zg<|M (aA Zn)<|C<|M (av n.toNat XC Xx (hj:=by omega) S V)<|M (aI XD (by exact X) W)<|gA<|T ?_;refine gW (cB:=pi 179 319 b ⟨D.kept,D.now,D.wait,D.fuse,D.down⟩) [pcc b #[sl J (D.kept).length c1,sl s2 (D.now).length c2,sl O (D.wait).length c3,I (D.fuse),Bo (D.down)] 179,be 9 1 J c1 (strR (D.kept)),be 9 1 s2 c2 (strR (D.now)),be 319 2 O c3 (eW (D.wait))] (cj 179 319 b (⟨D.kept,D.now,D.wait,D.fuse,D.down⟩)) ((J,c1),(s2,c2),(O,c3)) ?_;show G _ _ _ (cj 179 319 b (D)::F);exact am rfl rfl (by rw[tA Y Z hx];rfl)
def fp b D n(s:Bytes)(hf: -1<=D.fuse/\D.fuse<=9223372036854775807)(hw:D.wait.length<=1000000)F:cqq 175 [ptr b 0,I n,ay s] (cj 179 319 b (D)::F) (R1 (bQ (du D n s)) (cj 179 319 b (cH D n s)::F)):=by
 refine Ct.of func175 W 56 ntmps175 (by simp) λw0=>?_;refine ji (cj 179 319 b (D)) W ?_;rintro ⟨⟨O,c1⟩,⟨s2,c2⟩,⟨R,c3⟩⟩;show G _ _ _ (pcc b #[sl O (D.kept).length c1,sl s2 (D.now).length c2,sl R (D.wait).length c3,I (D.fuse),Bo (D.down)] 179::be 9 1 O c1 (strR (D.kept))::be 9 1 s2 c2 (strR (D.now))::be 319 2 R c3 (eW (D.wait))::F);refine A<|T<|ac<|A<|C<|M aG<|C<|gK ao<|gK ao<|gK aa<|gK (aw 1 Yh W Zg)<|gK (aA Zn)<|gK (aP XC)<|gK kp<|M cv<|C<|gK ao<|gK (cD Xz)<|gK aQ<|M cv<|ab<|ah ?_ ?_<;>intro Z
 ·simp at Z;have J:ox D n s:=(by unfold ox;omega);refine A<|M (ba XG)<|T ?_;refine gW (cB:=pi 179 319 b ⟨D.kept,D.now,D.wait,D.fuse,D.down⟩) [pcc b #[sl O (D.kept).length c1,sl s2 (D.now).length c2,sl R (D.wait).length c3,I (D.fuse),Bo (D.down)] 179,be 9 1 O c1 (strR (D.kept)),be 9 1 s2 c2 (strR (D.now)),be 319 2 R c3 (eW (D.wait))] (cj 179 319 b (⟨D.kept,D.now,D.wait,D.fuse,D.down⟩)) ((O,c1),(s2,c2),(R,c3)) ?_;show G _ _ _ (cj 179 319 b (D)::F);have eD:cH D n s=D:=(by unfold cH;rw[kaT J]);rw[show cj 179 319 b (D)=cj 179 319 b (cH D n s) by rw[eD]];exact am rfl rfl (by rw[show du D n s=1 by unfold du;rw[kaT J]];rfl)
 ·simp at Z;have J:¬ox D n s:=(by unfold ox;omega);refine ai<|A<|C ?_;refine gW (cB:=pi 179 319 b ⟨D.kept,D.now,D.wait,D.fuse,D.down⟩) [pcc b #[sl O (D.kept).length c1,sl s2 (D.now).length c2,sl R (D.wait).length c3,I (D.fuse),Bo (D.down)] 179,be 9 1 O c1 (strR (D.kept)),be 9 1 s2 c2 (strR (D.now)),be 319 2 R c3 (eW (D.wait))] (cj 179 319 b (⟨D.kept,D.now,D.wait,D.fuse,D.down⟩)) ((O,c1),(s2,c2),(R,c3)) ?_;show G _ _ _ (cj 179 319 b (D)::F);refine gR (vB call238 (tB b D hf)) ?_;have hnow:=fq D;have hwait:=fe D;generalize hD1:dx D=D1 at*;refine T<|ac<|A<|C<|M (fX XF)<|ab<|ah ?_ ?_<;>intro X
  ·simp at X;have he0:dm D=0:=X;refine ji (cj 179 319 b (D1)) W ?_;rintro ⟨⟨O,c1⟩,⟨s2,c2⟩,⟨R,c3⟩⟩;show G _ _ _ (pcc b #[sl O (D1.kept).length c1,sl s2 (D1.now).length c2,sl R (D1.wait).length c3,I (D1.fuse),Bo (D1.down)] 179::be 9 1 O c1 (strR (D1.kept))::be 9 1 s2 c2 (strR (D1.now))::be 319 2 R c3 (eW (D1.wait))::F);rw[<-hnow] at Z;rw[<-hwait] at hw;obtain ⟨x,hx⟩:∃x,D1.now[n.toNat]? =some x:=⟨_,kbN (by omega)⟩;have hrow:=eX hx;have S:n.toNat<D1.now.length:=(by omega);have hlt2:n.toNat<(strR D1.now).length:=(by rw[aZ];exact S);have hy:(D1.now.set n.toNat (ca s))[n.toNat]? =some (ca s):=(by simp[S]);have hrow2:=eX hy;refine ac ?_;refine eE (Lf:=pcc b #[sl O (D1.kept).length c1,sl s2 (D1.now).length c2,sl R (D1.wait).length c3,I (D1.fuse),Bo (D1.down)] 179::be 9 1 s2 c2 (strR (D1.now))::F) jD 8 ?_;refine dM W<|dV W aa<|dF W 1 Yh W Zg<|dV W (aA Zn)<|dM W<|dM W<|cQ W (uA call100 (tz s (by omega))) ?_;rintro _ _ ⟨rfl,rfl⟩;refine dV W (av n.toNat XC Xx (hj:=by omega) S hlt2) ?_;refine aN ?_;refine io (AQ (row:=[ay x]) Xx W W W hrow (by decide)) ?_;rintro _ _ rfl;rw[Es];refine ab ?_;refine eE (Lf:=pcc b #[sl O (D1.kept).length c1,sl s2 (D1.now).length c2,sl R (D1.wait).length c3,I (D1.fuse),Bo (D1.down)] 179::be 9 1 s2 c2 (strR (D1.now.set n.toNat (ca s)))::F) (plN [0,2,4,6,8,10,12,14,16,18,20,22,24,26,29,31,32,34]) 18 ?_;refine dM W<|dM W<|dV W aa<|dF W 2 Yh W Zt<|dV W (aA isAgg177)<|dM W<|dM W<|dV W aa<|dF W 1 Yh W Zg<|dV W (aA Zn)<|dM W<|dV W (av n.toNat XC Xx (hj:=by omega) S (by rw[aZ,kbO];exact S))<|dV W (aI XD (by exact hrow2) W)<|dV W (aS (GB _ W _ W))<|cQ W (ap [[I n,ay (ca s)]] Z8 Z0 Z6 (by simp)) ?_;rintro _ _ ⟨b51,rfl,rfl⟩;refine cQ W (aR Z8 Z0 Z6 Tryz.typeInfo319 (hn:=by exact AR _) (by simp) (by simp[ones,one]) ⟨by omega,by decide,by decide⟩) ?_;rintro _ _ ⟨Y,V,rfl,rfl⟩;rw[Kg _ (by omega)];refine dV W aa<|dF W 2 Yh W Zt ?_;refine aN ?_
   refine gU (aJ #[sl O (D1.kept).length c1,sl s2 (D1.now).length c2,sl Y (D1.wait.length+1) V,I (D1.fuse),Bo (D1.down)] Zt (by simp))<|ab<|A<|C<|T ?_;refine gW (cB:=pi 179 319 b (eA D1 n s)) [pcc b #[sl O (D1.kept).length c1,sl s2 (D1.now).length c2,sl Y (D1.wait.length+1) V,I (D1.fuse),Bo (D1.down)] 179,be 9 1 O c1 (strR (D1.kept)),be 9 1 s2 c2 (strR (D1.now.set n.toNat (ca s))),be 319 2 Y V (eW (D1.wait++ [(n.toNat,ca s)]))] (cj 179 319 b (eA D1 n s)) ((O,c1),(s2,c2),(Y,V)) (hA:=by simp[pi,eA]) ?_;rw[show eA D1 n s=cH D n s by unfold cH;rw[kaU J,kaT he0,hD1]];exact am rfl rfl (by rw[show du D n s=dm D by unfold du;rw[kaU J]];rfl)
  ·simp at X;have he0:¬dm D=0:=X;refine ai<|A<|C<|T ?_;rw[show D1=cH D n s by unfold cH;rw[kaU J,kaU he0,hD1]];exact am rfl rfl (by rw[show du D n s=dm D by unfold du;rw[kaU J]];rfl)
def iH (D:DiskM):DiskM:=⟨D.now,D.now,[],D.fuse,D.down⟩
def cL (D:DiskM):DiskM:=if dm D=0 then iH (dx D) else dx D
theorem Et {r1 r2}(h:r1.length=r2.length):(strR r1).take 0++((strR r2).drop 0).take (Nat.min r2.length r1.length)++(strR r1).drop (0+Nat.min r2.length r1.length)=strR r2:=by
 grind[strR,List.drop_of_length_le]
theorem Eu D:dm D=0\/dm D=9:=by grind[dm]
def ig b D(Z: -1<=D.fuse/\D.fuse<=9223372036854775807)(hk:D.kept.length=D.now.length)(hn:D.now.length<=1000000)F:cqq 176 [ptr b 0] (cj 179 319 b (D)::F) (R1 (bQ (dm D)) (cj 179 319 b (cL D)::F)):=by
 refine Ct.of func176 W 21 ntmps176 (by simp) λw0=>?_;refine A<|T<|A<|C<|gR (vB call238 (tB b D Z)) ?_;have R:=fq D;have S:=eb D;have hsc:=Eu D;generalize V:dx D=D1 at*;rw[<-R,<-S] at hk;rw[<-R] at hn;refine T<|ac<|A<|C<|M (fX XF)<|ab<|ah ?_ ?_<;>intro X
 ·simp at X;have J:dm D=0:=X;refine ji (cj 179 319 b (D1)) W ?_;rintro ⟨⟨O,c1⟩,⟨s2,c2⟩,⟨Y,c3⟩⟩;show G _ _ _ (pcc b #[sl O (D1.kept).length c1,sl s2 (D1.now).length c2,sl Y (D1.wait).length c3,I (D1.fuse),Bo (D1.down)] 179::be 9 1 O c1 (strR (D1.kept))::be 9 1 s2 c2 (strR (D1.now))::be 319 2 Y c3 (eW (D1.wait))::F);refine ac ?_;refine cn (Lf:=pcc b #[sl O (D1.kept).length c1,sl s2 (D1.now).length c2,sl Y (D1.wait).length c3,I (D1.fuse),Bo (D1.down)] 179::F) jE ?_;refine dM W<|dV W aa<|dF W 0 Yh W Zg<|dV W (aA Zn)<|dM W<|dV W aa<|dF W 1 Yh W Zg<|dV W (aA Zn) ?_;refine cQ W (sC (s:=O) (s2:=s2) (l:=0) (p:=0) XC Xx (by decide) W W (.inl ⟨rfl,rfl⟩) (.inl ⟨rfl,rfl⟩) (by simp[strR]) (by simp[strR]) (by simp[strR]) (by simp[strR,ones,one])) ?_;rintro _ _ ⟨rfl,rfl⟩;refine kw O (strR D1.now) (Et hk) ?_;refine aN ?_;refine al<|C<|M aa<|gF 2 Yh W Zt<|gU (aJ #[sl O (D1.kept).length c1,sl s2 (D1.now).length c2,sl none 0 0,I (D1.fuse),Bo (D1.down)] Zt (by simp))<|ab ?_;refine aY 319 2 (eW []) ?_;refine ac ?_;skip;refine al<|C<|T ?_;refine gW (cB:=pi 179 319 b (iH D1)) [pcc b #[sl O (D1.kept).length c1,sl s2 (D1.now).length c2,sl none 0 0,I (D1.fuse),Bo (D1.down)] 179,be 9 1 O c1 (strR D1.now),be 9 1 s2 c2 (strR D1.now),be 319 2 none 0 (eW [])] (cj 179 319 b (iH D1)) ((O,c1),(s2,c2),(none,0)) (hA:=by simp[pi,iH,hk]) ?_;rw[show iH D1=cL D by unfold cL;rw[kaT J,V]];exact am rfl rfl (by rw[J];rfl)
 ·simp at X;have J:¬dm D=0:=X;refine ai<|ac ?_;skip;refine al<|C<|T ?_;rw[show D1=cL D by unfold cL;rw[kaU J,V]];exact am rfl rfl rfl
end Go.Proofs.YthdjckbjjfiopabGreatDoor
namespace Go.Sl
variable {b o off sz:Nat}{F:List ag}{s2:Option Addr}{J:List (List Value)}
theorem SlR.part {S p m}(Y:SlR F s2 sz J)(R:At S s2 p sz m)(X:p+m<=J.length):SlR F S sz ((J.drop p).take m):=⟨λw0 w h=>by
 by_cases O:m=0
 ·left;subst O;rfl
 ·rcases Y.out w0 w h with h | ⟨b,off,o,rfl,hh,V⟩
  ·grind
  ·exact .inr ⟨b,off+p*sz,o,R.addr (by omega),hh,V.part⟩⟩
variable {c:Cx}{g gu:Option (Nat×Bool)}{E:di}{L L':List ag}{d:Option Tmp}{t ty:TypeId}{pos:String}{af:Array Edge}{x y:Operand}{v:Value}{s:Option Addr}{cap n:Nat}{rows:List (List Value)}
def x9 {ya p m V zv O}{ec:Nat}(hu:c.P.underlying t=some (.slice ec))(hz:∀w,(sizeOf ec).run c.P w= .ok sz w)(hzv:∀w,(zeroValue ec).run c.P w= .ok zv w)(hzs:zv.cells.size=sz)(hti:∀w,(typeInfo ec).run c.P w= .ok O w)(h0:0<sz)(hx:ev g E x=some (sl s n cap))(hy:ev g E y=some (sl ya m V))[R:OwR L s ec sz cap rows F](hn:rows.length=n)[Y:SlR F s2 sz J](hya:At ya s2 p sz m)(Z:p+m<=J.length)(X:∀r∈J,r.length=sz)(h1:∀r∈J,ones r=true)(hb:n+m<=1073741824/\0<O.bytes/\O.bytes<=4096):
  OpL c g E L ⟨d, .call {callee:= .builtin .append,args:=#[x,y],argTypes:=#[t,t]},ty,pos,af,gu⟩ λv L'=>∃s' S,v=sl s' (n+m) S/\L'=be ec sz s' S (rows++(J.drop p).take m)::F:=
 aR (Y:=SlR.part Y hya Z) hu hz hzv (hzs:=hzs) hti (h0:=h0) (hx:=⟨hx⟩) (hy:=⟨hy⟩) (hn:=by exact hn) (hm:=by simp;omega) (λr hr=>X r (kbt (kbu hr))) (λr hr=>h1 r (kbt (kbu hr))) hb
variable {e:TypeId}{k:IntKind}{i:Nat}
def yb {q R J f}(j:Nat)(Z:c.P.underlying t=some (.array R e))(hz:∀w,(sizeOf e).run c.P w= .ok sz w)(hx:ev g E x=some (Am s (i*J+f)))(hy:ev g E y=some (.int k q))(hj:q=(j:Int))(O:j<R)[h:SlR L s J rows](hne:i<rows.length):
  OpV c g E L ⟨d, .indexAddr t x y,ty,pos,af,gu⟩ (Am s (i*J+(f+j*sz))):= .mk λa w V X Y=>by
 rcases h.out _ _ Y with h | ⟨b,o,_,rfl,_⟩
 ·subst h;simp at hne
 ·subst hj;have:(j:Int)<(R:Int):=(by omega);have S:=V.ev X hx;simp only[Am,Option.map_some] at S;simp[execOp,S,V.ev X hy,Instr.indexAt,underlying,program,Sem.run,Z,asIntOf,Instr.sureAddr,this,O,hz,gi,Am,kaW]
def mC {K ec}s[R:OwR L s ec sz cap rows F](h:rows.length<=cap->G c K E L):G c K E L:=λa w V J=>h (by
 rcases dA (R.sat J) with ⟨_,h1,O,_⟩ | ⟨b,cs,h1,O,S,_⟩
 ·rw[h1];simp
 ·exact S) a w V J
end Go.Sl
namespace Go.Sl
variable {c:Cx}{E:di}{L:List ag}{t:TypeId}{b o sz:Nat}{vs:List Value}
theorem Ew {a:Act}{w:World}{r q:Nat}{X:Obj}{v2:Value}{fE:List ag}(Z:c.fn.results.toList=[.cell r t, .tmp q])(hx:look none E r=some (ptr b o))(hq:look none E q=some v2)(ha:∀w,(isAgg t).run c.P w= .ok true w)(hz:∀w,(sizeOf t).run c.P w= .ok sz w)[h:Has L b X](hl:vs.length=sz)(hv:∀k v,vs[k]? =some v->bK X (o+k)=some v)(J:EOk c.n E a)(V:Sat c.w0 w L)[S:Sub L fE](Y:c.R (.tuple #[.agg vs.toArray,v2]) fE)(hds:c.n.ds=[]:=by rfl):(a.defers=[]/\∃v,(results c.fn a.tmps).run c.P w= .ok v w/\∃L,Sat c.w0 w L/\c.R v L)\/∃D w',a.defers=[markD D]/\(Instr.takeDeferred D).run c.P w= .ok [] w'/\∃v,(results c.fn a.tmps).run c.P w'= .ok v w'/\∃L,Sat c.w0 w' L/\c.R v L:=by
 have hh:=h.out _ _ V;have O:=fW (P:=c.P) (w:=w) b sz 0 o #[] vs hl (λk v hk=>by grind[iu]);have h1:=J.look (cT a) hx;have h2:=J.look (cT a) hq;refine .inl ⟨J.defers.trans hds, .tuple #[.agg vs.toArray,v2],?_,fE,S.sat V,Y⟩;rw[pa,kaS,Z]
 simp_all[u4,asAddr,loadVar,loadCells]
variable {K:List KI}
def nE {r q:Nat}{J:Obj}{v2:Value}{fE:List ag}(vs:List Value)(V:c.R=R1 (.tuple #[.agg vs.toArray,v2]) fE)(Z:c.fn.results.toList=[.cell r t, .tmp q])(hx:look none E r=some (ptr b o))(hq:look none E q=some v2)(Y:∀w,(isAgg t).run c.P w= .ok true w)(hz:∀w,(sizeOf t).run c.P w= .ok sz w)[h:Has L b J](hl:vs.length=sz)
  (hv:∀k v,vs[k]? =some v->bK J (o+k)=some v) [S:Sub L fE] (hds:c.n.ds=[]:=by rfl):G c (.code .ret::K) E L:=
 λa w O X=>wp_ret (cb (Ew (hds:=hds) (h:=h) (S:=S) Z hx hq Y hz hl hv O X (by rw[V];exact ⟨rfl,rfl⟩)))
def bM {ec f}:∀k v,vs[k]? =some v->bK (.cells vs.toArray ec f) (0+k)=some v:=λk v h=>by simpa [bK] using h
end Go.Sl
namespace Go.Sl
variable {c:Cx}{g gu:Option (Nat×Bool)}{E:di}{L L':List ag}{d:Option Tmp}{ty:TypeId}{pos:String}{af:Array Edge}{v:Value}
def Ib {f R vs ats}(J:∀w,(callFunc f vs.toArray).run c.P w= .ok (.value v) w)(hx:evs g E R=some vs):
  OpL c g E L ⟨d, .call {callee:= .value (.func f),args:=R.toArray,argTypes:=ats},ty,pos,af,gu⟩ λY L'=>Y=v/\L'=L:=
 .of_run λa w S X V=>by
  have O:=J w;rw[<-S.evs X hx] at O;exact ⟨v,w,L,by simp[execOp,resolve,Act.eval,Deferred.ofValue,invoke,O],V,rfl,rfl⟩
variable {x y:Operand}{t u:TypeId}{s:Option Addr}{b cap o off sz:Nat}{rows:List (List Value)}
theorem Qe {s2 xa ya l p q m cx cy}{ec:Nat}{J F}(hu:c.P.underlying t=some (.slice ec))(hz:∀w,(sizeOf ec).run c.P w= .ok sz w)(h0:0<sz)(hx:ev g E x=some (sl xa q cx))(hy:ev g E y=some (sl ya m cy))[R:OwR L s ec sz cap rows F][Y:SlR L s2 sz J](hxa:At xa s l sz q)(hya:At ya s2 p sz m)(hk:l+Nat.min m q<=rows.length)(hm:p+Nat.min m q<=J.length)(hnl:∀r∈(J.drop p).take (Nat.min m q),r.length=sz)(h1:∀r∈(J.drop p).take (Nat.min m q),ones r=true):
  OpL c g E L ⟨d, .call {callee:= .builtin .copy,args:=#[x,y],argTypes:=#[t,u]},ty,pos,af,gu⟩ λv L'=>v=I (Nat.min m q)/\L'=be ec sz s cap (rows.take l++((J.drop p).take (Nat.min m q))++rows.drop (l+Nat.min m q))::F:=
 .of_run λa w hE hg hS=>by
  have hS1:=R.sat hS;have hY:=Y.out _ _ hS;have e1:=hE.ev hg hx;have e2:=hE.ev hg hy;generalize hr:Nat.min m q=r at*;have hr1:r<=m:=(by grind);have hr2:r<=q:=(by grind);have S:∀x∈(J.drop p).take r,x.length=sz:=hnl;have O:((J.drop p).take r).length=r:=(by simp;omega);have Z:ones ((J.drop p).take r).flatten=true:=lq λv hv=>by
   obtain ⟨x,hx,hv⟩:=kba.1 hv;exact ku (h1 x hx) v hv
  have X:(Builtin.firstCells sz r (sl ya m cy)).run c.P w= .ok ((J.drop p).take r).flatten.toArray w:=by
   refine ph h0 S O ?_;by_cases hr0:r=0
   ·left;rw[hr0];rfl
   ·right;rcases hY with h | ⟨b,off,o,rfl,hh,hR⟩
    ·grind
    ·exact ⟨b,off+p*sz,o,hya.addr (by omega),hh,hR.part⟩
  have AG:(Builtin.lenOf (Value.slice ya m cy)).run c.P w= .ok m w:=ou;have hfi:(Builtin.firstCells sz r (Value.slice ya m cy)).run c.P w= .ok ((J.drop p).take r).flatten.toArray w:=X;by_cases hr0:r=0
  ·subst hr0;refine ⟨I ((0:Nat):Int),w,be ec sz s cap rows::F,?_,hS1,rfl,by simp⟩;refine (qT (r:= .ok (I ((0:Nat):Int)) w) e1 e2 ?_).trans rfl;cases xa <;> simp[Builtin.copy_,underlying,program,Sem.run,hu,hz,sl,goInt,storeCells,AG,hr,hfi]
  ·rcases dA hS1 with ⟨rfl,rfl,rfl,hF⟩ | ⟨b,cs,rfl,a1,a2,a3,a4,hP⟩
   ·simp at hk;omega
   ·obtain ⟨hle,V⟩:=u9 (ec:=ec) (l:=l) (news:=(J.drop p).take r) h0 a1 a2 (by rw[O];omega) a3 S a4;have hst:=dz (P:=c.P) b (l*sz) ec ((J.drop p).take r).flatten w cs 0 hP.at_ (by omega) Z;have hxa':=hxa.addr (by omega);subst hxa';refine ⟨I (r:Int),k7 w b (.cells (cV cs (l*sz) ((J.drop p).take r).flatten) ec (0,0)),_,(qT (r:= .ok (I (r:Int)) _) e1 e2 ?_).trans rfl,?_,rfl,rfl⟩
    ·simp[Builtin.copy_,underlying,program,Sem.run,hu,hz,sl,goInt,AG,hr,hfi,hst]
    ·rw[O] at V;refine fu (hP.set (o':= .cells (cV cs (l*sz) ((J.drop p).take r).flatten) ec (0,0)) W) (by rw[fI,a1]) (by simp;omega) ?_ V
     grind
variable {k:IntKind}
theorem Qg J n(h0:0<J.size):Builtin.zeroCells J n=(List.replicate n J.toList).flatten.toArray:=by
 have hl:∀r∈List.replicate n J.toList,r.length=J.size:=λr hr=>(by grind);apply kbg;intro k;rw[show (List.replicate n J.toList).flatten.toArray[k]? =(List.replicate n J.toList).flatten[k]? by simp,k8 h0 _ hl]
 grind[Builtin.zeroCells,Nat.mod_lt,Nat.div_lt_iff_lt_mul]
variable {i:Nat}
theorem vc {m:Nat}{m' zv O}{ec:Nat}(hu:c.P.underlying t=some (.slice ec))(hu2:c.P.underlying u=some (.int .i64))(hz:∀w,(sizeOf ec).run c.P w= .ok sz w)(hzv:∀w,(zeroValue ec).run c.P w= .ok zv w)(hzs:zv.cells.size=sz)(hti:∀w,(typeInfo ec).run c.P w= .ok O w)(h0:0<sz)(hx:ev g E x=some (sl s i cap))(hy:ev g E y=some (I m'))(hm:m'=(m:Int))[Y:SlR L s sz rows](hi:i<=rows.length)(hnl:∀r∈rows,r.length=sz)(hgr:cap<i+m)(hm1:0<m)(hb:i+m<=1048576/\0<O.bytes/\O.bytes<=4096):
  OpL c g E L ⟨d, .call {callee:= .builtin .append,args:=#[x,y],argTypes:=#[t,u]},ty,pos,af,gu⟩ λv L'=>∃b' S,v=sl (some ⟨b',0,none⟩) (i+m) S/\L'=be ec sz (some ⟨b',0,none⟩) S (rows.take i++List.replicate m zv.cells.toList)::L:=
 .of_run λa w hE hg hS=>by
  subst hm hzs;have e1:=hE.ev hg hx;have e2:=hE.ev hg hy;have hw:IntKind.i64.wrap (m:Int)=m:=cK (by omega);have R:∀r∈rows.take i,r.length=zv.cells.size:=λr hr=>hnl r (kbu hr);have hzl:∀r∈List.replicate m zv.cells.toList,r.length=zv.cells.size:=λr hr=>(by grind);have htk:(rows.take i).length=i:=(by simp;omega);have hfo:∀w':World,w'.heap=w.heap->(Builtin.firstCells zv.cells.size i (sl s i cap)).run c.P w'= .ok (rows.take i).flatten.toArray w':=λw' hw'=>by
   refine ot h0 R htk ?_;rcases Y.out _ _ hS with h | ⟨b,off,o,h1,h2,h3⟩
   ·left;rw[h];simp
   ·exact .inr ⟨b,off,o,h1,by rw[hw'];exact h2,h3.take i⟩
  have hfo':(Builtin.firstCells zv.cells.size i (.slice s i cap)).run c.P w.drew= .ok (rows.take i).flatten.toArray w.drew:=hfo w.drew rfl;have c1:¬i+m<=cap:=(by omega);have c3:¬(Builtin.nextslicecap (i+m) cap*O.bytes > 2 ^ 48):=by
   have h1:=sw (i+m) cap hgr;have h2:Builtin.nextslicecap (i+m) cap*O.bytes<=(2*1048576+192)*4096:=ka7 (by omega) hb.2.2;omega
  have h48:¬((m:Int)*(O.bytes:Int) > 2 ^ 48):=by
   have h1:m*O.bytes<=1048576*4096:=ka7 (by omega) hb.2.2
   grind
  have hmx:¬((i+m:Nat):Int) > IntKind.i64.max:=(by grind[IntKind.max,IntKind.bits]);have hask:=λ(w:World) (k:Nat)=>nw (P:=c.P) (w:=w) k;have hm0:0<m\/m=0:=(by omega);obtain ⟨J,hc,Z⟩:∃J,i+m<=J/\(Builtin.append_ #[t,u] ty #[.slice s i cap,I (m:Int)]).run c.P w= .ok (.slice (some ⟨w.heap.size,0,none⟩) (i+m) J) (w.drew.alloc (.cells ((rows.take i).flatten.toArray++Builtin.zeroCells zv.cells m++Builtin.zeroCells zv.cells (J - (i+m))) ec (0,0))):=by
   refine ⟨(Question.appendCap (i+m) cap ec).cut (w.tape w.drawn (.appendCap (i+m) cap ec)),by simp[Question.cut],?_⟩;have e0:O.bytes≠0:=(by omega);have hmn:¬((m:Int)<0):=(by omega);have V:¬(m*zv.cells.size=0)\/m=0:=by
    rcases hm0 with h | h
    ·left;have:=kbp h h0;omega
    ·exact .inr h
   unfold Builtin.append_;rcases V with V | V
   ·simp[underlying,program,Sem.run,hu,hu2,hz,c1,hti,choose,Question.forced,asInt,asIntOf,hw,h48,hmn];rw[iOm,iOm,kaU (by simpa using c3)]
    simp_all[newRow]
   grind
  refine ⟨_,_,_,(ny (d:=d) (ty:=ty) (pos:=pos) (af:=af) (gu:=gu) (t:=t) (u:=u) (r:= .ok _ _) (P:=c.P) (w:=w) e1 e2 Z).trans rfl,?_,w.heap.size,J,rfl,rfl⟩;have X:Sat c.w0 (w.drew.alloc (.cells ((rows.take i).flatten.toArray++Builtin.zeroCells zv.cells m++Builtin.zeroCells zv.cells (J - (i+m))) ec (0,0))) _:=(hS.drew (w.drawn+1)).alloc _;rw[Qg _ m h0] at X ⊢;refine fu X ?_ (by grind) ?_<|pd h0 R hzl
  ·simp only[kbc,kbd,dT _ R,dT _ hzl,kv,htk,kbQ];rw[<-ka2,<-ka2];congr 1;omega
  grind
variable {K:List KI}
theorem Mg {ec F}s[R:OwR L s ec sz cap rows F](O:rows.length<cap)(h:∀r:List Value,r.length=sz->G c K E (be ec sz s cap (rows++ [r])::F)):G c K E L:=λa w V Y=>by
 have J:=R.sat Y;rcases dA J with ⟨rfl,rfl,rfl,hF⟩ | ⟨b,cs,rfl,S,a2,a3,a4,X⟩
 ·omega
 ·have Z:rows.length*sz+sz<=cs.size:=by
   rw[S];have:(rows.length+1)*sz<=cap*sz:=ka8 _ O
   grind
  refine h ((cs.toList.drop (rows.length*sz)).take sz) (by simp;omega) a w V<|fu X S (by simp;omega) (λr hr=>?_)<|Rows.app a4 λq row hq f v hf=>?_
  ·grind
  grind[bK]
end Go.Sl
namespace Go.Sl
variable {L:List ag}{e:TypeId}{w:World}{b:Nat}
theorem Sat.ne {w0 J o o'}(h:Sat w0 w (pt b o::pt J o'::L)):b≠J:=by
 obtain ⟨_,_,_,_,f,O,hd⟩:=h;have h0:f 0 b=some (o,false):=(O 0 _ rfl).1;have h1:f 1 J=some (o',false):=(O 1 _ rfl).1;intro e;subst e;have:=(hd 0 1 (by simp) (by simp) (by decide) b _ _ h0 h1).1;cases this
variable {c:Cx}{E:di}{K:List KI}{cap sz:Nat}
def Tj {ec rows F}s[R:OwR L s ec sz cap rows F](h0:0<rows.length)(h:∀b,s=some ⟨b,0,none⟩->G c K E L):G c K E L:=λa w O J=>by
 rcases dA (R.sat J) with ⟨_,h1,_⟩ | ⟨b,cs,h1,_⟩
 ·rw[h1] at h0;simp at h0
 ·exact h b h1 a w O J
variable {g gu:Option (Nat×Bool)}{L':List ag}{d:Option Tmp}{ty:TypeId}{pos:String}{af:Array Edge}{v:Value}
def Mh {f S vs ats}(J:∀w,Sat c.w0 w L->(callFunc f vs.toArray).run c.P w= .ok (.value v) w)(hx:evs g E S=some vs):
  OpL c g E L ⟨d, .call {callee:= .value (.func f),args:=S.toArray,argTypes:=ats},ty,pos,af,gu⟩ λY L'=>Y=v/\L'=L:=
 .of_run λa w V X O=>by
  have R:=J w O;rw[<-V.evs X hx] at R;exact ⟨v,w,L,by simp[execOp,resolve,Act.eval,Deferred.ofValue,invoke,R],O,rfl,rfl⟩
def AU {o cs ec}(h:w.heap[b]? =some (.cells cs ec (0,0))):w.frozen? ⟨b,o,none⟩=false:=by
 simp[World.frozen?,h]
variable {t:TypeId}{i:Nat}
def Qh {P w0 F}{ec tR c1 c2 l1 l2 n1 n2:Nat}{b1 S p r1 r2}(ht:P.underlying t=some (.slice ec))(hz:∀w,(sizeOf ec).run P w= .ok sz w)(h0:0<sz)(hc2:0<r2.length)(hS:Sat w0 w (be ec sz (some ⟨b1,0,none⟩) c1 r1::be ec sz (some ⟨S,0,none⟩) c2 r2::F)):
  (Extern.SlicesOverlaps.overlaps #[t,t] #[tR] #[.slice (some ⟨b1,0,none⟩) l1 n1, .slice (some ⟨S,p,none⟩) l2 n2]).run P w= .ok (.bool false) w:=by
 rcases dA hS with ⟨h,_⟩ | ⟨b,cs,h,a1,a2,a3,a4,Y⟩
 ·cases h
 ·injection h with h;injection h with h;subst h;have V:Sat w0 w (be ec sz (some ⟨S,0,none⟩) c2 r2::pcc b1 cs ec::F):=(Y.front (i:=1) rfl);rcases dA V with ⟨h,_⟩ | ⟨b,O,h,Z,e2,e3,e4,R⟩
  ·cases h
  ·injection h with h;injection h with h;subst h;have hne:=Sat.ne R;have J:=Y.at_;have X:=R.at_;have hk:O.size≠0:=by
    rw[Z];have:=kbp (show 0<c2 by omega) h0;omega
   exact Lib.run_overlaps_apart w t tR ec ht sz hz ⟨b1,0,none⟩ ⟨S,p,none⟩ l1 n1 l2 n2 (λh=>hne h.symm) ec ec cs.size O.size (by simp[World.shape?,J]) (by simp[World.shape?,X]) hk (AU J)<|AU J
end Go.Sl
namespace Go.Sl
variable {c:Cx}{E:di}{L Lf:List ag}{d:Nat}{ty:TypeId}{pos:String}{af:Array Edge}{K:List KI}{all:List Oper}{op:Op}{pl:List (Nat×Bool)}
theorem aM {i j s:Nat}{vs:Value}{J:Bool}(hi:all[i]? =some ⟨some d,op,ty,pos,af,some (j,J)⟩)[hj:DS all j s][hs:LK none E s vs][S:Sub L Lf](k:G c (.plan all (λw=>Sat c.w0 w Lf) pl::K) ((d,none,undef)::E) L)(hw:u7 vs J=true:=by exact rfl)(hd:mb c.n d E=true:=by exact rfl):G c (.plan all (λw=>Sat c.w0 w Lf) ((i,false)::pl)::K) E L:=have hj:=hj.p;have hs:=hs.p;λa w O R=>by
 have h1:=O.look (cT a) hs;have hy:yielded all.toArray a.tmps j≠some J:=by
  grind[yielded,u7]
 exact ⟨S.sat R,_,undef,by simpa using hi, .inr ⟨by simp[Region.wanted,hy],rfl⟩,k _ w (O.put1 hd) R⟩
variable {g gu:Option (Nat×Bool)}{L':List ag}{d:Option Tmp}{x y:Operand}{t:TypeId}{s:Option Addr}{b cap j sz:Nat}
theorem ve {rows vs ec F}(hz:∀w,(sizeOf t).run c.P w= .ok sz w)(hx:ev g E x=some (Am s (j*sz)))(hy:ev g E y=some (.agg vs.toArray))(hl:vs.length=sz)(h1:ones vs=true)[R:OwR L s ec sz cap rows F](hj:j<rows.length)(h0:0<sz):
  OpL c g E L ⟨d, .store t x y,ty,pos,af,gu⟩ λ_ L'=>L'=be ec sz s cap (rows.set j vs)::F:=
 .of_skip λa w Y hg hS=>by
  rcases dA (R.sat hS) with ⟨rfl,rfl,rfl,_⟩ | ⟨b,cs,rfl,X,a2,a3,a4,Z⟩
  ·simp at hj
  ·obtain ⟨V,J⟩:=u9 (ec:=ec) (l:=j) (news:=[vs]) h0 X a2 (by simp;omega) a3 (by simpa using hl) a4;have O:rows.take j++ [vs]++rows.drop (j+ [vs].length)=rows.set j vs:=by
    grind[List.set_eq_take_append_cons_drop]
   rw[O] at J;have S:[vs].flatten=vs:=(by simp);rw[S] at V J;have hr:=dz (P:=c.P) b (j*sz) ec vs w cs 0 Z.at_ (by omega) h1;have e1:a.eval x=ptr b (j*sz):=by
    rw[Y.ev hg hx];simp[Am,gi,ptr]
   refine ⟨_,_,?_,fu (Z.set (o':= .cells (cV cs (j*sz) vs) ec (0,0)) rfl) (by rw[fI,X]) (by simp;exact a2) (λr hr=>?_) J,rfl⟩
   ·simp only[execOp,e1,Y.ev hg hy,Instr.storeAt,Instr.sureAddr,storeVar]
    simp_all[Value.cells,k7]
   grind
end Go.Sl
namespace Go.Sl
abbrev MM:=List (Int×Value)
structure MOk (es:Array MapEntry) (clk:Nat) (bq:MM):Prop where
 perm:(es.toList.map λe=>(e.key,e.val)).Perm (bq.map λp=>(I p.1,p.2))
 nodup:(bq.map (·.1)).Nodup
 born:∀e∈es.toList,e.born<clk
 bnd:(es.toList.map (·.born)).Nodup
def mp (r:Nat)(bq:MM):ag:=S6 λp:Array MapEntry×Nat=>λm=>MOk p.1 p.2 bq/\m r=some (.map p.1 p.2,false)
def tj (r:Nat)(es:Array MapEntry)(clk:Nat)(bq:MM):ag:=λm=>MOk es clk bq/\m r=some (.map es clk,false)
def lk:MM->Int->Option Value
 | [],_=>none
 | (k,v)::bq,q=>if k=q then some v else lk bq q
def mD (bq:MM)(q:Int)(v:Value):MM:=if (lk bq q).isSome then bq.map λp=>if p.1=q then (q,v) else p else bq++ [(q,v)]
def p6 (bq:MM)(q:Int):MM:=bq.filter λp=>!decide (p.1=q)
variable {bq:MM}{q:Int}
theorem lk_none:lk bq q=none ↔ ∀p∈bq,p.1≠q:=by
 induction bq with
 | nil=>simp[lk]
 | cons p bq J=>
  grind[lk]
theorem Cs (h:(bq.map (·.1)).Nodup){v}:lk bq q=some v ↔ (q,v)∈bq:=by
 induction bq with
 | nil=>simp[lk]
 | cons p bq J=>
  grind[lk]
theorem wo (h:(bq.map (·.1)).Nodup):bq.Nodup:=by
 induction bq with
 | nil=>exact List.Pairwise.nil
 | cons p bq J=>
  grind
theorem sH {J}(h:(bq.map (·.1)).Nodup)(O:(J.map (·.1)).Nodup)(he:∀q,lk bq q=lk J q):bq.Perm J:=by
 refine (List.perm_ext_iff_of_nodup (wo h) (wo O)).2 λ⟨q,v⟩=>?_;rw[<-Cs h,<-Cs O,he]
variable {es:Array MapEntry}{clk:Nat}
theorem MOk.perm_ {J:MM}(h:MOk es clk bq)(hp:bq.Perm J):MOk es clk J:=⟨h.perm.trans (hp.map _),(hp.map (·.1)).nodup_iff.1 h.nodup,h.born,h.bnd⟩
theorem qU bq q v(h:(bq.map (·.1)).Nodup):((mD bq q v).map (·.1)).Nodup:=by
 grind[mD,Option.not_isSome_iff_eq_none,lk_none]
theorem Kh bq N q:lk (bq++N) q=(lk bq q).or (lk N q):=by
 induction bq with
 | nil=>simp[lk]
 | cons p bq J=>grind[lk]
theorem Cu bq q v k:lk (mD bq q v) k=if q=k then some v else lk bq k:=by
 unfold mD;split
 ·rename_i h;have key:∀N:MM,(∀J,J=q->(lk N J).isSome->lk (N.map λp=>if p.1=q then (q,v) else p) J=some v)/\(∀J,J≠q->lk (N.map λp=>if p.1=q then (q,v) else p) J=lk N J):=by
   intro N
   induction N with
   | nil=>grind[lk]
   | cons p N O=>
    grind[lk]
  grind
 grind[Kh,Option.not_isSome_iff_eq_none,lk]
theorem vf bq q(h:(bq.map (·.1)).Nodup):((p6 bq q).map (·.1)).Nodup:=kbS (kbT _ kbU) h
theorem Cv bq q k:lk (p6 bq q) k=if q=k then none else lk bq k:=by
 induction bq with
 | nil=>simp[p6,lk]
 | cons p bq J=>
  grind[p6,lk]
theorem MOk.key (h:MOk es clk bq){e}(he:e∈es.toList):∃p∈bq,e.key=I p.1/\e.val=p.2:=by
 have:(e.key,e.val)∈bq.map λp=>(I p.1,p.2):=h.perm.mem_iff.1 (kbV.2 ⟨e,he,rfl⟩)
 grind
def Mi {a b}(h:I a=I b):a=b:=by injection h
theorem AV J q:∀(l:List MapEntry) (i:Nat),(∀e∈l,∃k,e.key=I k)->
  (∃j e,l[j]? =some e/\e.key=I q/\Instr.findNow (.int J) (I q) l i=some (some (i+j,e.val)))\/((∀e∈l,e.key≠I q)/\Instr.findNow (.int J) (I q) l i=some none)
 | [],i,_=> .inr ⟨by simp,rfl⟩
 | e::l,i,h=>by
  obtain ⟨k,hk⟩:=h e (by simp);by_cases hq:k=q
  ·subst hq;exact .inl ⟨0,e,rfl,hk,by grind[Instr.findNow,Instr.sameNow]⟩
  ·have hs:Instr.sameNow (.int J) (I q) e.key=some false:=(by grind[Instr.sameNow]);rcases AV J q l (i+1) (λe he=>h e (by simp[he])) with ⟨j,e',h1,O,R⟩ | ⟨h1,O⟩
   ·exact .inl ⟨j+1,e',by simpa using h1,O,by grind[Instr.findNow]⟩
   grind[Instr.findNow]
theorem MOk.find (h:MOk es clk bq)O q:
  (∃j e,es.toList[j]? =some e/\e.key=I q/\lk bq q=some e.val/\Instr.findNow (.int O) (I q) es.toList 0=some (some (j,e.val)))\/
  (lk bq q=none/\(∀e∈es.toList,e.key≠I q)/\Instr.findNow (.int O) (I q) es.toList 0=some none):=by
 rcases AV O q es.toList 0 (λe he=>let ⟨p,_,h,_⟩:=h.key he;⟨p.1,h⟩) with ⟨j,e,h1,J,R⟩ | ⟨h1,J⟩
 ·obtain ⟨p,hp,S,V⟩:=h.key (kbe h1);refine .inl ⟨j,e,h1,J,?_,by simpa using R⟩;rw[Cs h.nodup]
  grind
 ·refine .inr ⟨?_,h1,J⟩;rw[lk_none];intro p hp hq;have:(I p.1,p.2)∈es.toList.map λe=>(e.key,e.val):=h.perm.mem_iff.2 (kbV.2 ⟨p,hp,rfl⟩)
  grind
variable {w:World}
def fK {P t J}b(O:P.underlying t=some (.int J)):(Instr.checkKey b 10000 t (I q)).run P w= .ok () w:=by
 have key:∀n,(Instr.checkKey b (n+1) t (I q)).run P w= .ok () w:=λn=>by
  simp_all[Instr.checkKey,underlying]
 exact key 9999
def gz {P t J es r}(O:P.underlying t=some (.int J))(h:Instr.findNow (.int J) (I q) es 0=some r):(Instr.findKey t (I q) es).run P w= .ok r w:=by
 simp[Instr.findKey,underlying,program,Sem.run,O,h]
class HasM (L:List ag) (r:Nat) (bq:outParam MM):Prop where
 out:∀w0 w,Sat w0 w L->∃es clk,MOk es clk bq/\w.heap[r]? =some (.map es clk)
instance (priority:=high) HasM.head {r:Nat}{bq:MM}{L:List ag}:HasM (mp r bq::L) r bq:=⟨λw0 w h=>by
 obtain ⟨⟨es,clk⟩,h⟩:=h.ex;obtain ⟨_,_,_,_,f,hf,_⟩:=h;have:=hf 0 _ rfl;exact ⟨es,clk,this.1.1,this.2 r _ this.1.2⟩⟩
instance (priority:=high) HasM.headE {r:Nat}{es:Array MapEntry}{clk:Nat}{bq:MM}{L:List ag}:HasM (tj r es clk bq::L) r bq:=⟨λw0 w h=>by
 obtain ⟨_,_,_,_,f,hf,_⟩:=h;have:=hf 0 _ rfl;exact ⟨es,clk,this.1.1,this.2 r _ this.1.2⟩⟩
instance (priority:=low) HasM.tail {cB:ag}{r:Nat}{bq:MM}{L:List ag}[h:HasM L r bq]:HasM (cB::L) r bq:=⟨λw0 w hS=>h.out w0 w hS.tail⟩
class RemM (L:List ag) (r:Nat) (bq:outParam MM) (F:outParam (List ag)):Prop where
 out:∃i,L[i]? =some (mp r bq)/\F=L.eraseIdx i
instance (priority:=high) RemM.head {r:Nat}{bq:MM}{L:List ag}:RemM (mp r bq::L) r bq L:=⟨0,rfl,rfl⟩
instance (priority:=low) RemM.tail {cB:ag}{r:Nat}{bq:MM}{L F:List ag}[h:RemM L r bq F]:RemM (cB::L) r bq (cB::F):=⟨let ⟨i,h1,h2⟩:=h.out;⟨i+1,by simpa using h1,by simp[h2]⟩⟩
theorem RemM.sat {w0 r L F}(R:RemM L r bq F)(h:Sat w0 w L):∃es clk,MOk es clk bq/\Sat w0 w (pt r (.map es clk)::F):=by
 obtain ⟨i,h1,rfl⟩:=R.out;obtain ⟨⟨es,clk⟩,h⟩:=(h.front h1).ex;have hok:MOk es clk bq:=by
  obtain ⟨_,_,_,_,f,J,_⟩:=h;exact (J 0 _ rfl).1.1
 exact ⟨es,clk,hok,h.weak λm hm=>hm.2⟩
def qV {w0 r F}(h:Sat w0 w (pt r (.map es clk)::F))(hok:MOk es clk bq):Sat w0 w (mp r bq::F):=Sat.ex_mk (cB:=λp:Array MapEntry×Nat=>λm=>MOk p.1 p.2 bq/\m r=some (.map p.1 p.2,false)) (es,clk) (h.weak λm hm=>⟨hok,hm⟩)
section
variable {c:Cx}{g:Option (Nat×Bool)}{E:di}{L L' F:List ag}{d:Option Tmp}{ty:TypeId}{pos:String}{af:Array Edge}{gu:Option (Nat×Bool)}{K:List KI}
variable {x y z:Operand}{t u e:TypeId}{k:IntKind}{v zv:Value}{r b n:Nat}{q:Int}{bq:MM}
def ky (S:c.P.underlying t=some (.map u e))[hx:EV g E x (.map (some r))][h:HasM L r bq]:OpV c g E L ⟨d, .call {callee:= .builtin .len,args:=#[x],argTypes:=#[t]},ty,pos,af,gu⟩ (I bq.length):=have hx:=hx.p;.mk λa w J R O=>by
 obtain ⟨es,clk,hok,hw⟩:=h.out _ _ O;have hl:es.size=bq.length:=(by simpa using hok.perm.length_eq);simp[execOp,resolve,invoke,builtin,Builtin.len_,underlying,program,getObj,Sem.run,S,J.ev R hx,goInt,hw,hl]
def cW (V:c.P.underlying t=some (.map u e))(hk:c.P.underlying u=some (.int .i64))(S:∀w,(zeroValue e).run c.P w= .ok zv w)[hx:EV g E x (.map (some r))][hy:EV g E y (I q)](hv:(lk bq q).getD zv=v)[h:HasM L r bq]:
  OpV c g E L ⟨d, .lookup t x y false,ty,pos,af,gu⟩ v:=have hx:=hx.p;have hy:=hy.p;.mk λa w J O Z=>by
 subst hv;obtain ⟨es,clk,hok,hw⟩:=h.out _ _ Z;rcases hok.find .i64 q with ⟨j,en,h1,X,R,Y⟩ | ⟨h1,X,R⟩
 ·simp[execOp,J.ev O hx,J.ev O hy,Instr.lookup,underlying,program,getObj,Sem.run,Sem.run_bind,V,hw,fK _ hk,gz hk Y,R]
 ·simp[execOp,J.ev O hx,J.ev O hy,Instr.lookup,underlying,program,getObj,Sem.run,Sem.run_bind,V,hw,fK _ hk,gz hk R,h1,S]
def ed {bb}(V:c.P.underlying t=some (.map u e))(hk:c.P.underlying u=some (.int .i64))(S:∀w,(zeroValue e).run c.P w= .ok zv w)[hx:EV g E x (.map (some r))][hy:EV g E y (I q)](hv:(lk bq q).getD zv=v)(hb:(lk bq q).isSome=bb)[h:HasM L r bq]:
  OpV c g E L ⟨d, .lookup t x y true,ty,pos,af,gu⟩ (.tuple #[v, .bool bb]):=have hx:=hx.p;have hy:=hy.p;.mk λa w J O Z=>by
 subst hv hb;obtain ⟨es,clk,hok,hw⟩:=h.out _ _ Z;rcases hok.find .i64 q with ⟨j,en,h1,X,R,Y⟩ | ⟨h1,X,R⟩
 ·simp[execOp,J.ev O hx,J.ev O hy,Instr.lookup,underlying,program,getObj,Sem.run,Sem.run_bind,V,hw,fK _ hk,gz hk Y,R]
 ·simp[execOp,J.ev O hx,J.ev O hy,Instr.lookup,underlying,program,getObj,Sem.run,Sem.run_bind,V,hw,fK _ hk,gz hk R,h1,S]
theorem MOk.nil:MOk #[] 0 []:=⟨by simp,by simp,by simp,by simp⟩
def fH:OpL c g E L ⟨d, .makeMap t none,ty,pos,af,gu⟩ λv L'=>∃b,v= .map (some b)/\L'=mp b []::L:=
 .of_run λa w O R J=>⟨.map (some w.heap.size),_,_,by simp[execOp,Instr.makeMap,newObj,Sem.run],qV (J.alloc (.map #[] 0)) MOk.nil,_,rfl,rfl⟩
open Classical in
theorem MOk.upd {es:Array MapEntry}{clk j:Nat}{R:MapEntry}(h:MOk es clk bq)(h1:es.toList[j]? =some R)(V:R.key=I q)(h3:lk bq q=some R.val)(v:Value):MOk (es.modify j λe=>{e with key:=I q,val:=v}) clk (mD bq q v):=by
 have hj:j<es.toList.length:=(kaz.1 h1).1;have hb:(es.modify j λe=>{e with key:=I q,val:=v}).toList.map (·.born)=es.toList.map (·.born):=by
  apply kbW;intro i;simp only[kbL,kbX,kbY];split
  ·cases es[i]? <;> rfl
  ·rfl
 refine ⟨?_,qU bq q v h.nodup,λe he=>?_,by rw[hb];exact h.bnd⟩
 ·have e1:(es.modify j λe=>{e with key:=I q,val:=v}).toList.map (λe=>(e.key,e.val))=(es.toList.map λe=>(e.key,e.val)).map λp=>if p.1=I q then (I q,v) else p:=by
   apply kbW;intro i;simp only[kbL,kbX,kbY,Option.map_map];by_cases J:j=i
   ·subst J;have:es[j]? =some R:=(by simpa using h1);simp[this,V]
   ·simp only[J,if_false];cases hi:es[i]? with
    | none=>rfl
    | some e'=>
     simp only[Option.map_some,Function.comp_apply];rw[kaU];intro hk;have Z:(es.toList.map (·.key)).Nodup:=by
      have:(es.toList.map (·.key)).Perm ((bq.map (·.1)).map I):=by
       have:=h.perm.map (·.1);simpa [kaN,Function.comp_def] using this
      rw[this.nodup_iff];exact List.Pairwise.map I (λa b X e=>X (Mi e)) h.nodup
     have S:es.toList[i]? =some e':=(by simpa using hi);have il:i<es.toList.length:=(kaz.1 S).1;have hp:=kaA.1 Z;have g1:es.toList[j]=R:=(kaz.1 h1).2;have g2:es.toList[i]=e':=(kaz.1 S).2;rcases kbf J with O | O
     ·refine hp j i (by simpa using hj) (by simpa using il) O ?_;rw[kbZ,kbZ,g1,g2,V,hk]
     ·refine hp i j (by simpa using il) (by simpa using hj) O ?_;rw[kbZ,kbZ,g1,g2,V,hk]
  rw[e1];refine (h.perm.map _).trans<|List.Perm.of_eq ?_;unfold mD;rw[kaT (by simp[h3]),kaN,kaN];apply kb0;intro p _;simp only[Function.comp_apply];by_cases hp:p.1=q
  ·simp[hp]
  ·have:I p.1≠I q:=λe=>hp (Mi e);simp[hp,this]
 ·have:e.born∈es.toList.map (·.born):=(by rw[<-hb];exact kbV.2 ⟨e,he,rfl⟩);obtain ⟨e',Y,e2⟩:=kbV.1 this;rw[<-e2];exact h.born e' Y
theorem MOk.add {es clk}(h:MOk es clk bq)(O:lk bq q=none)v:MOk (es.push {key:=I q,val:=v,born:=clk}) (clk+1) (mD bq q v):=by
 refine ⟨?_,qU bq q v h.nodup,λe he=>?_,?_⟩
 ·unfold mD;rw[kaU (by simp[O])];simp only[kb1,kaM,kaO,kaP];exact h.perm.append_right _
 ·simp at he;rcases he with he | rfl
  ·have:=h.born e (by simpa using he);omega
  ·simp
 ·simp only[kb1,kaM,kaO,kaP];rw[kb2];refine ⟨h.bnd,by simp,λa R b J=>?_⟩;simp at J;subst J;obtain ⟨e,he,rfl⟩:=kbV.1 R;exact Nat.ne_of_lt<|h.born e he
def Ki {P w}q:(Instr.keyThatStays (I q) (I q)).run P w= .ok (I q) w:=by
 simp[Instr.keyThatStays,Instr.sameBits,I,Sem.run_pure]
def pk {P w es clk o'}(h:w.heap[r]? =some (.map es clk)):(setObj r o').run P w= .ok () (k7 w r o'):=by
 simp[setObj,Sem.run,h,k7]
def cq (hu:c.P.underlying t=some (.map u e))(hk:c.P.underlying u=some (.int .i64))[hx:EV g E x (.map (some r))][hy:EV g E y (I q)][V:EV g E z v][R:RemM L r bq F]:
  OpL c g E L ⟨d, .mapUpdate t x y z,ty,pos,af,gu⟩ λ_ X=>X=mp r (mD bq q v)::F:=have hx:=hx.p;have hy:=hy.p;have V:=V.p;
 .of_skip λa w J O S=>by
  obtain ⟨es,clk,hok,S⟩:=R.sat S;have hw:=S.at_;rcases hok.find .i64 q with ⟨j,en,h1,Z,h3,h4⟩ | ⟨h1,Z,h3⟩
  ·have Y:es[j]? =some en:=(by simpa using h1);refine ⟨k7 w r (.map (es.modify j λe=>{e with key:=I q,val:=v}) clk),_,?_,qV (S.set rfl) (hok.upd h1 Z h3 v),rfl⟩;simp[execOp,J.ev O hx,J.ev O hy,J.ev O V,Instr.mapUpdate,underlying,program,getObj,Sem.run,Sem.run_bind,hu,hw,fK _ hk,gz hk h4,Y,Z,Ki,pk hw]
  ·refine ⟨k7 w r (.map (es.push {key:=I q,val:=v,born:=clk}) (clk+1)),_,?_,qV (S.set rfl) (hok.add h1 v),rfl⟩;simp[execOp,J.ev O hx,J.ev O hy,J.ev O V,Instr.mapUpdate,underlying,program,getObj,Sem.run,Sem.run_bind,hu,hw,fK _ hk,gz hk h3,pk hw]
def nG r(O:MM)[R:RemM L r bq F](h:bq.Perm O)(k:G c K E (mp r O::F)):G c K E L:=λa w S J=>by
 obtain ⟨es,clk,hok,J⟩:=R.sat J;exact k a w S<|qV J<|hok.perm_ h
def gY r[R:HasM L r bq](k:(bq.map (·.1)).Nodup->G c K E L):G c K E L:=λa w O J=>by
 obtain ⟨es,clk,hok,_⟩:=R.out _ _ J;exact k hok.nodup a w O J
end
end Go.Sl
namespace Go.Sl
def yc (b r:Nat)(es:Array MapEntry)(clk:Nat)(rest:MM)(cur:Option (Int×Value)):ag:=λm=>∃(seen:Array Nat) (c0:Nat),m b=some (.mapIter (some r) clk seen c0,false)/\clk<=c0/\
 ((leftOf es seen).toList.map λe=>(e.key,e.val)).Perm (rest.map λp=>(I p.1,p.2))/\∀p,cur=some p->c0=clk/\∃(s0:Array Nat) (e:MapEntry),e∈es.toList/\seen=s0.push e.born/\e.key=I p.1/\e.val=p.2
class HasE (L:List ag) (r:Nat) (es:outParam (Array MapEntry)) (clk:outParam Nat) (bq:outParam MM):Prop where
 out:∀w0 w,Sat w0 w L->MOk es clk bq/\w.heap[r]? =some (.map es clk)
instance (priority:=high) HasE.head {r:Nat}{es:Array MapEntry}{clk:Nat}{bq:MM}{L:List ag}:HasE (tj r es clk bq::L) r es clk bq:=⟨λw0 w h=>by
 obtain ⟨_,_,_,_,f,hf,_⟩:=h;have:=hf 0 _ rfl;exact ⟨this.1.1,this.2 r _ this.1.2⟩⟩
instance (priority:=low) HasE.tail {cB:ag}{r:Nat}{es:Array MapEntry}{clk:Nat}{bq:MM}{L:List ag}[h:HasE L r es clk bq]:HasE (cB::L) r es clk bq:=⟨λw0 w hS=>h.out w0 w hS.tail⟩
class RemE (L:List ag) (r:Nat) (es:outParam (Array MapEntry)) (clk:outParam Nat) (bq:outParam MM) (F:outParam (List ag)):Prop where
 out:∃i,L[i]? =some (tj r es clk bq)/\F=L.eraseIdx i
instance (priority:=high) RemE.head {r:Nat}{es:Array MapEntry}{clk:Nat}{bq:MM}{L:List ag}:RemE (tj r es clk bq::L) r es clk bq L:=⟨0,rfl,rfl⟩
instance (priority:=low) RemE.tail {cB:ag}{r:Nat}{es:Array MapEntry}{clk:Nat}{bq:MM}{L F:List ag}[h:RemE L r es clk bq F]:RemE (cB::L) r es clk bq (cB::F):=⟨let ⟨i,h1,h2⟩:=h.out;⟨i+1,by simpa using h1,by simp[h2]⟩⟩
class RemI (L:List ag) (b:Nat) (r:outParam Nat) (es:outParam (Array MapEntry)) (clk:outParam Nat) (rest:outParam MM) (cur:outParam (Option (Int×Value))) (F:outParam (List ag)):Prop where
 out:∃i,L[i]? =some (yc b r es clk rest cur)/\F=L.eraseIdx i
instance (priority:=high) RemI.head {b r:Nat}{es:Array MapEntry}{clk:Nat}{rest:MM}{cur:Option (Int×Value)}{L:List ag}:RemI (yc b r es clk rest cur::L) b r es clk rest cur L:=⟨0,rfl,rfl⟩
instance (priority:=low) RemI.tail {cB:ag}{b r:Nat}{es:Array MapEntry}{clk:Nat}{rest:MM}{cur:Option (Int×Value)}{L F:List ag}[h:RemI L b r es clk rest cur F]:RemI (cB::L) b r es clk rest cur (cB::F):=⟨let ⟨i,h1,h2⟩:=h.out;⟨i+1,by simpa using h1,by simp[h2]⟩⟩
variable {b clk r:Nat}{es:Array MapEntry}{F:List ag}
def Ex {w0 w rest cur}(h:Sat w0 w (yc b r es clk rest cur::F)):∃(J:Array Nat) (c0:Nat),clk<=c0/\((leftOf es J).toList.map λe=>(e.key,e.val)).Perm (rest.map λp=>(I p.1,p.2))/\
  (∀p,cur=some p->c0=clk/\∃(R:Array Nat) (e:MapEntry),e∈es.toList/\J=R.push e.born/\e.key=I p.1/\e.val=p.2)/\Sat w0 w (pt b (.mapIter (some r) clk J c0)::F):=by
 have S:Sat w0 w (S6 (λs:Array Nat×Nat=>λm=>m b=some (.mapIter (some r) clk s.1 s.2,false)/\clk<=s.2/\
  ((leftOf es s.1).toList.map λe=>(e.key,e.val)).Perm (rest.map λp=>(I p.1,p.2))/\∀p,cur=some p->s.2=clk/\∃(R:Array Nat) (e:MapEntry),e∈es.toList/\s.1=R.push e.born/\e.key=I p.1/\e.val=p.2)::F):=h.weak λm ⟨s,c,hm⟩=>⟨(s,c),hm⟩
 obtain ⟨⟨s,c⟩,h⟩:=S.ex;have O:clk<=c/\((leftOf es s).toList.map λe=>(e.key,e.val)).Perm (rest.map λp=>(I p.1,p.2))/\∀p,cur=some p->c=clk/\∃(R:Array Nat) (e:MapEntry),e∈es.toList/\s=R.push e.born/\e.key=I p.1/\e.val=p.2:=by
  obtain ⟨_,_,_,_,f,O,_⟩:=h;exact (O 0 _ rfl).1.2
 exact ⟨s,c,O.1,O.2.1,O.2.2,h.weak λm hm=>hm.1⟩
def yd {w0 w c0 J rest cur}(h:Sat w0 w (pt b (.mapIter (some r) clk J c0)::F))(h1:clk<=c0)(O:((leftOf es J).toList.map λe=>(e.key,e.val)).Perm (rest.map λp=>(I p.1,p.2)))(R:∀p,cur=some p->c0=clk/\∃(S:Array Nat) (e:MapEntry),e∈es.toList/\J=S.push e.born/\e.key=I p.1/\e.val=p.2):
 Sat w0 w (yc b r es clk rest cur::F):=h.weak λm hm=>⟨J,c0,hm,h1,O,R⟩
def Mj es:leftOf es #[]=es:=by simp[leftOf]
theorem ye:∀{l:List MapEntry} {e:MapEntry},e∈l->(l.map (·.born)).Nodup->l.Perm (e::l.filter λx=>!decide (x.born=e.born))
 | [],e,h,_=>by simp at h
 | a::l,e,h,hn=>by
  simp only[kaO,kb3] at hn;rcases kbn.1 h with rfl | h
  ·grind[List.Perm.of_eq,List.filter_eq_self]
  ·have hne:a.born≠e.born:=λe'=>hn.1 (kbV.2 ⟨e,h,e'.symm⟩);rw[List.filter_cons_of_pos (by simp[hne])];exact ((ye h hn.2).cons a).trans<|List.Perm.swap _ _ _
theorem Kj es J b:(leftOf es (J.push b)).toList=(leftOf es J).toList.filter λx=>!decide (x.born=b):=by
 simp only[leftOf,kb5,kb6]
 grind
variable {c:Cx}{E:di}{L:List ag}{K:List KI}{bq:MM}
def ft r[R:RemM L r bq F](k:∀es clk,G c K E (tj r es clk bq::F)):G c K E L:=λa w O J=>by
 obtain ⟨es,clk,hok,J⟩:=R.sat J;exact k es clk a w O<|J.weak λm hm=>⟨hok,hm⟩
def bT r[R:RemE L r es clk bq F](k:G c K E (mp r bq::F)):G c K E L:=λa w J O=>by
 obtain ⟨i,h1,rfl⟩:=R.out;have h:=O.front h1;exact k a w J<|Sat.ex_mk (cB:=λp:Array MapEntry×Nat=>λm=>MOk p.1 p.2 bq/\m r=some (.map p.1 p.2,false)) (es,clk) h
variable {g gu:Option (Nat×Bool)}{L':List ag}{d:Option Tmp}{e t ty u:TypeId}{pos:String}{af:Array Edge}{x:Operand}{v:Value}
def iv (S:c.P.underlying t=some (.map u e))[hx:EV g E x (.map (some r))][h:HasE L r es clk bq]:
  OpL c g E L ⟨d, .range t x,ty,pos,af,gu⟩ λv L'=>∃b,v=ptr b 0/\L'=yc b r es clk bq none::L:=have hx:=hx.p;
 .of_run λa w O R J=>by
  obtain ⟨hok,hw⟩:=h.out _ _ J;refine ⟨ptr w.heap.size 0,_,_,?_,yd (J.alloc (.mapIter (some r) clk #[] clk)) (kax _) (by rw[Mj];exact hok.perm) (λp hp=>by cases hp),_,rfl,rfl⟩;simp[execOp,O.ev R hx,Instr.range,underlying,program,getObj,newObj,Sem.run,Sem.run_bind,S,hw]
variable {rest:MM}{cur:Option (Int×Value)}
theorem kz [hx:EV g E x (ptr b 0)][R:RemI L b r es clk rest cur F][h:HasE F r es clk bq]:
  OpL c g E L ⟨d, .next x false,ty,pos,af,gu⟩ λv L'=>(rest=[]/\v= .tuple #[.bool false]/\L'=yc b r es clk [] none::F)\/
   ∃p V,rest.Perm (p::V)/\v= .tuple #[.bool true,I p.1,p.2]/\L'=yc b r es clk V (some p)::F:=have hx:=hx.p;
 .of_run λa w hE hg Y=>by
  obtain ⟨i,h1,rfl⟩:=R.out;obtain ⟨J,c0,hc,hp,hcur,Y⟩:=Ex (Y.front h1);obtain ⟨hok,hw⟩:=h.out _ _ Y.tail;have hr:=Y.at_;rcases run_next_at (P:=c.P) w ty b r clk c0 J es clk hr hw hok.born hc with ⟨h0,S⟩ | ⟨X,hen,w1,hal,S⟩
  ·have h0':(leftOf es J).toList=[]:=by
    grind
   have hr0:rest=[]:=by
    simp_all
   subst hr0;exact ⟨_,w,_,by simp[execOp,hE.ev hg hx,ptr,S],yd Y hc hp (λp hp=>by cases hp), .inl ⟨rfl,rfl,rfl⟩⟩
  ·have hS1:Sat c.w0 w1 (pt b (.mapIter (some r) clk J c0)::L.eraseIdx i):=by
    rcases hal with rfl | rfl
    ·exact Y
    ·exact Y.drew _
   have hm:(X.key,X.val)∈rest.map λp=>(I p.1,p.2):=hp.mem_iff.1 (kbV.2 ⟨X,hen,rfl⟩);obtain ⟨p,hpm,hpe⟩:=kbV.1 hm;injection hpe with e1 e2;obtain ⟨s,t',hst⟩:=kb7 hpm;have O:rest.Perm (p::(s++t')):=(by grind[List.perm_middle]);have hes:X∈es.toList:=by
    grind[leftOf]
   have hnd:((leftOf es J).toList.map (·.born)).Nodup:=by
    simp only[leftOf,kb5];exact kbS (kbT _ kbU) hok.bnd
   have hl:=ye hen hnd;have Z:(Instr.next (.pointer (some ⟨b,0,none⟩)) false ty).run c.P w= .ok (.tuple #[.bool true,X.key,X.val]) (k7 w1 b (.mapIter (some r) clk (J.push X.born) clk)):=S;refine ⟨.tuple #[.bool true,X.key,X.val],k7 w1 b (.mapIter (some r) clk (J.push X.born) clk),_,by simp[execOp,hE.ev hg hx,ptr,Z],yd (rest:=s++t') (cur:=some p) (hS1.set rfl) (kax _) ?_ ?_, .inr ⟨p,s++t',O,by rw[e1,e2],rfl⟩⟩
   ·rw[Kj];have h2:=((hl.map λe=>(e.key,e.val)).symm.trans (hp.trans (O.map λp=>(I p.1,p.2))))
    simp_all
   grind
def iw {p}[hx:EV g E x (ptr b 0)][R:RemI L b r es clk rest (some p) F][h:HasE F r es clk bq]:OpV c g E L ⟨d, .entry x,ty,pos,af,gu⟩ (.tuple #[I p.1,p.2]):=have hx:=hx.p;.mk λa w hE hg S=>by
 obtain ⟨i,h1,rfl⟩:=R.out;obtain ⟨X,c0,hc,hp,O,S⟩:=Ex (S.front h1);obtain ⟨hok,hw⟩:=h.out _ _ S.tail;obtain ⟨rfl,s0,en,V,rfl,Y,Z⟩:=O p rfl;have J:=run_entry_at (P:=c.P) w b r c0 s0 es c0 en S.at_ hw V hok.bnd;rw[Y,Z] at J;simp[execOp,hE.ev hg hx,ptr,J]
def rV {α:Type}:∀{l:List α} {j:Nat} {e:α},l[j]? =some e->l.Perm (e::l.eraseIdx j)
 | [],j,e,h=>by simp at h
 | a::l,0,e,h=>by simp_all
 | a::l,j+1,e,h=>((rV (l:=l) (j:=j) (by simpa using h)).cons a).trans (List.Perm.swap _ _ _)
variable {q:Int}
theorem MOk.del {j J}(h:MOk es clk bq)(h1:es.toList[j]? =some J)(Z:J.key=I q):MOk (es.eraseIdxIfInBounds j) clk (p6 bq q):=by
 have hj:j<es.toList.length:=(kaz.1 h1).1;have ej:es.toList[j]=J:=(kaz.1 h1).2;have hl:(es.eraseIdxIfInBounds j).toList=es.toList.eraseIdx j:=by
  simp_all
 have hp:es.toList.Perm (J::es.toList.eraseIdx j):=rV h1;have hk:(es.toList.map (·.key)).Perm ((bq.map (·.1)).map I):=by
  have:=h.perm.map (·.1)
  grind[Function.comp_def]
 refine ⟨?_,vf bq q h.nodup,λe he=>h.born e ?_,?_⟩
 ·rw[hl];have h3:((J.key,J.val)::(es.toList.eraseIdx j).map λe=>(e.key,e.val)).Perm (bq.map λp=>(I p.1,p.2)):=((hp.map λe:MapEntry=>(e.key,e.val)).symm).trans h.perm;obtain ⟨p,S,Y,e2⟩:=h.key (kbe h1);have V:p.1=q:=Mi (Y.symm.trans Z);obtain ⟨s,X,R⟩:=kb7 S;have O:=h.nodup;rw[R,kaM,kaO] at O;rw[kb2] at O;obtain ⟨n1,n2,n3⟩:=O;rw[kb3] at n2;have hd:p6 bq q=s++X:=by
   unfold p6;rw[R,kb9,kca (by simp[V])];congr 1
   ·rw[kb4];intro a ha;have:a.1≠p.1:=n3 a.1 (kbV.2 ⟨a,ha,rfl⟩) p.1 (by simp);simp[<-V,this]
   grind[List.filter_eq_self]
  rw[hd];have h4:(bq.map λp=>(I p.1,p.2)).Perm ((J.key,J.val)::(s++X).map λp=>(I p.1,p.2)):=by
   simp_all
  exact (h3.trans h4).cons_inv
 ·grind
 ·rw[hl];exact kbS (kbT _ (List.eraseIdx_sublist _ _)) h.bnd
variable {y:Operand}
def iI {ut}(Z:c.P.underlying t=some (.map u e))(hk:c.P.underlying u=some (.int .i64))[hx:EV g E x (.map (some r))][hy:EV g E y (I q)][R:RemM L r bq F]:
  OpL c g E L ⟨d, .call {callee:= .builtin .delete,args:=#[x,y],argTypes:=#[t,ut]},ty,pos,af,gu⟩ λv V=>v= .tuple #[]/\V=mp r (p6 bq q)::F:=have hx:=hx.p;have hy:=hy.p;
 .of_run λa w O S J=>by
  obtain ⟨es,clk,hok,J⟩:=R.sat J;have hw:=J.at_;rcases hok.find .i64 q with ⟨j,en,h1,X,Y,h4⟩ | ⟨h1,X,Y⟩
  ·refine ⟨_,k7 w r (.map (es.eraseIdxIfInBounds j) clk),_,?_,qV (J.set rfl) (hok.del h1 X),rfl,rfl⟩;simp[execOp,resolve,invoke,builtin,Builtin.delete_,O.ev S hx,O.ev S hy,underlying,program,getObj,Sem.run,Sem.run_bind,Z,hw,fK _ hk,gz hk h4,pk hw]
  ·have hd:p6 bq q=bq:=by
    unfold p6;rw[kb4];intro p hp;have:=lk_none.1 h1 p hp;simp[this]
   refine ⟨_,k7 w r (.map es clk),_,?_,qV (J.set rfl) (hd.symm ▸ hok),rfl,rfl⟩;simp[execOp,resolve,invoke,builtin,Builtin.delete_,O.ev S hx,O.ev S hy,underlying,program,getObj,Sem.run,Sem.run_bind,Z,hw,fK _ hk,gz hk Y,pk hw]
end Go.Sl
namespace Go.Sl
variable {ρ:Type}
def Mk (enc:ρ->Value)(l:List Nat)(B:Int->Option ρ):MM:=l.filterMap λk:Nat=>(B (k:Int)).map λx=>((k:Int),enc x)
def tb (enc:ρ->Value)(n:Nat)(B:Int->Option ρ):MM:=Mk enc (List.range' 1 n) B
def aD (B:Int->Option ρ)(k:Int)(x:Option ρ):Int->Option ρ:=λq=>if q=k then x else B q
def ck (n:Nat)(B:Int->Option ρ):List Int:=((List.range' 1 n).filter λk:Nat=>(B (k:Int)).isSome).map λk:Nat=>(k:Int)
def ef (n:Nat)(B:Int->Option ρ):Option Nat:=(List.range' 1 n).find? λk:Nat=>(B (k:Int)).isNone
def mE (n:Nat)(B:Int->Option ρ):Prop:=∀q x,B q=some x->1<=q/\q<=n
def Ml enc l(B:Int->Option ρ):(Mk enc l B).map (·.1)=(l.filter λk:Nat=>(B (k:Int)).isSome).map λk:Nat=>(k:Int):=by
 induction l with
 | nil=>rfl
 | cons k l J=>
  unfold Mk at J ⊢;cases h:B (k:Int) with
  | none=>simp[h,J]
  | some x=>simp[h,J]
theorem nH enc n(B:Int->Option ρ):(tb enc n B).map (·.1)=ck n B:=Ml enc _ B
theorem ids_nodup n(B:Int->Option ρ):(ck n B).Nodup:=by
 grind[ck,List.nodup_range']
theorem oy enc n(B:Int->Option ρ):((tb enc n B).map (·.1)).Nodup:=by grind[nH,ids_nodup]
def fF enc n(B:Int->Option ρ):(tb enc n B).length=(ck n B).length:=by rw[<-nH enc,kcc]
theorem sI n(B:Int->Option ρ):(ck n B).Pairwise (· <·):=by
 grind[ck,List.pairwise_lt_range']
variable {n:Nat}
theorem mem_ids {B:Int->Option ρ}{q}:q∈ck n B ↔ (1<=q/\q<=n)/\(B q).isSome=true:=by
 unfold ck;constructor
 ·grind
 ·rintro ⟨⟨h1,J⟩,O⟩;refine kbV.2 ⟨q.toNat,kcd.2 ⟨by grind,?_⟩,by omega⟩
  grind
theorem eM n(B:Int->Option ρ):(ck n B).length<=n:=by
 grind[ck]
theorem Mm enc(B:Int->Option ρ)q:∀(l:List Nat),lk (Mk enc l B) q=if 0<=q/\q.toNat∈l then (B q).map enc else none
 | []=>by simp[Mk,lk]
 | k::l=>by
  have J:=Mm enc B q l;unfold Mk at J ⊢;by_cases hk:(k:Int)=q
  ·subst hk;cases h:B (k:Int) with
   | none=>simp[h,J]
   | some x=>simp[h,lk]
  ·have hne:q.toNat≠k\/¬0<=q:=(by omega);have e:(0<=q/\q.toNat∈k::l) ↔ (0<=q/\q.toNat∈l):=by
    grind
   simp only[e];cases h:B (k:Int) with
   | none=>simp[h,J]
   | some x=>simp[h,lk,hk,J]
theorem Ey enc n(B:Int->Option ρ)q:lk (tb enc n B) q=if 1<=q/\q<=n then (B q).map enc else none:=by
 grind[tb,Mm]
theorem GK enc{B:Int->Option ρ}(h:mE n B)q:lk (tb enc n B) q=(B q).map enc:=by
 rw[Ey];split
 ·rfl
 ·rename_i hn;cases e:B q with
  | none=>rfl
  | some x=>exact absurd (h q x e) hn
theorem oc enc{B}{k:Int}{x:ρ}(hk:1<=k/\k<=n):(mD (tb enc n B) k (enc x)).Perm (tb enc n (aD B k (some x))):=by
 grind[sH,qU,oy,Cu,Ey,aD]
theorem Tk enc{B:Int->Option ρ}{k}:(p6 (tb enc n B) k).Perm (tb enc n (aD B k none)):=by
 grind[sH,vf,oy,Cv,Ey,aD]
def mF (enc:ρ->Value)n:tb enc n (λ_=>none)=[]:=by
 simp_all[tb,Mk]
theorem kA {B}{k:Int}{x:Option ρ}(h:mE n B)(hk:x.isSome=true->1<=k/\k<=n):mE n (aD B k x):=λq y e=>by
 unfold aD at e;split at e
 ·grind
 ·exact h q y e
def qk n:mE n (λ_=>(none:Option ρ)):=λq x e=>by cases e
def full_iff {B:Int->Option ρ}:(ck n B).length=n ↔ ef n B=none:=by
 unfold ck ef;rw[kcc,<-kce,kcf];have:=List.countP_eq_length (p:=λk:Nat=>(B (k:Int)).isSome) (l:=List.range' 1 n);rw[List.length_range'] at this;rw[this];constructor
 ·intro h x hx;have:=h x hx;cases e:B (x:Int) <;> simp[e] at this ⊢
 ·intro h x hx;have:=h x hx;cases e:B (x:Int) <;> simp[e] at this ⊢
theorem iV {k}{B:Int->Option ρ}(h:ef n B=some k):(1<=k/\k<=n)/\B k=none/\∀j:Nat,1<=j->j<k->(B j).isSome=true:=by
 unfold ef at h;rw[kcg] at h;obtain ⟨h1,J,O⟩:=h;rw[kch] at J;refine ⟨by omega,by simpa using h1,λj R S=>?_⟩
 grind
theorem Ic {k}{B:Int->Option ρ}(h1:1<=k/\k<=n)(J:B k=none)(O:∀j:Nat,1<=j->j<k->(B j).isSome=true):ef n B=some k:=by
 grind[ef,List.find?_range'_eq_some]
def wq {B:Int->Option ρ}(h:(ck n B).length≠n):∃k,ef n B=some k:=by
 cases e:ef n B with
 | none=>exact absurd (full_iff.2 e) h
 | some k=>exact ⟨k,rfl⟩
theorem tD {B:Int->Option ρ}{l:List Int}(h:l.Perm (ck n B)):l.mergeSort (λx y=>decide (x<=y))=ck n B:=by
 refine List.Perm.eq_of_pairwise (le:=λa b:Int=>a<=b) (λa b _ _ h1 J=>by omega) ?_ ?_<|(List.mergeSort_perm _ _).trans h
 ·grind[List.pairwise_mergeSort]
 ·exact (sI n B).imp λh=>by omega
theorem vg {enc}{B:Int->Option ρ}{p}(h:p∈tb enc n B):∃x,B p.1=some x/\p.2=enc x/\1<=p.1/\p.1<=n:=by
 obtain ⟨q,v⟩:=p;rw[<-Cs (oy enc n B),Ey] at h;split at h
 ·rename_i hq;cases e:B q with
  | none=>simp[e] at h
  | some x=>grind
 ·cases h
end Go.Sl
namespace Go.Sl
variable {c:Cx}{g gu:Option (Nat×Bool)}{E:di}{L:List ag}{d:Option Tmp}{t ty:TypeId}{pos:String}{af:Array Edge}{x:Operand}{i sz:Nat}{cs:Array Value}
def tE {J f}(vs:List Value)(X:c.P.underlying t=some (.struct J))(S:J[i]? =some f)(R:∀w,(isAgg f.type).run c.P w= .ok true w)(Y:∀w,(sizeOf f.type).run c.P w= .ok sz w)[hx:EV g E x (.agg cs)](hv:cs.extract f.offset (f.offset+sz)=vs.toArray):
  OpV c g E L ⟨d, .field t x i,ty,pos,af,gu⟩ (.agg vs.toArray):=have hx:=hx.p;.mk λa w O V Z=>by
 simp[execOp,O.ev V hx,Instr.field,underlying,program,Sem.run,X,S,asAgg,part,R,Y,hv]
theorem AW {ρ}enc{n}{B:Int->Option ρ}{k v}:(p6 (mD (tb enc n B) k v) k).Perm (tb enc n (aD B k none)):=by
 grind[sH,vf,qU,oy,Cv,Cu,Ey,aD]
theorem aH {vs:List Value}(h:cs.size=vs.length:=by exact rfl):cV cs 0 vs=vs.toArray:=by
 apply kbg
 grind[iU]
theorem Sn (l:List Value)i v:l.toArray.setIfInBounds i v=(l.set i v).toArray:=by grind
end Go.Sl
namespace Go.Proofs.YthdjckbjjfiopabGreatDoor
open _root_.Go.Proofs.Tryz
open Go.Sl Go.Proofs
def d7 (c:ChangeM):Int:=if c.key=[]\/(c.gone=true/\c.val≠ []) then 3 else if 8<c.key.length\/48<c.val.length then 2 else 0
def Cw c:0<=d7 c:=by grind[d7]
theorem qW {c}(h:d7 c=0):c.key≠ []/\(c.gone=true->c.val=[])/\c.key.length<=8/\c.val.length<=48:=by
 grind[d7]
def oA (c:ChangeM):Bytes:=[if c.gone then 1 else 0,UInt8.ofNat c.key.length]
def p7 (c:ChangeM):Bytes:=oA c++c.key++c.val
def Ez (c:ChangeM):Bytes×Int:=if d7 c=0 then (p7 c,0) else ([],d7 c)
def AX:ChangeM:=⟨[],[],false⟩
def ql (x0 x1:UInt8)(r:Bytes):ChangeM:=⟨r.take x1.toNat,r.drop x1.toNat,decide ((x0.toNat:Int)=1)⟩
def uZ:Bytes->ChangeM×Int
 | x0::x1::r=>if 1<x0.toNat\/r.length<x1.toNat then (AX,4) else if d7 (ql x0 x1 r)=0 then (ql x0 x1 r,0) else (AX,4)
 | _=>(AX,4)
def xm J O(r:Bytes):uZ (J::O::r)=if 1<J.toNat\/r.length<O.toNat then (AX,4) else if d7 (ql J O r)=0 then (ql J O r,0) else (AX,4):=rfl
def yf {c:ChangeM}(h:c.key.length<=8):[[By (if c.gone then 1 else 0)],[By (c.key.length:Int)]]=aC (oA c):=by
 have e:(UInt8.ofNat c.key.length).toNat=c.key.length:=(by rw[UInt8.toNat_ofNat'];omega);unfold aC oA;rw[kaO,kaO,kaP,e];cases c.gone <;> rfl
def Mn w:(Instr.build 174 #[]).run Tryz.prog w= .ok (.agg (bg AX).toArray) w:=by
 simp[Instr.build,XH,ZR,XL,Xx,Instr.fill,bB,bg,AX]
def Kk {s:Bytes}(h:¬s.length<2):∃J O r,s=J::O::r:=by
 match s,h with
 | J::O::r,_=>exact ⟨J,O,r,rfl⟩
 | [x],h=>simp at h
 | [],h=>simp at h
def kB c F:cqq 178 [.agg (bg c).toArray] (F) (R1 (bQ (d7 c)) F):=by
 refine Ct.of func178 W 27 ntmps178 (by simp) λw0=>?_;refine A<|gI (dw (bg c).toArray) ?_;rintro _ _ ⟨b1,rfl,rfl⟩;refine T<|ac<|A<|gF 0 XJ W Xx<|gL (ay c.key) XD<|M bV<|C ?_;by_cases hk:c.key=[]
 ·refine bi (hw:=by rw[kci hk];rfl)<|bi (hw:=by rw[kci hk];rfl)<|bi (hw:=by rw[kci hk];rfl)<|bi<|bi<|bi<|bi (hw:=by rw[kci hk];rfl)<|M (eV (hq:=by exact kci hk))<|ab ?_;apply ah<;>intro O
  ·refine A<|M (ba XG)<|T ?_;refine am W W ?_;show _=bQ _;rw[show d7 c=3 by unfold d7;rw[kaT (.inl hk)]]
   rfl
  ·exact absurd O (by simp)
 ·refine bh (hw:=by exact kcj hk) (aw 2 XJ W XL)<|bh (hw:=by exact kcj hk) (aA (v:=Bo c.gone) Yp)<|bh (hw:=by exact kcj hk) ao<|gK (aw 1 XJ W Xx)<|gK (aA (v:=ay c.val) XD)<|gK lN<|bh (hw:=by exact kcj hk) dc<|M cv<|ab<|ah ?_ ?_<;>intro O
  ·simp at O;have J:c.gone=true/\c.val≠ []:=(by rcases O with h | h;exact absurd h hk;exact h);refine A<|M (ba XG)<|T ?_;refine am W W ?_;show _=bQ _;rw[show d7 c=3 by unfold d7;rw[kaT (.inr J)]]
   rfl
  ·simp at O;have J:¬(c.key=[]\/(c.gone=true/\c.val≠ [])):=λhh=>(by rcases hh with h | h;exact hk h;exact h.2<|O.2 h.1);refine ai<|ac<|A<|gF 0 XJ W Xx<|gL (ay c.key) XD<|M (cD Xz)<|M aQ<|C<|gK (aw 1 XJ W Xx)<|gK (aA (v:=ay c.val) XD)<|gK (cD Xz)<|gK aQ<|M cv<|ab<|ah ?_ ?_<;>intro R
   ·simp at R;refine A<|M (ba XG)<|T ?_;refine am W W ?_;show _=bQ _;rw[show d7 c=2 by unfold d7;rw[kaU J,kaT (by omega)]]
    rfl
   ·simp at R;refine ai<|A<|T ?_;refine am W W ?_;show _=bQ _;rw[show d7 c=0 by unfold d7;rw[kaU J,iOm]]
    rfl
def vh c F:cqq 106 [.agg (bg c).toArray] (F) (R1 (I (d7 c)) F):=by
 refine Ct.of func106 W 25 ntmps106 (by simp) λw0=>?_;refine A<|gI (dw (bg c).toArray) ?_;rintro _ _ ⟨b1,rfl,rfl⟩;refine T<|ac<|A<|gF 0 XJ W Xx<|gL (ay c.key) XD<|M bV<|C ?_;by_cases hk:c.key=[]
 ·refine bi (hw:=by rw[kci hk];rfl)<|bi (hw:=by rw[kci hk];rfl)<|bi (hw:=by rw[kci hk];rfl)<|bi<|bi<|bi<|bi (hw:=by rw[kci hk];rfl)<|M (eV (hq:=by exact kci hk))<|ab ?_;apply ah<;>intro O
  ·refine A<|T ?_;refine am W W ?_;show _=I _;rw[show d7 c=3 by unfold d7;rw[kaT (.inl hk)]]
   rfl
  ·exact absurd O (by simp)
 ·refine bh (hw:=by exact kcj hk) (aw 2 XJ W XL)<|bh (hw:=by exact kcj hk) (aA (v:=Bo c.gone) Yp)<|bh (hw:=by exact kcj hk) ao<|gK (aw 1 XJ W Xx)<|gK (aA (v:=ay c.val) XD)<|gK lN<|bh (hw:=by exact kcj hk) dc<|M cv<|ab<|ah ?_ ?_<;>intro O
  ·simp at O;have J:c.gone=true/\c.val≠ []:=(by rcases O with h | h;exact absurd h hk;exact h);refine A<|T ?_;refine am W W ?_;show _=I _;rw[show d7 c=3 by unfold d7;rw[kaT (.inr J)]]
   rfl
  ·simp at O;have J:¬(c.key=[]\/(c.gone=true/\c.val≠ [])):=λhh=>(by rcases hh with h | h;exact hk h;exact h.2<|O.2 h.1);refine ai<|ac<|A<|gF 0 XJ W Xx<|gL (ay c.key) XD<|M (cD Xz)<|M aQ<|C<|gK (aw 1 XJ W Xx)<|gK (aA (v:=ay c.val) XD)<|gK (cD Xz)<|gK aQ<|M cv<|ab<|ah ?_ ?_<;>intro R
   ·simp at R;refine A<|T ?_;refine am W W ?_;show _=I _;rw[show d7 c=2 by unfold d7;rw[kaU J,kaT (by omega)]]
    rfl
   ·simp at R;refine ai<|A<|T ?_;refine am W W ?_;show _=I _;rw[show d7 c=0 by unfold d7;rw[kaU J,iOm]]
    rfl
def Cy c F:cqq 267 [.agg (bg c).toArray] (F) (R1 (.tuple #[ay (Ez c).1,bQ (Ez c).2]) F):=by
 refine Ct.of func267 W 26 ntmps267 (by simp) λw0=>?_;refine A<|gI (dw (bg c).toArray) ?_;rintro _ _ ⟨b1,rfl,rfl⟩;refine gA<|T<|A<|M (bj (vs:=bg (c)) XU Xw bM)<|gR (vA call178 (kB c))<|T<|ac<|A<|C<|M (bX XF)<|ab<|ah ?_ ?_<;>intro V
 ·simp at V;have R:Ez c=([],d7 c):=(by unfold Ez;rw[iOm]);refine A<|C<|gA<|T ?_;exact am rfl rfl (by rw[R];rfl)
 ·simp at V;have h0:d7 c=0:=(by have:=Cw c;omega);have R:Ez c=(p7 c,0):=(by unfold Ez;rw[kaT h0]);obtain ⟨_,_,O,X⟩:=qW h0;refine ai<|A<|T<|ac<|A<|gF 2 XJ W XL<|gL (Bo c.gone) Yp<|ab<|ah ?_ ?_<;>intro J
  ·refine al<|T<|A<|C<|gF 0 XJ W Xx<|gL (ay c.key) XD<|M (cD Xz)<|M (cG XA XI (w8 (by omega)))<|gI (ap (aC (oA c)) XN Yd Ym (hr:=by have hr:=yf O;rw[J] at hr;exact hr) (by simp[aC])) ?_;rintro _ _ ⟨S,rfl,rfl⟩;refine M (cg (l:=oA c) XN XI Xz W)<|gF 0 XJ W Xx<|gL (ay c.key) XD<|M (cf (by simp[oA];omega))<|gF 1 XJ W Xx<|gL (ay c.val) XD<|M (cf (by simp[oA];omega))<|gA<|T ?_;exact am rfl rfl (by rw[R];rfl)
  ·refine ai<|A<|C<|gF 0 XJ W Xx<|gL (ay c.key) XD<|M (cD Xz)<|M (cG XA XI (w8 (by omega)))<|gI (ap (aC (oA c)) XN Yd Ym (hr:=by have hr:=yf O;rw[J] at hr;exact hr) (by simp[aC])) ?_;rintro _ _ ⟨S,rfl,rfl⟩;refine M (cg (l:=oA c) XN XI Xz W)<|gF 0 XJ W Xx<|gL (ay c.key) XD<|M (cf (by simp[oA];omega))<|gF 1 XJ W Xx<|gL (ay c.val) XD<|M (cf (by simp[oA];omega))<|gA<|T ?_;exact am rfl rfl (by rw[R];rfl)
def Cz (s:Bytes)(hs:s.length<=4611686018427387904)F:cqq 185 [ay s] (F) (R1 (.tuple #[.agg (bg (uZ s).1).toArray,bQ (uZ s).2]) F):=by
 refine Ct.of func185 W 45 ntmps185 (by simp) λw0=>?_;refine A<|gI (aO #[ay [],ay [],Bo false] XH) ?_;rintro _ _ ⟨b2,rfl,rfl⟩;refine T<|ac<|A<|C<|M (cD Xz)<|M aG<|C ?_;by_cases Y:s.length<2
 ·have hp:uZ s=(AX,4):=(by match s,Y with | [],_=>rfl | [_],_=>rfl);refine bi (hw:=by rw[kci (by omega)];rfl)<|bi (hw:=by rw[kci (by omega)];rfl)<|bi (hw:=by rw[kci (by omega)];rfl)<|M (eV (hq:=by simp;omega))<|C<|bi (hw:=by rfl)<|bi (hw:=by rfl)<|bi (hw:=by rfl)<|bi (hw:=by rfl)<|bi (hw:=by rfl)<|bi (hw:=by rfl)<|bi (hw:=by rfl)<|M eV<|ab ?_;apply ah<;>intro R
  ·refine A<|M (aS Mn)<|M (ba XG)<|gU (az (cs:=#[ay [],ay [],Bo false]) (vs:=bg AX) (bg AX).toArray Xw (by decide) (hcs:=by exact bG))<|T ?_;exact nE (bg AX) (by rw[hp] <;> rfl) rfl rfl rfl XU Xw rfl bM
  ·exact absurd R (by simp)
 ·obtain ⟨O,J,r,rfl⟩:=Kk Y;have hx0:=O.toNat_lt;have hx1:=J.toNat_lt;refine bh (hw:=by exact kcj (by omega)) ao<|bh (hw:=by exact kcj (by omega)) (bW (r:=O) 0 Xz (by rfl))<|bh (hw:=by exact kcj (by omega)) aQ<|M cv<|C<|gK ao<|gK (bW (r:=J) 1 Xz (by rfl))<|gK (cG XI XA (cK (by omega)))<|Gv (λZ=>bx (cK (by simp at Z;omega)))<|gK ao<|gK (cD Xz)<|gK aQ<|M cv<|ab ?_;apply ah<;>intro R
  ·simp at R;have hp:uZ (O::J::r)=(AX,4):=(by rw[xm,kaT (by omega)]);refine A<|M (aS Mn)<|M (ba XG)<|gU (az (cs:=#[ay [],ay [],Bo false]) (vs:=bg AX) (bg AX).toArray Xw (by decide) (hcs:=by exact bG))<|T ?_;exact nE (bg AX) (by rw[hp] <;> rfl) rfl rfl rfl XU Xw rfl bM
  ·simp at R;have S:¬(1<O.toNat\/r.length<J.toNat):=(by omega);refine ai<|A<|C<|M (bW (r:=J) 1 Xz (by rfl))<|M (cG XI XA (cK (by omega)))<|gP<|T<|ac ?_;refine dy jK ?_;refine dM W<|dM W<|dV W (fG (l:=2) (h:=J.toNat+2) Xz (hm2:=by omega) (by omega) (hh:=by simp;omega))<|dM W<|dM W<|dV W (tv (l:=J.toNat+2) Xz (hm:=by omega) (by simp;omega))<|dM W<|dV W (bW (r:=O) 0 Xz (by rfl))<|dV W bE<|dV W (aS (Cf _ W _ W _ W))<|cQ W (aO #[ay [],ay [],Bo false] XH) ?_;rintro _ _ ⟨b5,rfl,rfl⟩;refine rE W (az (cs:=#[ay [],ay [],Bo false]) (vs:=bg (ql O J r)) (bg (ql O J r)).toArray Xw (by decide) (hcs:=by exact bG)) ?_;rintro _ _ rfl;refine aN ?_;refine ac<|A<|M (bj (vs:=bg (ql O J r)) XU Xw bM)<|gR (vA call178 (kB (ql O J r)))<|M (bX XF)<|ab<|ah ?_ ?_<;>intro V
   ·simp at V;have hp:uZ (O::J::r)=(AX,4):=(by rw[xm,kaU S,iOm]);refine A<|M (aS Mn)<|M (ba XG)<|gU (az (cs:=#[ay [],ay [],Bo false]) (vs:=bg AX) (bg AX).toArray Xw (by decide) (hcs:=by exact bG))<|T ?_;exact nE (bg AX) (by rw[hp] <;> rfl) rfl rfl rfl XU Xw rfl bM
   ·simp at V;have X:d7 (ql O J r)=0:=(by have:=Cw (ql O J r);omega);have hp:uZ (O::J::r)=(ql O J r,0):=(by rw[xm,kaU S,kaT X]);refine ai<|A<|M (bj (vs:=bg (ql O J r)) XU Xw bM)<|gU (az (cs:=#[ay [],ay [],Bo false]) (vs:=bg (ql O J r)) (bg (ql O J r)).toArray Xw (by decide) (hcs:=by exact bG))<|T ?_;exact nE (bg (ql O J r)) (by rw[hp] <;> rfl) rfl rfl rfl XU Xw rfl bM
open Go Go.Sl Go.Proofs
def AY a b w:(Op.equal 174 (.agg (bg a).toArray) (.agg (bg b).toArray)).run Tryz.prog w= .ok (decide (a=b)) w:=by
 have h1:=H7 (P:=Tryz.prog) (w:=w) (a:=a.key) (b:=b.key) 9998 Xz;have Y:=H7 (P:=Tryz.prog) (w:=w) (a:=a.val) (b:=b.val) 9998 Xz;have Z:=P2 (P:=Tryz.prog) (w:=w) (a:=a.gone) (b:=b.gone) 9998 underlying4;show (Op.equalIn (9999+1) _ _ _).run _ _=_;unfold Op.equalIn;simp[bg,underlying,program,Sem.run,XJ,stoodInHeld174,part,XD,Yp,h1,Y,Z];cases a;cases b;rename_i J a2 a3 b1 O R;by_cases S:J=b1 <;> by_cases V:a2=O <;> by_cases X:a3=R <;> simp[S,V,X]
end Go.Proofs.YthdjckbjjfiopabGreatDoor
