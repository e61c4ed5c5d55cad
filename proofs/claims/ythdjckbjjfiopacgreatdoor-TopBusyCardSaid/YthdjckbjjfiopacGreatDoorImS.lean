/- slices.SortFunc at []api.Change with the comparison of keys, as a contract over owned slices: the kit's shelf's contract, told in this layer's words. No condition but the length's bound. -/
import Derived.Test.YthdjckbjjfiopacGreatDoorPartC
import Derived.Test.YthdjckbjjfiopacGreatDoorPartE
import Derived.Shelf.SlSortCmp.NoneTotal
set_option linter.unusedSimpArgs false
set_option linter.unusedVariables false
namespace Go.Proofs.YthdjckbjjfiopacGreatDoor
open _root_.Go.Proofs.Tryz
open Go.Sl Go.Proofs Go.Sort Go.RowKit
instance instInhC:Inhabited ChangeM:=⟨⟨[],[],false⟩⟩
def cfC (x y:ChangeM):Int:=Lib.compareBytes x.key y.key
theorem zjx (x y:ChangeM):ltOf cfC x y=kl x.key y.key:=by
  unfold ltOf cfC;cases h:kl x.key y.key with
  | true=>exact decide_eq_true ((zjq x.key y.key).1.2 h)
  | false=>exact decide_eq_false fun hh=>by rw[(zjq x.key y.key).1.1 hh] at h;cases h
theorem zxc:SWO (ltOf cfC) where
  irrefl x:=by rw[zjx,zdW]
  trans x y z h1 h2:=by rw[zjx] at h1 h2 ⊢;exact za1 h1 h2
  ntrans x y z h1 h2:=by
    rw[zjx] at h1 h2 ⊢;cases h:kl x.key z.key with
    | false=>rfl
    | true=>
      rcases zhm x.key y.key with h3 | h3 | h3
      · rw[h1] at h3;cases h3
      · rw[h3,h2] at h;cases h
      · have:=za1 h3 h;rw[h2] at this;cases this
theorem zuH (x y:ChangeM)(W:World):Calls Tryz.prog 57 #[.agg #[Str x.key,Str x.val,Bo x.gone], .agg #[Str y.key,Str y.val,Bo y.gone]] W fun e w'=>e= .returned (I (cfC x y))∧∃q os',w'=grow (W.drewN q) os':=by
  have hcon:=fun W'=>Tryz.strings_Compare ⟨⟨x.key⟩⟩ ⟨⟨y.key⟩⟩ W';change ∀W',Calls Tryz.prog 54 #[Str x.key,Str y.key] W' (fun e w'=>e= .returned (I (cfC x y))∧w'=W') at hcon;generalize cfC x y=r at hcon ⊢
  go_enter func57,ntmps57
  go_wp2_with (go_at_call 54;refine (hcon _).mono ?_;rintro e w' ⟨rfl,rfl⟩)
  go_ret
  exact ⟨rfl,0,_,by rw[alloc_eq_grow,alloc_eq_grow,grow_grow];rfl⟩
theorem zrV (blk off size:Nat)(w:World):CmpLays Tryz.prog 57 #[] yp 3 cfC blk off size w:=
  fun _ _ _ _ x y=>zuH x y _
def srtd (l:List ChangeM):Prop:=l.Pairwise fun a b=>kl b.key a.key=false
theorem zlc (l:List ChangeM)(s:Option Addr)(n cap:Nat)(hn:n=l.length)(hlt:l.length<4611686018427387904)(F:List HProp):
    Ct Tryz.prog 56 [sl s n cap, .func (.func 57) #[] #[]] (owL 58 3 s cap (chR l)::F) (fun v L'=>∃l',l'.Perm l∧srtd l'∧v= .tuple #[]∧L'=owL 58 3 s cap (chR l')::F):=fun w0 w hS=>by
  subst hn;rcases yN hS with ⟨rfl,hr,rfl,hS1⟩ | ⟨b,cs,rfl,h1,h2,h3,h4,hS1⟩
  · have hz:l=[]:=(by simpa [chR] using hr);subst hz;refine (AnyF.slices_SortFunc_none {Tryz.sortFn with} none 0 (.func (.func 57) #[] #[]) w).mono ?_;rintro e w' ⟨rfl,rfl⟩;exact ⟨_,hS,[], .refl _,List.Pairwise.nil,rfl,rfl⟩
  · have hb:=hS1.at_;have hlen:l.length≤cap:=(by simpa [chR] using h2);have eg:∀args w,(callFunc 57 args).run Tryz.prog w= .ok (.enter 57 args) w:=call57;have hH:HoldsK yp 3 w b 0 l.toArray:=fun j hj=>by
      have hj':j<l.length*3:=(by simpa [size_flatK] using hj);have hrow:=h4 (j / 3) (yp l[j / 3]) (by rw[za9 (List.getElem?_eq_getElem (by omega))]) (j % 3);have hcell:∃v,(yp l[j / 3])[j % 3]? =some v∧(flatK yp 3 l.toArray)[j]! =v:=by
        refine ⟨_,List.getElem?_eq_getElem (by simp[yp];omega),?_⟩;rw[get_flatK _ _ _ _ (by simpa using hj')];simp[show j / 3<l.length by omega,show j % 3<(yp l[j / 3]).length by simp[yp];omega]
      obtain ⟨v,hv,he⟩:=hcell;have hc:=hrow v hv;rw[show j / 3*3+j % 3=j by omega] at hc;have:=zaT hb hc;refine ⟨?_,by simp[World.frozen?,hb]⟩;rw[he];simpa using this
    refine (AnyQ.slices_SortFunc Tryz.sortFn 3 isAgg58 sizeOf58 yp (fun _=>rfl) (fun x v hv=>by simp only[yp,List.mem_cons,List.not_mem_nil,or_false] at hv;rcases hv with rfl | rfl | rfl <;> rfl) cfC zxc 57 #[] b 0 cap l.toArray w eg (zrV b 0 _ w) hH (Array.getElem?_eq_some_iff.1 hb).1 (by simpa using hlt)).mono ?_;rintro e w' ⟨rfl,d',m,os,hp,hso,rfl⟩;obtain ⟨hp1,_,hp3⟩:=hp;have hsz:d'.size=l.length:=(by simpa using hp1);have hperm:d'.toList.Perm l:=by
      have e1:d'.extract 0 l.toArray.size=d':=(by rw[←hp1];simp);have e2:l.toArray.extract 0 l.toArray.size=l.toArray:=(by simp);rw[e1,e2] at hp3;simpa using hp3
    have hsorted:srtd d'.toList:=by
      rw[srtd,List.pairwise_iff_getElem];intro i j hi hj hij;have hj':j<d'.size:=(by simpa using hj);have hi':i<d'.size:=(by simpa using hi);have:=hso i j (by omega) hij (by simpa [hsz] using hj');rw[zjx] at this;simpa [hi',hj'] using this
    have e1:sortWorldK yp 3 w b 0 m d' os=grow {(Sort.ahead w m) with heap:=(Sort.ahead w m).heap.setIfInBounds b (.cells (putCells id 0 (flatK yp 3 d') cs) 58 (0,0))} os:=by
      unfold sortWorldK putRowK putRow mapBlock;congr 2;apply Array.ext_getElem?;intro i;rw[Array.getElem?_modify,Array.getElem?_setIfInBounds];have hlt:=(Array.getElem?_eq_some_iff.1 hb).1;show (if b=i then _ else _)=_;by_cases hk:b=i
      · subst hk;have he:(Sort.ahead w m).heap[b]? =some (.cells cs 58 (0,0)):=hb;rw[if_pos rfl,if_pos rfl,he,if_pos (by exact hlt)]
        rfl
      · rw[if_neg hk,if_neg hk]
    rw[e1];have hS2:=(hS1.drew (w.drawn+m)).set (w':={(Sort.ahead w m) with heap:=(Sort.ahead w m).heap.setIfInBounds b (.cells (putCells id 0 (flatK yp 3 d') cs) 58 (0,0))}) rfl;have hS3:=zep os.toList hS2;refine ⟨_,wX (cap:=cap) (sz:=3) (rows:=chR d'.toList) hS3 (by simp[putCells,h1]) (by simp[chR,hsz];exact hlen) (zdb _) ?_,d'.toList,hperm,hsorted,rfl,rfl⟩;intro j row hj f v hf;simp only[chR,List.getElem?_map] at hj;obtain ⟨x,hx,rfl⟩:=Option.map_eq_some_iff.1 hj;obtain ⟨hjl,hxe⟩:=List.getElem?_eq_some_iff.1 hx;have hjd:j<d'.size:=(by simpa using hjl);have hf3:f<3:=(by have:=(List.getElem?_eq_some_iff.1 hf).1;simpa [yp] using this);simp only[yj,Nat.zero_add];have hsz3:j*3+f<(flatK yp 3 d').size:=(by rw[size_flatK];omega);have hcs:j*3+f<cs.size:=(by rw[h1];omega);have e2:(putCells id 0 (flatK yp 3 d') cs)[j*3+f]? =some ((flatK yp 3 d')[j*3+f]!):=by
      have hnot:¬d'.size*3≤j*3+f:=(by omega);simp[putCells,hcs,hsz3,hnot]
    rw[e2,get_flatK _ _ _ _ (by omega),show (j*3+f) / 3=j by omega,show (j*3+f) % 3=f by omega];have hxd:d'[j]! =x:=(by simp at hxe;simp[hjd,hxe]);rw[hxd];have:=(List.getElem?_eq_some_iff.1 hf);obtain ⟨hfl,hfe⟩:=this;simp[hfl,hfe]
end Go.Proofs.YthdjckbjjfiopacGreatDoor
