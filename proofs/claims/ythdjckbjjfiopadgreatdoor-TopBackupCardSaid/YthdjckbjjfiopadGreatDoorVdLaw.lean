/- Disks of package vdisk: plain laws. No condition. -/
import Derived.Test.YthdjckbjjfiopadGreatDoorVd4
import Derived.Test.YthdjckbjjfiopadGreatDoorPartB
set_option linter.unusedSimpArgs false
set_option linter.unusedVariables false
namespace Go.Proofs.YthdjckbjjfiopadGreatDoor
open Go.Sl Go.Proofs
def kW:Bytes:=[119,114,105,116,101]
def kZ:Bytes:=[115,105,122,101]
def kS:Bytes:=[115,110,97,112]
def kU:Bytes:=[117,110,115,110,97,112]
def kFg:Bytes:=[102,111,114,103,101,116]
def ze8 (D:VdM)(x:ActM):VdM:=if x.kind=kW then wrD D x.a x.s else if x.kind=kZ then rsD D x.a else if x.kind=kS then snD D else if x.kind=kU then drD D x.a else if x.kind=kFg then fgD D else D
def vok (i:Nat)(D:VdM):Prop:=(1≤D.size∧D.size≤16)∧(1≤D.next∧D.next≤1000)∧(0≤D.time∧D.time≤i)∧D.snaps.length≤5∧∀s∈D.snaps,1≤s.size∧s.size≤16
theorem wY {i j:Nat}{D:VdM}(h:vok i D)(hij:i≤j):vok j D:=⟨h.1,h.2.1,⟨h.2.2.1.1,by have:=h.2.2.1.2;omega⟩,h.2.2.2⟩
theorem zvh {n:Int}(h:1≤n∧n≤16):vok 0 (zbX n):=⟨h,by simp[zbX],by simp[zbX],by simp[zbX],by simp[zbX]⟩
theorem zxA {i:Nat}{D:VdM}(h:vok i D)(n:Int)(s:Bytes):vok i (wrD D n s):=by
  unfold wrD;split
  · exact h
  · exact h
theorem zx9 {i:Nat}{D:VdM}(h:vok i D)(n:Int):vok i (rsD D n):=by
  unfold rsD;split
  · rename_i he;have:1≤n∧n≤16:=(by unfold rsE at he;split at he <;> omega);exact ⟨this,h.2⟩
  · exact h
theorem zyd {i:Nat}{D:VdM}(h:vok i D):vok i (snD D):=by
  unfold snD;split
  · rename_i he;have h4:=h.2.2.2.1;have:D.snaps.length≤4∧D.next≤999:=(by unfold snE at he;split at he <;> omega);refine ⟨h.1,by have:=h.2.1;simp only;omega,h.2.2.1,by simp;omega,fun s hs=>?_⟩;rcases List.mem_append.1 hs with hs | hs
    · exact h.2.2.2.2 s hs
    · simp at hs;subst hs;exact h.1
  · exact h
theorem zft {D:VdM}{i:Nat}(h:i<D.snaps.length):zah D i∈D.snaps:=by
  rw[yI (List.getElem?_eq_getElem h)];exact List.getElem_mem h
theorem zyL {i:Nat}{D:VdM}(h:vok i D)(id:Int):vok i (drD D id):=by
  unfold drD;split
  · exact h
  · generalize (wm D.snaps id).toNat=k;refine ⟨h.1,h.2.1,h.2.2.1,?_,fun s hs=>?_⟩
    · have h4:=h.2.2.2.1;have:(zgr D k).length=D.snaps.length:=(by unfold zgr;split <;> simp);have h5:=List.length_eraseIdx_le (zgr D k) k;simp only;omega
    · have h5:=List.mem_of_mem_eraseIdx hs;unfold zgr at h5;split at h5
      · rename_i hc;rcases List.mem_or_eq_of_mem_set h5 with h6 | h6
        · exact h.2.2.2.2 s h6
        · subst h6;have h7:=h.2.2.2.2 _ (zft hc.1);exact h7
      · exact h.2.2.2.2 s h5
theorem zxl {i:Nat}{D:VdM}(h:vok i D):vok (i+1) (fgD D):=⟨h.1,h.2.1,by have:=h.2.2.1;simp only[fgD];omega,h.2.2.2⟩
theorem zvj {i:Nat}{D:VdM}(h:vok i D)(x:ActM):vok (i+1) (ze8 D x):=by
  have hm:i≤i+1:=(by omega);unfold ze8;split
  · exact wY (zxA h _ _) hm
  · split
    · exact wY (zx9 h _) hm
    · split
      · exact wY (zyd h) hm
      · split
        · exact wY (zyL h _) hm
        · split
          · exact zxl h
          · exact wY h hm
def cov (s t:SnapM)(m:Nat→Bool):Prop:=∀p:Nat,p<16→m p=false→(((p:Int)<s.size ↔ (p:Int)<t.size)∧((p:Int)<s.size→s.blocks p=t.blocks p))
def adj (s t:SnapM):Prop:=s.id<t.id∧s.time≤t.time∧(s.time=t.time→cov s t t.dirty)
def inv (L:List SnapM):Prop:=∀j s t,L[j]? =some s→L[j+1]? =some t→adj s t
def zhW (D:VdM):SnapM:=⟨D.next,D.time,D.size,D.blocks,D.dirty⟩
def lst (D:VdM):List SnapM:=D.snaps++ [zhW D]
theorem zjT {l:List SnapM}{c c':SnapM}(h:inv (l++ [c]))(hc:∀s,adj s c→adj s c'):inv (l++ [c']):=by
  intro j s t hs ht;have hj:j+1<l.length+1:=(by have:=(List.getElem?_eq_some_iff.1 ht).1;simpa using this);rw[List.getElem?_append_left (by omega)] at hs;have hs':(l++ [c])[j]? =some s:=(by rw[List.getElem?_append_left (by omega)];exact hs);by_cases h1:j+1<l.length
  · rw[List.getElem?_append_left h1] at ht;exact h j s t hs' (by rw[List.getElem?_append_left h1];exact ht)
  · rw[List.getElem?_append_right (by omega),show j+1 - l.length=0 by omega] at ht;simp at ht;subst ht;exact hc s (h j s c hs' (by rw[List.getElem?_append_right (by omega),show j+1 - l.length=0 by omega];rfl))
theorem ztA {l:List SnapM}{c c':SnapM}(h:inv (l++ [c]))(hc:adj c c'):inv (l++ [c]++ [c']):=by
  intro j s t hs ht;have hj:j+1<l.length+2:=(by have:=(List.getElem?_eq_some_iff.1 ht).1;simpa using this);rw[List.getElem?_append_left (by simp;omega)] at hs;by_cases h1:j+1<l.length+1
  · rw[List.getElem?_append_left (by simp;omega)] at ht;exact h j s t hs ht
  · rw[List.getElem?_append_right (by simp;omega)] at ht;simp at ht;rw[List.getElem?_append_right (by omega),show j - l.length=0 by omega] at hs;simp at hs;rw[show j - l.length=0 by omega] at ht;simp at ht;subst hs ht;exact hc
theorem zqA {l:List SnapM}{c:SnapM}(h:inv (l++ [c])):inv l:=fun j s t hs ht=>
  h j s t (by rw[List.getElem?_append_left (List.getElem?_eq_some_iff.1 hs).1];exact hs) (by rw[List.getElem?_append_left (List.getElem?_eq_some_iff.1 ht).1];exact ht)
theorem zlW {L:List SnapM}(h:inv L):∀(c i:Nat) (s t:SnapM),L[i]? =some s→L[i+c]? =some t→s.time≤t.time∧(0<c→s.id<t.id)
  | 0,i,s,t,hs,ht=>by
    rw[Nat.add_zero,hs] at ht;injection ht with ht;subst ht;exact ⟨Int.le_refl _,fun h=>absurd h (by omega)⟩
  | c+1,i,s,t,hs,ht=>by
    obtain ⟨u,hu⟩:∃u,L[i+c]? =some u:=⟨_,List.getElem?_eq_getElem (by have:=(List.getElem?_eq_some_iff.1 ht).1;omega)⟩;have h1:=zlW h c i s u hs hu;have h2:=h (i+c) u t hu ht;refine ⟨by have:=h2.2.1;omega,fun _=>?_⟩;by_cases hc:0<c
    · have:=h1.2 hc;have:=h2.1;omega
    · obtain rfl:c=0:=(by omega);rw[Nat.add_zero,hs] at hu;injection hu with hu;subst hu;exact h2.1
theorem zys {L:List SnapM}(h:inv L){i j:Nat}{s t:SnapM}(hs:L[i]? =some s)(ht:L[j]? =some t)(hij:i<j):s.id<t.id∧s.time≤t.time:=by
  have:=zlW h (j - i) i s t hs (by rw[show i+(j - i)=j by omega];exact ht);exact ⟨this.2 (by omega),this.1⟩
theorem zsB {l:List SnapM}(h:inv l){i:Nat}{s:SnapM}(hs:l[i]? =some s):wm l s.id=i:=
  zkj (fun j hj t ht=>by have:=(zys h ht hs hj).1;omega) hs rfl
def iok (D:VdM):Prop:=inv (lst D)
theorem zwJ (n:Int):iok (zbX n):=by
  intro j s t hs ht;have:=(List.getElem?_eq_some_iff.1 ht).1;simp[lst,zbX] at this
theorem zyb {D:VdM}(h:iok D)(n:Int)(s:Bytes):iok (wrD D n s):=by
  unfold wrD;split
  · rename_i he;have hn:0≤n:=(by unfold wrE at he;split at he <;> omega);refine zjT (c:=zhW D) h fun t ht=>⟨ht.1,ht.2.1,fun e p hp hm=>?_⟩;simp only[zhW] at hm;have hm2:D.dirty p=false∧¬(p=n.toNat):=by
      unfold zcF at hm;simp at hm;exact ⟨hm.1,by omega⟩
    have:=ht.2.2 e p hp hm2.1;refine ⟨this.1,fun h1=>?_⟩;show t.blocks p=upd D.blocks n.toNat s p;unfold upd;rw[if_neg hm2.2];exact this.2 h1
  · exact h
theorem zyH {D:VdM}(h:iok D)(n:Int):iok (rsD D n):=by
  unfold rsD;split
  · refine zjT (c:=zhW D) h fun t ht=>⟨ht.1,ht.2.1,fun e p hp hm=>?_⟩;simp only[zhW] at hm;have hm2:D.dirty p=false∧¬(loS D n≤(p:Int)∧(p:Int)<hiS D n):=by
      unfold zcF at hm;simp at hm;exact ⟨hm.1,by omega⟩
    have:=ht.2.2 e p hp hm2.1;have h3:((p:Int)<D.size ↔ (p:Int)<n):=(by have:=hm2.2;unfold loS hiS at this;split at this <;> split at this <;> omega);refine ⟨this.1.trans h3,fun h1=>?_⟩;show t.blocks p=rsB D.blocks (loS D n) (hiS D n) p;unfold rsB;rw[if_neg hm2.2];exact this.2 h1
  · exact h
theorem zyC {D:VdM}(h:iok D):iok (snD D):=by
  unfold snD;split
  · exact ztA h ⟨by simp[zhW];omega,Int.le_refl _,fun _ p _ _=>⟨Iff.rfl,fun _=>rfl⟩⟩
  · exact h
theorem zyM {D:VdM}(h:iok D):iok (fgD D):=zjT (c:=zhW D) h fun t ht=>⟨ht.1,by have:=ht.2.1;simp only[zhW,fgD] at this ⊢;omega,fun e=>by have:=ht.2.1;simp only[zhW,fgD] at this e;omega⟩
def zrL (L:List SnapM)(i:Nat)(s t:SnapM):List SnapM:=if t.time=s.time then L.set (i+1) (zkp t (orM t.dirty s.dirty)) else L
theorem zke {L:List SnapM}{i:Nat}{s t:SnapM}{j:Nat}(hj:j≠i+1):(zrL L i s t)[j]? =L[j]? :=by
  unfold zrL;split
  · rw[List.getElem?_set_ne (by omega)]
  · rfl
theorem ztS {L:List SnapM}{i:Nat}{s t:SnapM}(ht:L[i+1]? =some t):(zrL L i s t)[i+1]? =some (if t.time=s.time then zkp t (orM t.dirty s.dirty) else t):=by
  unfold zrL;split
  · rw[List.getElem?_set_self (List.getElem?_eq_some_iff.1 ht).1]
  · exact ht
theorem zth {L:List SnapM}(h:inv L){i:Nat}{s t:SnapM}(hs:L[i]? =some s)(ht:L[i+1]? =some t):inv ((zrL L i s t).eraseIdx i):=by
  have hst:=h i s t hs ht;intro j x y hx hy;rw[List.getElem?_eraseIdx] at hx hy;rcases Nat.lt_trichotomy (j+1) i with h1 | h1 | h1
  · rw[if_pos (by omega),zke (by omega)] at hx;rw[if_pos (by omega),zke (by omega)] at hy;exact h j x y hx hy
  · subst h1;rw[if_pos (by omega),zke (by omega)] at hx;rw[if_neg (by omega),ztS ht] at hy;injection hy with hy;have hxs:=h j x s hx hs;have e1:=hxs.1;have e2:=hst.1;have e3:=hxs.2.1;have e4:=hst.2.1;by_cases hc:t.time=s.time
    · rw[if_pos hc] at hy;subst hy;refine ⟨by simp only;omega,by simp only;omega,fun e p hp hm=>?_⟩;simp only at e hm;unfold orM at hm;simp at hm;have a1:=hxs.2.2 (by omega) p hp hm.2;have a2:=hst.2.2 (by omega) p hp hm.1;exact ⟨a1.1.trans a2.1,fun hl=>(a1.2 hl).trans (a2.2 (a1.1.1 hl))⟩
    · rw[if_neg hc] at hy;subst hy;exact ⟨by omega,by omega,fun e=>by omega⟩
  · rw[if_neg (by omega)] at hx hy;rw[zke (by omega)] at hy;by_cases hji:j=i
    · subst hji;rw[ztS ht] at hx;injection hx with hx;have hty:=h (j+1) t y ht hy;split at hx <;> subst hx <;> exact hty
    · rw[zke (by omega)] at hx;exact h (j+1) x y hx hy
theorem zw5 {D:VdM}{id:Int}{i:Nat}{s:SnapM}(hf:wm D.snaps id=i)(hs:D.snaps[i]? =some s):∃t,(lst D)[i]? =some s∧(lst D)[i+1]? =some t∧lst (drD D id)=(zrL (lst D) i s t).eraseIdx i:=by
  have hi:=(List.getElem?_eq_some_iff.1 hs).1;have hl:(lst D)[i]? =some s:=(by unfold lst;rw[List.getElem?_append_left hi];exact hs);have e0:drD D id=⟨D.size,D.blocks,zf8 D i,D.time,D.next,(zgr D i).eraseIdx i⟩:=(by unfold drD;rw[if_neg (by omega),hf,Int.toNat_natCast]);have hpl:(zgr D i).length=D.snaps.length:=(by unfold zgr;split <;> simp);by_cases hc:i+1<D.snaps.length
  · obtain ⟨t,ht⟩:∃t,D.snaps[i+1]? =some t:=⟨_,List.getElem?_eq_getElem hc⟩;refine ⟨t,hl,by unfold lst;rw[List.getElem?_append_left hc];exact ht,?_⟩;have hm:zf8 D i=D.dirty:=(by unfold zf8;rw[if_neg (by omega)]);rw[e0];unfold lst;rw[show zhW (⟨D.size,D.blocks,zf8 D i,D.time,D.next,(zgr D i).eraseIdx i⟩:VdM)=zhW D by unfold zhW;rw[hm]];rw[show zrL (D.snaps++ [zhW D]) i s t=zgr D i++ [zhW D] by
      unfold zrL zgr;rw[yI hs,yI ht];by_cases h2:t.time=s.time
      · rw[if_pos h2,if_pos ⟨hc,h2⟩,List.set_append_left _ _ hc]
      · rw[if_neg h2,if_neg (fun hh=>h2 hh.2)]]
    rw[List.eraseIdx_append_of_lt_length (by omega)]
  · refine ⟨zhW D,hl,by unfold lst;rw[List.getElem?_append_right (by omega),show i+1 - D.snaps.length=0 by omega];rfl,?_⟩;have hp:zgr D i=D.snaps:=(by unfold zgr;rw[if_neg (fun hh=>hc hh.1)]);rw[e0,hp];unfold lst;rw[show zrL (D.snaps++ [zhW D]) i s (zhW D)=D.snaps++ [zhW (⟨D.size,D.blocks,zf8 D i,D.time,D.next,D.snaps.eraseIdx i⟩:VdM)] by
      unfold zrL;by_cases h2:(zhW D).time=s.time
      · rw[if_pos h2,List.set_append_right _ _ (by omega),show i+1 - D.snaps.length=0 by omega];have:zf8 D i=orM D.dirty s.dirty:=(by unfold zf8;rw[if_pos ⟨hc,by rw[yI hs];exact h2⟩,yI hs]);unfold zhW;rw[this]
        rfl
      · rw[if_neg h2];have:zf8 D i=D.dirty:=(by unfold zf8;rw[if_neg (fun hh=>h2 (by rw[yI hs] at hh;exact hh.2))]);unfold zhW;rw[this]]
    rw[List.eraseIdx_append_of_lt_length hi]
theorem zxk {D:VdM}(h:iok D)(id:Int):iok (drD D id):=by
  by_cases hf:wm D.snaps id<0
  · unfold drD;rw[if_pos hf];exact h
  · obtain ⟨i,s,hfi,hs,_,_⟩:=zaJ hf;obtain ⟨t,h1,h2,h3⟩:=zw5 hfi hs;unfold iok;rw[h3];exact zth h h1 h2
theorem zrh {D:VdM}(h:iok D)(x:ActM):iok (ze8 D x):=by
  unfold ze8;split
  · exact zyb h _ _
  · split
    · exact zyH h _
    · split
      · exact zyC h
      · split
        · exact zxk h _
        · split
          · exact zyM h
          · exact h
end Go.Proofs.YthdjckbjjfiopadGreatDoor
