/- Several texts in one: walks and rules used by them. No condition. -/
import Derived.Calls
import Derived.RangeFuncLeaves
import Derived.RangeFuncMany
import Derived.Orders
import Derived.Below
import Derived.Laws.World
import Derived.Tactics
import Derived.Still
import Derived.IntWalk
import Derived.Laws.Strings
import Derived.Deep.LoopGhost
import Derived.Laws.Cells
import Derived.Laws.AppendOwn
import Derived.Test.YthdjckbjjfiopadGreatDoorProg
import Derived.KernelRfl
import Derived.Test.YthdjckbjjfiopadGreatDoorRows
import Derived.WalkKit
import Derived.ProofKit
import Derived.OpenShut
import Derived.ShutString
import Derived.ChangeOld
import Derived.Deep.Slices
import Derived.Laws.BytesString
set_option linter.unusedSimpArgs false
set_option linter.unusedVariables false
namespace Go.Sl
theorem rR {α:Type}{a:α}:a=a:=rfl
abbrev Res:=Nat→Option (Obj×Bool)
abbrev HProp:=Res→Prop
def Res.dj (m n:Res):Prop:=∀b x y,m b=some x→n b=some y→x.2=true∧y.2=true
def Res.fits (m:Res)(w:World):Prop:=∀b x,m b=some x→w.heap[b]? =some x.1
def Res.sub (m n:Res):Prop:=∀b x,m b=some x→n b=some x
def OkL (w:World)(L:List HProp)(f:Nat→Res):Prop:=
  (∀i A,L[i]? =some A→A (f i)∧(f i).fits w)∧∀i j,i<L.length→j<L.length→i≠j→(f i).dj (f j)
structure Sat (w0 w:World) (L:List HProp):Prop where
  os:w.os=w0.os
  tape:w.tape=w0.tape
  output:w.output=w0.output
  size:w0.heap.size≤w.heap.size
  parts:∃f,OkL w L f
def zcZ (φ:Prop):HProp:=fun _=>φ
def hex {α:Type}(A:α→HProp):HProp:=fun m=>∃x,A x m
def zqv (A B:HProp):HProp:=fun m=>∃m1 m2,m1.dj m2∧m1.sub m∧m2.sub m∧A m1∧B m2
def pt (b:Nat)(o:Obj):HProp:=fun m=>m b=some (o,false)
def ro (b:Nat)(o:Obj):HProp:=fun m=>m b=some (o,true)
def old (w0:World):HProp:=fun m=>∀b o,w0.heap[b]? =some o→m b=some (o,true)
def Pers (A:HProp):Prop:=∀m,A m→∃m',Res.sub m' m∧(∀b x,m' b=some x→x.2=true)∧A m'
theorem Res.dj.symm {m n:Res}(h:m.dj n):n.dj m:=fun b x y hx hy=>(h b y x hy hx).symm
theorem Res.dj.mono {m n m' n':Res}(h:m.dj n)(h1:m'.sub m)(h2:n'.sub n):m'.dj n':=fun b x y hx hy=>h b x y (h1 b x hx) (h2 b y hy)
theorem Res.fits.mono {m m':Res}{w:World}(h:m.fits w)(h1:m'.sub m):m'.fits w:=fun b x hx=>h b x (h1 b x hx)
theorem Res.sub.refl (m:Res):m.sub m:=fun _ _ h=>h
def Res.union (m n:Res):Res:=fun b=>(m b).or (n b)
def Res.one (b:Nat)(x:Obj×Bool):Res:=fun c=>if c=b then some x else none
theorem Res.one_eq {b c:Nat}{x y:Obj×Bool}(h:Res.one b x c=some y):c=b∧y=x:=by
  unfold Res.one at h;split at h
  · exact ⟨‹_›,by injection h with h;exact h.symm⟩
  · cases h
theorem Res.one_self {b:Nat}{x:Obj×Bool}:Res.one b x b=some x:=by simp[Res.one]
section
variable {w0 w:World}{L:List HProp}{A B:HProp}
theorem Sat.start (w0:World):Sat w0 w0 [old w0]:=by
  refine ⟨rfl,rfl,rfl,Nat.le_refl _,fun _ b=>(w0.heap[b]?).map (·,true),?_,?_⟩
  · intro i A hA;cases i with
    | zero=>
      simp at hA;subst hA;exact ⟨fun b o h=>by simp[h],fun b x h=>by
        simp[Option.map_eq_some_iff] at h;obtain ⟨o,ho,rfl⟩:=h;exact ho⟩
    | succ i=>simp at hA
  · intro i j hi hj hne;simp at hi hj;omega
theorem Sat.pick {L':List HProp}(is:List Nat)(h:Sat w0 w L)(hL:is.map (L[·]?)=L'.map some)(hn:is.Nodup):Sat w0 w L':=by
  obtain ⟨h1,h2,h3,h4,f,hf,hd⟩:=h;have hget:∀(i:Nat) (A:HProp),L'[i]? =some A→∃k:Nat,is[i]? =some k∧L[k]? =some A:=by
    intro i A hA;have:(L'.map some)[i]? =some (some A):=(by simp[hA]);rw[←hL,List.getElem?_map] at this;cases hk:is[i]? with
    | none=>simp[hk] at this
    | some k=>simp[hk] at this;exact ⟨k,rfl,this⟩
  have hlen:is.length=L'.length:=(by simpa using congrArg List.length hL);refine ⟨h1,h2,h3,h4,fun i=>f (is.getD i 0),?_,?_⟩
  · intro i A hA;obtain ⟨k,hk,hA'⟩:=hget i A hA;have:is.getD i 0=k:=(by simp[List.getD,hk]);simp only[this];exact hf k A hA'
  · intro i j hi hj hne;obtain ⟨k,hk,hA⟩:=hget i L'[i] (by simp[hi]);obtain ⟨l,hl,hB⟩:=hget j L'[j] (by simp[hj]);have e1:is.getD i 0=k:=(by simp[List.getD,hk]);have e2:is.getD j 0=l:=(by simp[List.getD,hl]);simp only[e1,e2];refine hd k l ?_ ?_ ?_
    · exact (List.getElem?_eq_some_iff.1 hA).1
    · exact (List.getElem?_eq_some_iff.1 hB).1
    · intro e;subst e;obtain ⟨i1,e1⟩:=List.getElem?_eq_some_iff.1 hk;obtain ⟨j1,e2⟩:=List.getElem?_eq_some_iff.1 hl;have hp:=List.pairwise_iff_getElem.1 hn;rcases Nat.lt_or_gt_of_ne hne with hlt | hlt
      · exact hp i j i1 j1 hlt (e1.trans e2.symm)
      · exact hp j i j1 i1 hlt (e2.trans e1.symm)
theorem Sat.head {w':World}{L1:List HProp}(h:Sat w0 w (A::L))(hos:w'.os=w.os)(htape:w'.tape=w.tape)(hout:w'.output=w.output)(hsize:w.heap.size≤w'.heap.size)
    (k:∀m,A m→m.fits w→∃g:Nat→Res,OkL w' L1 g∧(∀(n:Res),n.fits w→n.dj m→n.fits w'∧∀i,i<L1.length→(g i).dj n)):Sat w0 w' (L1++L):=by
  obtain ⟨h1,h2,h3,h4,f,hf,hd⟩:=h;have hA:=hf 0 A rfl;obtain ⟨g,⟨hg,hgd⟩,hn⟩:=k (f 0) hA.1 hA.2;refine ⟨hos.trans h1,htape.trans h2,hout.trans h3,Nat.le_trans h4 hsize,fun i=>if i<L1.length then g i else f (i - L1.length+1),?_,?_⟩
  · intro i C hC;by_cases hi:i<L1.length
    · rw[List.getElem?_append_left hi] at hC;simp only[hi,if_true];exact hg i C hC
    · rw[List.getElem?_append_right (by omega)] at hC;simp only[hi,if_false];have:=hf (i - L1.length+1) C (by simpa using hC);refine ⟨this.1,(hn _ this.2 ?_).1⟩;have hlt:=(List.getElem?_eq_some_iff.1 hC).1;exact hd _ _ (by simp;omega) (by simp) (by omega)
  · intro i j hi hj hne;have hlen:(L1++L).length=L1.length+L.length:=(by simp);by_cases h1:i<L1.length <;> by_cases h2:j<L1.length <;> simp only[h1,h2,if_true,if_false]
    · exact hgd i j h1 h2 hne
    · have hjl:j - L1.length+1<(A::L).length:=(by simp;omega);exact (hn _ (hf (j - L1.length+1) ((A::L)[j - L1.length+1]) (by simp)).2 (hd _ _ hjl (by simp) (by omega))).2 i h1
    · have hil:i - L1.length+1<(A::L).length:=(by simp;omega);exact ((hn _ (hf (i - L1.length+1) ((A::L)[i - L1.length+1]) (by simp)).2 (hd _ _ hil (by simp) (by omega))).2 j h2).symm
    · exact hd _ _ (by simp;omega) (by simp;omega) (by omega)
theorem OkL.one {w:World}{A:HProp}{m:Res}(h:A m)(hf:m.fits w):OkL w [A] (fun _=>m):=by
  refine ⟨fun i B hB=>?_,fun i j hi hj hne=>?_⟩
  · cases i with
    | zero=>simp at hB;subst hB;exact ⟨h,hf⟩
    | succ i=>simp at hB
  · simp at hi hj;omega
theorem Sat.weak (h:Sat w0 w (A::L))(k:∀m,A m→B m):Sat w0 w (B::L):=
  h.head (L1:=[B]) rfl rfl rfl (Nat.le_refl _) fun m hA hf=>⟨fun _=>m,OkL.one (k m hA) hf,fun n hn hd=>⟨hn,fun _ _=>hd.symm⟩⟩
theorem Sat.ex {α:Type}{A:α→HProp}(h:Sat w0 w (hex A::L)):∃x,Sat w0 w (A x::L):=by
  obtain ⟨h1,h2,h3,h4,f,hf,hd⟩:=h;obtain ⟨x,hx⟩:=(hf 0 _ rfl).1;refine ⟨x,h1,h2,h3,h4,f,fun i C hC=>?_,hd⟩;cases i with
  | zero=>simp at hC;subst hC;exact ⟨hx,(hf 0 _ rfl).2⟩
  | succ i=>exact hf (i+1) C (by simpa using hC)
theorem Sat.ex_mk {α:Type}{A:α→HProp}(x:α)(h:Sat w0 w (A x::L)):Sat w0 w (hex A::L):=h.weak fun _ hm=>⟨x,hm⟩
theorem Sat.tail (h:Sat w0 w (A::L)):Sat w0 w L:=by
  simpa using h.head (L1:=[]) rfl rfl rfl (Nat.le_refl _) fun m _ _=>⟨fun _=>m,⟨by simp,by simp⟩,fun _ hn _=>⟨hn,by simp⟩⟩
theorem Sat.pure_ {φ:Prop}(h:Sat w0 w (zcZ φ::L)):φ∧Sat w0 w L:=⟨by
  obtain ⟨_,_,_,_,f,hf,_⟩:=h;exact (hf 0 _ rfl).1,h.tail⟩
theorem Sat.pure_mk {φ:Prop}(hp:φ)(h:Sat w0 w L):Sat w0 w (zcZ φ::L):=by
  obtain ⟨h1,h2,h3,h4,f,hf,hd⟩:=h;refine ⟨h1,h2,h3,h4,fun i=>match i with | 0=>fun _=>none | i+1=>f i,fun i C hC=>?_,fun i j hi hj hne=>?_⟩
  · cases i with
    | zero=>simp at hC;subst hC;exact ⟨hp,fun b x hx=>by cases hx⟩
    | succ i=>exact hf i C (by simpa using hC)
  · cases i with
    | zero=>exact fun b x y hx=>by cases hx
    | succ i=>cases j with
      | zero=>exact fun b x y _ hy=>by cases hy
      | succ j=>exact hd i j (by simpa using hi) (by simpa using hj) (by omega)
theorem Sat.star (h:Sat w0 w (zqv A B::L)):Sat w0 w (A::B::L):=
  h.head (L1:=[A,B]) rfl rfl rfl (Nat.le_refl _) fun m hA hf=>by
    obtain ⟨m1,m2,hd,s1,s2,ha,hb⟩:=hA;refine ⟨fun i=>if i=0 then m1 else m2,⟨fun i C hC=>?_,fun i j hi hj hne=>?_⟩,fun n hn hdj=>⟨hn,fun i _=>?_⟩⟩
    · match i with
      | 0=>simp at hC;subst hC;exact ⟨ha,hf.mono s1⟩
      | 1=>simp at hC;subst hC;exact ⟨hb,hf.mono s2⟩
      | i+2=>simp at hC
    · simp at hi hj;by_cases h0:i=0
      · have:j≠0:=(by omega);simp only[h0,this,if_true,if_false];exact hd
      · have:j=0:=(by omega);simp only[h0,this,if_true,if_false];exact hd.symm
    · dsimp only;split
      · exact (hdj.mono (Res.sub.refl _) s1).symm
      · exact (hdj.mono (Res.sub.refl _) s2).symm
theorem Sat.two (h:Sat w0 w (A::B::L)):Sat w0 w (zqv A B::L):=by
  obtain ⟨h1,h2,h3,h4,f,hf,hd⟩:=h;have hA:=hf 0 _ rfl;have hB:=hf 1 _ rfl;have d01:=hd 0 1 (by simp) (by simp) (by omega);have s2:(f 1).sub ((f 0).union (f 1)):=by
    intro b x hx;unfold Res.union;cases h0:f 0 b with
    | none=>simp[hx]
    | some y=>
      have e1:=hA.2 b y h0;have e2:=hB.2 b x hx;have:=d01 b y x h0 hx;have:y=x:=Prod.ext (by rw[e1] at e2;injection e2) (this.1.trans this.2.symm);simp[this]
  have s1:(f 0).sub ((f 0).union (f 1)):=fun b x hx=>(by simp[Res.union,hx]);refine ⟨h1,h2,h3,h4,fun i=>match i with | 0=>(f 0).union (f 1) | i+1=>f (i+2),fun i C hC=>?_,fun i j hi hj hne=>?_⟩
  · cases i with
    | zero=>
      simp at hC;subst hC;refine ⟨⟨f 0,f 1,d01,s1,s2,hA.1,hB.1⟩,fun b x hx=>?_⟩;simp only[Res.union] at hx;cases h0:f 0 b with
      | none=>rw[h0] at hx;exact hB.2 b x (by simpa using hx)
      | some y=>rw[h0] at hx;exact hA.2 b x (by rw[h0];simpa using hx)
    | succ i=>exact hf (i+2) C (by simpa using hC)
  · have dj:∀k,k+1<(zqv A B::L).length→((f 0).union (f 1)).dj (f (k+2)):=fun k hk b x y hx hy=>by
      simp only[Res.union] at hx;cases h0:f 0 b with
      | none=>rw[h0] at hx;exact hd 1 (k+2) (by simp) (by simp at hk ⊢;omega) (by omega) b x y (by simpa using hx) hy
      | some z=>rw[h0] at hx;exact hd 0 (k+2) (by simp) (by simp at hk ⊢;omega) (by omega) b x y (by rw[h0];simpa using hx) hy
    cases i with
    | zero=>cases j with
      | zero=>omega
      | succ j=>exact dj j hj
    | succ i=>cases j with
      | zero=>exact (dj i hi).symm
      | succ j=>exact hd (i+2) (j+2) (by simp at hi ⊢;omega) (by simp at hj ⊢;omega) (by omega)
theorem Sat.at_ {b:Nat}{o:Obj}(h:Sat w0 w (pt b o::L)):w.heap[b]? =some o:=by
  obtain ⟨_,_,_,_,f,hf,_⟩:=h;have:=hf 0 _ rfl;exact this.2 b (o,false) this.1
theorem Sat.ro_at {b:Nat}{o:Obj}(h:Sat w0 w (ro b o::L)):w.heap[b]? =some o:=by
  obtain ⟨_,_,_,_,f,hf,_⟩:=h;have:=hf 0 _ rfl;exact this.2 b (o,true) this.1
theorem Sat.freeze {b:Nat}{o:Obj}(h:Sat w0 w (pt b o::L)):Sat w0 w (ro b o::L):=
  h.head (L1:=[ro b o]) rfl rfl rfl (Nat.le_refl _) fun m hA hf=>by
    refine ⟨fun _=>Res.one b (o,true),OkL.one Res.one_self fun c x hx=>?_,fun n hn hdj=>⟨hn,fun i _ c x y hx hy=>?_⟩⟩
    · obtain ⟨rfl,rfl⟩:=Res.one_eq hx;exact hf _ (o,false) hA
    · obtain ⟨rfl,rfl⟩:=Res.one_eq hx;have:=(hdj _ y (o,false) hy hA).2;cases this
theorem Sat.set {b:Nat}{o o':Obj}{w':World}(h:Sat w0 w (pt b o::L))(hw:w'={w with heap:=w.heap.setIfInBounds b o'}):Sat w0 w' (pt b o'::L):=by
  subst hw;refine h.head (L1:=[pt b o']) rR rR rR (by simp) fun m hA hf=>?_;have hb:=hf b _ hA;have hlt:=(Array.getElem?_eq_some_iff.1 hb).1;refine ⟨fun _=>Res.one b (o',false),OkL.one Res.one_self fun c x hx=>?_,fun n hn hdj=>⟨fun c x hx=>?_,fun i _ c x y hx hy=>?_⟩⟩
  · obtain ⟨rfl,rfl⟩:=Res.one_eq hx;simp[hlt]
  · have hne:b≠c:=by
      rintro rfl;have:=(hdj b x (o,false) hx hA).2;cases this
    simp only[Array.getElem?_setIfInBounds_ne hne];exact hn c x hx
  · obtain ⟨rfl,rfl⟩:=Res.one_eq hx;have:=(hdj _ y (o,false) hy hA).2;cases this
theorem Sat.alloc (h:Sat w0 w L)(o:Obj):Sat w0 {w with heap:=w.heap.push o} (pt w.heap.size o::L):=by
  have h':Sat w0 w (zcZ True::L):=h.pure_mk trivial;refine h'.head (L1:=[pt w.heap.size o]) rR rR rR (by simp) fun m _ hf=>?_;have hlt:∀(n:Res),n.fits w→∀c x,n c=some x→c<w.heap.size:=fun n hn c x hx=>(Array.getElem?_eq_some_iff.1 (hn c x hx)).1;refine ⟨fun _=>Res.one w.heap.size (o,false),OkL.one Res.one_self fun c x hx=>?_,fun n hn hdj=>⟨fun c x hx=>?_,fun i _ c x y hx hy=>?_⟩⟩
  · obtain ⟨rfl,rfl⟩:=Res.one_eq hx;simp
  · have:=hlt n hn c x hx;simp only[Array.getElem?_push_lt this];simpa [this] using hn c x hx
  · obtain ⟨rfl,rfl⟩:=Res.one_eq hx;have:=hlt n hn _ y hy;omega
theorem Sat.drew (h:Sat w0 w L)(k:Nat):Sat w0 {w with drawn:=k} L:=⟨h.os,h.tape,h.output,h.size,h.parts⟩
theorem Sat.dup (h:Sat w0 w (A::L))(hp:Pers A):Sat w0 w (A::A::L):=
  h.head (L1:=[A,A]) rfl rfl rfl (Nat.le_refl _) fun m hA hf=>by
    obtain ⟨m',hs,hr,ha⟩:=hp m hA;refine ⟨fun _=>m',⟨fun i C hC=>?_,fun i j _ _ _ b x y hx hy=>⟨hr b x hx,hr b y hy⟩⟩,fun n hn hdj=>⟨hn,fun i _=>(hdj.mono (Res.sub.refl _) hs).symm⟩⟩;have:C=A:=by
      match i with
      | 0=>simpa using hC.symm
      | 1=>simpa using hC.symm
      | i+2=>simp at hC
    subst this;exact ⟨ha,hf.mono hs⟩
theorem Pers.ro (b:Nat)(o:Obj):Pers (ro b o):=fun m h=>⟨Res.one b (o,true),fun c x hx=>by
  obtain ⟨rfl,rfl⟩:=Res.one_eq hx;exact h,fun c x hx=>by obtain ⟨rfl,rfl⟩:=Res.one_eq hx;rfl,Res.one_self⟩
theorem Pers.pure_ (φ:Prop):Pers (zcZ φ):=fun _ h=>⟨fun _=>none,(fun b x hx=>nomatch hx),(fun b x hx=>nomatch hx),h⟩
theorem Pers.ex {α:Type}{A:α→HProp}(h:∀x,Pers (A x)):Pers (hex A):=fun m ⟨x,hx⟩=>let ⟨m',a,b,c⟩:=h x m hx;⟨m',a,b,x,c⟩
theorem Pers.old (w0:World):Pers (old w0):=fun m h=>⟨fun b=>(w0.heap[b]?).map (·,true),fun b x hx=>by
  simp[Option.map_eq_some_iff] at hx;obtain ⟨o,ho,rfl⟩:=hx;exact h b o ho,fun b x hx=>by
  simp[Option.map_eq_some_iff] at hx;obtain ⟨o,ho,rfl⟩:=hx;rfl,fun b o ho=>by simp[ho]⟩
theorem Sat.old_ro {b:Nat}{o:Obj}{v0:World}(h:Sat w0 w (old v0::L))(hb:v0.heap[b]? =some o):Sat w0 w (ro b o::old v0::L):=
  (h.dup (Pers.old v0)).weak fun _ hm=>hm b o hb
theorem Sat.below (h:Sat w0 w (old w0::L)):RowKit.Below w0.heap.size w0 w:=by
  refine ⟨h.os,h.tape,h.output,h.size,fun b hb=>?_⟩;have h1:w0.heap[b]? =some w0.heap[b]:=(by simp[hb]);rw[(h.old_ro h1).ro_at,h1]
end
end Go.Sl
namespace Go.Sl
abbrev Ent:=Nat×Option (Nat×Bool)×Value
abbrev Env:=List Ent
def ent:Env→Nat→Option (Option (Nat×Bool)×Value)
  | [],_=>none
  | (s,h,v)::E,t=>match Nat.beq s t with | true=>some (h,v) | false=>ent E t
def zvT:Bool→Bool→Bool
  | true,b=>b
  | false,true=>false
  | false,false=>true
def look (g:Option (Nat×Bool))(E:Env)(t:Nat):Option Value:=
  match ent E t with
  | some (none,v)=>some v
  | some (some (j,b),v)=>match g with
    | some (j',b')=>match Nat.beq j j' with
      | true=>match zvT b b' with | true=>some v | false=>none
      | false=>none
    | none=>none
  | none=>none
def ev (g:Option (Nat×Bool))(E:Env):Operand→Option Value
  | .tmp t=>look g E t
  | .const v=>some v
  | .global x=>some (.pointer (some ⟨x,0,none⟩))
  | .func f=>some (.func (.func f) #[] #[])
def evs (g:Option (Nat×Bool))(E:Env):List Operand→Option (List Value)
  | []=>some []
  | x::xs=>match ev g E x with
    | some v=>match evs g E xs with | some vs=>some (v::vs) | none=>none
    | none=>none
def U:List (Nat×Value)→Env
  | []=>[]
  | (t,v)::l=>(t,none,v)::U l
def keep (E:Env):List Nat→Option Env
  | []=>some []
  | t::ts=>match look none E t with
    | some v=>match keep E ts with | some R=>some ((t,none,v)::R) | none=>none
    | none=>none
def zgE:Nat→List Value→Env
  | _,[]=>[]
  | i,v::vs=>(i,none,v)::zgE (i+1) vs
def gd (g:Option (Nat×Bool))(a:Act):Prop:=∀j b,g=some (j,b)→a.tmps[j]? =some (.bool b)
structure Nd where
  n:Nat
  ds:List Deferred
structure EOk (n:Nd) (E:Env) (a:Act):Prop where
  defers:a.defers=n.ds
  size:a.tmps.size=n.n
  at_:∀t h v,ent E t=some (h,v)→gd h a→a.tmps[t]? =some v
theorem ztS {a b:Bool}(h:zvT a b=true):a=b:=by cases a <;> cases b <;> simp_all [zvT]
theorem EOk.look {n:Nd}{E:Env}{a:Act}{g:Option (Nat×Bool)}{t:Nat}{v:Value}(h:EOk n E a)(hg:gd g a)(hl:look g E t=some v):a.tmps[t]? =some v:=by
  unfold Sl.look at hl;split at hl
  · rename_i u he;injection hl with hl;subst hl;exact h.at_ t _ _ he (fun j b e=>by cases e)
  · rename_i j b u he;split at hl
    · rename_i j' b';split at hl
      · rename_i hj;split at hl
        · rename_i hb;injection hl with hl;subst hl;have e1:=Nat.eq_of_beq_eq_true hj;have e2:=ztS hb;subst e1 e2;exact h.at_ t _ _ he hg
        · cases hl
      · cases hl
    · cases hl
  · cases hl
theorem yD (a:Act):gd none a:=fun _ _ e=>by cases e
theorem EOk.ev {n:Nd}{E:Env}{a:Act}{g:Option (Nat×Bool)}{x:Operand}{v:Value}(h:EOk n E a)(hg:gd g a)(hl:ev g E x=some v):a.eval x=v:=by
  cases x with
  | tmp t=>have:=h.look hg hl;simp[Act.eval,Array.getD_eq_getD_getElem?,this]
  | const u=>injection hl
  | global u=>injection hl
  | func u=>injection hl
theorem EOk.evs {n:Nd}{E:Env}{a:Act}{g:Option (Nat×Bool)}(h:EOk n E a)(hg:gd g a):∀{xs:List Operand} {vs:List Value},evs g E xs=some vs→xs.map a.eval=vs
  | [],vs,hl=>by injection hl with hl
  | x::xs,vs,hl=>by
    unfold Sl.evs at hl;split at hl
    · rename_i v hv;split at hl
      · rename_i us hus;injection hl with hl;subst hl;simp[h.ev hg hv,h.evs hg hus]
      · cases hl
    · cases hl
def dOk (n:Nd)(d:Nat):Env→Bool
  | []=>Nat.blt d n.n
  | (_,none,_)::E=>dOk n d E
  | (_,some (j,_),_)::E=>match Nat.beq j d with | true=>false | false=>dOk n d E
theorem zqZ {n:Nd}{d:Nat}:∀{E:Env},dOk n d E=true→d<n.n
  | [],h=>by simpa [dOk,Nat.blt_eq] using h
  | (_,none,_)::E,h=>zqZ (E:=E) h
  | (_,some (j,_),_)::E,h=>by
    unfold dOk at h;split at h
    · cases h
    · exact zqZ (E:=E) h
theorem zqg {n:Nd}{d:Nat}:∀{E:Env} {t:Nat} {j:Nat} {b:Bool} {v:Value},dOk n d E=true→ent E t=some (some (j,b),v)→j≠d
  | [],t,j,b,v,h,he=>by cases he
  | (s,none,u)::E,t,j,b,v,h,he=>by
    unfold ent at he;split at he
    · injection he with he;injection he with h1 _;cases h1
    · exact zqg (E:=E) h he
  | (s,some (i,c),u)::E,t,j,b,v,h,he=>by
    unfold dOk at h;split at h
    · cases h
    · rename_i hi;unfold ent at he;split at he
      · injection he with he;injection he with h1 _;injection h1 with h1;injection h1 with h1 _;subst h1;exact Nat.ne_of_beq_eq_false hi
      · exact zqg (E:=E) h he
theorem zxw {a:Act}{d:Nat}{v:Value}(h:d<a.tmps.size):(a.put (some d) v).tmps[d]? =some v:=by simp[Act.put,h]
theorem zqf {a:Act}{d t:Nat}{v:Value}(h:d≠t):(a.put (some d) v).tmps[t]? =a.tmps[t]? :=by simp[Act.put,Array.getElem?_setIfInBounds_ne h]
theorem EOk.put {n:Nd}{E:Env}{a:Act}{d:Nat}{g:Option (Nat×Bool)}{v u:Value}(h:EOk n E a)(hd:dOk n d E=true)(hgd:∀j b,g=some (j,b)→j≠d)(hv:gd g a→u=v):
    EOk n ((d,g,v)::E) (a.put (some d) u):=by
  have hlt:d<a.tmps.size:=(by rw[h.size];exact zqZ hd);refine ⟨h.defers,by simp[Act.put,h.size],fun t k w he hk=>?_⟩;unfold ent at he;split at he
  · rename_i hb;have:=Nat.eq_of_beq_eq_true hb;subst this;injection he with he;injection he with h1 h2;subst h1 h2;rw[zxw hlt];have:gd g a:=fun j b e=>by
      have:=hk j b e
      rwa [zqf (Ne.symm (hgd j b e))] at this
    rw[hv this]
  · rename_i hb;rw[zqf (Nat.ne_of_beq_eq_false hb)];refine h.at_ t k w he fun j b e=>?_;have h1:=hk j b e;subst e
    rwa [zqf (Ne.symm (zqg hd he))] at h1
theorem EOk.put1 {n:Nd}{E:Env}{a:Act}{d:Nat}{v:Value}(h:EOk n E a)(hd:dOk n d E=true):EOk n ((d,none,v)::E) (a.put (some d) v):=
  h.put hd (fun _ _ e=>by cases e) fun _=>rfl
theorem EOk.keep {n:Nd}{E:Env}{a:Act}(h:EOk n E a):∀{ts:List Nat} {R:Env},keep E ts=some R→EOk n R a
  | [],R,hk=>by injection hk with hk;subst hk;exact ⟨h.defers,h.size,fun _ _ _ e=>by cases e⟩
  | t::ts,R,hk=>by
    unfold Sl.keep at hk;split at hk
    · rename_i v hv;split at hk
      · rename_i R' hR;injection hk with hk;subst hk;refine ⟨h.defers,h.size,fun s k w he hg=>?_⟩;unfold ent at he;split at he
        · rename_i hb;have:=Nat.eq_of_beq_eq_true hb;subst this;injection he with he;injection he with h1 h2;subst h1 h2;exact h.look (yD a) hv
        · exact (h.keep hR).at_ s k w he hg
      · cases hk
    · cases hk
abbrev Post:=Exit→Act→World→Prop
inductive KI where
  | code (c:Code)
  | blk (id:Nat)
  | ops (all rest:List Oper)
  | plan (all:List Oper) (C:World→Prop) (rest:List (Nat×Bool))
  | fin (J:Act→World→Prop)
section
variable {P:Program}{ops:Array Oper}{Q:Post}{C:World→Prop}
def zyv (P:Program)(C:World→Prop)(o:Oper)(a:Act)(v:Value):Prop:=∀w,C w→(execOp a.eval o).run P w= .ok (.value v) w∨((execOp a.eval o).run P w= .ok .skip w∧v=undef)
def YieldsC (P:Program)(ops:Array Oper)(C:World→Prop)(o:Oper)(v:Value)(a:Act):Prop:=
  (Region.wanted o (yielded ops a.tmps)=true∧zyv P C o a v)∨(Region.wanted o (yielded ops a.tmps)=false∧v=undef)
def wpAnyC (P:Program)(ops:Array Oper)(C:World→Prop)(Q:Post):Nat→Array Bool→Act→World→Prop
  | 0,listed,a,w=>C w∧Region.ready .any ops listed=[]∧Q .normal a w
  | fuel+1,listed,a,w=>
    C w∧(Region.ready .any ops listed=[]→Q .normal a w)∧
    ∀i∈Region.ready .any ops listed,wpOp P ops Q i (wpAnyC P ops C Q fuel (listed.setIfInBounds i true)) a w
theorem wpAnyC.cls {fuel:Nat}{listed:Array Bool}{a:Act}{w:World}(h:wpAnyC P ops C Q fuel listed a w):C w:=by
  cases fuel <;> exact h.1
theorem zd0:∀(fuel:Nat) (listed:Array Bool) (a:Act) (w:World),wpAnyC P ops C Q fuel listed a w→wpAny P .any ops Q fuel listed a w
  | 0,_,_,_,h=>h.2
  | fuel+1,_,_,_,h=>⟨h.2.1,fun i hi=>wpOp_mono (fun a w=>zd0 fuel _ a w) (h.2.2 i hi)⟩
theorem YieldsC.wpOp {i:Nat}{o:Oper}{v:Value}{a:Act}{w:World}{K:Act→World→Prop}(hi:ops[i]? =some o)(hw:C w)(hy:YieldsC P ops C o v a)(h:K (a.put o.dst v) w):wpOp P ops Q i K a w:=by
  unfold Go.wpOp;simp only[hi];rcases hy with ⟨hwt,hv⟩ | ⟨hwt,rfl⟩
  · simp only[hwt,if_true];refine .inl ?_;unfold Oper.wp;rcases hv w hw with he | ⟨he,rfl⟩ <;> rw[he] <;> exact h
  · simp only[hwt,Bool.false_eq_true,if_false];exact h
theorem YieldsC.of_same {o:Oper}{v:Value}{a a':Act}(hy:YieldsC P ops C o v a)(he:execOp a'.eval o=execOp a.eval o)
    (hw:Region.wanted o (yielded ops a'.tmps)=Region.wanted o (yielded ops a.tmps)):YieldsC P ops C o v a':=by
  unfold YieldsC zyv at*;rw[he,hw];exact hy
theorem zr9 {o:Oper}{a:Act}{dst:Option Tmp}{v:Value}{r:Result Next}{K:Act→World→Prop}{Y:Act→Prop}(hsafe:∀d,dst=some d→o.dst≠some d)
    (hQ:∀c a w,Q (.panic c) (a.put dst v) w→Q (.panic c) a w) (hY1:∀u,Y (a.put o.dst u)) (hY2:∀d u,Y (({a with defers:=d::a.defers}:Act).put o.dst u))
    (h:o.upon P (a.put dst v) K Q r):o.upon P a (fun a' w'=>Y a'∧K (a'.put dst v) w') Q r:=by
  have hc:∀u,(a.put dst v).put o.dst u=(a.put o.dst u).put dst v:=fun u=>Act.put_comm a v u hsafe;cases r with
  | ok n w'=>
    cases n <;> simp only[Oper.upon] at h ⊢
    case value u=>exact ⟨hY1 _,by rw[←hc];exact h⟩
    case skip=>exact ⟨hY1 _,by rw[←hc];exact h⟩
    case defer d=>
      have h2:=Act.put_comm ({a with defers:=d::a.defers}:Act) v undef hsafe;have h3:({a.put dst v with defers:=d::(a.put dst v).defers}:Act)=({a with defers:=d::a.defers}:Act).put dst v:=Act.put_defers a dst v d;rw[h3] at h;exact ⟨hY2 _ _,by rw[←h2];exact h⟩
    case enter f args=>exact h.mono fun e w'' he=>by cases e <;> first | (simp only[] at he ⊢;exact ⟨hY1 _,by rw[←hc];exact he⟩) | exact hQ _ _ _ he | exact he
    case row row args=>exact h.mono fun u w'' he=>⟨hY1 _,by rw[←hc];exact he⟩
    all_goals exact h
  | halt x w'=>
    cases x <;> simp only[Oper.upon] at h ⊢ <;> first | exact hQ _ _ _ h | exact h
theorem zs0 {o:Oper}{a:Act}{dst:Option Tmp}{v:Value}{w:World}(he:execOp (a.put dst v).eval o=execOp a.eval o)(h:o.asks P (a.put dst v) w):o.asks P a w:=by
  unfold Oper.asks at*
  rwa [he] at h
theorem zkV {j:Nat}{oi oj:Oper}{v:Value}(hj:ops[j]? =some oj)(hap:oi.apart ops oj=true)
    (hsi:∀cs b,oi.op≠ .select cs b) (hsj:∀cs b,oj.op≠ .select cs b) (hQ:∀c a w,Q (.panic c) (a.put oi.dst v) w→Q (.panic c) a w) {K:Act→World→Prop} {a:Act} {w:World}
    (hy:YieldsC P ops C oi v a) (h:wpOp P ops Q j K (a.put oi.dst v) w):wpOp P ops Q j (fun a' w'=>YieldsC P ops C oi v a'∧K (a'.put oi.dst v) w') a w:=by
  obtain ⟨h1,h2,h3⟩:=Oper.apart_spec hap;have hY1:∀u,YieldsC P ops C oi v (a.put oj.dst u):=fun u=>hy.of_same (execOp_put oi hsi a oj.dst u h3) (wanted_put oi a oj.dst u h3);have hY2:∀d u,YieldsC P ops C oi v (({a with defers:=d::a.defers}:Act).put oj.dst u):=fun d u=>(hY1 u).of_same (by
    have:(({a with defers:=d::a.defers}:Act).put oj.dst u).eval=(a.put oj.dst u).eval:=by
      funext x;cases hd:oj.dst <;> cases x <;> simp[Act.eval,Act.put]
    rw[this]) (by cases hd:oj.dst <;> simp[Act.put])
  unfold wpOp at*;simp only[hj] at*;rw[wanted_put oj a oi.dst v h1] at h;have he:=execOp_put oj hsj a oi.dst v h1;split
  · rename_i hw;simp only[hw,if_true] at h;rcases h with h | ⟨h,hl⟩
    · refine .inl ?_;unfold Oper.wp at*;rw[he] at h;exact zr9 h2 hQ hY1 hY2 h
    · exact .inr ⟨zs0 he h,hl⟩
  · rename_i hw;simp only[hw] at h;exact ⟨hY1 _,by rw[←Act.put_comm a v undef h2];exact h⟩
theorem zfO {i:Nat}{oi:Oper}{v:Value}(hi:ops[i]? =some oi)(hsel:∀(j:Nat) (o:Oper) cs b,ops[j]? =some o→o.op≠ .select cs b)
    (hQ:∀c a w,Q (.panic c) (a.put oi.dst v) w→Q (.panic c) a w):
    ∀(fuel:Nat) (listed:Array Bool) (a:Act) (w:World),
      (∀j oj,ops[j]? =some oj→j≠i→listed.getD j true=false→(∀e∈oj.after,Region.binds .any e=true→e.on≠i)→oi.apart ops oj=true)→
      i∈Region.ready .any ops listed→YieldsC P ops C oi v a→C w→
      wpAnyC P ops C Q fuel (listed.setIfInBounds i true) (a.put oi.dst v) w→wpAnyC P ops C Q (fuel+1) listed a w:=by
  intro fuel
  induction fuel with
  | zero=>
    intro listed a w _ hr hy hw H;refine ⟨hw,fun h=>(by rw[h] at hr;cases hr),fun j hj=>?_⟩;by_cases hji:j=i
    · subst hji;exact hy.wpOp hi hw H
    · have:=ready_mono hj hji;rw[H.2.1] at this;cases this
  | succ fuel ih=>
    intro listed a w hfree hr hy hw H;refine ⟨hw,fun h=>(by rw[h] at hr;cases hr),fun j hj=>?_⟩;by_cases hji:j=i
    · subst hji;exact hy.wpOp hi hw H
    · have h1:=H.2.2 j (ready_mono hj hji);obtain ⟨hjun,oj,hoj,hall⟩:=mem_ready.1 hj;have hnot:∀e∈oj.after,Region.binds .any e=true→e.on≠i:=fun e he hb heq=>by
        have h1:=hall e he hb;have h0:=(mem_ready.1 hr).1;rw[heq] at h1;rcases Nat.lt_or_ge i listed.size with h' | h'
        · simp[h'] at h0 h1;rw[h0] at h1;cases h1
        · simp[Array.getElem?_eq_none h'] at h1
      have h2:=zkV hoj (hfree j oj hoj hji hjun hnot) (fun cs b=>hsel i oi cs b hi) (fun cs b=>hsel j oj cs b hoj) hQ hy h1;have hfree':∀k ok,ops[k]? =some ok→k≠i→(listed.setIfInBounds j true).getD k true=false→
          (∀e∈ok.after,Region.binds .any e=true→e.on≠i)→oi.apart ops ok=true:=fun k ok hk hki hun hno=>by
        refine hfree k ok hk hki ?_ hno;by_cases hjk:j=k
        · subst hjk;exact hjun
        · rw[getD_set_ne true hjk] at hun;exact hun
      refine wpOp_mono (fun a' w' h3=>ih (listed.setIfInBounds j true) a' w' hfree' (ready_mono hr (Ne.symm hji)) h3.1 h3.2.cls ?_) h2;rw[Array.setIfInBounds_comm _ _ hji];exact h3.2
def zbw (ops:Array Oper):List (Nat×Bool)→Array Bool→Bool
  | [],listed=>(Region.ready .any ops listed).isEmpty
  | (i,false)::rest,listed=>(Region.ready .any ops listed).contains i && Region.free .any ops listed i && zbw ops rest (listed.setIfInBounds i true)
  | (i,true)::rest,listed=>(Region.ready .any ops listed==[i]) && zbw ops rest (listed.setIfInBounds i true)
def zhA (P:Program)(ops:Array Oper)(C:World→Prop)(Q:Post):List (Nat×Bool)→Act→World→Prop
  | [],a,w=>C w∧Q .normal a w
  | (i,false)::rest,a,w=>C w∧∃o v,ops[i]? =some o∧YieldsC P ops C o v a∧zhA P ops C Q rest (a.put o.dst v) w
  | (i,true)::rest,a,w=>C w∧wpOp P ops Q i (zhA P ops C Q rest) a w
theorem za9 (hs:Region.noSelect ops=true)(hQ:∀c a d v w,Q (.panic c) (a.put d v) w→Q (.panic c) a w):∀(l:List (Nat×Bool)) (listed:Array Bool) (a:Act) (w:World),
    zbw ops l listed=true→zhA P ops C Q l a w→wpAnyC P ops C Q l.length listed a w
  | [],listed,a,w,hp,h=>⟨h.1,by simpa [zbw] using hp,h.2⟩
  | (i,false)::l,listed,a,w,hp,h=>by
    simp only[zbw,Bool.and_eq_true] at hp;obtain ⟨⟨hr,hf⟩,hp'⟩:=hp;obtain ⟨hw,o,v,ho,hy,h⟩:=h;exact zfO ho (Region.noSelect_spec hs) (fun c a w=>hQ c a _ _ w) l.length listed a w (Region.free_spec ho hf) (by simpa using hr) hy hw
      (za9 hs hQ l _ _ _ hp' h)
  | (i,true)::l,listed,a,w,hp,h=>by
    simp only[zbw,Bool.and_eq_true,beq_iff_eq] at hp;refine ⟨h.1,fun h0=>(by rw[hp.1] at h0;cases h0),fun j hj=>?_⟩;rw[hp.1] at hj;have:j=i:=(by simpa using hj);subst this;exact wpOp_mono (fun a w=>za9 hs hQ l _ a w hp.2) h.2
theorem zie {id:Nat}{a:Act}{w:World}{l:List (Nat×Bool)}(hm:P.follows .mixedOrders=true)(hs:Region.noSelect ops=true)(hl:l.length=ops.size)
    (hQ:∀c a d v w,Q (.panic c) (a.put d v) w→Q (.panic c) a w) (hp:zbw ops l (Array.replicate ops.size false)=true)
    (h:zhA P ops C Q l a {w with drawn:=w.drawn+1}):(Code.region id ops true).wp P Q a w:=
  wp_region_any hm (zd0 _ _ _ _ (by rw[←hl];rw[←hl] at hp;exact za9 hs hQ l _ a _ hp h))
end
end Go.Sl
namespace Go.Sl
class Has (L:List HProp) (b:Nat) (o:outParam Obj):Prop where
  out:∀w0 w,Sat w0 w L→w.heap[b]? =some o
instance (priority:=high) Has.pt {b:Nat}{o:Obj}{L:List HProp}:Has (pt b o::L) b o:=⟨fun _ _ h=>h.at_⟩
instance (priority:=high) Has.ro {b:Nat}{o:Obj}{L:List HProp}:Has (ro b o::L) b o:=⟨fun _ _ h=>h.ro_at⟩
instance (priority:=low) Has.tail {A:HProp}{b:Nat}{o:Obj}{L:List HProp}[h:Has L b o]:Has (A::L) b o:=⟨fun w0 w hS=>h.out w0 w hS.tail⟩
class Upd (L:List HProp) (b:Nat) (o:outParam Obj) (o':Obj) (L':outParam (List HProp)):Prop where
  out:∃i,L[i]? =some (pt b o)∧L'=L.set i (pt b o')
instance (priority:=high) Upd.pt {b:Nat}{o o':Obj}{L:List HProp}:Upd (pt b o::L) b o o' (pt b o'::L):=⟨0,rfl,rfl⟩
instance (priority:=low) Upd.tail {A:HProp}{b:Nat}{o o':Obj}{L L':List HProp}[h:Upd L b o o' L']:Upd (A::L) b o o' (A::L'):=⟨let ⟨i,h1,h2⟩:=h.out;⟨i+1,by simpa using h1,by simp[h2]⟩⟩
theorem zdf {α β:Type}(f:α→β):∀(l:List α) (i:Nat),(l.eraseIdx i).map f=(l.map f).eraseIdx i
  | [],i=>by simp
  | a::l,0=>by simp
  | a::l,i+1=>by simp[zdf f l i]
theorem Sat.front {w0 w:World}{A:HProp}{L:List HProp}{i:Nat}(h:Sat w0 w L)(hi:L[i]? =some A):Sat w0 w (A::L.eraseIdx i):=by
  have e:(List.range L.length).map (L[·]?)=L.map some:=by
    apply List.ext_getElem
    · simp
    · intro j h1 h2;simp at h1 ⊢
  refine h.pick (i::(List.range L.length).eraseIdx i) ?_ ?_
  · simp only[List.map_cons,hi];congr 1;rw[zdf,e,zdf]
  · refine List.Pairwise.cons (fun a ha=>?_) ?_
    · rw[List.mem_eraseIdx_iff_getElem] at ha;obtain ⟨j,hj,hne,rfl⟩:=ha;simpa using Ne.symm hne
    · exact List.Nodup.sublist (List.eraseIdx_sublist _ _) List.nodup_range
theorem Sat.setAt {w0 w:World}{L:List HProp}{i b:Nat}{o o':Obj}(h:Sat w0 w L)(hi:L[i]? =some (pt b o)):Sat w0 {w with heap:=w.heap.setIfInBounds b o'} (L.set i (pt b o')):=by
  obtain ⟨h1,h2,h3,h4,f,hf,hd⟩:=h;have hA:=hf i _ hi;have hil:=(List.getElem?_eq_some_iff.1 hi).1;have hb:=hA.2 b _ hA.1;have hlt:=(Array.getElem?_eq_some_iff.1 hb).1;have hno:∀j,j<L.length→j≠i→f j b=none:=fun j hj hne=>by
    cases hx:f j b with
    | none=>rfl
    | some x=>
      have:=(hd j i hj hil hne b x (o,false) hx hA.1).2;cases this
  refine ⟨h1,h2,h3,by simpa using h4,fun j=>if j=i then Res.one b (o',false) else f j,fun j A hjA=>?_,fun j k hj hk hne=>?_⟩
  · by_cases hji:j=i
    · subst hji;rw[List.getElem?_set_self hil] at hjA;injection hjA with hjA;subst hjA;simp only[if_true];refine ⟨Res.one_self,fun c x hx=>?_⟩;obtain ⟨rfl,rfl⟩:=Res.one_eq hx;simp[hlt]
    · rw[List.getElem?_set_ne (Ne.symm hji)] at hjA;simp only[hji,if_false];have hj:=(List.getElem?_eq_some_iff.1 hjA).1;refine ⟨(hf j A hjA).1,fun c x hx=>?_⟩;have hne:b≠c:=by
        rintro rfl;rw[hno j hj hji] at hx;cases hx
      simp only[Array.getElem?_setIfInBounds_ne hne];exact (hf j A hjA).2 c x hx
  · have hj':j<L.length:=(by simpa using hj);have hk':k<L.length:=(by simpa using hk);have d1:∀l,l<L.length→l≠i→(Res.one b (o',false)).dj (f l):=fun l hl hli c x y hx hy=>by
      obtain ⟨rfl,rfl⟩:=Res.one_eq hx;rw[hno l hl hli] at hy;cases hy
    by_cases hji:j=i
    · have hki:k≠i:=(by omega);simp only[hji,hki,if_true,if_false];exact d1 k hk' hki
    · by_cases hki:k=i
      · simp only[hji,hki,if_true,if_false];exact (d1 j hj' hji).symm
      · simp only[hji,hki,if_false];exact hd j k hj' hk' hne
class Rem (L:List HProp) (A:HProp) (L':outParam (List HProp)):Prop where
  out:∃i,L[i]? =some A∧L'=L.eraseIdx i
instance (priority:=high) Rem.head {A:HProp}{L:List HProp}:Rem (A::L) A L:=⟨0,rfl,rfl⟩
instance (priority:=low) Rem.tail {A B:HProp}{L L':List HProp}[h:Rem L A L']:Rem (B::L) A (B::L'):=⟨let ⟨i,h1,h2⟩:=h.out;⟨i+1,by simpa using h1,by simp[h2]⟩⟩
theorem Rem.sat {w0 w:World}{A:HProp}{L L':List HProp}(r:Rem L A L')(h:Sat w0 w L):Sat w0 w (A::L'):=by
  obtain ⟨i,h1,rfl⟩:=r.out;exact h.front h1
theorem Sat.moveEnd {w0 w:World}{A:HProp}{L:List HProp}(h:Sat w0 w (A::L)):Sat w0 w (L++ [A]):=by
  refine h.pick ((List.range L.length).map (· +1)++ [0]) ?_ ?_
  · simp only[List.map_append,List.map_map,List.map_cons,List.map_nil];congr 1;apply List.ext_getElem
    · simp
    · intro i h1 h2;simp at h1 ⊢
  · refine List.pairwise_append.2 ⟨?_,by simp,?_⟩
    · rw[List.pairwise_map];exact (List.pairwise_lt_range).imp fun h=>by omega
    · intro a ha b hb;simp at ha hb;obtain ⟨x,_,rfl⟩:=ha;omega
theorem Sat.endFront {w0 w:World}{A:HProp}{L:List HProp}(h:Sat w0 w (L++ [A])):Sat w0 w (A::L):=by
  have:=h.front (i:=L.length) (A:=A) (by simp);simpa [List.eraseIdx_append_of_length_le] using this
class Split (L:List HProp) (Pre:List HProp) (F:outParam (List HProp)):Prop where
  out:∀w0 w X,Sat w0 w (L++X)→Sat w0 w (Pre++F++X)
instance Split.nil {L:List HProp}:Split L [] L:=⟨fun _ _ _ h=>h⟩
instance Split.cons {L L1 F Pre:List HProp}{A:HProp}[r:Rem L A L1][s:Split L1 Pre F]:Split L (A::Pre) F:=⟨fun w0 w X h=>by
  obtain ⟨i,h1,rfl⟩:=r.out;have hil:=(List.getElem?_eq_some_iff.1 h1).1;have h2:=h.front (i:=i) (A:=A) (by rw[List.getElem?_append_left hil];exact h1);rw[List.eraseIdx_append_of_lt_length hil] at h2;have h3:=h2.moveEnd;have h4:=s.out w0 w (X++ [A]) (by simpa using h3);have h5:Sat w0 w ((Pre++F++X)++ [A]):=(by simpa using h4);simpa using h5.endFront⟩
theorem Split.sat {w0 w:World}{L Pre F:List HProp}(s:Split L Pre F)(h:Sat w0 w L):Sat w0 w (Pre++F):=by
  simpa using s.out w0 w [] (by simpa using h)
class Sub (L L2:List HProp):Prop where
  out:∀w0 w X,Sat w0 w (L++X)→Sat w0 w (L2++X)
instance (priority:=high) Sub.refl {L:List HProp}:Sub L L:=⟨fun _ _ _ h=>h⟩
instance (priority:=low) Sub.drop {A:HProp}{L L2:List HProp}[s:Sub L L2]:Sub (A::L) L2:=⟨fun w0 w X h=>s.out w0 w X (Sat.tail (by simpa using h))⟩
instance Sub.take {A:HProp}{L L1 L2:List HProp}[r:Rem L A L1][s:Sub L1 L2]:Sub L (A::L2):=⟨fun w0 w X h=>by
  obtain ⟨i,h1,rfl⟩:=r.out;have hil:=(List.getElem?_eq_some_iff.1 h1).1;have h2:=h.front (i:=i) (A:=A) (by rw[List.getElem?_append_left hil];exact h1);rw[List.eraseIdx_append_of_lt_length hil] at h2;have h3:=h2.moveEnd;have h4:=s.out w0 w (X++ [A]) (by simpa using h3);have h5:Sat w0 w ((L2++X)++ [A]):=(by simpa using h4);simpa using h5.endFront⟩
theorem Sub.sat {w0 w:World}{L L2:List HProp}(s:Sub L L2)(h:Sat w0 w L):Sat w0 w L2:=by
  simpa using s.out w0 w [] (by simpa using h)
end Go.Sl
namespace Go.Sl
def fpost (P:Program)(fn:Func)(w0:World)(R:Value→List HProp→Prop):Post:=bodyPost P fn fun e w=>match e with
  | .returned v=>∃L,Sat w0 w L∧R v L
  | _=>False
def markD (D:Nat):Deferred:={target:= .collected D,args:=#[]}
def zxL (P:Program)(fn:Func)(w0:World)(R:Value→List HProp→Prop):Post:=fun e a w=>match e with
  | .normal | .ret=>∃D w',a.defers=[markD D]∧(Instr.takeDeferred D).run P w= .ok [] w'∧∃v,(results fn a.tmps).run P w'= .ok v w'∧∃L,Sat w0 w' L∧R v L
  | _=>False
def Ct (P:Program)(f:FuncId)(args:List Value)(L:List HProp)(R:Value→List HProp→Prop):Prop:=
  ∀w0 w,Sat w0 w L→Calls P f args.toArray w fun e w'=>match e with
    | .returned v=>∃L',Sat w0 w' L'∧R v L'
    | _=>False
def kq (P:Program)(Qf:Post):List KI→Post
  | [],e,a,w=>Qf e a w
  | .code c::K,e,a,w=>match e with
    | .normal=>c.wp P (kq P Qf K) a w
    | e=>kq P Qf K e a w
  | .blk id::K,e,a,w=>Exit.inBlock id (kq P Qf K) e a w
  | .ops all rest::K,e,a,w=>match e with
    | .normal=>wpList P all.toArray (kq P Qf K) rest a w
    | e=>kq P Qf K e a w
  | .plan all C rest::K,e,a,w=>match e with
    | .normal=>zhA P all.toArray C (kq P Qf K) rest a w
    | e=>kq P Qf K e a w
  | .fin J::K,e,a,w=>match e with
    | .normal=>J a w
    | e=>kq P Qf K e a w
structure Cx where
  P:Program
  fn:Func
  w0:World
  R:Value→List HProp→Prop
  n:Nd
def Cx.Q (c:Cx):Post:=fun e a w=>fpost c.P c.fn c.w0 c.R e a w∨zxL c.P c.fn c.w0 c.R e a w
def G (c:Cx)(K:List KI)(E:Env)(L:List HProp):Prop:=∀a w,EOk c.n E a→Sat c.w0 w L→kq c.P c.Q K .normal a w
theorem za8 {c:Cx}:∀{K:List KI} {ch:List PanicEntry} {a:Act} {w:World},¬kq c.P c.Q K (.panic ch) a w
  | [],ch,a,w,h=>h.elim (fun h=>h.2) (fun h=>h)
  | .code _::K,ch,a,w,h=>za8 (K:=K) h
  | .blk _::K,ch,a,w,h=>za8 (K:=K) h
  | .ops _ _::K,ch,a,w,h=>za8 (K:=K) h
  | .plan _ _ _::K,ch,a,w,h=>za8 (K:=K) h
  | .fin _::K,ch,a,w,h=>za8 (K:=K) h
section
variable {c:Cx}{K:List KI}{E:Env}{L:List HProp}{x y:Code}
theorem qf (h:G c (.code x:: .code y::K) E L):G c (.code (.seq x y)::K) E L:=fun a w hE hS=>by
  refine wp_seq (wp_mono (h a w hE hS) fun e a w hq=>?_);cases e <;> exact hq
theorem qh (h:G c K E L):G c (.code .skip::K) E L:=fun a w hE hS=>wp_skip (h a w hE hS)
theorem qj {id:Nat}(h:G c (.code x:: .blk id::K) E L):G c (.code (.block id x)::K) E L:=fun a w hE hS=>wp_block (wp_mono (h a w hE hS) fun e a w hq=>hq)
theorem qF {id:Nat}(h:G c K E L):G c (.blk id::K) E L:=fun a w hE hS=>h a w hE hS
theorem qg {t:Operand}{b:Bool}(ht:ev none E t=some (.bool b))(h1:b=true→G c (.code x::K) E L)(h2:b=false→G c (.code y::K) E L):G c (.code (.cond t x y)::K) E L:=
  fun a w hE hS=>wp_cond_split (hE.ev (yD a) ht) (fun e=>h1 e a w hE hS) (fun e=>h2 e a w hE hS)
theorem wV {t:Operand}(ht:ev none E t=some (.bool true))(h1:G c (.code x::K) E L):G c (.code (.cond t x y)::K) E L:=qg ht (fun _=>h1) (fun e=>by cases e)
theorem yR {t:Operand}(ht:ev none E t=some (.bool false))(h1:G c (.code y::K) E L):G c (.code (.cond t x y)::K) E L:=qg ht (fun e=>by cases e) (fun _=>h1)
def zk2 (id:Nat):List KI→Option (List KI)
  | []=>none
  | .blk j::K=>match Nat.beq id j with | true=>some K | false=>zk2 id K
  | _::K=>zk2 id K
theorem zcw {P:Program}{Qf:Post}{id:Nat}{a:Act}{w:World}:∀{K K':List KI},zk2 id K=some K'→kq P Qf K' .normal a w→kq P Qf K (.exit id) a w
  | [],_,h,_=>by cases h
  | .blk j::K,K',h,hk=>by
    unfold zk2 at h;split at h
    · rename_i hb;injection h with h;subst h;have:=Nat.eq_of_beq_eq_true hb;show Exit.inBlock j (kq P Qf K) (.exit id) a w;simp only[Exit.inBlock,this,if_true];exact hk
    · rename_i hb;have:=Nat.ne_of_beq_eq_false hb;show Exit.inBlock j (kq P Qf K) (.exit id) a w;simp only[Exit.inBlock,this,if_false];exact zcw h hk
  | .code _::K,K',h,hk=>zcw (K:=K) h hk
  | .ops _ _::K,K',h,hk=>zcw (K:=K) h hk
  | .plan _ _ _::K,K',h,hk=>zcw (K:=K) h hk
  | .fin _::K,K',h,hk=>zcw (K:=K) h hk
theorem qz {id:Nat}{K':List KI}(hu:zk2 id K=some K')(h:G c K' E L):G c (.code (.exit id)::K) E L:=fun a w hE hS=>wp_exit (zcw hu (h a w hE hS))
theorem yb {P:Program}{Qf:Post}{a:Act}{w:World}(h:Qf .ret a w):∀{K:List KI},kq P Qf K .ret a w
  | []=>h
  | .code _::K=>yb h (K:=K)
  | .blk _::K=>yb h (K:=K)
  | .ops _ _::K=>yb h (K:=K)
  | .plan _ _ _::K=>yb h (K:=K)
  | .fin _::K=>yb h (K:=K)
def zbn (E:Env):List ResultVar→Option (List Value)
  | []=>some []
  | .tmp t::rs=>match look none E t with
    | some v=>match zbn E rs with | some vs=>some (v::vs) | none=>none
    | none=>none
  | .cell _ _::_=>none
def tup:List Value→Value
  | [v]=>v
  | vs=> .tuple vs.toArray
def zix (a:Act):ResultVar→Sem Value
  | .tmp t=>pure (a.tmps.getD t undef)
  | .cell x t=>do loadVar t (←asAddr (a.tmps.getD x undef))
theorem zke {P:Program}{n:Nd}{a:Act}{w:World}(hE:EOk n E a):∀{rs:List ResultVar} {vs:List Value},zbn E rs=some vs→(rs.mapM (zix a)).run P w=Result.ok vs w
  | [],vs,h=>by injection h with h;subst h;simp[Sem.run_pure]
  | ResultVar.tmp t::rs,vs,h=>by
    unfold zbn at h;split at h
    · rename_i v hv;split at h
      · rename_i us hus;injection h with h;subst h;have h1:=hE.look (yD a) hv;simp[List.mapM_cons,zke hE hus,zix,Array.getD_eq_getD_getElem?,h1]
      · cases h
    · cases h
  | ResultVar.cell _ _::_,vs,h=>by cases h
theorem zdZ (fn:Func)(a:Act):results fn a.tmps=(do
    let vs ←fn.results.mapM (zix a)
    pure (if h:vs.size=1 then vs[0] else .tuple vs)):=by
  unfold results;congr 1
theorem qw {vs:List Value}{a:Act}{w:World}(hr:zbn E c.fn.results.toList=some vs)(hE:EOk c.n E a)(hS:Sat c.w0 w L)(hR:c.R (tup vs) L)(hds:c.n.ds=[]:=by rfl):
    (a.defers=[]∧∃v,(results c.fn a.tmps).run c.P w= .ok v w∧∃L,Sat c.w0 w L∧c.R v L)∨∃D w',a.defers=[markD D]∧(Instr.takeDeferred D).run c.P w= .ok [] w'∧∃v,(results c.fn a.tmps).run c.P w'= .ok v w'∧∃L,Sat c.w0 w' L∧c.R v L:=by
  refine .inl ⟨hE.defers.trans hds,tup vs,?_,L,hS,hR⟩;have h1:=zke (P:=c.P) (w:=w) hE hr;rw[zdZ,Array.mapM_eq_mapM_toList];simp only[Sem.run_bind,Sem.run_map];rw[h1];simp only[Result.andThen_ok,Sem.run_pure];congr 1
  match vs with
  | []=>simp[tup]
  | [v]=>simp[tup]
  | v::u::vs=>simp[tup]
theorem g_end {vs:List Value}(hr:zbn E c.fn.results.toList=some vs)(hR:c.R (tup vs) L)(hds:c.n.ds=[]:=by rfl):G c [] E L:=
  fun a w hE hS=>qw (hds:=hds) hr hE hS hR
def R1 (val:Value)(Post:List HProp):Value→List HProp→Prop:=fun v L'=>v=val∧L'=Post
theorem qn {vs:List Value}{val:Value}{Post:List HProp}(hR:c.R=R1 val Post)(hr:zbn E c.fn.results.toList=some vs)[S:Sub L Post](hv:tup vs=val)(hds:c.n.ds=[]:=by rfl):G c (.code .ret::K) E L:=
  fun a w hE hS=>wp_ret (yb (qw (hds:=hds) hr hE (S.sat hS) (by rw[hR];exact ⟨hv,rfl⟩)))
theorem zck {vs:List Value}{val:Value}{Post:List HProp}(hR:c.R=R1 val Post)(hr:zbn E c.fn.results.toList=some vs)[S:Sub L Post](hv:tup vs=val)(hds:c.n.ds=[]:=by rfl):G c [] E L:=
  fun a w hE hS=>qw (hds:=hds) hr hE (S.sat hS) (by rw[hR];exact ⟨hv,rfl⟩)
theorem zbI {L2:List HProp}[S:Sub L L2](h:G c K E L2):G c K E L:=fun a w hE hS=>h a w hE (S.sat hS)
theorem zqa {φ:Prop}(hf:∀w,Sat c.w0 w L→φ)(h:φ→G c K E L):G c K E L:=fun a w hE hS=>h (hf w hS) a w hE hS
def zxV (c:Cx){α:Type}(φ:α→Prop)(Ei:α→Env)(Li:α→List HProp)(μ:α→Nat)(m:Nat)(a:Act)(w:World):Prop:=∃z,φ z∧μ z<m∧EOk c.n (Ei z) a∧Sat c.w0 w (Li z)
theorem qE {α:Type}(φ:α→Prop)(Ei:α→Env)(Li:α→List HProp)(μ:α→Nat)(z0:α)(h0:φ z0)(ts:List Nat){E1:Env}(hk:keep E ts=some E1)(he:E1=Ei z0)[SL:Sub L (Li z0)]
    (round:∀z,φ z→G c (.code x:: .fin (zxV c φ Ei Li μ (μ z))::K) (Ei z) (Li z)):G c (.code (.loop x)::K) E L:=fun a w hE hS=>by
  refine wp_loop_ghost (fun m a w=>∃z,φ z∧m=μ z∧EOk c.n (Ei z) a∧Sat c.w0 w (Li z)) (μ z0) ⟨z0,h0,rfl,he ▸ hE.keep hk,SL.sat hS⟩ ?_;rintro m a w ⟨z,hz,rfl,hE,hS⟩;refine wp_mono (round z hz a w hE hS) fun e a w hq=>?_;cases e with
  | normal=>obtain ⟨z',h1,h2,h3,h4⟩:=hq;exact ⟨μ z',h2,z',h1,rfl,h3,h4⟩
  | _=>exact hq
theorem qm {α:Type}{φ:α→Prop}{Ei:α→Env}{Li:α→List HProp}{μ:α→Nat}{m:Nat}(z:α)(h0:φ z)(h1:μ z<m)(ts:List Nat){E1:Env}(hk:keep E ts=some E1)(he:E1=Ei z)[SL:Sub L (Li z)]:
    G c (.fin (zxV c φ Ei Li μ m)::K) E L:=fun a w hE hS=>⟨z,h0,h1,he ▸ hE.keep hk,SL.sat hS⟩
def Cut (c:Cx){α:Type}(φ:α→Prop)(Ei:α→Env)(Li:α→List HProp)(a:Act)(w:World):Prop:=∃z,φ z∧EOk c.n (Ei z) a∧Sat c.w0 w (Li z)
theorem ziS {α:Type}(φ:α→Prop)(Ei:α→Env)(Li:α→List HProp)(h1:G c (.code x:: .fin (Cut c φ Ei Li)::K) E L)(h2:∀z,φ z→G c K (Ei z) (Li z)):G c (.code x::K) E L:=fun a w hE hS=>by
  refine wp_mono (h1 a w hE hS) fun e a w hq=>?_;cases e with
  | normal=>obtain ⟨z,hz,hE,hS⟩:=hq;exact h2 z hz a w hE hS
  | _=>exact hq
theorem zaq {α:Type}{φ:α→Prop}{Ei:α→Env}{Li:α→List HProp}(z:α)(h0:φ z)(ts:List Nat){E1:Env}(hk:keep E ts=some E1)(he:E1=Ei z)[SL:Sub L (Li z)]:
    G c (.fin (Cut c φ Ei Li)::K) E L:=fun a w hE hS=>⟨z,h0,he ▸ hE.keep hk,SL.sat hS⟩
structure OpV (c:Cx) (g:Option (Nat×Bool)) (E:Env) (L:List HProp) (o:Oper) (v:Value):Prop where
  out:∀a w,EOk c.n E a→gd g a→Sat c.w0 w L→(execOp a.eval o).run c.P w= .ok (.value v) w
structure OpL (c:Cx) (g:Option (Nat×Bool)) (E:Env) (L:List HProp) (o:Oper) (N:Value→List HProp→Prop):Prop where
  out:∀a w,EOk c.n E a→gd g a→Sat c.w0 w L→∀nx Q,(∀v w' L',Sat c.w0 w' L'→N v L'→nx (a.put o.dst v) w')→o.wp c.P a w nx Q
variable {all rest:List Oper}{d:Nat}{op:Op}{ty:TypeId}{pos:String}{af:Array Edge}{v:Value}{N:Value→List HProp→Prop}
theorem qo {id:Nat}{l:List Oper}(h:G c (.ops l l::K) E L):G c (.code (.region id l.toArray false)::K) E L:=fun a w hE hS=>wp_region_lit (h a w hE hS)
theorem qb (h:G c K E L):G c (.ops all []::K) E L:=fun a w hE hS=>h a w hE hS
theorem zgD {a:Act}{w:World}{g:Option (Nat×Bool)}{o:Oper}{nx:Act→World→Prop}{Q:Post}(h:OpV c g E L o v)(hE:EOk c.n E a)(hg:gd g a)(hS:Sat c.w0 w L)(hn:nx (a.put o.dst v) w):o.wp c.P a w nx Q:=by
  unfold Oper.wp;rw[h.out a w hE hg hS];exact hn
theorem g_v (h:OpV c none E L ⟨some d,op,ty,pos,af,none⟩ v)(hd:dOk c.n d E=true)(k:G c (.ops all rest::K) ((d,none,v)::E) L):
    G c (.ops all (⟨some d,op,ty,pos,af,none⟩::rest)::K) E L:=fun a w hE hS=>by
  refine wpList_plain rR fun nx hk=>zgD h hE (yD a) hS (hk _ _ (k _ w (hE.put1 hd) hS))
theorem g_l (h:OpL c none E L ⟨some d,op,ty,pos,af,none⟩ N)(hd:dOk c.n d E=true)(k:∀v L',N v L'→G c (.ops all rest::K) ((d,none,v)::E) L'):
    G c (.ops all (⟨some d,op,ty,pos,af,none⟩::rest)::K) E L:=fun a w hE hS=>by
  refine wpList_plain rR fun nx hk=>h.out a w hE (yD a) hS nx _ fun v w' L' hS' hN=>hk _ _ (k v L' hN _ w' (hE.put1 hd) hS')
theorem yp (h:OpL c none E L ⟨none,op,ty,pos,af,none⟩ N)(k:∀v L',N v L'→G c (.ops all rest::K) E L'):
    G c (.ops all (⟨none,op,ty,pos,af,none⟩::rest)::K) E L:=fun a w hE hS=>by
  refine wpList_plain rR fun nx hk=>h.out a w hE (yD a) hS nx _ fun v w' L' hS' hN=>hk _ _ (k v L' hN _ w' hE hS')
theorem za0 {a:Act}{i s:Nat}{b:Bool}(hi:(all[i]?).bind (·.dst)=some s)(hE:EOk c.n E a)(hs:look none E s=some (.bool b)):yielded all.toArray a.tmps i=some b:=by
  have h1:=hE.look (yD a) hs;simp[yielded,hi,h1]
theorem qK {i s:Nat}{b want:Bool}(hi:(all[i]?).bind (·.dst)=some s)(hs:look none E s=some (.bool b))(h:b=want→OpV c (some (s,want)) E L ⟨some d,op,ty,pos,af,some (i,want)⟩ v)(hd:dOk c.n d E=true)(hne:Nat.beq s d=false)
    (k:G c (.ops all rest::K) ((d,some (s,want),v)::E) L):G c (.ops all (⟨some d,op,ty,pos,af,some (i,want)⟩::rest)::K) E L:=fun a w hE hS=>by
  have hy:=za0 (a:=a) hi hE hs;have hb:=hE.look (yD a) hs;refine wpList_step fun nx hk=>?_;have hgd:∀j b',some (s,want)=some (j,b')→j≠d:=fun j b' e=>(by injection e with e;injection e with e _;subst e;exact Nat.ne_of_beq_eq_false hne);by_cases hw:b=want
  · rw[if_pos (by simp[Region.wanted,hy,hw])];have hg:gd (some (s,want)) a:=fun j b' e=>(by injection e with e;injection e with e1 e2;subst e1 e2;rw[hb,hw]);exact zgD (h hw) hE hg hS (hk _ _ (k _ w (hE.put hd hgd fun _=>rfl) hS))
  · rw[if_neg (by simp[Region.wanted,hy,hw])];refine hk _ _ (k _ w (hE.put hd hgd fun hg=>?_) hS);have:=hg s want rfl;rw[hb] at this;exact absurd (by simpa using this) hw
theorem yw {id:Nat}{l:List Oper}{Lf:List HProp}(pl:List (Nat×Bool))(hm:c.P.follows .mixedOrders=true)(hs:Region.noSelect l.toArray=true)(hl:pl.length=l.length)(hp:zbw l.toArray pl (Array.replicate l.length false)=true)
    (h:G c (.plan l (fun w=>Sat c.w0 w Lf) pl::K) E L):G c (.code (.region id l.toArray true)::K) E L:=fun a w hE hS=>
  zie (l:=pl) hm hs (by simpa using hl) (fun ch a d v w hq=>absurd hq za8) (by simpa using hp) (h a _ hE (hS.drew _))
theorem wS {id:Nat}{l:List Oper}(pl:List (Nat×Bool))(hm:c.P.follows .mixedOrders=true)(hs:Region.noSelect l.toArray=true)(hl:pl.length=l.length)(hp:zbw l.toArray pl (Array.replicate l.length false)=true)
    (h:G c (.plan l (fun w=>Sat c.w0 w L) pl::K) E L):G c (.code (.region id l.toArray true)::K) E L:=yw (Lf:=L) pl hm hs hl hp h
variable {Lf:List HProp}{pl:List (Nat×Bool)}
theorem yc [SC:Sub L Lf](h:G c K E L):G c (.plan all (fun w=>Sat c.w0 w Lf) []::K) E L:=fun a w hE hS=>⟨SC.sat hS,h a w hE hS⟩
theorem d_v {i:Nat}(hi:all[i]? =some ⟨some d,op,ty,pos,af,none⟩)[SC:Sub L Lf](h:OpV c none E Lf ⟨some d,op,ty,pos,af,none⟩ v)(hd:dOk c.n d E=true)
    (k:G c (.plan all (fun w=>Sat c.w0 w Lf) pl::K) ((d,none,v)::E) L):G c (.plan all (fun w=>Sat c.w0 w Lf) ((i,false)::pl)::K) E L:=fun a w hE hS=>
  ⟨SC.sat hS,_,v,by simpa using hi, .inl ⟨by simp[Region.wanted],fun w' hw'=> .inl (h.out a w' hE (yD a) hw')⟩,k _ w (hE.put1 hd) hS⟩
theorem zbW {i j s:Nat}{b want:Bool}(hi:all[i]? =some ⟨some d,op,ty,pos,af,some (j,want)⟩)(hj:(all[j]?).bind (·.dst)=some s)(hs:look none E s=some (.bool b))[SC:Sub L Lf]
    (h:b=want→OpV c (some (s,want)) E Lf ⟨some d,op,ty,pos,af,some (j,want)⟩ v) (hd:dOk c.n d E=true) (hne:Nat.beq s d=false)
    (k:G c (.plan all (fun w=>Sat c.w0 w Lf) pl::K) ((d,some (s,want),v)::E) L):G c (.plan all (fun w=>Sat c.w0 w Lf) ((i,false)::pl)::K) E L:=fun a w hE hS=>by
  have hy:=za0 (a:=a) hj hE hs;have hb:=hE.look (yD a) hs;have hgd:∀j b',some (s,want)=some (j,b')→j≠d:=fun j b' e=>(by injection e with e;injection e with e _;subst e;exact Nat.ne_of_beq_eq_false hne);by_cases hw:b=want
  · have hg:gd (some (s,want)) a:=fun j b' e=>(by injection e with e;injection e with e1 e2;subst e1 e2;rw[hb,hw]);exact ⟨SC.sat hS,_,v,by simpa using hi, .inl ⟨by simp[Region.wanted,hy,hw],fun w' hw'=> .inl ((h hw).out a w' hE hg hw')⟩,k _ w (hE.put hd hgd fun _=>rfl) hS⟩
  · refine ⟨SC.sat hS,_,undef,by simpa using hi, .inr ⟨by simp[Region.wanted,hy,hw],rfl⟩,k _ w (hE.put hd hgd fun hg=>?_) hS⟩;have:=hg s want rfl;rw[hb] at this;exact absurd (by simpa using this) hw
theorem d_l {i:Nat}(hi:all[i]? =some ⟨some d,op,ty,pos,af,none⟩)[SC:Sub L Lf](h:OpL c none E L ⟨some d,op,ty,pos,af,none⟩ N)(hd:dOk c.n d E=true)
    (k:∀v L',N v L'→G c (.plan all (fun w=>Sat c.w0 w Lf) pl::K) ((d,none,v)::E) L'):G c (.plan all (fun w=>Sat c.w0 w Lf) ((i,true)::pl)::K) E L:=fun a w hE hS=>by
  refine ⟨SC.sat hS,?_⟩;unfold wpOp;simp only[List.getElem?_toArray,hi];rw[if_pos (by simp[Region.wanted])];exact .inl (h.out a w hE (yD a) hS _ _ fun v w' L' hS' hN=>k v L' hN _ w' (hE.put1 hd) hS')
theorem zoK {i:Nat}(hi:all[i]? =some ⟨none,op,ty,pos,af,none⟩)[SC:Sub L Lf](h:OpL c none E L ⟨none,op,ty,pos,af,none⟩ N)
    (k:∀v L',N v L'→G c (.plan all (fun w=>Sat c.w0 w Lf) pl::K) E L'):G c (.plan all (fun w=>Sat c.w0 w Lf) ((i,true)::pl)::K) E L:=fun a w hE hS=>by
  refine ⟨SC.sat hS,?_⟩;unfold wpOp;simp only[List.getElem?_toArray,hi];rw[if_pos (by simp[Region.wanted])];exact .inl (h.out a w hE (yD a) hS _ _ fun v w' L' hS' hN=>k v L' hN _ w' hE hS')
end
theorem Ct.of {P:Program}{f:FuncId}{fn:Func}{cd:Code}{args:List Value}{L:List HProp}{R:Value→List HProp→Prop}(hf:P.funcs[f]? =some fn)(hb:fn.body=some cd)(n:Nat)(hn:fn.ntmps=n)(hle:args.length≤n)
    (h:∀w0,G ⟨P,fn,w0,R,⟨n,[]⟩⟩ [.code cd] (zgE 0 args) L):Ct P f args L R:=fun w0 w hS=>by
  refine callsIn_wide.1 (callsIn_of_wp_marks (n:=0) hf hb trivial (wpIn_wide.2 (wp_mono (h w0 _ w ?_ hS) fun e a w hq=>?_)));rotate_left
  · cases e with
    | normal | ret=>
      rcases hq with ⟨hd,v,hr,hR⟩ | ⟨D,w',hd,ht,v,hr,hR⟩
      · show LeavesInM _ _ _ _ _ _ _ _ _;rw[hd];exact ⟨v,hr,hR⟩
      · show LeavesInM _ _ _ _ _ _ _ _ _;rw[hd];exact ⟨(fun h=>by cases h), .inl ⟨D,w',rfl,ht,v,hr,hR⟩⟩
    | panic ch=>exact absurd hq (fun h=>h.elim (fun h=>h.2) (fun h=>h))
    | exit id=>exact hq.elim (fun h=>h.elim) (fun h=>h.elim)
    | goto l=>exact hq.elim (fun h=>h.elim) (fun h=>h.elim)
    | outgrown=>exact hq.elim (fun h=>h.elim) (fun h=>h.elim)
  refine ⟨rfl,by simp[hn];omega,?_⟩;have key:∀(l:List Value) (i:Nat) (t:Nat) (g:Option (Nat×Bool)) (v:Value),ent (zgE i l) t=some (g,v)→i≤t∧l[t - i]? =some v:=by
    intro l
    induction l with
    | nil=>intro i t g v h;cases h
    | cons u l ih=>
      intro i t g v h;simp only[zgE] at h;unfold ent at h;split at h
      · rename_i hb;have:=Nat.eq_of_beq_eq_true hb;subst this;injection h with h;injection h with _ h;subst h;simp
      · have:=ih (i+1) t g v h;refine ⟨by omega,?_⟩;have e:t - i=(t - (i+1))+1:=(by omega);rw[e];simpa using this.2
  intro t g v he _;have:=(key args 0 t g v he).2;simp only[Nat.sub_zero] at this;have hlt:=(List.getElem?_eq_some_iff.1 this).1;rw[Array.getElem?_append_left (by simpa using hlt)];simpa using this
theorem Ct.mono {P:Program}{f:FuncId}{args:List Value}{L:List HProp}{R R':Value→List HProp→Prop}(h:Ct P f args L R)(hr:∀v L',R v L'→R' v L'):Ct P f args L R':=fun w0 w hS=>
  (h w0 w hS).mono fun e w' he=>by
    cases e with
    | returned v=>obtain ⟨L',h1,h2⟩:=he;exact ⟨L',h1,hr _ _ h2⟩
    | panicked ch=>exact he
    | outgrown=>exact he
end Go.Sl
namespace Go.Sl
abbrev I (n:Int):Value:= .int .i64 n
abbrev By (n:Int):Value:= .int .u8 n
abbrev Bo (b:Bool):Value:= .bool b
abbrev ptr (b o:Nat):Value:= .pointer (some ⟨b,o,none⟩)
abbrev Str (l:List UInt8):Value:= .string ⟨⟨l⟩⟩
theorem zt1 {α:Type}[BEq α][LawfulBEq α][DecidableEq α](a b:α):(a==b)=decide (a=b):=by rw[Bool.eq_iff_iff];simp
theorem w64 {n:Int}(h: -9223372036854775808≤n∧n≤9223372036854775807):IntKind.i64.wrap n=n:=IntWalk.i64_in n h
theorem w8 {n:Int}(h:0≤n∧n≤255):IntKind.u8.wrap n=n:=IntWalk.u8_in n h
section
variable {c:Cx}{g:Option (Nat×Bool)}{E:Env}{L:List HProp}{d:Option Tmp}{ty:TypeId}{pos:String}{af:Array Edge}{gu:Option (Nat×Bool)}
variable {x y z:Operand}{t u yt:TypeId}{k:IntKind}{a b r:Int}{v v1 v2:Value}
theorem qp (hx:ev g E x=some v):OpV c g E L ⟨d, .move x,ty,pos,af,gu⟩ v:= .mk fun a w hE hg hS=>by
  simp[execOp,hE.ev hg hx]
theorem qx (hx:ev g E x=some v):OpV c g E L ⟨d, .assign x,ty,pos,af,gu⟩ v:= .mk fun a w hE hg hS=>by
  simp[execOp,hE.ev hg hx]
theorem gM {c:Cx}{E:Env}{L:List HProp}{K:List KI}{d:Tmp}{x:Operand}{ty:TypeId}{pos:String}{af:Array Edge}{all rest:List Oper}{v:Value}(h:(if dOk c.n d E=true then ev none E x else none)=some v)(k:G c (.ops all rest::K) ((d,none,v)::E) L):G c (.ops all (⟨some d, .move x,ty,pos,af,none⟩::rest)::K) E L:=by
  split at h
  · rename_i hd;exact g_v (qp h) hd k
  · cases h
theorem gA {c:Cx}{E:Env}{L:List HProp}{K:List KI}{d:Tmp}{x:Operand}{ty:TypeId}{pos:String}{af:Array Edge}{all rest:List Oper}{v:Value}(h:(if dOk c.n d E=true then ev none E x else none)=some v)(k:G c (.ops all rest::K) ((d,none,v)::E) L):G c (.ops all (⟨some d, .assign x,ty,pos,af,none⟩::rest)::K) E L:=by
  split at h
  · rename_i hd;exact g_v (qx h) hd k
  · cases h
theorem dM {c:Cx}{E:Env}{L Lf:List HProp}{K:List KI}{d:Tmp}{x:Operand}{ty:TypeId}{pos:String}{af:Array Edge}{all:List Oper}{pl:List (Nat×Bool)}{v:Value}{i:Nat}(hi:all[i]? =some ⟨some d, .move x,ty,pos,af,none⟩)[SC:Sub L Lf](h:ev none E x=some v)(hd:dOk c.n d E=true)(k:G c (.plan all (fun w=>Sat c.w0 w Lf) pl::K) ((d,none,v)::E) L):G c (.plan all (fun w=>Sat c.w0 w Lf) ((i,false)::pl)::K) E L:=d_v hi (qp h) hd k
theorem gS {c:Cx}{E:Env}{L:List HProp}{K:List KI}{id:Nat}{l:List Oper}{y:Code}(h:G c (.ops l l:: .code y::K) E L):G c (.code (.seq (.region id l.toArray false) y)::K) E L:=qf (qo h)
theorem zaH {s:Nat}{b b2:Bool}(hz:look g E s=some (.bool b))(hy:ev (some (s,false)) E y=some (.bool b2)):OpV c g E L ⟨d, .pick (.tmp s) (.const (.bool true)) y,ty,pos,af,gu⟩ (.bool (b || b2)):= .mk fun a w hE hg hS=>by
  have h1:=hE.look hg hz;have h2:a.eval (.tmp s)= .bool b:=(by simp[Act.eval,Array.getD_eq_getD_getElem?,h1]);simp only[execOp,h2,asBool];cases b with
  | true=>simp[Act.eval]
  | false=>
    have hg2:gd (some (s,false)) a:=fun j b' e=>(by injection e with e;injection e with e1 e2;subst e1 e2;exact h1);simp[hE.ev hg2 hy]
theorem zas {s:Nat}{b b2:Bool}(hz:look g E s=some (.bool b))(hy:ev (some (s,true)) E y=some (.bool b2)):OpV c g E L ⟨d, .pick (.tmp s) y (.const (.bool false)),ty,pos,af,gu⟩ (.bool (b && b2)):= .mk fun a w hE hg hS=>by
  have h1:=hE.look hg hz;have h2:a.eval (.tmp s)= .bool b:=(by simp[Act.eval,Array.getD_eq_getD_getElem?,h1]);simp only[execOp,h2,asBool];cases b with
  | false=>simp[Act.eval]
  | true=>
    have hg2:gd (some (s,true)) a:=fun j b' e=>(by injection e with e;injection e with e1 e2;subst e1 e2;exact h1);simp[hE.ev hg2 hy]
theorem qu (hx:ev g E x=some (.int k a))(hy:ev g E y=some (.int k b))(hr:k.wrap (a+b)=r):OpV c g E L ⟨d, .binOp .add t x y yt,ty,pos,af,gu⟩ (.int k r):= .mk fun _ w hE hg hS=>by
  simp[execOp,hE.ev hg hx,hE.ev hg hy,eqGuard,binOp,Op.intArith,hr]
theorem zce (hx:ev g E x=some (.int k a))(hy:ev g E y=some (.int k b))(hr:k.wrap (a - b)=r):OpV c g E L ⟨d, .binOp .sub t x y yt,ty,pos,af,gu⟩ (.int k r):= .mk fun _ w hE hg hS=>by
  simp[execOp,hE.ev hg hx,hE.ev hg hy,eqGuard,binOp,Op.intArith,hr]
theorem zdk (hx:ev g E x=some (.int k a))(hy:ev g E y=some (.int k b))(hr:k.wrap (a*b)=r):OpV c g E L ⟨d, .binOp .mul t x y yt,ty,pos,af,gu⟩ (.int k r):= .mk fun _ w hE hg hS=>by
  simp[execOp,hE.ev hg hx,hE.ev hg hy,eqGuard,binOp,Op.intArith,hr]
theorem ztp (hx:ev g E x=some (.int k a))(hy:ev g E y=some (.int k b))(h0:b≠0)(hr:k.wrap (a.tdiv b)=r):OpV c g E L ⟨d, .binOp .quo t x y yt,ty,pos,af,gu⟩ (.int k r):= .mk fun _ w hE hg hS=>by
  simp[execOp,hE.ev hg hx,hE.ev hg hy,eqGuard,binOp,Op.intDiv,hr,h0]
theorem zoP (hx:ev g E x=some (.int k a))(hy:ev g E y=some (.int k b))(h0:b≠0)(hr:a.tmod b=r):OpV c g E L ⟨d, .binOp .rem t x y yt,ty,pos,af,gu⟩ (.int k r):= .mk fun _ w hE hg hS=>by
  simp[execOp,hE.ev hg hx,hE.ev hg hy,eqGuard,binOp,Op.intDiv,hr,h0]
theorem zut {op:BinOp}(ho:op= .and∨op= .or∨op= .xor∨op= .andNot)(hx:ev g E x=some (.int k a))(hy:ev g E y=some (.int k b))(hr:∀P w,(Op.intBits op k a b).run P w= .ok v w):OpV c g E L ⟨d, .binOp op t x y yt,ty,pos,af,gu⟩ v:= .mk fun _ w hE hg hS=>by
  rcases ho with rfl | rfl | rfl | rfl <;> simp[execOp,hE.ev hg hx,hE.ev hg hy,eqGuard,binOp,hr]
theorem zuT {k2:IntKind}(hx:ev g E x=some (.int k a))(hy:ev g E y=some (.int k2 b))(h0:¬b<0)(hr:k.wrap (a*2 ^ (min b.toNat k.bits))=r):OpV c g E L ⟨d, .binOp .shl t x y yt,ty,pos,af,gu⟩ (.int k r):= .mk fun _ w hE hg hS=>by
  simp[execOp,hE.ev hg hx,hE.ev hg hy,eqGuard,binOp,Op.shift,hr,h0]
theorem zd4 {k2:IntKind}(hx:ev g E x=some (.int k a))(hy:ev g E y=some (.int k2 b))(h0:¬b<0)(hr:a.fdiv (2 ^ (min b.toNat k.bits))=r):OpV c g E L ⟨d, .binOp .shr t x y yt,ty,pos,af,gu⟩ (.int k r):= .mk fun _ w hE hg hS=>by
  simp[execOp,hE.ev hg hx,hE.ev hg hy,eqGuard,binOp,Op.shift,hr,h0]
theorem qJ (hx:ev g E x=some (.int k a))(hy:ev g E y=some (.int k b)):OpV c g E L ⟨d, .binOp .lss t x y yt,ty,pos,af,gu⟩ (.bool (decide (a<b))):= .mk fun _ w hE hg hS=>by
  simp[execOp,hE.ev hg hx,hE.ev hg hy,eqGuard,binOp,Op.intCmp]
theorem zxC (hx:ev g E x=some (.int k a))(hy:ev g E y=some (.int k b)):OpV c g E L ⟨d, .binOp .leq t x y yt,ty,pos,af,gu⟩ (.bool (decide (a≤b))):= .mk fun _ w hE hg hS=>by
  simp[execOp,hE.ev hg hx,hE.ev hg hy,eqGuard,binOp,Op.intCmp]
theorem yA (hx:ev g E x=some (.int k a))(hy:ev g E y=some (.int k b)):OpV c g E L ⟨d, .binOp .gtr t x y yt,ty,pos,af,gu⟩ (.bool (decide (b<a))):= .mk fun _ w hE hg hS=>by
  simp[execOp,hE.ev hg hx,hE.ev hg hy,eqGuard,binOp,Op.intCmp]
theorem zig (hx:ev g E x=some (.int k a))(hy:ev g E y=some (.int k b)):OpV c g E L ⟨d, .binOp .geq t x y yt,ty,pos,af,gu⟩ (.bool (decide (b≤a))):= .mk fun _ w hE hg hS=>by
  simp[execOp,hE.ev hg hx,hE.ev hg hy,eqGuard,binOp,Op.intCmp]
theorem wh (hx:ev g E x=some (.int k a))(hy:ev g E y=some (.int k b)):OpV c g E L ⟨d, .binOp .eql t x y yt,ty,pos,af,gu⟩ (.bool (decide (a=b))):= .mk fun _ w hE hg hS=>by
  simp[execOp,hE.ev hg hx,hE.ev hg hy,eqGuard,binOp,Op.intCmp,zt1]
theorem zd2 (hx:ev g E x=some (.int k a))(hy:ev g E y=some (.int k b)):OpV c g E L ⟨d, .binOp .neq t x y yt,ty,pos,af,gu⟩ (.bool (!decide (a=b))):= .mk fun _ w hE hg hS=>by
  simp[execOp,hE.ev hg hx,hE.ev hg hy,eqGuard,binOp,Op.intCmp,bne,zt1]
variable {p q:List UInt8}
theorem zqw (p q:List UInt8):(⟨⟨p⟩⟩:ByteArray)++⟨⟨q⟩⟩=⟨⟨p++q⟩⟩:=ByteArray.ext (by simp)
theorem wN (hx:ev g E x=some (Str p))(hy:ev g E y=some (Str q))(h:p.length+q.length≤9223372036854775807):OpV c g E L ⟨d, .binOp .add t x y yt,ty,pos,af,gu⟩ (Str (p++q)):= .mk fun _ w hE hg hS=>by
  have h1:¬((((⟨⟨p⟩⟩:ByteArray).size+(⟨⟨q⟩⟩:ByteArray).size:Nat):Int) > IntKind.i64.max):=by
    simp only[ByteArray.size,List.size_toArray,IntKind.max,IntKind.signed,IntKind.bits];simp;omega
  simp only[execOp,hE.ev hg hx,hE.ev hg hy,eqGuard,binOp,Op.stringOp];rw[if_neg h1];simp[zqw]
theorem zaF (hx:ev g E x=some (Str p))(hy:ev g E y=some (Str q)):OpV c g E L ⟨d, .binOp .eql t x y yt,ty,pos,af,gu⟩ (.bool (decide (p=q))):= .mk fun _ w hE hg hS=>by
  simp[execOp,hE.ev hg hx,hE.ev hg hy,eqGuard,binOp,Op.stringOp,zt1]
theorem zhj (hx:ev g E x=some (Str p))(hy:ev g E y=some (Str q)):OpV c g E L ⟨d, .binOp .neq t x y yt,ty,pos,af,gu⟩ (.bool (!decide (p=q))):= .mk fun _ w hE hg hS=>by
  simp[execOp,hE.ev hg hx,hE.ev hg hy,eqGuard,binOp,Op.stringOp,zt1]
theorem zx0 (hx:ev g E x=some (Str p))(hy:ev g E y=some (Str q)):OpV c g E L ⟨d, .binOp .leq t x y yt,ty,pos,af,gu⟩ (.bool (Op.bytesLess p q || decide (p=q))):= .mk fun _ w hE hg hS=>by
  simp[execOp,hE.ev hg hx,hE.ev hg hy,eqGuard,binOp,Op.stringOp,zt1]
theorem wo {b:Bool}(hx:ev g E x=some (.bool b)):OpV c g E L ⟨d, .unOp .not t x,ty,pos,af,gu⟩ (.bool (!b)):= .mk fun _ w hE hg hS=>by
  simp[execOp,hE.ev hg hx,Op.unary]
theorem yU {ds:TypeDesc}{k2:IntKind}(hs:c.P.underlying t=some ds)(hd:c.P.underlying u=some (.int k))(hx:ev g E x=some (.int k2 a))(hr:k.wrap a=r):OpV c g E L ⟨d, .convert t u x,ty,pos,af,gu⟩ (.int k r):= .mk fun _ w hE hg hS=>by
  simp[execOp,hE.ev hg hx,convert,underlying,program,Sem.run,hs,hd,Conv.intToInt,hr]
theorem qB {ds:TypeDesc}(hs:c.P.underlying t=some ds)(hi:(match ds with | .interface _=>false | _=>true)=true)(hx:ev g E x=some v):OpV c g E L ⟨d, .makeInterface t x,ty,pos,af,gu⟩ (.iface t v):= .mk fun _ w hE hg hS=>by
  simp only[execOp,hE.ev hg hx,Instr.makeInterface,underlying,program,Sem.run_bind,Sem.run,hs,Result.andThen_ok,Sem.run_pure];cases ds <;> first | rfl | (cases hi)
theorem qd {vs:Array Value}{i:Nat}(hx:ev g E x=some (.tuple vs))(hv:vs[i]? =some v):OpV c g E L ⟨d, .extract x i,ty,pos,af,gu⟩ v:= .mk fun _ w hE hg hS=>by
  simp[execOp,hE.ev hg hx,Instr.extract,hv]
theorem qc {p:Addr}(hx:ev g E x=some (.pointer (some p))):OpV c g E L ⟨d, .nilCheck x,ty,pos,af,gu⟩ (.pointer (some p)):= .mk fun _ w hE hg hS=>by
  simp[execOp,hE.ev hg hx]
theorem wQ {fn:Fn}{xs ys:List Operand}{vs us:List Value}(hx:evs g E xs=some vs)(hy:evs g E ys=some us):OpV c g E L ⟨d, .makeFunc fn xs.toArray ys.toArray,ty,pos,af,gu⟩ (.func fn vs.toArray us.toArray):= .mk fun _ w hE hg hS=>by
  simp[execOp,hE.evs hg hx,hE.evs hg hy,Instr.makeFunc]
end
end Go.Sl
namespace Go.Sl
def sl (s:Option Addr)(n cap:Nat):Value:= .slice s n cap
def adr (s:Option Addr)(i:Nat):Value:= .pointer (s.map fun p=>p.add i)
def yl:Obj→Nat→Option Value
  | .cells cs _ _,i=>cs[i]?
  | _,_=>none
def Rows (o:Obj)(off sz:Nat)(rows:List (List Value)):Prop:=∀j row,rows[j]? =some row→∀f v,row[f]? =some v→yl o (off+(j*sz+f))=some v
def roL (sz:Nat)(s:Option Addr)(rows:List (List Value)):HProp:=fun m=>rows=[]∨∃b off o,s=some ⟨b,off,none⟩∧m b=some (o,true)∧Rows o off sz rows
def owL (T sz:Nat)(s:Option Addr)(cap:Nat)(rows:List (List Value)):HProp:=fun m=>(s=none∧rows=[]∧cap=0)∨
  ∃b cs,s=some ⟨b,0,none⟩∧m b=some (.cells cs T (0,0),false)∧cs.size=cap*sz∧rows.length≤cap∧(∀row∈rows,row.length=sz)∧Rows (.cells cs T (0,0)) 0 sz rows
theorem Pers.roL (sz:Nat)(s:Option Addr)(rows:List (List Value)):Pers (roL sz s rows):=fun m h=>by
  rcases h with rfl | ⟨b,off,o,rfl,hm,hr⟩
  · exact ⟨fun _=>none,(fun b x hx=>nomatch hx),(fun b x hx=>nomatch hx), .inl rfl⟩
  · refine ⟨Res.one b (o,true),fun c x hx=>?_,fun c x hx=>?_, .inr ⟨b,off,o,rfl,Res.one_self,hr⟩⟩
    · obtain ⟨rfl,rfl⟩:=Res.one_eq hx;exact hm
    · obtain ⟨rfl,rfl⟩:=Res.one_eq hx;rfl
theorem za1 {w:World}{b i:Nat}{o:Obj}{v:Value}(h:w.heap[b]? =some o)(hc:yl o i=some v):w.cell? ⟨b,i,none⟩=some v:=by
  unfold World.cell?;simp only[h];cases o <;> simp[yl] at hc ⊢;exact hc
class SlR (L:List HProp) (s:Option Addr) (sz:outParam Nat) (rows:outParam (List (List Value))):Prop where
  out:∀w0 w,Sat w0 w L→rows=[]∨∃b off o,s=some ⟨b,off,none⟩∧w.heap[b]? =some o∧Rows o off sz rows
instance (priority:=high) SlR.ro {sz:Nat}{s:Option Addr}{rows:List (List Value)}{L:List HProp}:SlR (roL sz s rows::L) s sz rows:=⟨fun w0 w h=>by
  obtain ⟨_,_,_,_,f,hf,_⟩:=h;have:=hf 0 _ rfl;rcases this.1 with h | ⟨b,off,o,h1,h2,h3⟩
  · exact .inl h
  · exact .inr ⟨b,off,o,h1,this.2 b _ h2,h3⟩⟩
instance (priority:=high) SlR.ow {T sz cap:Nat}{s:Option Addr}{rows:List (List Value)}{L:List HProp}:SlR (owL T sz s cap rows::L) s sz rows:=⟨fun w0 w h=>by
  obtain ⟨_,_,_,_,f,hf,_⟩:=h;have:=hf 0 _ rfl;rcases this.1 with ⟨_,h,_⟩ | ⟨b,cs,h1,h2,h3,h4,h5,h6⟩
  · exact .inl h
  · exact .inr ⟨b,0,_,h1,this.2 b _ h2,h6⟩⟩
instance (priority:=low) SlR.tail {A:HProp}{sz:Nat}{s:Option Addr}{rows:List (List Value)}{L:List HProp}[h:SlR L s sz rows]:SlR (A::L) s sz rows:=⟨fun w0 w hS=>h.out w0 w hS.tail⟩
theorem zaV (b o n:Nat):(⟨b,o,none⟩:Addr).add n=⟨b,o+n,none⟩:=by
  unfold Addr.add;split
  · subst_vars;rfl
  · rfl
section
variable {c:Cx}{g:Option (Nat×Bool)}{E:Env}{L:List HProp}{d:Option Tmp}{ty:TypeId}{pos:String}{af:Array Edge}{gu:Option (Nat×Bool)}
variable {x y z:Operand}{t u e:TypeId}{k:IntKind}{v:Value}{s:Option Addr}{b o i j n sz cap off:Nat}
theorem yo {s:Option Addr}(hu:c.P.underlying t=some (.slice e))(hx:ev g E x=some (.slice s n cap)):OpV c g E L ⟨d, .call {callee:= .builtin .len,args:=#[x],argTypes:=#[t]},ty,pos,af,gu⟩ (I n):= .mk fun a w hE hg hS=>by
  simp[execOp,resolve,invoke,builtin,Builtin.len_,underlying,program,Sem.run,hu,hE.ev hg hx,goInt]
theorem wi {p:List UInt8}(hu:c.P.underlying t=some .string)(hx:ev g E x=some (Str p)):OpV c g E L ⟨d, .call {callee:= .builtin .len,args:=#[x],argTypes:=#[t]},ty,pos,af,gu⟩ (I p.length):= .mk fun a w hE hg hS=>by
  have hs:(⟨⟨p⟩⟩:ByteArray).size=p.length:=rfl;simp only[execOp,resolve,invoke,builtin,Builtin.len_];simp[underlying,program,Sem.run,hu,hE.ev hg hx,goInt,hs]
theorem qa {fs:Array Field}{f:Field}(off:Nat)(hu:c.P.underlying t=some (.struct fs))(hf:fs[i]? =some f)(ho:f.offset=off)(hz:∀w,(sizeOf f.type).run c.P w= .ok sz w)(hn:sz≠0)(hx:ev g E x=some (ptr b o)):
    OpV c g E L ⟨d, .fieldAddr t x i,ty,pos,af,gu⟩ (ptr b (o+off)):= .mk fun a w hE hg hS=>by
  simp[execOp,hE.ev hg hx,Instr.fieldAt,underlying,program,Sem.run,hu,hf,Instr.sureAddr,fieldPlace,hz,hn,zaV,ho]
theorem zoA {fs:Array Field}{f:Field}(off:Nat)(hu:c.P.underlying t=some (.struct fs))(hf:fs[i]? =some f)(ho:f.offset=off)(hz:∀w,(sizeOf f.type).run c.P w= .ok sz w)(hn:sz≠0){k:Nat}(hx:ev g E x=some (adr (some ⟨b,o,none⟩) k)):
    OpV c g E L ⟨d, .fieldAddr t x i,ty,pos,af,gu⟩ (adr (some ⟨b,o,none⟩) (k+off)):= .mk fun a w hE hg hS=>by
  simp[execOp,hE.ev hg hx,Instr.fieldAt,underlying,program,Sem.run,hu,hf,Instr.sureAddr,fieldPlace,hz,hn,zaV,ho,adr,Nat.add_assoc]
theorem ye {fs:Array Field}{f:Field}{rows:List (List Value)}{sz' k:Nat}(off:Nat)(hu:c.P.underlying t=some (.struct fs))(hf:fs[i]? =some f)(ho:f.offset=off)(hz:∀w,(sizeOf f.type).run c.P w= .ok sz w)(hn:sz≠0)
    (hx:ev g E x=some (adr s k)) [h:SlR L s sz' rows] (hne:j<rows.length):OpV c g E L ⟨d, .fieldAddr t x i,ty,pos,af,gu⟩ (adr s (k+off)):= .mk fun a w hE hg hS=>by
  rcases h.out _ _ hS with h | ⟨b,o,_,rfl,_⟩
  · subst h;simp at hne
  · exact (zoA off hu hf ho hz hn hx).out a w hE hg hS
theorem qA {rows:List (List Value)}{q:Int}{sz':Nat}(j:Nat)(hu:c.P.underlying t=some (.slice e))(hz:∀w,(sizeOf e).run c.P w= .ok sz w)(hx:ev g E x=some (sl s n cap))(hy:ev g E y=some (.int k q))(hj:q=(j:Int))(hlt:j<n)
    [h:SlR L s sz' rows] (hlr:j<rows.length):OpV c g E L ⟨d, .indexAddr t x y,ty,pos,af,gu⟩ (adr s (j*sz)):= .mk fun a w hE hg hS=>by
  subst hj;rcases h.out _ _ hS with h | ⟨b,o,_,rfl,_⟩
  · subst h;simp at hlr
  · have:(j:Int)<(n:Int):=(by omega);simp[execOp,hE.ev hg hx,hE.ev hg hy,Instr.indexAt,underlying,program,Sem.run,hu,sl,adr,asIntOf,this,hlt,hz,zaV]
theorem zcx {q:Int}(j:Nat)(hu:c.P.underlying t=some (.array n e))(hz:∀w,(sizeOf e).run c.P w= .ok sz w)(hx:ev g E x=some (ptr b o))(hy:ev g E y=some (.int k q))(hj:q=(j:Int))(hlt:j<n):
    OpV c g E L ⟨d, .indexAddr t x y,ty,pos,af,gu⟩ (ptr b (o+j*sz)):= .mk fun a w hE hg hS=>by
  subst hj;have:(j:Int)<(n:Int):=(by omega);simp[execOp,hE.ev hg hx,hE.ev hg hy,Instr.indexAt,underlying,program,Sem.run,hu,asIntOf,Instr.sureAddr,this,hlt,hz,zaV]
theorem zch {q:Int}{cs:Array Value}(j:Nat)(hu:c.P.underlying t=some (.array n e))(hz:∀w,(sizeOf e).run c.P w= .ok 1 w)(ha:∀w,(isAgg e).run c.P w= .ok false w)(hx:ev g E x=some (.agg cs))(hy:ev g E y=some (.int k q))(hj:q=(j:Int))(hlt:j<n)
    (hv:cs[j]? =some v):OpV c g E L ⟨d, .index t x y,ty,pos,af,gu⟩ v:= .mk fun a w hE hg hS=>by
  subst hj;have:(j:Int)<(n:Int):=(by omega);simp[execOp,hE.ev hg hx,hE.ev hg hy,Instr.index,underlying,program,Sem.run,hu,asIntOf,this,hlt,hz,part,ha,hv]
theorem qW {q:Int}{p:List UInt8}{r:UInt8}(j:Nat)(hu:c.P.underlying t=some .string)(hx:ev g E x=some (Str p))(hy:ev g E y=some (.int k q))(hj:q=(j:Int))(hv:p[j]? =some r):
    OpV c g E L ⟨d, .index t x y,ty,pos,af,gu⟩ (By r.toNat):= .mk fun a w hE hg hS=>by
  subst hj;have hlt:=(List.getElem?_eq_some_iff.1 hv).1;have:(⟨⟨p⟩⟩:ByteArray)[j]? =some r:=by
    rw[getElem?_pos (⟨⟨p⟩⟩:ByteArray) j hlt];have:=(List.getElem?_eq_some_iff.1 hv).2;exact congrArg some this
  simp[execOp,hE.ev hg hx,hE.ev hg hy,Instr.index,underlying,program,Sem.run,hu,asIntOf,this]
theorem zrT {fs:Array Field}{f:Field}{cs:Array Value}(hu:c.P.underlying t=some (.struct fs))(hf:fs[i]? =some f)(ha:∀w,(isAgg f.type).run c.P w= .ok false w)(hx:ev g E x=some (.agg cs))(hv:cs[f.offset]? =some v):
    OpV c g E L ⟨d, .field t x i,ty,pos,af,gu⟩ v:= .mk fun a w hE hg hS=>by
  simp[execOp,hE.ev hg hx,Instr.field,underlying,program,Sem.run,hu,hf,asAgg,part,ha,hv]
theorem zmN {w:World}{a:Addr}{P:Program}(h:w.cell? a=some v):(load a).run P w= .ok v w:=by simp[load,Sem.run,h]
theorem qe {ob:Obj}(ha:∀w,(isAgg t).run c.P w= .ok false w)(hx:ev g E x=some (ptr b o))[h:Has L b ob](hv:yl ob o=some v):OpV c g E L ⟨d, .load t x,ty,pos,af,gu⟩ v:= .mk fun a w hE hg hS=>by
  have:=za1 (h.out _ _ hS) hv;simp[execOp,hE.ev hg hx,Instr.loadAt,Instr.sureAddr,loadVar,load,Sem.run,ha,this]
theorem wC {rows:List (List Value)}{row:List Value}{f:Nat}(ha:∀w,(isAgg t).run c.P w= .ok false w)(hx:ev g E x=some (adr s (j*sz+f)))[h:SlR L s sz rows](hr:rows[j]? =some row)(hv:row[f]? =some v):OpV c g E L ⟨d, .load t x,ty,pos,af,gu⟩ v:= .mk fun a w hE hg hS=>by
  rcases h.out _ _ hS with h | ⟨b,o,ob,rfl,hh,hR⟩
  · subst h;cases hr
  · have:=za1 hh (hR j row hr f v hv);simp[execOp,hE.ev hg hx,Instr.loadAt,Instr.sureAddr,loadVar,load,Sem.run,ha,adr,zaV,this]
theorem yd {rows:List (List Value)}{row:List Value}(ha:∀w,(isAgg t).run c.P w= .ok false w)(hx:ev g E x=some (adr s (j*sz)))[h:SlR L s sz rows](hr:rows[j]? =some row)(hv:row[0]? =some v):OpV c g E L ⟨d, .load t x,ty,pos,af,gu⟩ v:=
  wC (f:=0) ha hx hr hv
theorem wI {P:Program}{w:World}(b:Nat):∀(n i o:Nat) (acc:Array Value) (vs:List Value),vs.length=n→(∀k v,vs[k]? =some v→w.cell? ⟨b,o+(i+k),none⟩=some v)→
    (loadCellsFrom ⟨b,o,none⟩ i n acc).run P w= .ok (acc++vs.toArray) w
  | 0,i,o,acc,vs,hl,_=>by
    have:vs=[]:=List.length_eq_zero_iff.1 hl;subst this;simp[loadCellsFrom]
  | n+1,i,o,acc,vs,hl,h=>by
    match vs,hl with
    | v::vs,hl=>
      have h0:=h 0 v rfl;have ih:=wI (P:=P) b n (i+1) o (acc.push v) vs (by simpa using hl) (fun k u hk=>by
        have:=h (k+1) u (by simpa using hk)
        rwa [show o+(i+(k+1))=o+(i+1+k) by omega] at this)
      simp only[loadCellsFrom,Sem.run_bind,zaV,Nat.add_zero] at h0 ⊢;rw[zmN h0];simp only[Result.andThen_ok,ih];simp
theorem qI {ob:Obj}{vs:List Value}(ha:∀w,(isAgg t).run c.P w= .ok true w)(hz:∀w,(sizeOf t).run c.P w= .ok sz w)(hx:ev g E x=some (ptr b o))[h:Has L b ob](hl:vs.length=sz)(hv:∀k v,vs[k]? =some v→yl ob (o+k)=some v):
    OpV c g E L ⟨d, .load t x,ty,pos,af,gu⟩ (.agg vs.toArray):= .mk fun a w hE hg hS=>by
  have hh:=h.out _ _ hS;have:=wI (P:=c.P) (w:=w) b sz 0 o #[] vs hl (fun k v hk=>by simpa using za1 hh (hv k v hk));simp[execOp,hE.ev hg hx,Instr.loadAt,Instr.sureAddr,loadVar,ha,hz,loadCells,this]
theorem ym {rows:List (List Value)}{row:List Value}(ha:∀w,(isAgg t).run c.P w= .ok true w)(hz:∀w,(sizeOf t).run c.P w= .ok sz w)(hx:ev g E x=some (adr s (j*sz)))[h:SlR L s sz rows](hr:rows[j]? =some row)(hl:row.length=sz):
    OpV c g E L ⟨d, .load t x,ty,pos,af,gu⟩ (.agg row.toArray):= .mk fun a w hE hg hS=>by
  rcases h.out _ _ hS with h | ⟨b,o,ob,rfl,hh,hR⟩
  · subst h;cases hr
  · have:=wI (P:=c.P) (w:=w) b sz 0 (o+j*sz) #[] row hl (fun k v hk=>by
      have:=za1 hh (hR j row hr k v hk);simpa [Nat.add_assoc] using this)
    simp[execOp,hE.ev hg hx,Instr.loadAt,Instr.sureAddr,loadVar,ha,hz,loadCells,adr,zaV,this]
end
end Go.Sl
namespace Go.Sl
def one:Value→Bool
  | .agg _=>false
  | .tuple _=>false
  | _=>true
def ones:List Value→Bool
  | []=>true
  | v::vs=>match one v with | true=>ones vs | false=>false
theorem zdM {vs:List Value}(h:ones vs=true):∀v∈vs,one v=true:=by
  induction vs with
  | nil=>simp
  | cons v vs ih=>
    unfold ones at h;split at h
    · intro u hu;rcases List.mem_cons.1 hu with rfl | hu
      · assumption
      · exact ih h u hu
    · cases h
theorem zdb {vs:List Value}(h:∀v∈vs,one v=true):ones vs=true:=by
  induction vs with
  | nil=>rfl
  | cons v vs ih=>
    unfold ones;rw[h v (by simp)];exact ih fun u hu=>h u (by simp[hu])
def yW (cs:Array Value)(o:Nat):List Value→Array Value
  | []=>cs
  | v::vs=>yW (cs.setIfInBounds o v) (o+1) vs
theorem wH (cs:Array Value)(o:Nat)(vs:List Value):(yW cs o vs).size=cs.size:=by
  induction vs generalizing cs o with
  | nil=>rfl
  | cons v vs ih=>simp[yW,ih]
theorem zaU (cs:Array Value)(o:Nat)(vs:List Value)(h:o+vs.length≤cs.size)(i:Nat):(yW cs o vs)[i]? =if o≤i∧i<o+vs.length then vs[i - o]? else cs[i]? :=by
  induction vs generalizing cs o with
  | nil=>simp[yW];omega
  | cons v vs ih=>
    simp only[yW];rw[ih _ _ (by simp at h ⊢;omega)];simp at h ⊢;by_cases h1:i=o
    · subst h1;have:i<cs.size:=(by omega);simp[this];omega
    · by_cases h2:o+1≤i∧i<o+1+vs.length
      · have h3:o≤i∧i<o+(vs.length+1):=(by omega);rw[if_pos h2,if_pos h3];obtain ⟨k,rfl⟩:∃k,i=o+1+k:=⟨i - (o+1),by omega⟩;simp[show o+1+k - (o+1)=k by omega,show o+1+k - o=k+1 by omega]
      · have h3:¬(o≤i∧i<o+(vs.length+1)):=(by omega);rw[if_neg h2,if_neg h3,Array.getElem?_setIfInBounds_ne (by omega)]
def zfj (w:World)(b:Nat)(o:Obj):World:={w with heap:=w.heap.setIfInBounds b o}
theorem zry {P:Program}{w:World}{b i:Nat}{cs:Array Value}{T:TypeId}{v:Value}(h:w.heap[b]? =some (.cells cs T (0,0)))(hi:i<cs.size)(h1:one v=true):
    (store ⟨b,i,none⟩ v).run P w= .ok () (zfj w b (.cells (cs.setIfInBounds i v) T (0,0))):=by
  have hc:w.cell? ⟨b,i,none⟩=some cs[i]:=za1 h (by simp[yl,hi]);have hf:w.frozen? ⟨b,i,none⟩=false:=(by simp[World.frozen?,h]);have hs:w.setCell ⟨b,i,none⟩ v=zfj w b (.cells (cs.setIfInBounds i v) T (0,0)):=by
    unfold World.setCell zfj;congr 1;apply Array.ext_getElem?;intro k;rw[Array.getElem?_modify,Array.getElem?_setIfInBounds];have hlt:=(Array.getElem?_eq_some_iff.1 h).1;by_cases hk:b=k
    · subst hk;have he:=(Array.getElem?_eq_some_iff.1 h).2;simp[hlt,he]
    · simp[hk]
  show Sem.run P (Sem.store .plain ⟨b,i,none⟩ v (.pure ())) w=_;cases v <;> first | (cases h1;done) | simp[Sem.run,hc,hf,hs]
theorem yJ {P:Program}(b o:Nat)(T:TypeId):∀(vs:List Value) (w:World) (cs:Array Value) (i:Nat),w.heap[b]? =some (.cells cs T (0,0))→o+i+vs.length≤cs.size→ones vs=true→
    (storeCells ⟨b,o,none⟩ vs i).run P w= .ok () (zfj w b (.cells (yW cs (o+i) vs) T (0,0)))
  | [],w,cs,i,h,_,_=>by
    have:zfj w b (.cells cs T (0,0))=w:=by
      unfold zfj;have hlt:=(Array.getElem?_eq_some_iff.1 h).1;have he:=(Array.getElem?_eq_some_iff.1 h).2;have:w.heap.setIfInBounds b (.cells cs T (0,0))=w.heap:=by
        apply Array.ext_getElem?;intro k;rw[Array.getElem?_setIfInBounds];by_cases hk:b=k
        · subst hk;simp[h,hlt,he]
        · simp[hk]
      rw[this]
    simp[storeCells,yW,this]
  | v::vs,w,cs,i,h,hi,h1=>by
    have hv:=zdM h1;have hs:=zry (P:=P) (i:=o+i) h (by simp at hi;omega) (hv v (by simp));have hlt:=(Array.getElem?_eq_some_iff.1 h).1;have ih:=yJ (P:=P) b o T vs (zfj w b (.cells (cs.setIfInBounds (o+i) v) T (0,0))) (cs.setIfInBounds (o+i) v) (i+1) (by simp[zfj,hlt]) (by simp at hi ⊢;omega) (zdb fun u hu=>hv u (by simp[hu]));unfold storeCells;rw[Sem.run_bind,zaV,hs];simp only[Result.andThen_ok];rw[ih];simp[yW,zfj,Nat.add_assoc]
section
variable {c:Cx}{g:Option (Nat×Bool)}{E:Env}{L L':List HProp}{d:Option Tmp}{ty:TypeId}{pos:String}{af:Array Edge}{gu:Option (Nat×Bool)}
variable {x y z:Operand}{t u e:TypeId}{k:IntKind}{v:Value}{s:Option Addr}{b o i j n sz cap off:Nat}
theorem OpL.of_run {op:Op}{N:Value→List HProp→Prop}(h:∀a w,EOk c.n E a→gd g a→Sat c.w0 w L→∃v w' L',(execOp a.eval ⟨d,op,ty,pos,af,gu⟩).run c.P w= .ok (.value v) w'∧Sat c.w0 w' L'∧N v L'):OpL c g E L ⟨d,op,ty,pos,af,gu⟩ N:=by
  constructor;intro a w hE hg hS nx Q hn;obtain ⟨v,w',L',h1,h2,h3⟩:=h a w hE hg hS;unfold Oper.wp;rw[h1];exact hn v w' L' h2 h3
theorem OpL.of_skip {op:Op}{N:Value→List HProp→Prop}(h:∀a w,EOk c.n E a→gd g a→Sat c.w0 w L→∃w' L',(execOp a.eval ⟨d,op,ty,pos,af,gu⟩).run c.P w= .ok .skip w'∧Sat c.w0 w' L'∧N undef L'):OpL c g E L ⟨d,op,ty,pos,af,gu⟩ N:=by
  constructor;intro a w hE hg hS nx Q hn;obtain ⟨w',L',h1,h2,h3⟩:=h a w hE hg hS;unfold Oper.wp;rw[h1];exact hn undef w' L' h2 h3
theorem qy (cs:Array Value)(hz:∀w,(zeroValue t).run c.P w= .ok (.agg cs) w):OpL c g E L ⟨d, .alloc t,ty,pos,af,gu⟩ fun v L'=>∃b,v=ptr b 0∧L'=pt b (.cells cs t (0,0))::L:=
  .of_run fun a w hE hg hS=>⟨ptr w.heap.size 0,_,_,by simp[execOp,Instr.alloc,hz,newVar,newRow,newObj,Sem.run,Value.cells],hS.alloc _,_,rfl,rfl⟩
theorem zeP (zv:Value)(hz:∀w,(zeroValue t).run c.P w= .ok zv w)(h1:one zv=true):OpL c g E L ⟨d, .alloc t,ty,pos,af,gu⟩ fun v L'=>∃b,v=ptr b 0∧L'=pt b (.cells #[zv] t (0,0))::L:=
  .of_run fun a w hE hg hS=>⟨ptr w.heap.size 0,_,_,by
    have hvc:zv.cells=#[zv]:=(by cases zv <;> first | rfl | cases h1);simp[execOp,Instr.alloc,hz,newVar,newRow,newObj,Sem.run,hvc],hS.alloc _,_,rfl,rfl⟩
theorem wR (cs:Array Value)(hx:ev g E x=some v)(hc:v.cells=cs):OpL c g E L ⟨d, .box t x,ty,pos,af,gu⟩ fun v L'=>∃b,v=ptr b 0∧L'=pt b (.cells cs t (0,0))::L:=
  .of_run fun a w hE hg hS=>⟨ptr w.heap.size 0,_,_,by simp[execOp,hE.ev hg hx,Instr.box,newVar,newRow,newObj,Sem.run,hc],hS.alloc _,_,rfl,rfl⟩
theorem Upd.sat {w0 w:World}{o o':Obj}(U:Upd L b o o' L')(h:Sat w0 w L):Sat w0 (zfj w b o') L'∧w.heap[b]? =some o:=by
  obtain ⟨i,h1,rfl⟩:=U.out;exact ⟨h.setAt h1,(h.front h1).at_⟩
theorem qH {cs:Array Value}{T:TypeId}(cs':Array Value)(hz:∀w,(sizeOf t).run c.P w= .ok 1 w)(hx:ev g E x=some (ptr b o))(hy:ev g E y=some v)(h1:one v=true)[hh:Has L b (.cells cs T (0,0))](hlt:o<cs.size)(hcs:cs.setIfInBounds o v=cs')[U:Upd L b (.cells cs T (0,0)) (.cells cs' T (0,0)) L']:
    OpL c g E L ⟨d, .store t x y,ty,pos,af,gu⟩ fun _ L''=>L''=L':=
  .of_skip fun a w hE hg hS=>by
    subst hcs;have hU:=U.sat hS;have hvc:v.cells=#[v]:=(by cases v <;> first | rfl | cases h1);have hr:=yJ (P:=c.P) b o T [v] w cs 0 hU.2 (by simp;omega) (by simp[ones,h1]);refine ⟨_,L',?_,hU.1,rfl⟩;simp only[execOp,hE.ev hg hx,hE.ev hg hy,Instr.storeAt,Instr.sureAddr,storeVar];simp[hz,hvc,hr,yW]
theorem qq {cs:Array Value}{T:TypeId}{vs:List Value}(cs':Array Value)(hz:∀w,(sizeOf t).run c.P w= .ok sz w)(hx:ev g E x=some (ptr b o))(hy:ev g E y=some (.agg vs.toArray))(hl:vs.length=sz)(h1:ones vs=true)[hh:Has L b (.cells cs T (0,0))](hlt:o+sz≤cs.size)(hcs:yW cs o vs=cs')[U:Upd L b (.cells cs T (0,0)) (.cells cs' T (0,0)) L']:
    OpL c g E L ⟨d, .store t x y,ty,pos,af,gu⟩ fun _ L''=>L''=L':=
  .of_skip fun a w hE hg hS=>by
    subst hcs;have hU:=U.sat hS;have hr:=yJ (P:=c.P) b o T vs w cs 0 hU.2 (by omega) h1;refine ⟨_,L',?_,hU.1,rfl⟩;simp only[execOp,hE.ev hg hx,hE.ev hg hy,Instr.storeAt,Instr.sureAddr,storeVar];simp[hz,hl,Value.cells,hr]
theorem qi {f:FuncId}{xs:List Operand}{vs:List Value}{ats:Array TypeId}{Pre F:List HProp}{R:List HProp→Value→List HProp→Prop}(hcall:∀args w,(callFunc f args).run c.P w= .ok (.enter f args) w)(hx:evs g E xs=some vs)(h:∀F,Ct c.P f vs (Pre++F) (R F))[S:Split L Pre F]:
    OpL c g E L ⟨d, .call {callee:= .value (.func f),args:=xs.toArray,argTypes:=ats},ty,pos,af,gu⟩ (R F):=by
  constructor;intro a w hE hg hS nx Q hn;unfold Oper.wp;have hr:(execOp a.eval ⟨d, .call {callee:= .value (.func f),args:=xs.toArray,argTypes:=ats},ty,pos,af,gu⟩).run c.P w= .ok (.enter f vs.toArray) w:=by
    simp[execOp,resolve,Act.eval,Deferred.ofValue,invoke,hcall,←hE.evs hg hx]
  rw[hr];refine (h F c.w0 w (S.sat hS)).mono fun e w' he=>?_;cases e with
  | returned v=>obtain ⟨L',h1,h2⟩:=he;exact hn v w' L' h1 h2
  | panicked ch=>exact he.elim
  | outgrown=>exact he.elim
end
end Go.Sl
namespace Go.Sl
theorem zkC (l:List Value):∀(off k:Nat) (cs:Array Value),(l.zipIdx k).foldl (fun cs (p:Value×Nat)=>cs.setIfInBounds (off+p.2) p.1) cs=yW cs (off+k) l:=by
  induction l with
  | nil=>intros;rfl
  | cons v l ih=>intro off k cs;simp[List.zipIdx_cons,yW,ih,Nat.add_assoc]
theorem zj3 (a cs:Array Value)(off:Nat):a.zipIdx.foldl (fun cs (p:Value×Nat)=>cs.setIfInBounds (off+p.2) p.1) cs=yW cs off a.toList:=by
  have:=zkC a.toList off 0 cs;rw[←Array.foldl_toList];simpa using this
def ze4 (k:Nat):List Value→List (Nat×Value)
  | []=>[]
  | v::vs=>(k,v)::ze4 (k+1) vs
theorem zpm (sz:Nat):∀(vs:List Value) (k:Nat) (cells:Array Value),(∀v∈vs,v.cells.size=sz)→(k+vs.length)*sz≤cells.size→
    ∃cells',Instr.fill (fun i=>some (i*sz,sz)) cells (ze4 k vs)=some cells'∧cells'.size=cells.size∧(∀j v,vs[j]? =some v→∀f u,v.cells[f]? =some u→cells'[(k+j)*sz+f]? =some u)∧(∀p,p<k*sz→cells'[p]? =cells[p]?)
  | [],k,cells,_,_=>⟨cells,rfl,rfl,fun j v h=>by simp at h,fun _ _=>rfl⟩
  | v::vs,k,cells,hv,hsz=>by
    have h0:=hv v (by simp);have hk:(k+(vs.length+1))*sz=k*sz+vs.length*sz+sz:=(by rw[Nat.add_mul,Nat.add_mul,Nat.one_mul];omega);simp only[List.length_cons] at hsz;have hlen:k*sz+sz≤cells.size:=(by omega);have hle:(k+1+vs.length)*sz≤(yW cells (k*sz) v.cells.toList).size:=by
      have e:(k+1+vs.length)*sz=k*sz+vs.length*sz+sz:=(by rw[Nat.add_mul,Nat.add_mul,Nat.one_mul];omega);rw[wH];omega
    obtain ⟨cells',h1,h2,h3,h4⟩:=zpm sz vs (k+1) (yW cells (k*sz) v.cells.toList) (fun u hu=>hv u (by simp[hu])) hle;have ek:(k+1)*sz=k*sz+sz:=(by rw[Nat.add_mul,Nat.one_mul]);refine ⟨cells',?_,by rw[h2,wH],fun j u hj f x hf=>?_,fun p hp=>?_⟩
    · unfold ze4 Instr.fill;have:¬(v.cells.size≠sz∨k*sz+v.cells.size > cells.size):=(by rw[h0];omega);have h5:=zj3 v.cells cells (k*sz);simp only[];rw[if_neg (by simpa using this)];rw[h5];exact h1
    · cases j with
      | zero=>
        simp at hj;subst hj;have hf':f<sz:=(by rw[←h0];exact (Array.getElem?_eq_some_iff.1 hf).1);rw[Nat.add_zero,h4 _ (by omega),zaU _ _ _ (by simp[h0];omega),if_pos (by simp[h0];omega)];simpa using hf
      | succ j=>
        have:=h3 j u (by simpa using hj) f x hf
        rwa [show k+(j+1)=k+1+j by omega]
    · rw[h4 p (by omega),zaU _ _ _ (by simp[h0];omega),if_neg (by omega)]
def evp (g:Option (Nat×Bool))(E:Env):Nat→List (Nat×Operand)→Option (List Value)
  | _,[]=>some []
  | k,(i,x)::ps=>match Nat.beq i k with
    | true=>match ev g E x with
      | some v=>match evp g E (k+1) ps with | some vs=>some (v::vs) | none=>none
      | none=>none
    | false=>none
theorem zuq {n:Nd}{E:Env}{a:Act}{g:Option (Nat×Bool)}(h:EOk n E a)(hg:gd g a):∀{ps:List (Nat×Operand)} {k:Nat} {vs:List Value},evp g E k ps=some vs→ps.map (fun p=>(p.1,a.eval p.2))=ze4 k vs
  | [],k,vs,hl=>by injection hl with hl;subst hl;rfl
  | (i,x)::ps,k,vs,hl=>by
    unfold evp at hl;split at hl
    · rename_i hb;have:=Nat.eq_of_beq_eq_true hb;subst this;split at hl
      · rename_i v hv;split at hl
        · rename_i us hus;injection hl with hl;subst hl;simp[ze4,h.ev hg hv,zuq h hg hus]
        · cases hl
      · cases hl
    · cases hl
section
variable {c:Cx}{g:Option (Nat×Bool)}{E:Env}{L L':List HProp}{d:Option Tmp}{ty:TypeId}{pos:String}{af:Array Edge}{gu:Option (Nat×Bool)}
variable {x y z:Operand}{t u e:TypeId}{k:IntKind}{v:Value}{s:Option Addr}{b o i j n sz cap off:Nat}
theorem qs {vs:List Value}{parts:List (Nat×Operand)}{zv:Value}(rows:List (List Value))(hu:c.P.underlying t=some (.slice e))(hz:∀w,(sizeOf e).run c.P w= .ok sz w)(hzv:∀w,(zeroValue e).run c.P w= .ok zv w)(hx:evp g E 0 parts=some vs)(hn:vs.length=n)
    (hr:vs.map (fun v=>v.cells.toList)=rows) (hsz:∀r∈rows,r.length=sz) (hb:n*sz≤16777216) (h0:0<n*sz):
    OpL c g E L ⟨d, .buildSlice t n parts.toArray,ty,pos,af,gu⟩ fun v L'=>∃b,v=sl (some ⟨b,0,none⟩) n n∧L'=owL e sz (some ⟨b,0,none⟩) n rows::L:=
  .of_run fun a w hE hg hS=>by
    have hp:=zuq hE hg hx;have hvs:∀v∈vs,v.cells.size=sz:=fun v hv=>by
      have:=hsz v.cells.toList (by rw[←hr];exact List.mem_map_of_mem hv);simpa using this
    obtain ⟨cells,h1,h2,h3,h4⟩:=zpm sz vs 0 ((Array.range (n*sz)).map (zv.cells[· % zv.cells.size]!)) hvs (by simp[hn]);have hrow:Rows (.cells cells e (0,0)) 0 sz rows:=fun j row hj f u hf=>by
      subst hr;simp only[List.getElem?_map,Option.map_eq_some_iff] at hj;obtain ⟨v,hv,rfl⟩:=hj;have:=h3 j v hv f u (by simpa using hf);simpa [yl] using this
    refine ⟨sl (some ⟨w.heap.size,0,none⟩) n n,{w with heap:=w.heap.push (.cells cells e (0,0))},owL e sz (some ⟨w.heap.size,0,none⟩) n rows::L,?_,?_,_,rfl,rfl⟩
    · have hb':¬n*sz > 2 ^ 24:=(by omega);have h0':n*sz≠0:=(by omega);simp only[execOp,Instr.buildSlice];simp[underlying,program,Sem.run,hu,hz,hzv,hb',h0',hp,h1,newRow,newObj,sl]
    · refine (hS.alloc _).weak fun m hm=> .inr ⟨_,cells,rfl,hm,by rw[h2];simp,?_,hsz,hrow⟩;rw[←hr];simp[hn]
theorem zco {sz:Nat}(h0:0<sz):∀(rows:List (List Value)),(∀r∈rows,r.length=sz)→∀k,rows.flatten[k]? =(rows[k / sz]?).bind (·[k % sz]?)
  | [],_,k=>by simp
  | r::rows,h,k=>by
    have hr:=h r (by simp);have ih:=zco h0 rows (fun u hu=>h u (by simp[hu]));simp only[List.flatten_cons];by_cases hk:k<sz
    · rw[List.getElem?_append_left (by omega),Nat.div_eq_of_lt hk,Nat.mod_eq_of_lt hk]
      rfl
    · rw[List.getElem?_append_right (by omega),hr,ih];have e1:k / sz=(k - sz) / sz+1:=(by rw[←Nat.div_eq_sub_div h0 (by omega)]);have e2:k % sz=(k - sz) % sz:=Nat.mod_eq_sub_mod (by omega);rw[e1,e2];simp
theorem wc {sz:Nat}:∀(rows:List (List Value)),(∀r∈rows,r.length=sz)→rows.flatten.length=rows.length*sz
  | [],_=>by simp
  | r::rows,h=>by
    simp[wc rows (fun u hu=>h u (by simp[hu])),h r (by simp),Nat.add_mul,Nat.add_comm]
theorem Rows.flat {ob:Obj}{off sz:Nat}{rows:List (List Value)}(h:Rows ob off sz rows)(h0:0<sz)(hl:∀r∈rows,r.length=sz){k:Nat}{v:Value}(hk:rows.flatten[k]? =some v):yl ob (off+k)=some v:=by
  rw[zco h0 rows hl] at hk;simp only[Option.bind_eq_some_iff] at hk;obtain ⟨row,h1,h2⟩:=hk;have:=h _ row h1 _ v h2
  rwa [Nat.mul_comm,Nat.div_add_mod] at this
theorem yP {w0 w:World}{T:TypeId}{rows:List (List Value)}(h:Sat w0 w (owL T sz s cap rows::L)):(s=none∧rows=[]∧cap=0∧Sat w0 w L)∨
    ∃b cs,s=some ⟨b,0,none⟩∧cs.size=cap*sz∧rows.length≤cap∧(∀row∈rows,row.length=sz)∧Rows (.cells cs T (0,0)) 0 sz rows∧Sat w0 w (pt b (.cells cs T (0,0))::L):=by
  have h':=h;obtain ⟨h1,h2,h3,h4,f,hf,hd⟩:=h;rcases (hf 0 _ rfl).1 with ⟨a1,a2,a3⟩ | ⟨b,cs,a1,a2,a3,a4,a5,a6⟩
  · exact .inl ⟨a1,a2,a3,h'.tail⟩
  · refine .inr ⟨b,cs,a1,a3,a4,a5,a6,h1,h2,h3,h4,f,fun i A hA=>?_,hd⟩;cases i with
    | zero=>simp at hA;subst hA;exact ⟨a2,(hf 0 _ rfl).2⟩
    | succ i=>exact hf (i+1) A (by simpa using hA)
theorem wY {w0 w:World}{T:TypeId}{rows:List (List Value)}{cs:Array Value}(h:Sat w0 w (pt b (.cells cs T (0,0))::L))(h1:cs.size=cap*sz)(h2:rows.length≤cap)(h3:∀row∈rows,row.length=sz)(h4:Rows (.cells cs T (0,0)) 0 sz rows):
    Sat w0 w (owL T sz (some ⟨b,0,none⟩) cap rows::L):=h.weak fun m hm=> .inr ⟨b,cs,rfl,hm,h1,h2,h3,h4⟩
theorem zvq {w0 w:World}(T sz:Nat)(h:Sat w0 w L):Sat w0 w (owL T sz none 0 []::L):=(h.pure_mk trivial).weak (A:=zcZ True) fun m _=> .inl ⟨rfl,rfl,rfl⟩
theorem zyq {w0 w:World}{T:TypeId}{rows:List (List Value)}(h:Sat w0 w (owL T sz s cap rows::L)):Sat w0 w (roL sz s rows::L):=by
  rcases yP h with ⟨rfl,rfl,rfl,h'⟩ | ⟨b,cs,rfl,a1,a2,a3,a4,h'⟩
  · exact (Sat.pure_mk (φ:=True) trivial h').weak fun m _=>Or.inl rfl
  · exact h'.freeze.weak fun m hm=> .inr ⟨b,0,_,rfl,hm,a4⟩
class OwR (L:List HProp) (s:Option Addr) (T sz cap:outParam Nat) (rows:outParam (List (List Value))) (F:outParam (List HProp)):Prop where
  out:∃i,L[i]? =some (owL T sz s cap rows)∧F=L.eraseIdx i
instance (priority:=high) OwR.head {T:Nat}{rows:List (List Value)}:OwR (owL T sz s cap rows::L) s T sz cap rows L:=⟨0,rfl,rfl⟩
instance (priority:=low) OwR.tail {A:HProp}{T:Nat}{rows:List (List Value)}{F:List HProp}[h:OwR L s T sz cap rows F]:OwR (A::L) s T sz cap rows (A::F):=⟨let ⟨i,h1,h2⟩:=h.out;⟨i+1,by simpa using h1,by simp[h2]⟩⟩
theorem OwR.sat {w0 w:World}{T:Nat}{rows:List (List Value)}{F:List HProp}(r:OwR L s T sz cap rows F)(h:Sat w0 w L):Sat w0 w (owL T sz s cap rows::F):=by
  obtain ⟨i,h1,rfl⟩:=r.out;exact h.front h1
theorem zkZ (newLen:Nat):∀(r c:Nat),c<newLen→Builtin.growBy newLen r c≤2*newLen+192
  | 0,c,h=>by simp[Builtin.growBy];omega
  | r+1,c,h=>by
    unfold Builtin.growBy;split
    · omega
    · by_cases h2:c+(c+768) / 4<newLen
      · exact zkZ newLen r _ h2
      · cases r with
        | zero=>simp[Builtin.growBy];omega
        | succ r=>unfold Builtin.growBy;rw[if_pos (by omega)];omega
theorem zfK (newLen oldCap:Nat)(h:oldCap<newLen):Builtin.nextslicecap newLen oldCap≤2*newLen+192:=by
  unfold Builtin.nextslicecap;split
  · omega
  · split
    · omega
    · exact zkZ _ _ _ h
theorem zdA {P:Program}{w:World}{rows:List (List Value)}(h0:0<sz)(hl:∀r∈rows,r.length=sz)(hn:rows.length=n)(h:rows=[]∨∃b off o,s=some ⟨b,off,none⟩∧w.heap[b]? =some o∧Rows o off sz rows):
    (Builtin.firstCells sz n (sl s n cap)).run P w= .ok rows.flatten.toArray w:=by
  rcases h with rfl | ⟨b,off,o,rfl,hh,hR⟩
  · simp at hn;subst hn;cases s with
    | none=>simp[Builtin.firstCells,sl,Sem.run_pure]
    | some p=>simp[Builtin.firstCells,sl,loadCells,loadCellsFrom]
  · have:=wI (P:=P) (w:=w) b (n*sz) 0 off #[] rows.flatten (by rw[wc rows hl,hn]) (fun k v hk=>by
      have:=za1 hh (hR.flat h0 hl hk);simpa using this)
    simpa [Builtin.firstCells,sl,loadCells] using this
theorem Rows.app {o:Obj}{off:Nat}{r1 r2:List (List Value)}(h1:Rows o off sz r1)(h2:Rows o (off+r1.length*sz) sz r2):Rows o off sz (r1++r2):=fun j row hj f v hf=>by
  rcases Nat.lt_or_ge j r1.length with hlt | hge
  · rw[List.getElem?_append_left hlt] at hj;exact h1 j row hj f v hf
  · rw[List.getElem?_append_right hge] at hj;have:=h2 _ row hj f v hf;have e:off+r1.length*sz+((j - r1.length)*sz+f)=off+(j*sz+f):=by
      obtain ⟨q,rfl⟩:∃q,j=r1.length+q:=⟨j - r1.length,by omega⟩;rw[show r1.length+q - r1.length=q by omega,Nat.add_mul];omega
    rwa [e] at this
theorem Rows.of_flat {cs:Array Value}{T:TypeId}{off:Nat}{rows:List (List Value)}(h0:0<sz)(hl:∀r∈rows,r.length=sz)(h:∀k v,rows.flatten[k]? =some v→cs[off+k]? =some v):Rows (.cells cs T (0,0)) off sz rows:=fun j row hj f v hf=>by
  have hf':f<sz:=(by rw[←hl row (List.mem_of_getElem? hj)];exact (List.getElem?_eq_some_iff.1 hf).1);refine h _ v ?_;rw[zco h0 rows hl,show (j*sz+f) / sz=j by rw[Nat.mul_comm,Nat.mul_add_div h0,Nat.div_eq_of_lt hf'];rfl,show (j*sz+f) % sz=f by rw[Nat.mul_comm,Nat.mul_add_mod,Nat.mod_eq_of_lt hf']];simp[hj,hf]
theorem zdN {P:Program}{w:World}:(Builtin.lenOf (sl s n cap)).run P w= .ok n w:=by simp[Builtin.lenOf,sl,Sem.run_pure]
theorem zcN {P:Program}{w:World}(k:Nat):(askRoom k).run P w= .ok () w:=by
  unfold askRoom;split <;> rfl
theorem zcb {P:Program}{w w':World}{base:Option Addr}{X:Value}{m:Nat}{new:Array Value}(hu:P.underlying t=some (.slice e))(hz:∀w,(sizeOf e).run P w= .ok sz w)(hl:(Builtin.lenOf X).run P w= .ok m w)(hf:(Builtin.firstCells sz m X).run P w= .ok new w)(hfit:n+m≤cap)
    (hs:(match base with | some a=>storeCells (a.add (n*sz)) new.toList | none=>(pure ():Sem Unit)).run P w= .ok () w'):(Builtin.append_ #[t,t] ty #[.slice base n cap,X]).run P w= .ok (.slice base (n+m) cap) w':=by
  unfold Builtin.append_;cases base with
  | none=>
    have e:w=w':=(by injection hs);subst e;simp[underlying,program,Sem.run,hu,hz,hl,hf,hfit]
  | some a=>simp only[] at hs;simp[underlying,program,Sem.run,hu,hz,hl,hf,hfit,hs]
theorem zhW {P:Program}{w:World}{base:Option Addr}{X zv:Value}{m:Nat}{old new:Array Value}{info:TypeInfo}(hu:P.underlying t=some (.slice e))(hz:∀w,(sizeOf e).run P w= .ok sz w)(hzv:∀w,(zeroValue e).run P w= .ok zv w)(hti:∀w,(typeInfo e).run P w= .ok info w)
    (hl:(Builtin.lenOf X).run P w= .ok m w) (hf:(Builtin.firstCells sz m X).run P w.drew= .ok new w.drew) (ho:(Builtin.firstCells sz n (.slice base n cap)).run P w.drew= .ok old w.drew) (hfit:cap<n+m) (hb:n+m≤1073741824∧0<info.bytes∧info.bytes≤4096):
    ∃newCap,n+m≤newCap∧(Builtin.append_ #[t,t] ty #[.slice base n cap,X]).run P w= .ok (.slice (some ⟨w.heap.size,0,none⟩) (n+m) newCap) (w.drew.alloc (.cells (old++new++Builtin.zeroCells zv.cells (newCap - (n+m))) e (0,0))):=by
  have c1:¬n+m≤cap:=(by omega);have c3:¬(Builtin.nextslicecap (n+m) cap*info.bytes > 2 ^ 48):=by
    have h1:=zfK (n+m) cap hfit;have h2:Builtin.nextslicecap (n+m) cap*info.bytes≤(2*1073741824+192)*4096:=Nat.mul_le_mul (by omega) hb.2.2;omega
  have hask:=fun (w:World) (k:Nat)=>zcN (P:=P) (w:=w) k;refine ⟨(Question.appendCap (n+m) cap e).cut (w.tape w.drawn (.appendCap (n+m) cap e)),by simp[Question.cut],?_⟩;have e0:info.bytes≠0:=(by omega);unfold Builtin.append_;simp[underlying,program,Sem.run,hu,hz,hl,c1,hti,choose,Question.forced];rw[if_neg (by omega),if_neg (by simpa using c3)];simp[hask,hf,ho,hzv,newRow,newObj,Sem.run,Question.cut]
end
end Go.Sl
namespace Go.Sl
section
variable {c:Cx}{g:Option (Nat×Bool)}{E:Env}{L L':List HProp}{d:Option Tmp}{ty:TypeId}{pos:String}{af:Array Edge}{gu:Option (Nat×Bool)}
variable {x y z:Operand}{t u e:TypeId}{k:IntKind}{v:Value}{s:Option Addr}{b o i j n sz cap off:Nat}
theorem zcP {a:Act}{w:World}{P:Program}{X Y:Value}{r:Result Value}(hx:a.eval x=X)(hy:a.eval y=Y)(h:(Builtin.append_ #[t,u] ty #[X,Y]).run P w=r):
    (execOp a.eval ⟨d, .call {callee:= .builtin .append,args:=#[x,y],argTypes:=#[t,u]},ty,pos,af,gu⟩).run P w=r.andThen fun v w'=> .ok (.value v) w':=by
  simp[execOp,resolve,invoke,builtin,hx,hy,h]
theorem zdm {cs:Array Value}{T:TypeId}{rows news:List (List Value)}(h0:0<sz)(hcs:cs.size=cap*sz)(hfit:rows.length+news.length≤cap)(hl:∀r∈rows,r.length=sz)(hnl:∀r∈news,r.length=sz)(hr:Rows (.cells cs T (0,0)) 0 sz rows):
    rows.length*sz+news.flatten.length≤cs.size∧Rows (.cells (yW cs (rows.length*sz) news.flatten) T (0,0)) 0 sz (rows++news):=by
  have hle:rows.length*sz+news.flatten.length≤cs.size:=by
    rw[wc news hnl,hcs,←Nat.add_mul];exact Nat.mul_le_mul_right _ hfit
  refine ⟨hle,Rows.app (fun j row hj f v hf=>?_) (Rows.of_flat h0 hnl fun k v hk=>?_)⟩
  · have:=hr j row hj f v hf;simp only[yl,Nat.zero_add] at this ⊢;have hj':=(List.getElem?_eq_some_iff.1 hj).1;have hf':f<sz:=(by rw[←hl row (List.mem_of_getElem? hj)];exact (List.getElem?_eq_some_iff.1 hf).1);have:j*sz+f<rows.length*sz:=by
      have:(j+1)*sz≤rows.length*sz:=Nat.mul_le_mul_right _ hj';rw[Nat.add_mul,Nat.one_mul] at this;omega
    rw[zaU _ _ _ hle,if_neg (by omega)]
    assumption
  · have hk':=(List.getElem?_eq_some_iff.1 hk).1;rw[zaU _ _ _ hle,if_pos (by omega),Nat.zero_add,Nat.add_sub_cancel_left];exact hk
theorem zdv {T:TypeId}{rows news:List (List Value)}{rest:Array Value}(h0:0<sz)(hl:∀r∈rows,r.length=sz)(hnl:∀r∈news,r.length=sz):
    Rows (.cells (rows.flatten.toArray++news.flatten.toArray++rest) T (0,0)) 0 sz (rows++news):=by
  refine Rows.of_flat h0 (by intro r hr;rcases List.mem_append.1 hr with h | h;exact hl r h;exact hnl r h) fun k v hk=>?_;have hlt:=(List.getElem?_eq_some_iff.1 hk).1;rw[Nat.zero_add,Array.getElem?_append_left (by simp at hlt ⊢;omega)];simpa using hk
theorem zbb (zv:Array Value)(k:Nat):(Builtin.zeroCells zv k).size=k*zv.size:=by simp[Builtin.zeroCells]
theorem yC {s2:Option Addr}{m cap2:Nat}{zv:Value}{info:TypeInfo}{T:Nat}{rows news:List (List Value)}{F:List HProp}(hu:c.P.underlying t=some (.slice T))(hz:∀w,(sizeOf T).run c.P w= .ok sz w)(hzv:∀w,(zeroValue T).run c.P w= .ok zv w)(hzs:zv.cells.size=sz)(hti:∀w,(typeInfo T).run c.P w= .ok info w)(h0:0<sz)
    (hx:ev g E x=some (sl s n cap)) (hy:ev g E y=some (sl s2 m cap2)) [R:OwR L s T sz cap rows F] (hn:rows.length=n) [Y:SlR F s2 sz news] (hm:news.length=m) (hnl:∀r∈news,r.length=sz) (h1:∀r∈news,ones r=true)
    (hb:n+m≤1073741824∧0<info.bytes∧info.bytes≤4096):
    OpL c g E L ⟨d, .call {callee:= .builtin .append,args:=#[x,y],argTypes:=#[t,t]},ty,pos,af,gu⟩ fun v L'=>∃s' cap',v=sl s' (n+m) cap'∧L'=owL T sz s' cap' (rows++news)::F:=
  .of_run fun a w hE hg hS=>by
    subst hn hm;have hS1:=R.sat hS;have hY:=Y.out _ _ hS1.tail;have hnews:∀w':World,w'.heap=w.heap→(Builtin.firstCells sz news.length (sl s2 news.length cap2)).run c.P w'= .ok news.flatten.toArray w':=fun w' hw'=>zdA h0 hnl rfl (by rw[hw'];exact hY);have fl1:ones news.flatten=true:=zdb fun v hv=>by
      obtain ⟨r,hr,hv⟩:=List.mem_flatten.1 hv;exact zdM (h1 r hr) v hv
    have ex:=fun w' v h=>zcP (d:=d) (ty:=ty) (pos:=pos) (af:=af) (gu:=gu) (t:=t) (u:=t) (r:= .ok v w') (P:=c.P) (w:=w) (hE.ev hg hx) (hE.ev hg hy) h;by_cases hfit:rows.length+news.length≤cap
    · rcases yP hS1 with ⟨rfl,rfl,rfl,hF⟩ | ⟨b,cs,rfl,a1,a2,a3,a4,hP⟩
      · have hnews0:news=[]:=List.length_eq_zero_iff.1 (by omega);subst hnews0;refine ⟨sl none (0+0) 0,w,_,ex w _ ?_,hS1,none,0,rfl,by simp⟩;exact zcb (base:=none) hu hz zdN (hnews w rfl) (by simp) rfl
      · obtain ⟨hle,hrows⟩:=zdm (T:=T) h0 a1 hfit a3 hnl a4;have hst:=yJ (P:=c.P) b (rows.length*sz) T news.flatten w cs 0 hP.at_ (by omega) fl1;refine ⟨sl (some ⟨b,0,none⟩) (rows.length+news.length) cap,zfj w b (.cells (yW cs (rows.length*sz) news.flatten) T (0,0)),_,ex _ _ ?_,?_,some ⟨b,0,none⟩,cap,rfl,rfl⟩
        · exact zcb (base:=some ⟨b,0,none⟩) hu hz zdN (hnews w rfl) hfit (by simpa [zaV] using hst)
        · refine wY (hP.set (o':= .cells (yW cs (rows.length*sz) news.flatten) T (0,0)) rR) (by rw[wH,a1]) (by simpa using hfit) ?_ hrows;intro r hr;rcases List.mem_append.1 hr with h | h
          · exact a3 r h
          · exact hnl r h
    · have hold:(∀r∈rows,r.length=sz)∧(rows=[]∨∃b off o,s=some ⟨b,off,none⟩∧w.heap[b]? =some o∧Rows o off sz rows):=by
        rcases yP hS1 with ⟨rfl,rfl,rfl,hF⟩ | ⟨b,cs,rfl,a1,a2,a3,a4,hP⟩
        · exact ⟨by simp, .inl rfl⟩
        · exact ⟨a3, .inr ⟨b,0,_,rfl,hP.at_,a4⟩⟩
      have hfo:(Builtin.firstCells sz rows.length (sl s rows.length cap)).run c.P w.drew= .ok rows.flatten.toArray w.drew:=zdA h0 hold.1 rfl hold.2;obtain ⟨newCap,hc,hrun⟩:=zhW (ty:=ty) (t:=t) (cap:=cap) (n:=rows.length) hu hz hzv hti zdN (hnews w.drew rfl) hfo (by omega) hb;refine ⟨_,_,_,ex _ _ hrun,?_,some ⟨w.heap.size,0,none⟩,newCap,rfl,rfl⟩;have hS2:Sat c.w0 (w.drew.alloc (.cells (rows.flatten.toArray++news.flatten.toArray++Builtin.zeroCells zv.cells (newCap - (rows.length+news.length))) T (0,0))) _:=(hS1.tail.drew (w.drawn+1)).alloc _;refine wY hS2 ?_ (by simpa using hc) ?_ (zdv h0 hold.1 hnl)
      · simp only[Array.size_append,List.size_toArray,wc rows hold.1,wc news hnl,zbb,hzs];rw[←Nat.add_mul,←Nat.add_mul];congr 1;omega
      · intro r hr;rcases List.mem_append.1 hr with h | h
        · exact hold.1 r h
        · exact hnl r h
end
end Go.Sl
namespace Go.Sl
theorem qV (cs:Array Value):(Value.agg cs).cells=cs:=rfl
theorem qS {v:Value}(h:one v=true):v.cells=#[v]:=by cases v <;> first | rfl | cases h
section
variable {c:Cx}{g:Option (Nat×Bool)}{E:Env}{L L':List HProp}{d:Option Tmp}{ty:TypeId}{pos:String}{af:Array Edge}{gu:Option (Nat×Bool)}{K:List KI}
variable {x y z:Operand}{t u e:TypeId}{k:IntKind}{v:Value}{s:Option Addr}{b o i j n sz cap off:Nat}
theorem Rows.set {cs:Array Value}{T:TypeId}{rows:List (List Value)}{row:List Value}{f:Nat}(hl:∀r∈rows,r.length=sz)(hr:Rows (.cells cs T (0,0)) 0 sz rows)(hj:rows[j]? =some row)(hf:f<sz)(hlt:j*sz+f<cs.size):
    Rows (.cells (cs.setIfInBounds (j*sz+f) v) T (0,0)) 0 sz (rows.set j (row.set f v)):=fun i r hi f' u hu=>by
  have hjl:=(List.getElem?_eq_some_iff.1 hj).1;have hrl:=hl row (List.mem_of_getElem? hj);simp only[yl,Nat.zero_add];by_cases hij:i=j
  · subst hij;rw[List.getElem?_set_self hjl] at hi;injection hi with hi;subst hi;by_cases hff:f'=f
    · subst hff;rw[List.getElem?_set_self (by omega)] at hu;injection hu with hu;subst hu;simp[hlt]
    · rw[List.getElem?_set_ne (Ne.symm hff)] at hu;rw[Array.getElem?_setIfInBounds_ne (by omega)];simpa [yl] using hr i row hj f' u hu
  · rw[List.getElem?_set_ne (Ne.symm hij)] at hi;have hf':f'<sz:=(by rw[←hl r (List.mem_of_getElem? hi)];exact (List.getElem?_eq_some_iff.1 hu).1);have hne:j*sz+f≠i*sz+f':=by
      intro he;rcases Nat.lt_or_gt_of_ne hij with h | h
      · have:(i+1)*sz≤j*sz:=Nat.mul_le_mul_right _ h;rw[Nat.add_mul,Nat.one_mul] at this;omega
      · have:(j+1)*sz≤i*sz:=Nat.mul_le_mul_right _ h;rw[Nat.add_mul,Nat.one_mul] at this;omega
    rw[Array.getElem?_setIfInBounds_ne hne];simpa [yl] using hr i r hi f' u hu
theorem zkh {rows:List (List Value)}{row:List Value}{f:Nat}(hl:∀r∈rows,r.length=sz)(hj:rows[j]? =some row):∀r∈rows.set j (row.set f v),r.length=sz:=fun r hr=>by
  rcases List.mem_or_eq_of_mem_set hr with h | h
  · exact hl r h
  · subst h;simpa using hl row (List.mem_of_getElem? hj)
theorem zmY {rows:List (List Value)}{row:List Value}{f:Nat}{T:Nat}{F:List HProp}(hz:∀w,(sizeOf t).run c.P w= .ok 1 w)(hx:ev g E x=some (adr s (j*sz+f)))(hy:ev g E y=some v)(h1:one v=true)[R:OwR L s T sz cap rows F](hj:rows[j]? =some row)(hf:f<sz):
    OpL c g E L ⟨d, .store t x y,ty,pos,af,gu⟩ fun _ L'=>L'=owL T sz s cap (rows.set j (row.set f v))::F:=
  .of_skip fun a w hE hg hS=>by
    rcases yP (R.sat hS) with ⟨rfl,rfl,rfl,_⟩ | ⟨b,cs,rfl,a1,a2,a3,a4,hP⟩
    · simp at hj
    · have hjl:=(List.getElem?_eq_some_iff.1 hj).1;have hlt:j*sz+f<cs.size:=by
        have:(j+1)*sz≤cap*sz:=Nat.mul_le_mul_right _ (by omega);rw[Nat.add_mul,Nat.one_mul] at this;omega
      have hr:=yJ (P:=c.P) b (j*sz+f) T [v] w cs 0 hP.at_ (by simp;omega) (by simp[ones,h1]);refine ⟨_,_,?_,wY (hP.set (o':= .cells (cs.setIfInBounds (j*sz+f) v) T (0,0)) rfl) (by simpa using a1) (by simpa using a2) (zkh a3 hj) (a4.set a3 hj hf hlt),rfl⟩;simp only[execOp,hE.ev hg hx,hE.ev hg hy,Instr.storeAt,Instr.sureAddr,storeVar,adr,Option.map_some,zaV,Nat.zero_add,Sem.run_bind,Sem.run_pure,Result.andThen_ok];simp[hz,qS h1,hr,yW,zfj]
theorem yG (T sz:Nat)(rows:List (List Value))(hr:rows=[])(h:G c K E (owL T sz none 0 rows::L)):G c K E L:=fun a w hE hS=>h a w hE (hr ▸ zvq T sz hS)
theorem zlG (sz:Nat)(rows:List (List Value))(hr:rows=[])(h:G c K E (roL sz none rows::L)):G c K E L:=fun a w hE hS=>h a w hE ((Sat.pure_mk (φ:=True) trivial hS).weak fun m _=>Or.inl hr)
theorem yB {rows:List (List Value)}{T:Nat}{F:List HProp}(s:Option Addr)[R:OwR L s T sz cap rows F](h:G c K E (roL sz s rows::F)):G c K E L:=fun a w hE hS=>h a w hE (zyq (R.sat hS))
def zbV (T:Nat)(f:Int):Value:=if f=0 then .nilIface else .iface T (I f)
theorem zuW {P:Program}{w:World}{ms:Array (String×TypeId)}{T:Nat}{f:Int}(n:Nat)(hu:P.underlying t=some (.interface ms)):(Op.equalIn (n+1) t (zbV T f) .nilIface).run P w= .ok (decide (f=0)) w:=by
  unfold zbV;by_cases hf:f=0
  · simp[hf,Op.equalIn,underlying,program,Sem.run,hu]
  · simp[hf,Op.equalIn,underlying,program,Sem.run,hu]
theorem zfc {P:Program}{w:World}{ms:Array (String×TypeId)}{T:Nat}{f:Int}(hu:P.underlying t=some (.interface ms)):(Op.equal t (zbV T f) .nilIface).run P w= .ok (decide (f=0)) w:=zuW 9999 hu
theorem zhX {P:Program}{w:World}{T:Nat}{f:Int}{op:BinOp}:(eqGuard op t x (.const .nilIface) (zbV T f) .nilIface).run P w= .ok () w:=by
  unfold zbV;by_cases hf:f=0 <;> cases op <;> simp[hf,eqGuard]
theorem zab {ms:Array (String×TypeId)}{T:Nat}{f:Int}(hu:c.P.underlying t=some (.interface ms))(hx:ev g E x=some (zbV T f)):OpV c g E L ⟨d, .binOp .eql t x (.const .nilIface) u,ty,pos,af,gu⟩ (.bool (decide (f=0))):= .mk fun a w hE hg hS=>by
  have h1:=zfc (P:=c.P) (w:=w) (T:=T) (f:=f) hu;have h2:=zhX (P:=c.P) (w:=w) (t:=t) (x:=x) (T:=T) (f:=f) (op:= .eql);have h3:a.eval (.const .nilIface)= .nilIface:=rfl;have h4:binOp .eql t (zbV T f) .nilIface=(do pure (.bool (←Op.equal t (zbV T f) .nilIface))):=by
    unfold zbV;by_cases hf:f=0 <;> simp[hf,binOp]
  simp[execOp,hE.ev hg hx,h3,h2,h4,h1]
theorem yf {ms:Array (String×TypeId)}{T:Nat}{f:Int}(hu:c.P.underlying t=some (.interface ms))(hx:ev g E x=some (zbV T f)):OpV c g E L ⟨d, .binOp .neq t x (.const .nilIface) u,ty,pos,af,gu⟩ (.bool (!decide (f=0))):= .mk fun a w hE hg hS=>by
  have h1:=zfc (P:=c.P) (w:=w) (T:=T) (f:=f) hu;have h2:=zhX (P:=c.P) (w:=w) (t:=t) (x:=x) (T:=T) (f:=f) (op:= .neq);have h3:a.eval (.const .nilIface)= .nilIface:=rfl;have h4:binOp .neq t (zbV T f) .nilIface=(do pure (.bool (!(←Op.equal t (zbV T f) .nilIface)))):=by
    unfold zbV;by_cases hf:f=0 <;> simp[hf,binOp]
  simp[execOp,hE.ev hg hx,h3,h2,h4,h1]
theorem zt4 {v1 v2:Array Value}{b:Bool}(hgt:c.P.eqGuardType c.P.depth t=false)(hx:ev g E x=some (.agg v1))(hy:ev g E y=some (.agg v2))(heq:∀w,(Op.equal t (.agg v1) (.agg v2)).run c.P w= .ok b w):OpV c g E L ⟨d, .binOp .eql t x y u,ty,pos,af,gu⟩ (.bool b):= .mk fun a w hE hg hS=>by
  simp[execOp,hE.ev hg hx,hE.ev hg hy,eqGuard,program,Sem.run,hgt,binOp,heq]
theorem zxz {v1 v2:Array Value}{b:Bool}(hgt:c.P.eqGuardType c.P.depth t=false)(hx:ev g E x=some (.agg v1))(hy:ev g E y=some (.agg v2))(heq:∀w,(Op.equal t (.agg v1) (.agg v2)).run c.P w= .ok b w):OpV c g E L ⟨d, .binOp .neq t x y u,ty,pos,af,gu⟩ (.bool (!b)):= .mk fun a w hE hg hS=>by
  simp[execOp,hE.ev hg hx,hE.ev hg hy,eqGuard,program,Sem.run,hgt,binOp,heq]
theorem zv2 {P:Program}{w:World}{k:IntKind}{a b:Int}(n:Nat)(hu:P.underlying t=some (.int k)):(Op.equalIn (n+1) t (I a) (I b)).run P w= .ok (decide (a=b)) w:=by
  simp[Op.equalIn,underlying,program,Sem.run,hu,zt1]
theorem beqS (a b:List UInt8):((⟨⟨a⟩⟩:ByteArray)==⟨⟨b⟩⟩)=decide (a=b):=by
  have:((⟨⟨a⟩⟩:ByteArray)==⟨⟨b⟩⟩)=((⟨a⟩:Array UInt8)==⟨b⟩):=rfl;rw[this,zt1];simp
theorem zpv {P:Program}{w:World}{a b:List UInt8}(n:Nat)(hu:P.underlying t=some .string):(Op.equalIn (n+1) t (Str a) (Str b)).run P w= .ok (decide (a=b)) w:=by
  have:=beqS a b;simp[Op.equalIn,underlying,program,Sem.run,hu,this]
theorem zuI {P:Program}{w:World}{a b:Bool}(n:Nat)(hu:P.underlying t=some .bool):(Op.equalIn (n+1) t (Bo a) (Bo b)).run P w= .ok (decide (a=b)) w:=by
  simp[Op.equalIn,underlying,program,Sem.run,hu,zt1]
def RSl (T sz n:Nat)(rows:List (List Value))(F:List HProp):Value→List HProp→Prop:=fun v L'=>∃s cap,v=sl s n cap∧L'=owL T sz s cap rows::F
theorem wx {vs:List Value}{T m:Nat}{rows:List (List Value)}{F:List HProp}(hR:c.R=RSl T sz n rows F)(hr:zbn E c.fn.results.toList=some vs)(hv:tup vs=sl s m cap)(hn:m=n)[S:Sub L (owL T sz s cap rows::F)](hds:c.n.ds=[]:=by rfl):G c (.code .ret::K) E L:=
  fun a w hE hS=>wp_ret (yb (qw (hds:=hds) hr hE (S.sat hS) (by rw[hR];exact ⟨s,cap,by rw[hv,hn],rfl⟩)))
variable {all rest:List Oper}{dd:Nat}{op:Op}{N:Value→List HProp→Prop}
theorem qU {i s:Nat}{b want:Bool}(hi:(all[i]?).bind (·.dst)=some s)(hs:look none E s=some (.bool b))(hw:b=want)(h:OpV c none E L ⟨some dd,op,ty,pos,af,some (i,want)⟩ v)(hd:dOk c.n dd E=true)
    (k:G c (.ops all rest::K) ((dd,none,v)::E) L):G c (.ops all (⟨some dd,op,ty,pos,af,some (i,want)⟩::rest)::K) E L:=fun a w hE hS=>by
  have hy:=za0 (a:=a) hi hE hs;refine wpList_step fun nx hk=>?_;rw[if_pos (by simp[Region.wanted,hy,hw])];exact zgD h hE (yD a) hS (hk _ _ (k _ w (hE.put1 hd) hS))
theorem zrs {i s:Nat}{b want:Bool}(hi:(all[i]?).bind (·.dst)=some s)(hs:look none E s=some (.bool b))(hw:b=want)(h:OpL c none E L ⟨some dd,op,ty,pos,af,some (i,want)⟩ N)(hd:dOk c.n dd E=true)
    (k:∀v L',N v L'→G c (.ops all rest::K) ((dd,none,v)::E) L'):G c (.ops all (⟨some dd,op,ty,pos,af,some (i,want)⟩::rest)::K) E L:=fun a w hE hS=>by
  have hy:=za0 (a:=a) hi hE hs;refine wpList_step fun nx hk=>?_;rw[if_pos (by simp[Region.wanted,hy,hw])];exact h.out a w hE (yD a) hS nx _ fun v w' L' hS' hN=>hk _ _ (k v L' hN _ w' (hE.put1 hd) hS')
theorem g_gq {i s:Nat}{b want:Bool}{L2:List HProp}(hi:(all[i]?).bind (·.dst)=some s)(hs:look none E s=some (.bool b))(h:b=want→OpL c (some (s,want)) E L ⟨some dd,op,ty,pos,af,some (i,want)⟩ (R1 v L2))[S:Sub L2 L](hd:dOk c.n dd E=true)(hne:Nat.beq s dd=false)
    (k:G c (.ops all rest::K) ((dd,some (s,want),v)::E) L):G c (.ops all (⟨some dd,op,ty,pos,af,some (i,want)⟩::rest)::K) E L:=fun a w hE hS=>by
  have hy:=za0 (a:=a) hi hE hs;have hb:=hE.look (yD a) hs;refine wpList_step fun nx hk=>?_;have hgd:∀j b',some (s,want)=some (j,b')→j≠dd:=fun j b' e=>(by injection e with e;injection e with e _;subst e;exact Nat.ne_of_beq_eq_false hne);by_cases hw:b=want
  · rw[if_pos (by simp[Region.wanted,hy,hw])];have hg:gd (some (s,want)) a:=fun j b' e=>(by injection e with e;injection e with e1 e2;subst e1 e2;rw[hb,hw]);refine (h hw).out a w hE hg hS nx _ fun v' w' L' hS' hN=>?_;obtain ⟨rfl,rfl⟩:=hN;exact hk _ _ (k _ w' (hE.put hd hgd fun _=>rfl) (S.sat hS'))
  · rw[if_neg (by simp[Region.wanted,hy,hw])];refine hk _ _ (k _ w (hE.put hd hgd fun hg=>?_) hS);have:=hg s want rfl;rw[hb] at this;exact absurd (by simpa using this) hw
theorem zp2 {k:IntKind}{p q:Int}{ats:Array TypeId}(hx:ev g E x=some (.int k p))(hy:ev g E y=some (.int k q)):OpV c g E L ⟨d, .call {callee:= .builtin .max,args:=#[x,y],argTypes:=ats},ty,pos,af,gu⟩ (.int k (if p<q then q else p)):= .mk fun a w hE hg hS=>by
  simp[execOp,resolve,invoke,builtin,Builtin.max_,Builtin.max2,hE.ev hg hx,hE.ev hg hy]
theorem v_min {k:IntKind}{p q:Int}{ats:Array TypeId}(hx:ev g E x=some (.int k p))(hy:ev g E y=some (.int k q)):OpV c g E L ⟨d, .call {callee:= .builtin .min,args:=#[x,y],argTypes:=ats},ty,pos,af,gu⟩ (.int k (if q<p then q else p)):= .mk fun a w hE hg hS=>by
  simp[execOp,resolve,invoke,builtin,Builtin.min_,Builtin.min2,hE.ev hg hx,hE.ev hg hy]
def RSf (f:Value→Value)(T sz n:Nat)(rows:List (List Value))(F:List HProp):Value→List HProp→Prop:=fun v L'=>∃s cap,v=f (sl s n cap)∧L'=owL T sz s cap rows::F
theorem zrR {vs:List Value}{T m:Nat}{f:Value→Value}{rows:List (List Value)}{F:List HProp}(hR:c.R=RSf f T sz n rows F)(hr:zbn E c.fn.results.toList=some vs)(hn:m=n)(hv:tup vs=f (sl s m cap))[S:Sub L (owL T sz s cap rows::F)](hds:c.n.ds=[]:=by rfl):G c (.code .ret::K) E L:=
  fun a w hE hS=>wp_ret (yb (qw (hds:=hds) hr hE (S.sat hS) (by rw[hR];exact ⟨s,cap,by rw[hv,hn],rfl⟩)))
def evq (g:Option (Nat×Bool))(E:Env):List (Nat×Operand)→Option (List (Nat×Value))
  | []=>some []
  | (i,x)::ps=>match ev g E x with
    | some v=>match evq g E ps with | some vs=>some ((i,v)::vs) | none=>none
    | none=>none
theorem zum {n:Nd}{E:Env}{a:Act}{g:Option (Nat×Bool)}(h:EOk n E a)(hg:gd g a):∀{ps:List (Nat×Operand)} {vs:List (Nat×Value)},evq g E ps=some vs→ps.map (fun p=>(p.1,a.eval p.2))=vs
  | [],vs,hl=>by injection hl with hl
  | (i,x)::ps,vs,hl=>by
    unfold evq at hl;split at hl
    · rename_i v hv;split at hl
      · rename_i us hus;injection hl with hl;subst hl;simp[h.ev hg hv,zum h hg hus]
      · cases hl
    · cases hl
theorem qP {parts:List (Nat×Operand)}{vs:List (Nat×Value)}(hx:evq g E parts=some vs)(hr:∀w,(Instr.build t vs.toArray).run c.P w= .ok v w):OpV c g E L ⟨d, .build t parts.toArray,ty,pos,af,gu⟩ v:= .mk fun a w hE hg hS=>by
  have:=zum hE hg hx;simp[execOp,this,hr]
theorem zmj {a:Act}{w:World}{r:Nat}{ob:Obj}{vs:List Value}{Post:List HProp}(hf:c.fn.results.toList=[.cell r t])(hx:look none E r=some (ptr b o))(ha:∀w,(isAgg t).run c.P w= .ok true w)(hz:∀w,(sizeOf t).run c.P w= .ok sz w)[h:Has L b ob](hl:vs.length=sz)
    (hv:∀k v,vs[k]? =some v→yl ob (o+k)=some v) (hE:EOk c.n E a) (hS:Sat c.w0 w L) [S:Sub L Post] (hR:c.R (.agg vs.toArray) Post) (hds:c.n.ds=[]:=by rfl):(a.defers=[]∧∃v,(results c.fn a.tmps).run c.P w= .ok v w∧∃L,Sat c.w0 w L∧c.R v L)∨∃D w',a.defers=[markD D]∧(Instr.takeDeferred D).run c.P w= .ok [] w'∧∃v,(results c.fn a.tmps).run c.P w'= .ok v w'∧∃L,Sat c.w0 w' L∧c.R v L:=by
  have hh:=h.out _ _ hS;have hload:=wI (P:=c.P) (w:=w) b sz 0 o #[] vs hl (fun k v hk=>by simpa using za1 hh (hv k v hk));have h1:=hE.look (yD a) hx;refine .inl ⟨hE.defers.trans hds, .agg vs.toArray,?_,Post,S.sat hS,hR⟩;rw[zdZ,Array.mapM_eq_mapM_toList,hf];simp[zix,Array.getD_eq_getD_getElem?,h1,asAddr,loadVar,ha,hz,loadCells,hload]
theorem wy {r:Nat}{ob:Obj}{Post:List HProp}(vs:List Value)(hR:c.R=R1 (.agg vs.toArray) Post)(hf:c.fn.results.toList=[.cell r t])(hx:look none E r=some (ptr b o))(ha:∀w,(isAgg t).run c.P w= .ok true w)(hz:∀w,(sizeOf t).run c.P w= .ok sz w)[h:Has L b ob](hl:vs.length=sz)
    (hv:∀k v,vs[k]? =some v→yl ob (o+k)=some v) [S:Sub L Post] (hds:c.n.ds=[]:=by rfl):G c (.code .ret::K) E L:=
  fun a w hE hS=>wp_ret (yb (zmj (hds:=hds) (h:=h) (S:=S) hf hx ha hz hl hv hE hS (by rw[hR];exact ⟨rfl,rfl⟩)))
end
end Go.Sl
namespace Go.Proofs.YthdjckbjjfiopadGreatDoor
open _root_.Go.Proofs.Tryz
open Go.Sl Go.Proofs
theorem zkT (v0:Value)(h0:one v0=true)(v1:Value)(h1:one v1=true)(w:World):(Instr.build 95 #[(0,v0),(1,v1)]).run Tryz.prog w= .ok (.agg #[v0,v1]) w:=by
  simp[Instr.build,zeroValue95,runUnderlying95,sizeOf92,sizeOf93,Instr.fill,qV,sl,qS h0,qS h1]
theorem zkU (v0:Value)(h0:one v0=true)(v1:Value)(h1:one v1=true)(w:World):(Instr.build 98 #[(0,v0),(1,v1)]).run Tryz.prog w= .ok (.agg #[v0,v1]) w:=by
  simp[Instr.build,zeroValue98,runUnderlying98,sizeOf3,sizeOf9,Instr.fill,qV,sl,qS h0,qS h1]
theorem ztn (v0:Value)(h0:one v0=true)(w:World):(Instr.build 101 #[(0,v0)]).run Tryz.prog w= .ok (.agg #[v0]) w:=by
  simp[Instr.build,zeroValue101,runUnderlying101,sizeOf99,Instr.fill,qV,sl,qS h0]
theorem zdV (v0:Value)(h0:one v0=true)(v1:Value)(h1:one v1=true)(w:World):(Instr.build 104 #[(0,v0),(1,v1)]).run Tryz.prog w= .ok (.agg #[v0,v1,Bo false]) w:=by
  simp[Instr.build,zeroValue104,runUnderlying104,sizeOf4,sizeOf9,Instr.fill,qV,sl,qS h0,qS h1]
theorem zkv (v0:Value)(h0:one v0=true)(v1:Value)(h1:one v1=true)(v2:Value)(h2:one v2=true)(w:World):(Instr.build 104 #[(0,v0),(1,v1),(2,v2)]).run Tryz.prog w= .ok (.agg #[v0,v1,v2]) w:=by
  simp[Instr.build,zeroValue104,runUnderlying104,sizeOf4,sizeOf9,Instr.fill,qV,sl,qS h0,qS h1,qS h2]
theorem zoG (v0:Value)(h0:one v0=true)(v4:Value)(h4:one v4=true)(w:World):(Instr.build 122 #[(0,v0),(4,v4)]).run Tryz.prog w= .ok (.agg #[v0,Str [],Str [],Str [],Str [],Str [],Str [],Str [],Str [],Str [],Str [],Str [],Str [],Str [],Str [],Str [],Str [],sl none 0 0,I 0,v4,sl none 0 0]) w:=by
  simp[Instr.build,zeroValue122,runUnderlying122,sizeOf119,sizeOf120,sizeOf3,sizeOf41,Instr.fill,qV,sl,qS h0,qS h4]
theorem ziu (v0:Value)(h0:one v0=true)(v1:Value)(h1:one v1=true)(w:World):(Instr.build 128 #[(0,v0),(1,v1)]).run Tryz.prog w= .ok (.agg #[v0,v1]) w:=by
  simp[Instr.build,zeroValue128,runUnderlying128,sizeOf3,Instr.fill,qV,sl,qS h0,qS h1]
theorem zlg (v0:Value)(h0:one v0=true)(v1:Value)(h1:one v1=true)(v3:Value)(h3:one v3=true)(w:World):(Instr.build 140 #[(0,v0),(1,v1),(3,v3)]).run Tryz.prog w= .ok (.agg #[v0,v1,sl none 0 0,v3,Bo false]) w:=by
  simp[Instr.build,zeroValue140,runUnderlying140,sizeOf138,sizeOf3,sizeOf31,sizeOf4,Instr.fill,qV,sl,qS h0,qS h1,qS h3]
theorem zot (v0:Value)(h0:one v0=true)(v1:Value)(h1:one v1=true)(w:World):(Instr.build 142 #[(0,v0),(1,v1)]).run Tryz.prog w= .ok (.agg #[v0,v1]) w:=by
  simp[Instr.build,zeroValue142,runUnderlying142,sizeOf3,sizeOf9,Instr.fill,qV,sl,qS h0,qS h1]
theorem wl (v0:Value)(h0:one v0=true)(v1:Value)(h1:one v1=true)(v2:Value)(h2:one v2=true)(v3:Value)(h3:one v3=true)(w:World):(Instr.build 177 #[(0,v0),(1,v1),(2,v2),(3,v3)]).run Tryz.prog w= .ok (.agg #[v0,v1,v2,v3]) w:=by
  simp[Instr.build,zeroValue177,runUnderlying177,sizeOf3,Instr.fill,qV,sl,qS h0,qS h1,qS h2,qS h3]
theorem zsP (v0:Value)(h0:one v0=true)(w:World):(Instr.build 180 #[(0,v0)]).run Tryz.prog w= .ok (.agg #[v0,I 0,I 0,I 0,I 0, .pointer none,sl none 0 0]) w:=by
  simp[Instr.build,zeroValue180,runUnderlying180,sizeOf177,sizeOf178,sizeOf25,sizeOf34,Instr.fill,qV,sl,qS h0]
theorem zii (v0:Value)(h0:one v0=true)(v1:Value)(h1:one v1=true)(v2:Value)(h2:one v2=true)(v3:Value)(h3:one v3=true)(w:World):(Instr.build 222 #[(0,v0),(1,v1),(2,v2),(3,v3)]).run Tryz.prog w= .ok (.agg #[v0,v1,v2,v3,I 0]) w:=by
  simp[Instr.build,zeroValue222,runUnderlying222,sizeOf25,sizeOf3,Instr.fill,qV,sl,qS h0,qS h1,qS h2,qS h3]
abbrev tErr:Nat:=108
structure Area where
  fr:Int
  many:Int
  deriving DecidableEq
def zvD (a:Area):List Value:=[I a.fr,I a.many]
abbrev yK (f:Int):Value:=zbV tErr f
def qM (l:List Area):List (List Value):=l.map zvD
def zqi (n:Int):Prop:= -9223372036854775808≤n∧n≤9223372036854775807
theorem zdL {l:List Area}{k:Nat}{a:Area}(h:l[k]? =some a):(qM l)[k]? =some (zvD a):=by simp[qM,h]
theorem zaa (l:List Area):(qM l).length=l.length:=by simp[qM]
def ztC:Int→List Area→Int
  | _,[]=>0
  | e,a::l=>if a.fr<0∨a.many<1∨a.fr > 16 - a.many∨a.many > 16 then 1 else if a.fr≤e then 3 else ztC (a.fr+a.many) l
def bL (m:Nat→Bool):List Value:=(List.range 16).map fun i=>Bo (m i)
def bA (m:Nat→Bool):Array Value:=(bL m).toArray
theorem zdo (m:Nat→Bool):(bL m).length=16:=by simp[bL]
theorem zuD {m:Nat→Bool}{j:Nat}(h:j<16):(bL m)[j]? =some (Bo (m j)):=by simp[bL,h]
theorem zmd {m:Nat→Bool}{T:Nat}{fr:Nat×Nat}{j:Nat}(h:j<16):yl (.cells (bA m) T fr) (0+j*1)=some (Bo (m j)):=by simp[yl,bA,bL,h]
theorem zer {m:Nat→Bool}{T:Nat}{fr:Nat×Nat}:∀k v,(bL m)[k]? =some v→yl (.cells (bA m) T fr) (0+k)=some v:=fun k v h=>by simpa [yl,bA] using h
theorem zrz {m:Nat→Bool}{j:Nat}(h:j<16)(b:Bool):(bA m).setIfInBounds (0+j*1) (Bo b)=bA (fun i=>if i=j then b else m i):=by
  apply Array.ext_getElem?;intro i;rw[Array.getElem?_setIfInBounds];have hs:(bA m).size=16:=(by simp[bA,bL]);by_cases hi:i<16
  · simp only[bA,List.getElem?_toArray,zuD hi];by_cases hij:j=i
    · subst hij;simp[bL,hi]
    · simp[hij,Ne.symm hij]
  · have h1:(bA m)[i]? =none:=(by simp[bA,bL];omega);have h2:(bA (fun i=>if i=j then b else m i))[i]? =none:=(by simp[bA,bL];omega);have:¬0+j*1=i:=(by omega);simp[h1,h2,hs];omega
theorem zjv (m:Nat→Bool):ones (bL m)=true:=zdb fun v hv=>by
  simp[bL] at hv;obtain ⟨a,_,rfl⟩:=hv;rfl
theorem qC {cs:Array Value}{vs:List Value}(h:vs.length=cs.size):yW cs 0 vs=vs.toArray:=by
  apply Array.ext_getElem?;intro i;rw[zaU _ _ _ (by omega)];by_cases hi:i<vs.length
  · simp[hi]
  · have h1:cs[i]? =none:=(by simp;omega);simp[hi,h1]
theorem zxB {m m':Nat→Bool}(h:∀j,j<16→m j=m' j):bA m=bA m':=by
  unfold bA bL;congr 1;exact List.map_congr_left fun i hi=>by rw[h i (by simpa using hi)]
def mk (l:List Area)(p:Nat):Bool:=l.any fun a=>decide (a.fr≤p∧(p:Int)<a.fr+a.many)
def mkI (m:Nat→Bool)(a:Area)(i:Nat)(p:Nat):Bool:=m p || decide (a.fr≤p∧(p:Int)<a.fr+i)
def okV (l:List Area):Prop:=∀a∈l,0≤a.fr∧1≤a.many∧a.fr+a.many≤16
theorem zql:bA (mk [])=Array.replicate 16 (Bo false):=by
  apply Array.ext_getElem?;intro i;by_cases hi:i<16 <;> simp[bA,bL,mk,hi]
theorem zuK {l:List Area}{k:Nat}{a:Area}(h:l[k]? =some a)(ha:0≤a.many):mkI (mk (l.take k)) a a.many.toNat=mk (l.take (k+1)):=by
  obtain ⟨h1,h2⟩:=List.getElem?_eq_some_iff.1 h
  funext p
  have e:(a.many.toNat:Int)=a.many:=(by omega);simp only[mkI,mk,List.take_succ_eq_append_getElem h1,List.any_append,h2,List.any_cons,List.any_nil,Bool.or_false,e]
theorem ztQ (m:Nat→Bool)(a:Area):m=mkI m a 0:=by
  funext p
  simp[mkI];omega
theorem zwJ {m:Nat→Bool}{a:Area}{i j:Nat}(hj:(j:Int)=a.fr+i)(h0:0≤a.fr):(fun p=>if p=j then true else mkI m a i p)=mkI m a (i+1):=by
  funext p
  simp only[mkI];by_cases hp:p=j
  · subst hp;simp;right;omega
  · simp only[hp,if_false];congr 1;rw[Bool.eq_iff_iff];simp;omega
def zd6 (l:List Area):Area:=l.getD (l.length - 1) ⟨0,0⟩
def zmz (m:Nat→Bool)(k:Nat)(l:List Area):List Area:=
  if m k=true then (if 0<l.length∧(zd6 l).fr+(zd6 l).many=k then l.set (l.length - 1) ⟨(zd6 l).fr,(zd6 l).many+1⟩ else l++ [⟨k,1⟩]) else l
def zbo (m:Nat→Bool):Nat→List Area
  | 0=>[]
  | k+1=>zmz m k (zbo m k)
theorem zdQ {l:List Area}(h:0<l.length):l[l.length - 1]? =some (zd6 l):=by
  unfold zd6;rw[List.getD_eq_getElem?_getD,List.getElem?_eq_getElem (by omega)]
  rfl
theorem zgh (m:Nat→Bool):∀k,(zbo m k).length≤k∧∀a∈zbo m k,0≤a.fr∧1≤a.many∧a.fr+a.many≤k
  | 0=>by simp[zbo]
  | k+1=>by
    obtain ⟨h1,h2⟩:=zgh m k;simp only[zbo,zmz];split
    · split
      · rename_i hm hl;refine ⟨by simp;omega,fun a ha=>?_⟩;rcases List.mem_or_eq_of_mem_set ha with h | h
        · have:=h2 a h;omega
        · subst h;have:=h2 _ (List.mem_of_getElem? (zdQ hl.1));simp;omega
      · refine ⟨by simp;omega,fun a ha=>?_⟩;rcases List.mem_append.1 ha with h | h
        · have:=h2 a h;omega
        · simp at h;subst h;simp
    · exact ⟨by omega,fun a ha=>by have:=h2 a ha;omega⟩
abbrev ofM (m:Nat→Bool):List Area:=zbo m 16
theorem zrO {l:List Area}{j:Nat}{a:Area}:(qM l).set j ((zvD a).set 1 (I (a.many+1)))=qM (l.set j ⟨a.fr,a.many+1⟩):=by simp[qM,zvD,List.map_set]
theorem zo7 (l:List Area)(x y:Int):qM l++ [[I x,I y]]=qM (l++ [⟨x,y⟩]):=by simp[qM,zvD]
theorem zbB (l:List Area)(s:Option Addr)(cap:Nat)(hl:l.length≤1000000)(hv:okV l)(F:List HProp):Ct Tryz.prog 141 [sl s l.length cap] ([roL 2 s (qM l)]++F) (R1 (.agg (bA (mk l))) (roL 2 s (qM l)::F)):=by
  show Ct Tryz.prog 141 [sl s l.length cap] (roL 2 s (qM l)::F) _;refine Ct.of func141 rR 26 ntmps141 (by simp) fun w0=>?_;refine gS ?_;refine g_l (qy (Array.replicate 16 (Bo false)) zeroValue216) rR ?_;rintro _ _ ⟨b2,rfl,rfl⟩;refine qb (gS ?_);refine g_l (qy (bA (mk (l.take 0))) (fun w=>by rw[List.take_zero,zql];exact zeroValue216 w)) rR ?_;rintro _ _ ⟨b3,rfl,rfl⟩;refine qb (qf (gS (gM rR (g_v (yo underlying119 rR) rR (gM rR (qb (qj ?_)))))));refine qE (α:=Nat) (fun k=>k≤l.length) (fun k=>U [(2,ptr b2 0),(3,ptr b3 0),(7,sl s l.length cap),(8,I l.length),(9,I k)]) (fun k=>pt b3 (.cells (bA (mk (l.take k))) 216 (0,0))::pt b2 (.cells (Array.replicate 16 (Bo false)) 216 (0,0))::roL 2 s (qM l)::F) (fun k=>l.length - k) 0 (by simp) [2,3,7,8,9] rfl rR ?_;intro k hk;refine gS (g_v (qJ rR rR) rR (qb (qf ?_)));refine qg rR (fun h10=>?_) (fun h10=>?_)
  · obtain ⟨a,ha⟩:∃a,l[k]? =some a:=⟨l[k]'(by simp at h10;omega),by simp at h10;simp⟩;have hkn:k<l.length:=(List.getElem?_eq_some_iff.1 ha).1;have hkr:k<(qM l).length:=(by rw[zaa];exact hkn);have hr:=zdL ha;obtain ⟨hv1,hv2,hv3⟩:=hv a (List.mem_of_getElem? ha);refine qh (qf (qj (gS (g_v (qA _ underlying119 sizeOf128 rR rR rR (by assumption) (by assumption)) rR (g_v (ym isAgg128 sizeOf128 rR (by assumption) rR) rR ?_)))));refine g_l (qy #[I 0,I 0] zeroValue128) rR ?_;rintro _ _ ⟨b5,rfl,rfl⟩;refine yp (qq #[I a.fr,I a.many] sizeOf128 rR rR rR rR (by decide) rR) ?_;rintro _ _ rfl;refine qb (gS (g_v (qa 1 underlying128 rR rR sizeOf3 (by decide) rR) rR (g_v (qe isAgg3 rR rR) rR (gM rR (qb ?_)))));rw[ztQ (mk (l.take k)) a];refine qj ?_;refine qE (α:=Nat) (fun i=>(i:Int)≤a.many) (fun i=>U [(2,ptr b2 0),(3,ptr b3 0),(5,ptr b5 0),(7,sl s l.length cap),(8,I l.length),(9,I k),(14,I a.many),(15,I i)]) (fun i=>pt b3 (.cells (bA (mkI (mk (l.take k)) a i)) 216 (0,0))::pt b5 (.cells #[I a.fr,I a.many] 128 (0,0))::pt b2 (.cells (Array.replicate 16 (Bo false)) 216 (0,0))::roL 2 s (qM l)::F) (fun i=>a.many.toNat - i) 0 (by simp;omega) [2,3,5,7,8,9,14,15] rfl rR ?_;intro i hi;refine gS (g_v (qJ rR rR) rR (qb (qf ?_)));refine qg rR (fun h16=>?_) (fun h16=>?_)
    · simp at h16;refine qh (qf (qj (gS (gM rR (gA rR (qb (qo (g_v (qa 0 underlying128 rR rR sizeOf3 (by decide) rR) rR (g_v (qe isAgg3 rR rR) rR (gM rR (g_v (qu rR rR (w64 (by omega))) rR (g_v (zcx (a.fr+i).toNat underlying216 sizeOf4 rR rR (by omega) (by omega)) rR ?_))))))))))));refine yp (qH (bA (mkI (mk (l.take k)) a (i+1))) sizeOf4 rR rR rR (by simp[bA,bL];omega) (by rw[zrz (by omega),zwJ (by omega) hv1])) ?_;rintro _ _ rfl;refine qb (qF (qo (g_v (qu rR rR (w64 (by omega))) rR (gM rR (qb ?_)))));exact qm (i+1) (by omega) (by omega) [2,3,5,7,8,9,14,15] rfl rfl
    · simp at h16;obtain rfl:i=a.many.toNat:=(by omega);rw[zuK ha (by omega)];refine qz rR ?_;refine qF (qo (g_v (qu rR rR (w64 (by omega))) rR (gM rR (qb ?_))));exact qm (k+1) (by omega) (by omega) [2,3,7,8,9] rfl rfl
  · simp at h10;obtain rfl:k=l.length:=(by omega);rw[List.take_length];refine qz rR ?_;refine gS (g_v (qI (vs:=bL (mk l)) isAgg216 sizeOf216 rR (zdo _) zer) rR ?_);refine yp (qq (bA (mk l)) sizeOf216 rR rR (zdo _) (zjv _) (by simp) (qC (by simp[bL]))) ?_;rintro _ _ rfl;refine qb ?_;exact wy (bL (mk l)) rfl rfl rfl isAgg216 sizeOf216 (zdo _) zer
-- counterfoil/area.Check is not in this seat
theorem zdI (m:Nat→Bool)(F:List HProp):Ct Tryz.prog 142 [.agg (bA m)] ([]++F) (RSl 128 2 (ofM m).length (qM (ofM m)) F):=by
  show Ct Tryz.prog 142 [.agg (bA m)] (F) _;refine Ct.of func142 rR 50 ntmps142 (by simp) fun w0=>?_;refine gS ?_;refine g_l (wR (bA m) rR rR) rR ?_;rintro _ _ ⟨b1,rfl,rfl⟩;refine gA rR (qb (qf ?_));refine yG 128 2 (qM (zbo m 0)) rR ?_;refine qo (gA rR (qb (qf (gS (gA rR (qb (qj ?_)))))));refine qE (α:=Nat×Option Addr×Nat) (fun z=>z.1≤16) (fun z=>U [(1,ptr b1 0),(3,sl z.2.1 (zbo m z.1).length z.2.2),(4,I z.1)]) (fun z=>owL 128 2 z.2.1 z.2.2 (qM (zbo m z.1))::pt b1 (.cells (bA m) 216 (0,0))::F) (fun z=>16 - z.1) (0,none,0) (by simp) [1,3,4] rfl rR ?_;rintro ⟨k,s,cap⟩ hk16;simp only[] at hk16 ⊢;have hfk:=zgh m k;refine qf (gS (gM rR (g_v (qJ rR rR) rR (qb ?_))));refine qg rR (fun h7=>?_) (fun h7=>?_)
  · simp at h7;have hk:k<16:=(by omega);refine qh (qf (qj (qf (gS (gM rR (g_v (zcx k underlying216 sizeOf4 rR rR rR hk) rR (g_v (qe isAgg4 rR (zmd hk)) rR (g_v (wo rR) rR (qb ?_)))))))));refine qg rR (fun h13=>?_) (fun h13=>?_)
    · simp at h13;have e:zbo m (k+1)=zbo m k:=(by simp[zbo,zmz,h13]);rw[←e];skip;refine qz rR ?_;refine qo (gM rR (g_v (qu rR rR (w64 (by omega))) rR (gA rR (qb ?_))));exact qm (k+1,s,cap) (by simp;omega) (by simp;omega) [1,3,4] rfl rfl
    · simp at h13;obtain ⟨hfl,hfo⟩:=hfk;have e:zbo m (k+1)=zmz m k (zbo m k):=rfl;generalize hlp:zbo m k=lp at*;unfold zmz at e;rw[if_pos h13] at e;refine qh (gS (gM rR (g_v (yo underlying119 rR) rR (gA rR (qb (qf ?_))))));refine wS [(0,false),(1,false),(2,false),(3,false),(4,false),(5,false),(6,false),(7,false),(8,false),(9,false),(10,false),(11,false),(12,false),(13,false),(14,false),(15,false),(16,false),(17,false),(18,false)] (by kernel_rfl) (by kernel_rfl) rR (by kernel_rfl) ?_;refine dM rR rR rR (d_v rR (yA rR rR) rR (dM rR rR rR (zbW rR rR rR (fun hg=>qp rR) rR rR (zbW rR rR rR (fun hg=>qp rR) rR rR (zbW rR rR rR (fun hg=>zce rR rR (w64 (by simp at hg;omega))) rR rR (zbW rR rR rR (fun hg=>qA (lp.length - 1) underlying119 sizeOf128 rR rR (by simp at hg;omega) (by simp at hg;omega) (by rw[zaa];simp at hg;omega)) rR rR (zbW rR rR rR (fun hg=>ye (j:=0) 0 underlying128 rR rR sizeOf3 (by decide) rR (by rw[zaa];simp at hg;omega)) rR rR (zbW rR rR rR (fun hg=>wC isAgg3 rR (zdL (zdQ (by simp at hg;omega))) rR) rR rR (zbW rR rR rR (fun hg=>qp rR) rR rR (zbW rR rR rR (fun hg=>qp rR) rR rR (zbW rR rR rR (fun hg=>zce rR rR (w64 (by simp at hg;omega))) rR rR (zbW rR rR rR (fun hg=>qA (lp.length - 1) underlying119 sizeOf128 rR rR (by simp at hg;omega) (by simp at hg;omega) (by rw[zaa];simp at hg;omega)) rR rR (zbW rR rR rR (fun hg=>ye (j:=0) 1 underlying128 rR rR sizeOf3 (by decide) rR (by rw[zaa];simp at hg;omega)) rR rR (zbW rR rR rR (fun hg=>wC isAgg3 rR (zdL (zdQ (by simp at hg;omega))) rR) rR rR (zbW rR rR rR (fun hg=>qu rR rR (w64 (by have:=hfo _ (List.mem_of_getElem? (zdQ (by simp at hg;omega)));omega))) rR rR (zbW rR rR rR (fun hg=>qp rR) rR rR (zbW rR rR rR (fun hg=>wh rR rR) rR rR (d_v rR (zas rR rR) rR ?_))))))))))))))))));refine yc ?_;refine qg rR (fun h34=>?_) (fun h34=>?_)
      · simp at h34;rw[if_pos (by omega)] at e;have hla:=zdQ (l:=lp) (by omega);have hlo:=hfo _ (List.mem_of_getElem? hla);refine qo (gM rR (gM rR (g_v (zce rR rR (w64 (by omega))) rR (g_v (qA (lp.length - 1) underlying119 sizeOf128 rR rR (by omega) (by omega) (by rw[zaa];omega)) rR (g_v (ye (j:=0) 1 underlying128 rR rR sizeOf3 (by decide) rR (by rw[zaa];omega)) rR (g_v (wC isAgg3 rR (zdL hla) rR) rR (g_v (qu rR rR (w64 (by omega))) rR (g_v (qA (lp.length - 1) underlying119 sizeOf128 rR rR (by omega) (by omega) (by rw[zaa];omega)) rR (g_v (ye (j:=0) 1 underlying128 rR rR sizeOf3 (by decide) rR (by rw[zaa];omega)) rR ?_)))))))));refine yp (zmY (row:=zvD (zd6 lp)) sizeOf3 rR rR rR (zdL hla) (by decide)) ?_;rintro _ _ rfl;rw[zrO,←e];refine qb (qF (qo (gM rR (g_v (qu rR rR (w64 (by omega))) rR (gA rR (qb ?_))))));exact qm (k+1,s,cap) (by simp;omega) (by simp;omega) [1,3,4] rfl (by simp[U,e])
      · have hn34:¬(0<lp.length∧(zd6 lp).fr+(zd6 lp).many=k):=(by simp at h34;omega);rw[if_neg hn34] at e;refine qo (gM rR (gM rR (g_v (qP rR (ziu _ rR _ rR)) rR ?_)));refine g_l (qs [[I k,I 1]] underlying119 sizeOf128 zeroValue128 rR rR rR (by simp) (by decide) (by decide)) rR ?_;rintro _ _ ⟨b47,rfl,rfl⟩;refine g_l (yC underlying119 sizeOf128 zeroValue128 rR Tryz.typeInfo128 (by decide) rR rR (zaa _) rR (by simp) (by simp[ones,one]) ⟨by omega,by decide,by decide⟩) rR ?_;rintro _ _ ⟨s48,c48,rfl,rfl⟩;rw[zo7,←e];refine gA rR (qb (qF (qo (gM rR (g_v (qu rR rR (w64 (by omega))) rR (gA rR (qb ?_)))))));exact qm (k+1,s48,c48) (by simp;omega) (by simp;omega) [1,3,4] rfl (by simp[U,e])
  · simp at h7;obtain rfl:k=16:=(by omega);refine qz rR ?_;refine gS (gM rR (gA rR (qb ?_)));exact wx rfl rfl rfl rfl
def orM (m n:Nat→Bool)(p:Nat):Bool:=m p || n p
def ltM (m:Nat→Bool)(sz:Int)(p:Nat):Bool:=m p && decide ((p:Int)<sz)
def upM (f g:Nat→Bool)(k:Nat)(p:Nat):Bool:=if p<k then f p else g p
theorem zp0 (f g:Nat→Bool){k:Nat}(h:k<16)(b:Bool)(hb:b=f k):(bA (upM f g k)).setIfInBounds (0+k*1) (Bo b)=bA (upM f g (k+1)):=by
  rw[zrz h];apply zxB;intro p hp;unfold upM;by_cases h1:p=k
  · subst h1;simp[hb]
  · simp only[h1,if_false];by_cases h2:p<k
    · rw[if_pos h2,if_pos (by omega)]
    · rw[if_neg h2,if_neg (by omega)]
theorem zm5 (f g:Nat→Bool):upM f g 0=g:=by funext p;simp[upM]
theorem zeD {m m':Nat→Bool}(h:∀j,j<16→m j=m' j):∀k,k≤16→zbo m k=zbo m' k
  | 0,_=>rfl
  | k+1,hk=>by simp only[zbo,zmz,zeD h k (by omega),h k (by omega)]
theorem zjN (a b:List Area)(s s':Option Addr)(cap cap':Nat)(ha:a.length≤1000000)(hb:b.length≤1000000)(hva:okV a)(hvb:okV b)(F:List HProp):Ct Tryz.prog 90 [sl s a.length cap,sl s' b.length cap'] ([roL 2 s (qM a),roL 2 s' (qM b)]++F) (RSl 128 2 (ofM (orM (mk a) (mk b))).length (qM (ofM (orM (mk a) (mk b)))) (roL 2 s (qM a)::roL 2 s' (qM b)::F)):=by
  show Ct Tryz.prog 90 [sl s a.length cap,sl s' b.length cap'] (roL 2 s (qM a)::roL 2 s' (qM b)::F) _;refine Ct.of func90 rR 27 ntmps90 (by simp) fun w0=>?_;refine gS (gA rR (qb (gS (gM rR ?_))));refine g_l (qi (Pre:=[roL 2 s (qM a)]) call141 rR (zbB _ _ _ ha hva)) rR ?_;rintro _ _ ⟨rfl,rfl⟩;refine g_l (qy (Array.replicate 16 (Bo false)) zeroValue216) rR ?_;rintro _ _ ⟨b5,rfl,rfl⟩;refine yp (qq (bA (upM (orM (mk a) (mk b)) (mk a) 0)) sizeOf216 rR rR (zdo _) (zjv _) (by simp) (by rw[zm5];exact qC (by simp[bL]))) ?_;rintro _ _ rfl;refine qb (qf (gS (gM rR ?_)));refine g_l (qi (Pre:=[roL 2 s' (qM b)]) call141 rR (zbB _ _ _ hb hvb)) rR ?_;rintro _ _ ⟨rfl,rfl⟩;refine gM rR (qb (qj ?_));refine qE (α:=Nat) (fun k=>k≤16) (fun k=>U [(5,ptr b5 0),(11, .agg (bA (mk b))),(12,I k)]) (fun k=>pt b5 (.cells (bA (upM (orM (mk a) (mk b)) (mk a) k)) 216 (0,0))::roL 2 s (qM a)::roL 2 s' (qM b)::F) (fun k=>16 - k) 0 (by simp) [5,11,12] rfl rR ?_;intro k hk;refine gS (g_v (qJ rR rR) rR (qb (qf ?_)));refine qg rR (fun h13=>?_) (fun h13=>?_)
  · simp at h13;have hk:k<16:=(by omega);refine qh (qf (qj (gS (gM rR (g_v (zch k underlying216 sizeOf4 isAgg4 rR rR rR hk (by simpa [bA] using zuD hk)) rR (gA rR (gA rR (qb (qo (gM rR (gM rR (g_v (zcx k underlying216 sizeOf4 rR rR rR hk) rR (g_v (qe isAgg4 rR (zmd hk)) rR (gM rR (qK rR rR (fun hg=>qp rR) rR rR (g_v (zaH rR rR) rR (g_v (zcx k underlying216 sizeOf4 rR rR rR hk) rR ?_)))))))))))))))));refine yp (qH (bA (upM (orM (mk a) (mk b)) (mk a) (k+1))) sizeOf4 rR rR rR (by simp[bA,bL];omega) (zp0 _ _ hk _ (by simp[upM,orM]))) ?_;rintro _ _ rfl;refine qb (qF (qo (g_v (qu rR rR (w64 (by omega))) rR (gM rR (qb ?_)))));exact qm (k+1) (by omega) (by omega) [5,11,12] rfl rfl
  · simp at h13;obtain rfl:k=16:=(by omega);refine qz rR ?_;refine gS (g_v (qI (vs:=bL (upM (orM (mk a) (mk b)) (mk a) 16)) isAgg216 sizeOf216 rR (zdo _) zer) rR ?_);refine g_l (qi (Pre:=[]) call142 rR (zdI (upM (orM (mk a) (mk b)) (mk a) 16))) rR ?_;rintro _ _ ⟨s9,c9,rfl,rfl⟩;rw[show ofM (upM (orM (mk a) (mk b)) (mk a) 16)=ofM (orM (mk a) (mk b)) from zeD (fun j hj=>by simp[upM,hj]) 16 (Nat.le_refl _)];refine gA rR (qb ?_);exact wx rfl rfl rfl rfl
theorem zlY (a:List Area)(s:Option Addr)(cap:Nat)(sz:Int)(ha:a.length≤1000000)(hva:okV a)(F:List HProp):Ct Tryz.prog 89 [sl s a.length cap,I sz] ([roL 2 s (qM a)]++F) (RSl 128 2 (ofM (ltM (mk a) sz)).length (qM (ofM (ltM (mk a) sz))) (roL 2 s (qM a)::F)):=by
  show Ct Tryz.prog 89 [sl s a.length cap,I sz] (roL 2 s (qM a)::F) _;refine Ct.of func89 rR 25 ntmps89 (by simp) fun w0=>?_;refine gS (gA rR (qb (gS (gM rR ?_))));refine g_l (qi (Pre:=[roL 2 s (qM a)]) call141 rR (zbB _ _ _ ha hva)) rR ?_;rintro _ _ ⟨rfl,rfl⟩;refine g_l (qy (Array.replicate 16 (Bo false)) zeroValue216) rR ?_;rintro _ _ ⟨b5,rfl,rfl⟩;refine yp (qq (bA (upM (ltM (mk a) sz) (mk a) 0)) sizeOf216 rR rR (zdo _) (zjv _) (by simp) (by rw[zm5];exact qC (by simp[bL]))) ?_;rintro _ _ rfl;refine qb (qf (gS (gM rR (qb (qj ?_)))));refine qE (α:=Nat) (fun k=>k≤16) (fun k=>U [(1,I sz),(5,ptr b5 0),(9,I k)]) (fun k=>pt b5 (.cells (bA (upM (ltM (mk a) sz) (mk a) k)) 216 (0,0))::roL 2 s (qM a)::F) (fun k=>16 - k) 0 (by simp) [1,5,9] rfl rR ?_;intro k hk;refine gS (g_v (qJ rR rR) rR (qb (qf ?_)));refine qg rR (fun h10=>?_) (fun h10=>?_)
  · simp at h10;have hk:k<16:=(by omega);refine qh (qf (qj (gS (gM rR (gA rR (qb (qo (gM rR (gM rR (g_v (zcx k underlying216 sizeOf4 rR rR rR hk) rR (g_v (qe isAgg4 rR (zmd hk)) rR (gM rR (qK rR rR (fun hg=>qp rR) rR rR (qK rR rR (fun hg=>qp rR) rR rR (qK rR rR (fun hg=>qJ rR rR) rR rR (g_v (zas rR rR) rR (g_v (zcx k underlying216 sizeOf4 rR rR rR hk) rR ?_)))))))))))))))));refine yp (qH (bA (upM (ltM (mk a) sz) (mk a) (k+1))) sizeOf4 rR rR rR (by simp[bA,bL];omega) (zp0 _ _ hk _ (by simp[upM,ltM]))) ?_;rintro _ _ rfl;refine qb (qF (qo (g_v (qu rR rR (w64 (by omega))) rR (gM rR (qb ?_)))));exact qm (k+1) (by omega) (by omega) [1,5,9] rfl rfl
  · simp at h10;obtain rfl:k=16:=(by omega);refine qz rR ?_;refine gS (g_v (qI (vs:=bL (upM (ltM (mk a) sz) (mk a) 16)) isAgg216 sizeOf216 rR (zdo _) zer) rR ?_);refine g_l (qi (Pre:=[]) call142 rR (zdI (upM (ltM (mk a) sz) (mk a) 16))) rR ?_;rintro _ _ ⟨s9,c9,rfl,rfl⟩;rw[show ofM (upM (ltM (mk a) sz) (mk a) 16)=ofM (ltM (mk a) sz) from zeD (fun j hj=>by simp[upM,hj]) 16 (Nat.le_refl _)];refine gA rR (qb ?_);exact wx rfl rfl rfl rfl
def ztT (l:List Area)(p:Int):Bool:=l.any fun a=>decide (a.fr≤p∧p<a.fr+a.many)
theorem zfB {α:Type}{l:List α}{k:Nat}{a:α}(h:l[k]? =some a):l.take (k+1)=l.take k++ [a]:=by
  obtain ⟨h1,h2⟩:=List.getElem?_eq_some_iff.1 h;rw[List.take_succ_eq_append_getElem h1,h2]
def pg (m:Nat→Bool)(from_ many:Int):Nat→Nat→(Nat→Bool)→Int→(Nat→Bool)×Int
  | 0,_,out,_=>(out, -1)
  | r+1,k,out,n=>if (!m k || decide ((k:Int)<from_))=true then pg m from_ many r (k+1) out n
    else if n=many then (out,k) else pg m from_ many r (k+1) (fun i=>if i=k then true else out i) (n+1)
def zey (m:Nat→Bool)(from_ many:Int):(Nat→Bool)×Int:=pg m from_ many 16 0 (fun _=>false) 0
theorem zuF (m:Nat→Bool)(from_ many:Int){k:Nat}(h:k<16)(out:Nat→Bool)(n:Int):pg m from_ many (16 - k) k out n=if (!m k || decide ((k:Int)<from_))=true then pg m from_ many (16 - (k+1)) (k+1) out n
    else if n=many then (out,(k:Int)) else pg m from_ many (16 - (k+1)) (k+1) (fun i=>if i=k then true else out i) (n+1):=by
  rw[show 16 - k=(16 - (k+1))+1 by omega,pg]
theorem zeroM:bA (fun _=>false)=Array.replicate 16 (Bo false):=zql
theorem zlt (l:List Area)(s:Option Addr)(cap:Nat)(p:Int)(hp:zqi p)(hl:l.length≤1000000)(hv:okV l)(F:List HProp):Ct Tryz.prog 140 [sl s l.length cap,I p] ([roL 2 s (qM l)]++F) (R1 (Bo (ztT l p)) (roL 2 s (qM l)::F)):=by
  show Ct Tryz.prog 140 [sl s l.length cap,I p] (roL 2 s (qM l)::F) _;refine Ct.of func140 rR 27 ntmps140 (by simp) fun w0=>?_;simp only[zqi] at hp;refine gS (gA rR (qb (qf (gS (gM rR (g_v (yo underlying119 rR) rR (gM rR (qb (qj ?_)))))))));refine qE (α:=Nat) (fun k=>k≤l.length∧ztT (l.take k) p=false) (fun k=>U [(1,I p),(7,sl s l.length cap),(8,I l.length),(9,I k)]) (fun _=>roL 2 s (qM l)::F) (fun k=>l.length - k) 0 ⟨by simp,rfl⟩ [1,7,8,9] rfl rR ?_;rintro k ⟨hk,hno⟩;refine gS (g_v (qJ rR rR) rR (qb (qf ?_)));refine qg rR (fun h10=>?_) (fun h10=>?_)
  · obtain ⟨a,ha_a⟩:∃a,l[k]? =some a:=⟨l[k]'(by simp at h10;omega),by simp at h10;simp⟩;have hkn_a:k<l.length:=(List.getElem?_eq_some_iff.1 ha_a).1;have hkr_a:k<(qM l).length:=(by rw[zaa];exact hkn_a);have hr_a:=zdL ha_a;obtain ⟨hv1,hv2,hv3⟩:=hv a (List.mem_of_getElem? ha_a);refine qh (qf (qj (gS (g_v (qA _ underlying119 sizeOf128 rR rR rR (by assumption) (by assumption)) rR (g_v (ym isAgg128 sizeOf128 rR (by assumption) rR) rR ?_)))));refine g_l (qy #[I 0,I 0] zeroValue128) rR ?_;rintro _ _ ⟨b6,rfl,rfl⟩;refine yp (qq #[I a.fr,I a.many] sizeOf128 rR rR rR rR (by decide) rR) ?_;rintro _ _ rfl;refine qb (gS (gM rR (g_v (qa 0 underlying128 rR rR sizeOf3 (by decide) rR) rR (g_v (qe isAgg3 rR rR) rR (g_v (zig rR rR) rR (gM rR (qK rR rR (fun hg=>qp rR) rR rR (qK rR rR (fun hg=>qa 0 underlying128 rR rR sizeOf3 (by decide) rR) rR rR (qK rR rR (fun hg=>qe isAgg3 rR rR) rR rR (qK rR rR (fun hg=>zce rR rR (w64 (by simp at hg;omega))) rR rR (qK rR rR (fun hg=>qa 1 underlying128 rR rR sizeOf3 (by decide) rR) rR rR (qK rR rR (fun hg=>qe isAgg3 rR rR) rR rR (qK rR rR (fun hg=>qJ rR rR) rR rR (g_v (zas rR rR) rR (qb ?_)))))))))))))));refine qg rR (fun h25=>?_) (fun h25=>?_)
    · simp at h25;refine gS (gA rR (qb ?_));refine qn rR rR ?_;show Bo true=_;have:ztT l p=true:=(by simp only[ztT,List.any_eq_true];exact ⟨a,List.mem_of_getElem? ha_a,by simp;omega⟩);rw[this]
    · simp at h25;refine qh (qF (qo (g_v (qu rR rR (w64 (by omega))) rR (gM rR (qb ?_)))));exact qm (k+1) ⟨by omega,by rw[zfB ha_a];simp only[ztT,List.any_append] at hno ⊢;rw[hno];simp;intro hx;have:=h25 hx;omega⟩ (by omega) [1,7,8,9] rfl rfl
  · simp at h10;obtain rfl:k=l.length:=(by omega);rw[List.take_length] at hno;refine qz rR ?_;refine gS (gA rR (qb ?_));refine qn rR rR ?_;show Bo false=_;rw[hno]
-- counterfoil/area.Count is not in this seat
theorem zki (l:List Area)(s:Option Addr)(cap:Nat)(from_ many:Int)(hl:l.length≤1000000)(hv:okV l)(F:List HProp):Ct Tryz.prog 139 [sl s l.length cap,I from_,I many] ([roL 2 s (qM l)]++F) (RSf (fun v=> .tuple #[v,I (zey (mk l) from_ many).2]) 128 2 (ofM (zey (mk l) from_ many).1).length (qM (ofM (zey (mk l) from_ many).1)) (roL 2 s (qM l)::F)):=by
  show Ct Tryz.prog 139 [sl s l.length cap,I from_,I many] (roL 2 s (qM l)::F) _;refine Ct.of func139 rR 40 ntmps139 (by simp) fun w0=>?_;refine gS (gA rR (gA rR (qb (gS (gM rR ?_)))));refine g_l (qi (Pre:=[roL 2 s (qM l)]) call141 rR (zbB _ _ _ hl hv)) rR ?_;rintro _ _ ⟨rfl,rfl⟩;refine g_l (qy (Array.replicate 16 (Bo false)) zeroValue216) rR ?_;rintro _ _ ⟨b8,rfl,rfl⟩;refine yp (qq (bA (mk l)) sizeOf216 rR rR (zdo _) (zjv _) (by simp) (qC (by simp[bL]))) ?_;rintro _ _ rfl;refine qb (gS ?_);refine g_l (qy (bA (fun _=>false)) (fun w=>by rw[zeroM];exact zeroValue216 w)) rR ?_;rintro _ _ ⟨b9,rfl,rfl⟩;refine qb (gS (gA rR (qb (qf (gS (g_v (qI (vs:=bL (mk l)) isAgg216 sizeOf216 rR (zdo _) zer) rR (gM rR (qb (qj ?_)))))))));refine qE (α:=Nat×(Nat→Bool)×Nat) (fun z=>z.1≤16∧z.2.2≤z.1∧zey (mk l) from_ many=pg (mk l) from_ many (16 - z.1) z.1 z.2.1 z.2.2) (fun z=>U [(1,I from_),(2,I many),(9,ptr b9 0),(10,I z.2.2),(15, .agg (bA (mk l))),(16,I z.1)]) (fun z=>pt b9 (.cells (bA z.2.1) 216 (0,0))::roL 2 s (qM l)::F) (fun z=>16 - z.1) (0,(fun _=>false),0) ⟨by simp,by simp,rfl⟩ [1,2,9,10,15,16] rfl rR ?_;rintro ⟨k,out,n⟩ ⟨hk16,hn,hpg⟩;simp only[] at hk16 hn hpg ⊢;refine gS (g_v (qJ rR rR) rR (qb (qf ?_)));refine qg rR (fun h17=>?_) (fun h17=>?_)
  · simp at h17;have hk:k<16:=(by omega);rw[zuF _ _ _ hk] at hpg;refine qh (qf (qj (gS (gM rR (g_v (zch k underlying216 sizeOf4 isAgg4 rR rR rR hk (by simpa [bA] using zuD hk)) rR (gA rR (gA rR (qb (qf (gS (gM rR (g_v (wo rR) rR (gM rR (qK rR rR (fun hg=>qp rR) rR rR (qK rR rR (fun hg=>qp rR) rR rR (qK rR rR (fun hg=>qJ rR rR) rR rR (g_v (zaH rR rR) rR (qb ?_))))))))))))))))));refine qg rR (fun h26=>?_) (fun h26=>?_)
    · have h26':=h26;simp at h26;refine qz rR ?_;refine qo (g_v (qu rR rR (w64 (by omega))) rR (gM rR (qb ?_)));exact qm (k+1,out,n) ⟨by simp;omega,by simp;omega,by rw[hpg,if_pos (by simp;omega)]⟩ (by simp;omega) [1,2,9,10,15,16] rfl rfl
    · have h26':=h26;simp at h26;refine qh (qf (gS (gM rR (gM rR (g_v (wh rR rR) rR (qb ?_))))));refine qg rR (fun h29=>?_) (fun h29=>?_)
      · simp at h29;refine gS (g_v (qI (vs:=bL (out)) isAgg216 sizeOf216 rR (zdo _) zer) rR ?_);refine g_l (qi (Pre:=[]) call142 rR (zdI out)) rR ?_;rintro _ _ ⟨s9,c9,rfl,rfl⟩;refine gM rR (gA rR (gA rR (qb ?_)));rw[if_neg (by rw[h26'];simp),if_pos h29] at hpg;rw[hpg];exact zrR (f:=fun v=> .tuple #[v,I k]) rfl rfl rfl rfl
      · simp at h29;refine qh (gS (gM rR (g_v (zcx k underlying216 sizeOf4 rR rR rR hk) rR ?_)));refine yp (qH (bA (fun i=>if i=k then true else out i)) sizeOf4 rR rR rR (by simp[bA,bL];omega) (zrz hk true)) ?_;rintro _ _ rfl;refine qb (qo (gM rR (g_v (qu rR rR (w64 (by omega))) rR (gA rR (qb (qF (qo (g_v (qu rR rR (w64 (by omega))) rR (gM rR (qb ?_))))))))));exact qm (k+1,(fun i=>if i=k then true else out i),n+1) ⟨by simp;omega,by simp;omega,by rw[hpg,if_neg (by simp;omega),if_neg (by omega)];rfl⟩ (by simp;omega) [1,2,9,10,15,16] rfl rfl
  · simp at h17;obtain rfl:k=16:=(by omega);refine qz rR ?_;refine gS (g_v (qI (vs:=bL (out)) isAgg216 sizeOf216 rR (zdo _) zer) rR ?_);refine g_l (qi (Pre:=[]) call142 rR (zdI out)) rR ?_;rintro _ _ ⟨s9,c9,rfl,rfl⟩;refine gA rR (gA rR (qb ?_));have hpg2:zey (mk l) from_ many=(out, -1):=hpg;rw[hpg2];exact zrR (f:=fun v=> .tuple #[v,I (-1)]) rfl rfl rfl rfl
def cM (m:Nat→Bool):Nat→Nat
  | 0=>0
  | k+1=>cM m k+if m k=true then 1 else 0
theorem zuk:∀{l:List Area} {e:Int},ztC e l=0→okV l∧∀a∈l,e<a.fr
  | [],e,_=>by simp[okV]
  | a::l,e,h=>by
    unfold ztC at h;split at h
    · omega
    · split at h
      · omega
      · rename_i h1 h2;obtain ⟨h3,h4⟩:=zuk h;refine ⟨fun b hb=>?_,fun b hb=>?_⟩
        · rcases List.mem_cons.1 hb with rfl | hb
          · omega
          · exact h3 b hb
        · rcases List.mem_cons.1 hb with rfl | hb
          · omega
          · have:=h4 b hb;omega
theorem zlJ (m:Nat→Bool):(ofM m).length≤1000000:=by have:=(zgh m 16).1;show (zbo m 16).length≤_;omega
-- counterfoil/counterfoillaw.AreaSays is not in this seat
open Go.Sl Go.Proofs Go.ChangeShapes Go.WideShapes Go.ChangeAt Go.RowKit
theorem own:ownKnob Tryz.prog.godebug=none:=by kernel_rfl
theorem zwy:laidOutB Tryz.prog=true:=by kernel_rfl
def OldRows (W:World)(a:Option Addr)(sz:Nat)(rows:List (List Value)):Prop:=rows=[]∨∃b off o,a=some ⟨b,off,none⟩∧W.heap[b]? =some o∧Go.Sl.Rows o off sz rows
theorem OldRows.sat {w0 w:World}{L:List HProp}{a:Option Addr}{sz:Nat}{rows:List (List Value)}(h:OldRows w0 a sz rows)(hS:Sat w0 w (old w0::L)):Sat w0 w (roL sz a rows::old w0::L):=by
  rcases h with rfl | ⟨b,off,o,rfl,hb,hr⟩
  · exact (Sat.pure_mk (φ:=True) trivial hS).weak fun m _=>Or.inl rfl
  · exact (hS.old_ro hb).weak fun m hm=>Or.inr ⟨b,off,o,rfl,hm,hr⟩
theorem zyz {n:Int}(h:(Lit.int .i64 n).wf=true):zqi n:=by
  have:=h;simp[Lit.wf,IntKind.min,IntKind.max,IntKind.signed,IntKind.bits] at this;unfold zqi;omega
instance:Inhabited Area:=⟨⟨0,0⟩⟩
section
variable {H:Type}{enc:TypeId×Value→H}{W:World}{spare:Nat→Bool}{held:Bool}
theorem zoq {sz len:Nat}{a:Addr}{rows:List (List Value)}(hl:rows.length=len)(h:∀i row,rows[i]? =some row→∀f v,row[f]? =some v→W.cell? ((a.add (i*sz)).add f)=some v)(hne:∀row∈rows,row≠ []):OldRows W (some a) sz rows:=by
  by_cases h0:rows=[]
  · exact .inl h0
  · right;obtain ⟨r0,rs,rfl⟩:=List.exists_cons_of_ne_nil h0;obtain ⟨v0,vs,hr0⟩:=List.exists_cons_of_ne_nil (hne r0 (by simp));have hc:=h 0 r0 rfl 0 v0 (by rw[hr0];rfl);have hsp:=World.cell?_spot hc;simp[Addr.add] at hsp hc;obtain ⟨b,off,spot⟩:=a;simp only at hsp;subst hsp;cases hh:W.heap[b]? with
    | none=>simp[World.cell?,hh] at hc
    | some o=>
      refine ⟨b,off,o,rfl,hh,fun j row hj f v hf=>?_⟩;have hc2:=h j row hj f v hf;rw[zaV,zaV] at hc2;unfold World.cell? at hc2;simp only[hh] at hc2;cases o <;> simp at hc2;simpa [yl,Nat.add_assoc] using hc2
theorem zyu {f:Nat}{args:List Value}{W:World}{L:List HProp}(hS:Sat W W (L++ [old W]))(h:∀F,Ct Tryz.prog f args (L++F) (R1 (.bool true) (L++F))):
    Calls Tryz.prog f args.toArray W fun e w'=>e= .returned (.bool true)∧RowKit.Below W.heap.size W w':=
  (h [old W] W W hS).mono fun e w' he=>by
    cases e with
    | returned v=>
      obtain ⟨L',h1,rfl,rfl⟩:=he;exact ⟨rfl,(h1.endFront).below⟩
    | panicked ch=>exact he.elim
    | outgrown=>exact he.elim
end
end Go.Proofs.YthdjckbjjfiopadGreatDoor
namespace Go.Sl
section
variable {c:Cx}{g:Option (Nat×Bool)}{E:Env}{L L':List HProp}{d:Option Tmp}{ty:TypeId}{pos:String}{af:Array Edge}{gu:Option (Nat×Bool)}{K:List KI}
variable {x y z:Operand}{t u e:TypeId}{k:IntKind}{v v1 v2:Value}{s:Option Addr}{b o i j n sz cap off:Nat}
variable {all rest:List Oper}{dd:Nat}{op:Op}{N:Value→List HProp→Prop}
def zpE (v:Value)(want:Bool):Bool:=match v with | .bool b=>b !=want | _=>true
theorem yH {i s:Nat}{vs:Value}{want:Bool}(hi:(all[i]?).bind (·.dst)=some s)(hs:look none E s=some vs)(hw:zpE vs want=true)(hd:dOk c.n dd E=true)
    (k:G c (.ops all rest::K) ((dd,none,undef)::E) L):G c (.ops all (⟨some dd,op,ty,pos,af,some (i,want)⟩::rest)::K) E L:=fun a w hE hS=>by
  have h1:=hE.look (yD a) hs;have hy:yielded all.toArray a.tmps i≠some want:=by
    cases vs <;> simp[yielded,hi,h1,zpE] at hw ⊢
    all_goals (rename_i b;cases b <;> cases want <;> simp at hw ⊢)
  refine wpList_step fun nx hk=>?_;rw[if_neg (by simp[Region.wanted,hy])];exact hk _ _ (k _ w (hE.put1 hd) hS)
theorem zbp {q:Bool}(hz:ev g E z=some (.bool q))(hq:q=true)(hx:ev g E x=some v1):OpV c g E L ⟨d, .pick z x y,ty,pos,af,gu⟩ v1:= .mk fun a w hE hg hS=>by
  simp[execOp,hE.ev hg hz,hE.ev hg hx,asBool,hq]
theorem zau {q:Bool}(hz:ev g E z=some (.bool q))(hq:q=false)(hy:ev g E y=some v1):OpV c g E L ⟨d, .pick z x y,ty,pos,af,gu⟩ v1:= .mk fun a w hE hg hS=>by
  simp[execOp,hE.ev hg hz,hE.ev hg hy,asBool,hq]
theorem zxQ (n:Nat){a m:Int}{yt:TypeId}(hx:ev g E x=some (I a))(hn:n≤62)(hm:m=2 ^ n - 1):OpV c g E L ⟨d, .binOp .and t x (.const (.int .i64 m)) yt,ty,pos,af,gu⟩ (I (a % 2 ^ n)):=by
  refine zut (.inl rR) hx rR fun P w=>?_;have h1:(2:Int) ^ n=((2 ^ n:Nat):Int):=(by simp);have hp:2 ^ n≤2 ^ 62:=Nat.pow_le_pow_right (by decide) hn;have hp1:1≤2 ^ n:=Nat.one_le_two_pow;have h2:(BitVec.ofInt IntKind.i64.bits m).toNat=2 ^ n - 1:=by
    rw[BitVec.toNat_ofInt,hm,h1];have:IntKind.i64.bits=64:=rfl;rw[this,Int.emod_eq_of_lt (by omega) (by simp;omega)];omega
  have h3:((BitVec.ofInt IntKind.i64.bits a &&& BitVec.ofInt IntKind.i64.bits m).toNat:Int)=a % 2 ^ n:=by
    rw[BitVec.toNat_and,h2,Nat.and_two_pow_sub_one_eq_mod,BitVec.toNat_ofInt];have e:IntKind.i64.bits=64:=rfl;rw[e,Int.natCast_emod,Int.toNat_of_nonneg (Int.emod_nonneg _ (by simp)),h1];refine Int.emod_emod_of_dvd _ ?_;have:((2 ^ n:Nat):Int) ∣ ((2 ^ 64:Nat):Int):=Int.natCast_dvd_natCast.2 (Nat.pow_dvd_pow 2 (by omega));exact this
  have h4:0≤a % 2 ^ n:=Int.emod_nonneg _ (by rw[h1];omega);have h5:a % 2 ^ n<2 ^ n:=Int.emod_lt_of_pos _ (by rw[h1];omega);simp only[Op.intBits,h3];rw[w64 (by omega)]
  rfl
end
end Go.Sl
namespace Go.Sl
section
variable {c:Cx}{g:Option (Nat×Bool)}{E:Env}{L L':List HProp}{d:Option Tmp}{ty:TypeId}{pos:String}{af:Array Edge}{gu:Option (Nat×Bool)}{K:List KI}
variable {x y z:Operand}{t u e:TypeId}{k:IntKind}{v v1 v2:Value}{s:Option Addr}{b o i j n sz cap off:Nat}
theorem Rows.rep {zr:Array Value}{T:TypeId}(n:Nat)(h0:0<zr.size):Rows (.cells ((Array.range (n*zr.size)).map (zr[· % zr.size]!)) T (0,0)) 0 zr.size (List.replicate n zr.toList):=fun j row hj f v hf=>by
  simp only[List.getElem?_replicate] at hj;split at hj
  · rename_i hjn;injection hj with hj;subst hj;have hf':f<zr.size:=(by simpa using (List.getElem?_eq_some_iff.1 hf).1);have hlt:j*zr.size+f<n*zr.size:=by
      have:(j+1)*zr.size≤n*zr.size:=Nat.mul_le_mul_right _ hjn;rw[Nat.add_mul,Nat.one_mul] at this;omega
    simp only[yl,Nat.zero_add];rw[Array.getElem?_map,Array.getElem?_range,if_pos hlt];simp only[Option.map_some];rw[Nat.mul_comm,Nat.mul_add_mod,Nat.mod_eq_of_lt hf'];rw[getElem!_pos zr f hf'];obtain ⟨h1,h2⟩:=List.getElem?_eq_some_iff.1 hf;rw[←h2];simp
  · cases hj
theorem zg8 {zv:Value}{info:TypeInfo}{m:Int}(n:Nat)(hu:c.P.underlying t=some (.slice e))(hz:∀w,(sizeOf e).run c.P w= .ok sz w)(hzv:∀w,(zeroValue e).run c.P w= .ok zv w)(hti:∀w,(typeInfo e).run c.P w= .ok info w)
    (hzs:zv.cells.size=sz) (h0:0<sz) (hx:ev g E x=some (I m)) (hy:ev g E y=some (I m)) (hn:m=n) (hb:n≤1048576∧info.bytes≤4096):
    OpL c g E L ⟨d, .makeSlice t x y,ty,pos,af,gu⟩ fun v L'=>∃b,v=sl (some ⟨b,0,none⟩) n n∧L'=owL e sz (some ⟨b,0,none⟩) n (List.replicate n zv.cells.toList)::L:=
  .of_run fun a w hE hg hS=>by
    subst hn;subst hzs;have hw:IntKind.i64.wrap (n:Int)=n:=w64 (by omega);have h48:(info.bytes:Int)*n≤2 ^ 48:=by
      have h1:info.bytes*n≤4096*1048576:=Nat.mul_le_mul hb.2 hb.1;have h2:((info.bytes*n:Nat):Int)=(info.bytes:Int)*n:=(by simp);rw[←h2];omega
    refine ⟨sl (some ⟨w.heap.size,0,none⟩) n n,{w with heap:=w.heap.push (.cells ((Array.range (n*zv.cells.size)).map (zv.cells[· % zv.cells.size]!)) e (0,0))},owL e zv.cells.size (some ⟨w.heap.size,0,none⟩) n (List.replicate n zv.cells.toList)::L,?_,?_,_,rfl,rfl⟩
    · have h48':¬((281474976710656:Int)<(info.bytes:Int)*n):=(by omega);have hi:∀w':World,(asInt (I n)).run c.P w'= .ok (n:Int) w':=fun w'=>(by simp[asInt,asIntOf,Sem.run]);have e1:=hE.ev hg hx;have e2:=hE.ev hg hy;have hask:=fun (w:World) (k:Nat)=>zcN (P:=c.P) (w:=w) k;have hnn:¬((n:Int)<0):=(by omega);have hw0:IntKind.i64.wrap 0=0:=w64 (by omega);by_cases hn0:n=0
      · subst hn0;simp[execOp,Instr.makeSlice,underlying,program,Sem.run,hu,hz,hti,e1,e2,asInt,asIntOf,hw0,hask,newRow,newObj,sl];have er:∀f:Nat→Value,Array.map f (Array.range 0)=#[]:=fun f=>Array.eq_empty_of_size_eq_zero (by simp);rw[er,er]
      · have hnz:¬n*zv.cells.size=0:=by
          have:=Nat.mul_pos (show 0<n by omega) h0;omega
        simp[execOp,Instr.makeSlice,underlying,program,Sem.run,hu,hz,hzv,hti,e1,e2,asInt,asIntOf,hw,h48',hask,newRow,newObj,sl,hnz];intro h;omega
    · refine (hS.alloc _).weak fun m hm=> .inr ⟨_,_,rfl,hm,by simp,by simp,fun row hr=>?_,Rows.rep n h0⟩;obtain ⟨_,rfl⟩:=List.mem_replicate.1 hr;simp
def At (ya s:Option Addr)(p sz m:Nat):Prop:=(ya=s∧p=0)∨ya=s.map (·.add (p*sz))∨m=0
theorem zhC {cs:Array Value}{T:TypeId}{rows news:List (List Value)}{l:Nat}(h0:0<sz)(hcs:cs.size=cap*sz)(hcap:rows.length≤cap)(hfit:l+news.length≤rows.length)(hl:∀r∈rows,r.length=sz)(hnl:∀r∈news,r.length=sz)(hr:Rows (.cells cs T (0,0)) 0 sz rows):
    l*sz+news.flatten.length≤cs.size∧Rows (.cells (yW cs (l*sz) news.flatten) T (0,0)) 0 sz (rows.take l++news++rows.drop (l+news.length)):=by
  have hle:l*sz+news.flatten.length≤cs.size:=by
    rw[wc news hnl,hcs,←Nat.add_mul];exact Nat.mul_le_mul_right _ (by omega)
  refine ⟨hle,fun j row hj f v hf=>?_⟩;have key:∀{j:Nat} {row:List Value} {f:Nat} {v:Value},rows[j]? =some row→row[f]? =some v→(j<l∨l+news.length≤j)→(yW cs (l*sz) news.flatten)[j*sz+f]? =some v:=fun {j row f v} hj hf hjl=>by
    have:=hr j row hj f v hf;simp only[yl,Nat.zero_add] at this;have hf':f<sz:=(by rw[←hl row (List.mem_of_getElem? hj)];exact (List.getElem?_eq_some_iff.1 hf).1);rw[zaU _ _ _ hle,if_neg]
    · exact this
    · rw[wc news hnl];rintro ⟨h1,h2⟩;rcases hjl with h | h
      · have:(j+1)*sz≤l*sz:=Nat.mul_le_mul_right _ h;rw[Nat.add_mul,Nat.one_mul] at this;omega
      · have:(l+news.length)*sz≤j*sz:=Nat.mul_le_mul_right _ h;rw[Nat.add_mul] at this;omega
  simp only[yl,Nat.zero_add];have hlt:l≤rows.length:=(by omega);rcases Nat.lt_or_ge j l with h | h
  · rw[List.append_assoc,List.getElem?_append_left (by simp;omega),List.getElem?_take_of_lt h] at hj;exact key hj hf (.inl h)
  · rcases Nat.lt_or_ge j (l+news.length) with h2 | h2
    · rw[List.getElem?_append_left (by simp;omega),List.getElem?_append_right (by simp;omega)] at hj;simp only[List.length_take,Nat.min_eq_left hlt] at hj;have hf':f<sz:=(by rw[←hnl row (List.mem_of_getElem? hj)];exact (List.getElem?_eq_some_iff.1 hf).1);obtain ⟨q,rfl⟩:∃q,j=l+q:=⟨j - l,by omega⟩;have hq:q<news.length:=(by omega);have hqs:(q+1)*sz≤news.length*sz:=Nat.mul_le_mul_right _ hq;rw[Nat.add_mul,Nat.one_mul] at hqs;rw[zaU _ _ _ hle,if_pos (by rw[wc news hnl,Nat.add_mul];omega)];rw[Nat.add_mul,show l*sz+q*sz+f - l*sz=q*sz+f by omega,zco h0 news hnl];rw[show (q*sz+f) / sz=q by rw[Nat.mul_comm,Nat.mul_add_div h0,Nat.div_eq_of_lt hf'];rfl,show (q*sz+f) % sz=f by rw[Nat.mul_comm,Nat.mul_add_mod,Nat.mod_eq_of_lt hf']];rw[show l+q - l=q by omega] at hj;rw[hj];exact hf
    · rw[List.getElem?_append_right (by simp;omega)] at hj;simp only[List.length_append,List.length_take,Nat.min_eq_left hlt,List.getElem?_drop] at hj;rw[show l+news.length+(j - (l+news.length))=j by omega] at hj;exact key hj hf (.inr h2)
theorem At.addr {ya:Option Addr}{p m off:Nat}(h:At ya (some ⟨b,off,none⟩) p sz m)(hm:0<m):ya=some ⟨b,off+p*sz,none⟩:=by
  rcases h with ⟨rfl,rfl⟩ | rfl | h
  · simp
  · simp[Addr.add]
  · omega
theorem Rows.part {ob:Obj}{off p q:Nat}{rows:List (List Value)}(h:Rows ob off sz rows):Rows ob (off+p*sz) sz ((rows.drop p).take q):=fun j row hj f v hf=>by
  have hjq:j<q:=by
    have:=(List.getElem?_eq_some_iff.1 hj).1;simp at this;omega
  rw[List.getElem?_take_of_lt hjq,List.getElem?_drop] at hj;have:=h _ row hj f v hf
  rwa [Nat.add_mul,Nat.add_assoc,←Nat.add_assoc off] at this
theorem zeW {a:Act}{w:World}{P:Program}{X Y:Value}{r:Result Value}(hx:a.eval x=X)(hy:a.eval y=Y)(h:(Builtin.copy_ #[t,u] ty #[X,Y]).run P w=r):
    (execOp a.eval ⟨d, .call {callee:= .builtin .copy,args:=#[x,y],argTypes:=#[t,u]},ty,pos,af,gu⟩).run P w=r.andThen fun v w'=> .ok (.value v) w':=by
  simp[execOp,resolve,invoke,builtin,hx,hy,h]
theorem zdG {P:Program}{w:World}{m:Nat}{rows:List (List Value)}(h0:0<sz)(hl:∀r∈rows,r.length=sz)(hn:rows.length=n)(h:rows=[]∨∃b off o,s=some ⟨b,off,none⟩∧w.heap[b]? =some o∧Rows o off sz rows):
    (Builtin.firstCells sz n (sl s m cap)).run P w= .ok rows.flatten.toArray w:=by
  have:=zdA (P:=P) (w:=w) (cap:=cap) (s:=s) h0 hl hn h;cases s <;> simpa [Builtin.firstCells,sl] using this
theorem zg9 {s2 xa ya:Option Addr}{l p q m cx cy:Nat}{T:Nat}{rows rows2:List (List Value)}{F:List HProp}(hu:c.P.underlying t=some (.slice T))(hz:∀w,(sizeOf T).run c.P w= .ok sz w)(h0:0<sz)
    (hx:ev g E x=some (sl xa q cx)) (hy:ev g E y=some (sl ya m cy)) [R:OwR L s T sz cap rows F] [Y:SlR L s2 sz rows2] (hxa:At xa s l sz q) (hya:At ya s2 p sz m) (hk:l+q≤rows.length) (hm:p+m≤rows2.length)
    (hnl:∀r∈rows2,r.length=sz) (h1:∀r∈rows2,ones r=true):
    OpL c g E L ⟨d, .call {callee:= .builtin .copy,args:=#[x,y],argTypes:=#[t,u]},ty,pos,af,gu⟩ fun v L'=>v=I (Nat.min m q)∧L'=owL T sz s cap (rows.take l++((rows2.drop p).take (Nat.min m q))++rows.drop (l+Nat.min m q))::F:=
  .of_run fun a w hE hg hS=>by
    have hS1:=R.sat hS;have hY:=Y.out _ _ hS;have e1:=hE.ev hg hx;have e2:=hE.ev hg hy;generalize hr:Nat.min m q=r;have hr1:r≤m:=(by rw[←hr];exact Nat.min_le_left _ _);have hr2:r≤q:=(by rw[←hr];exact Nat.min_le_right _ _);have hnews:∀x∈(rows2.drop p).take r,x.length=sz:=fun x hx=>hnl x (List.mem_of_mem_drop (List.mem_of_mem_take hx));have hlen:((rows2.drop p).take r).length=r:=(by simp;omega);have hones:ones ((rows2.drop p).take r).flatten=true:=zdb fun v hv=>by
      obtain ⟨x,hx,hv⟩:=List.mem_flatten.1 hv;exact zdM (h1 x (List.mem_of_mem_drop (List.mem_of_mem_take hx))) v hv
    have hfirst:(Builtin.firstCells sz r (sl ya m cy)).run c.P w= .ok ((rows2.drop p).take r).flatten.toArray w:=by
      refine zdG h0 hnews hlen ?_;by_cases hr0:r=0
      · left;rw[hr0];rfl
      · right;rcases hY with h | ⟨b,off,o,rfl,hh,hR⟩
        · subst h;simp at hm;omega
        · exact ⟨b,off+p*sz,o,hya.addr (by omega),hh,hR.part⟩
    have hlo:(Builtin.lenOf (Value.slice ya m cy)).run c.P w= .ok m w:=zdN;have hfi:(Builtin.firstCells sz r (Value.slice ya m cy)).run c.P w= .ok ((rows2.drop p).take r).flatten.toArray w:=hfirst;by_cases hr0:r=0
    · subst hr0;refine ⟨I ((0:Nat):Int),w,owL T sz s cap rows::F,?_,hS1,rfl,by simp⟩;refine (zeW (r:= .ok (I ((0:Nat):Int)) w) e1 e2 ?_).trans rfl;cases xa <;> simp[Builtin.copy_,underlying,program,Sem.run,hu,hz,sl,goInt,storeCells,hlo,hr,hfi]
    · rcases yP hS1 with ⟨rfl,rfl,rfl,hF⟩ | ⟨b,cs,rfl,a1,a2,a3,a4,hP⟩
      · simp at hk;omega
      · obtain ⟨hle,hrows⟩:=zhC (T:=T) (l:=l) (news:=(rows2.drop p).take r) h0 a1 a2 (by rw[hlen];omega) a3 hnews a4;have hst:=yJ (P:=c.P) b (l*sz) T ((rows2.drop p).take r).flatten w cs 0 hP.at_ (by omega) hones;have hxa':=hxa.addr (by omega);subst hxa';refine ⟨I (r:Int),zfj w b (.cells (yW cs (l*sz) ((rows2.drop p).take r).flatten) T (0,0)),_,(zeW (r:= .ok (I (r:Int)) _) e1 e2 ?_).trans rfl,?_,rfl,rfl⟩
        · simp[Builtin.copy_,underlying,program,Sem.run,hu,hz,sl,goInt,hlo,hr,hfi,hst]
        · rw[hlen] at hrows;refine wY (hP.set (o':= .cells (yW cs (l*sz) ((rows2.drop p).take r).flatten) T (0,0)) rR) (by rw[wH,a1]) (by simp;omega) ?_ hrows;intro x hx;rcases List.mem_append.1 hx with hx | hx
          · rcases List.mem_append.1 hx with hx | hx
            · exact a3 x (List.mem_of_mem_take hx)
            · exact hnews x hx
          · exact a3 x (List.mem_of_mem_drop hx)
theorem zju (hu:c.P.underlying t=some (.slice e))(hz:∀w,(sizeOf e).run c.P w= .ok sz w):
    OpL c g E L ⟨d, .buildSlice t 0 #[],ty,pos,af,gu⟩ fun v L'=>∃b,v=sl (some ⟨b,0,none⟩) 0 0∧L'=owL e sz (some ⟨b,0,none⟩) 0 []::L:=
  .of_run fun a w hE hg hS=>by
    refine ⟨sl (some ⟨w.heap.size,0,none⟩) 0 0,{w with heap:=w.heap.push (.cells #[] e (0,0))},owL e sz (some ⟨w.heap.size,0,none⟩) 0 []::L,?_,?_,_,rfl,rfl⟩
    · have er:∀f:Nat→Value,Array.map f (Array.range 0)=#[]:=fun f=>Array.eq_empty_of_size_eq_zero (by simp);simp[execOp,Instr.buildSlice,underlying,program,Sem.run,hu,hz,newRow,newObj,sl,Instr.fill,er]
    · exact (hS.alloc _).weak fun m hm=> .inr ⟨_,_,rfl,hm,by simp,by simp,by simp,fun j row hj=>by simp at hj⟩
theorem zak {P:Program}{w:World}{i:Nat}{m:Int}{cd:BoundsCode}(h:m=i)(hn:i≤n):(Instr.sliceBound (I m) n cd).run P w= .ok i w:=by
  subst h;simp[Instr.sliceBound,asIntOf,Sem.run,hn]
theorem zb7 {m:Int}{l:Nat}(hu:c.P.underlying t=some (.slice e))(hz:∀w,(sizeOf e).run c.P w= .ok sz w)(hx:ev g E x=some (sl s n cap))(hy:ev g E y=some (I m))(hm:m=l)(hl:l≤n):
    OpV c g E L ⟨d, .slice t x (some y) none none,ty,pos,af,gu⟩ (sl (if cap=l then s else s.map (·.add (l*sz))) (n - l) (cap - l)):= .mk fun a w hE hg hS=>by
  have h1:=fun cd=>zak (P:=c.P) (w:=w) (cd:=cd) hm hl;simp only[execOp,Instr.sliceAt,Instr.slice,Instr.sliceBounds,Option.map_some,Option.map_none,hE.ev hg hx,hE.ev hg hy,sl];simp[underlying,program,Sem.run,hu,hz,h1]
theorem zhU {m:Int}{h:Nat}(hu:c.P.underlying t=some (.slice e))(hz:∀w,(sizeOf e).run c.P w= .ok sz w)(hx:ev g E x=some (sl s n cap))(hy:ev g E y=some (I m))(hm:m=h)(hl:h≤cap):
    OpV c g E L ⟨d, .slice t x none (some y) none,ty,pos,af,gu⟩ (sl s h cap):= .mk fun a w hE hg hS=>by
  have h1:=fun cd=>zak (P:=c.P) (w:=w) (cd:=cd) hm hl;simp only[execOp,Instr.sliceAt,Instr.slice,Instr.sliceBounds,Option.map_some,Option.map_none,hE.ev hg hx,hE.ev hg hy,sl];simp[underlying,program,Sem.run,hu,hz,h1];intro _;cases s <;> simp[Addr.add]
theorem zr7 {m m2:Int}{l h:Nat}(hu:c.P.underlying t=some (.slice e))(hz:∀w,(sizeOf e).run c.P w= .ok sz w)(hx:ev g E x=some (sl s n cap))(hy:ev g E y=some (I m))(hm:m=l)(hz2:ev g E z=some (I m2))(hm2:m2=h)(hl:l≤h)(hh:h≤cap):
    OpV c g E L ⟨d, .slice t x (some y) (some z) none,ty,pos,af,gu⟩ (sl (if cap=l then s else s.map (·.add (l*sz))) (h - l) (cap - l)):= .mk fun a w hE hg hS=>by
  have h1:=fun cd=>zak (P:=c.P) (w:=w) (cd:=cd) hm hl;have h2:=fun cd=>zak (P:=c.P) (w:=w) (cd:=cd) hm2 hh;simp only[execOp,Instr.sliceAt,Instr.slice,Instr.sliceBounds,Option.map_some,Option.map_none,hE.ev hg hx,hE.ev hg hy,hE.ev hg hz2,sl];simp[underlying,program,Sem.run,hu,hz,h1,h2]
theorem zg7 (p:List UInt8)(l h:Nat):(⟨⟨p⟩⟩:ByteArray).extract l h=⟨⟨(p.take h).drop l⟩⟩:=by
  apply ByteArray.ext;rw[ByteArray.data_extract];simp[List.extract_eq_take_drop,List.drop_take]
theorem zjY {m:Int}{l:Nat}{p:List UInt8}(hu:c.P.underlying t=some .string)(hx:ev g E x=some (Str p))(hy:ev g E y=some (I m))(hm:m=l)(hl:l≤p.length):
    OpV c g E L ⟨d, .slice t x (some y) none none,ty,pos,af,gu⟩ (Str (p.drop l)):= .mk fun a w hE hg hS=>by
  have hs:(⟨⟨p⟩⟩:ByteArray).size=p.length:=rfl;have h1:=fun cd=>zak (P:=c.P) (w:=w) (cd:=cd) (n:=p.length) hm hl;simp only[execOp,Instr.sliceAt,Instr.slice,Instr.sliceBounds,Option.map_some,Option.map_none,hE.ev hg hx,hE.ev hg hy];simp[underlying,program,Sem.run,hu,h1,zg7,hs]
theorem zwB {m:Int}{h:Nat}{p:List UInt8}(hu:c.P.underlying t=some .string)(hx:ev g E x=some (Str p))(hy:ev g E y=some (I m))(hm:m=h)(hl:h≤p.length):
    OpV c g E L ⟨d, .slice t x none (some y) none,ty,pos,af,gu⟩ (Str (p.take h)):= .mk fun a w hE hg hS=>by
  have hs:(⟨⟨p⟩⟩:ByteArray).size=p.length:=rfl;have h1:=fun cd=>zak (P:=c.P) (w:=w) (cd:=cd) (n:=p.length) hm hl;simp only[execOp,Instr.sliceAt,Instr.slice,Instr.sliceBounds,Option.map_some,Option.map_none,hE.ev hg hx,hE.ev hg hy];simp[underlying,program,Sem.run,hu,h1,zg7,hs]
theorem zag {m m2:Int}{l h:Nat}{p:List UInt8}(hu:c.P.underlying t=some .string)(hx:ev g E x=some (Str p))(hy:ev g E y=some (I m))(hm:m=l)(hz2:ev g E z=some (I m2))(hm2:m2=h)(hl:l≤h)(hh:h≤p.length):
    OpV c g E L ⟨d, .slice t x (some y) (some z) none,ty,pos,af,gu⟩ (Str ((p.take h).drop l)):= .mk fun a w hE hg hS=>by
  have hs:(⟨⟨p⟩⟩:ByteArray).size=p.length:=rfl;have h1:=fun cd=>zak (P:=c.P) (w:=w) (cd:=cd) hm hl;have h2:=fun cd=>zak (P:=c.P) (w:=w) (cd:=cd) (n:=p.length) hm2 hh;simp only[execOp,Instr.sliceAt,Instr.slice,Instr.sliceBounds,Option.map_some,Option.map_none,hE.ev hg hx,hE.ev hg hy,hE.ev hg hz2];simp[underlying,program,Sem.run,hu,h1,h2,zg7,hs]
end
end Go.Sl
namespace Go.Sl
def qr (l:List UInt8):List (List Value):=l.map fun b=>[By b.toNat]
theorem wP (l:List UInt8):(qr l).length=l.length:=by simp[qr]
theorem zov (n:Nat):List.replicate n [By 0]=qr (List.replicate n 0):=by simp[qr]
theorem zcQ (l:List UInt8):(qr l).flatten=(l.map fun b=>(b.toNat:Int)).map (Value.int .u8):=by
  induction l with
  | nil=>rfl
  | cons b l ih=>simpa [qr] using ih
theorem zoI (l:List UInt8):∀(p:List UInt8),(l.map fun b=>(b.toNat:Int)).foldl (fun (r:ByteArray) n=>r.push (UInt8.ofNat n.toNat)) ⟨⟨p⟩⟩=⟨⟨p++l⟩⟩:=by
  induction l with
  | nil=>intro p;simp
  | cons b l ih=>
    intro p;have e:(⟨⟨p⟩⟩:ByteArray).push (UInt8.ofNat ((b.toNat:Int)).toNat)=⟨⟨p++ [b]⟩⟩:=by
      have:UInt8.ofNat ((b.toNat:Int)).toNat=b:=(by simp);rw[this];simp[ByteArray.push]
    simp only[List.map_cons,List.foldl_cons,e,ih];simp
section
variable {c:Cx}{g:Option (Nat×Bool)}{E:Env}{L L':List HProp}{d:Option Tmp}{ty:TypeId}{pos:String}{af:Array Edge}{gu:Option (Nat×Bool)}{K:List KI}
variable {x y z:Operand}{t u e:TypeId}{k:IntKind}{v v1 v2:Value}{s:Option Addr}{b o i j n sz cap off:Nat}
theorem yL {l:List UInt8}{rows:List (List Value)}(hu:c.P.underlying t=some (.slice e))(he:c.P.underlying e=some (.int .u8))(hu2:c.P.underlying u=some .string)(hx:ev g E x=some (sl s n cap))[Y:SlR L s 1 rows](hr:rows=qr l)(hn:n=l.length):
    OpV c g E L ⟨d, .convert t u x,ty,pos,af,gu⟩ (Str l):= .mk fun a w hE hg hS=>by
  have hY:=Y.out _ _ hS;subst hr hn;have e1:=hE.ev hg hx;have key:(Conv.bytesToString (sl s l.length cap)).run c.P w= .ok (Str l) w:=by
    cases s with
    | none=>
      rcases hY with h | ⟨b,off,o,h,_⟩
      · have:l=[]:=(by simpa [qr] using h);subst this;simp[Conv.bytesToString,sl,Sem.run];rfl
      · cases h
    | some a=>
      have hl:(loadCells a l.length).run c.P w= .ok ((l.map fun b=>(b.toNat:Int)).map (Value.int .u8)).toArray w:=by
        have:=zdG (P:=c.P) (w:=w) (cap:=cap) (m:=l.length) (n:=l.length) (sz:=1) (rows:=qr l) (s:=some a) (by decide) (by simp[qr]) (wP l) hY;rw[zcQ] at this;simpa [Builtin.firstCells,sl] using this
      have:=run_bytesToString w a l.length cap _ hl;rw[show ByteArray.empty=⟨⟨[]⟩⟩ from rfl,zoI] at this;simpa [sl] using this
  simp only[execOp,e1,sl];simp[convert,underlying,program,Sem.run,hu,hu2,he];have key2:(Conv.bytesToString (Value.slice s l.length cap)).run c.P w= .ok (Str l) w:=key;simp[key2]
theorem zn3 {n:Int}(h:0≤n∧n<18446744073709551616):IntKind.u64.wrap n=n:=by
  show n % 2 ^ 64=n;omega
theorem ziY (n:Nat){a m:Int}{yt:TypeId}(hx:ev g E x=some (.int .u64 a))(ha:0≤a∧a<18446744073709551616)(hn:n≤63)(hm:m=2 ^ n - 1):OpV c g E L ⟨d, .binOp .and t x (.const (.int .u64 m)) yt,ty,pos,af,gu⟩ (.int .u64 (a % 2 ^ n)):=by
  refine zut (.inl rR) hx rR fun P w=>?_;have h1:(2:Int) ^ n=((2 ^ n:Nat):Int):=(by simp);have hp:2 ^ n≤2 ^ 63:=Nat.pow_le_pow_right (by decide) hn;have hp1:1≤2 ^ n:=Nat.one_le_two_pow;have e:IntKind.u64.bits=64:=rfl;have h2:(BitVec.ofInt IntKind.u64.bits m).toNat=2 ^ n - 1:=by
    rw[BitVec.toNat_ofInt,hm,h1,e,Int.emod_eq_of_lt (by omega) (by simp;omega)];omega
  have h3:((BitVec.ofInt IntKind.u64.bits a &&& BitVec.ofInt IntKind.u64.bits m).toNat:Int)=a % 2 ^ n:=by
    rw[BitVec.toNat_and,h2,Nat.and_two_pow_sub_one_eq_mod,BitVec.toNat_ofInt,e,Int.natCast_emod,Int.toNat_of_nonneg (Int.emod_nonneg _ (by simp)),h1,Int.emod_eq_of_lt ha.1 (by simpa using ha.2)]
  have h4:0≤a % 2 ^ n:=Int.emod_nonneg _ (by rw[h1];omega);have h5:a % 2 ^ n<2 ^ n:=Int.emod_lt_of_pos _ (by rw[h1];omega);simp only[Op.intBits,h3];rw[zn3 (by omega)]
  rfl
theorem zpP (hu:c.P.underlying t=some (.slice e))(hx:ev g E x=some (sl s n cap)):OpV c g E L ⟨d, .binOp .eql t x (.const (.slice none 0 0)) u,ty,pos,af,gu⟩ (Bo s.isNone):= .mk fun a w hE hg hS=>by
  have h3:a.eval (.const (.slice none 0 0))= .slice none 0 0:=rfl;have h4:(Op.equal t (sl s n cap) (.slice none 0 0)).run c.P w= .ok s.isNone w:=by
    show (Op.equalIn (9999+1) _ _ _).run _ _=_;unfold Op.equalIn;cases s <;> simp[underlying,program,Sem.run,hu,sl]
  simp only[execOp,hE.ev hg hx,h3,sl,eqGuard,binOp] at h4 ⊢;simp[h4,Sem.run]
end
end Go.Sl
namespace Go.Sl
theorem Sat.dropAll {w0 w:World}:∀{L X:List HProp},Sat w0 w (L++X)→Sat w0 w X
  | [],X,h=>h
  | A::L,X,h=>Sat.dropAll (L:=L) (Sat.tail h)
instance Sub.none {L:List HProp}:Sub L []:=⟨fun w0 w X h=>by simpa using Sat.dropAll h⟩
def zmm:List HProp→HProp
  | []=>zcZ True
  | A::As=>zqv A (zmm As)
theorem Sat.list {w0 w:World}:∀{As X:List HProp},Sat w0 w (zmm As::X)→Sat w0 w (As++X)
  | [],X,h=>h.tail
  | A::As,X,h=>by
    have h1:Sat w0 w (zmm As::(X++ [A])):=(Sat.star h).moveEnd;have h2:=Sat.list h1;rw[←List.append_assoc] at h2;exact h2.endFront
theorem Sat.list_mk {w0 w:World}:∀{As X:List HProp},Sat w0 w (As++X)→Sat w0 w (zmm As::X)
  | [],X,h=>Sat.pure_mk trivial h
  | A::As,X,h=>by
    have h1:Sat w0 w (As++(X++ [A])):=by
      have:=Sat.moveEnd h;simpa using this
    have h2:Sat w0 w ((zmm As::X)++ [A]):=Sat.list_mk h1;exact h2.endFront.two
def hx {α:Type}(A:α→List HProp):HProp:=hex fun z=>zmm (A z)
theorem Sat.hx {w0 w:World}{α:Type}{A:α→List HProp}{X:List HProp}(h:Sat w0 w (hx A::X)):∃z,Sat w0 w (A z++X):=let ⟨z,hz⟩:=Sat.ex h;⟨z,hz.list⟩
theorem Sat.hx_mk {w0 w:World}{α:Type}{A:α→List HProp}{X:List HProp}(z:α)(h:Sat w0 w (A z++X)):Sat w0 w (Go.Sl.hx A::X):=Sat.ex_mk z h.list_mk
section
variable {c:Cx}{g:Option (Nat×Bool)}{E:Env}{L L':List HProp}{K:List KI}
theorem zb1 {α:Type}{A:α→List HProp}{F:List HProp}(B:HProp)(hB:B=hx A)[R:Rem L B F](k:∀z,G c K E (A z++F)):G c K E L:=fun a w hE hS=>by
  have h:=R.sat hS;rw[hB] at h;obtain ⟨z,hz⟩:=h.hx;exact k z a w hE hz
theorem zcX {T sz cap:Nat}{rows:List (List Value)}{F:List HProp}(s:Option Addr)(rows':List (List Value))[R:OwR L s T sz cap rows F](h:rows=rows')(k:G c K E (owL T sz s cap rows'::F)):G c K E L:=fun a w hE hS=>by
  subst h;exact k a w hE (R.sat hS)
theorem zaY {α:Type}{A:α→List HProp}{F:List HProp}(Pre:List HProp)(B:HProp)(z:α)(hB:B=hx A)(hA:A z=Pre)[S:Split L Pre F](k:G c K E (B::F)):G c K E L:=fun a w hE hS=>by
  refine k a w hE ?_;rw[hB];exact Sat.hx_mk z (hA ▸ S.sat hS)
end
end Go.Sl
namespace Go.Sl
section
variable {P:Program}{ops:Array Oper}{C:World→Prop}{Q Q1 Q2:Post}{z:Nat}
theorem zrL {i:Nat}{a:Act}{w:World}{K:Act→World→Prop}(hp:∀ch a w,Q1 (.panic ch) a w→Q2 (.panic ch) a w)(hl:LetsOut Q1→LetsOut Q2)(h:wpOp P ops Q1 i K a w):wpOp P ops Q2 i K a w:=by
  have key:∀(o:Oper) (r:Result Next),o.upon P a K Q1 r→o.upon P a K Q2 r:=fun o r h=>by
    cases r with
    | ok n w'=>
      cases n <;> simp only[Oper.upon] at h ⊢
      case enter f args=>exact h.mono fun e w'' he=>by cases e <;> first | exact he | exact hp _ _ _ he | exact hl he
      all_goals exact h
    | halt x w'=>cases x <;> simp only[Oper.upon] at h ⊢ <;> first | exact hp _ _ _ h | exact h
  unfold wpOp at*;split
  · simpa [*] using h
  · rename_i o ho;simp only[ho] at h;split
    · rename_i hw;simp only[hw,if_true] at h;exact h.imp (key o _) (fun h=>⟨h.1,hl h.2⟩)
    · rename_i hw;simp only[hw] at h;exact h
def wpAnyZ (P:Program)(ops:Array Oper)(C:World→Prop)(z:Nat)(Q:Post):Nat→Array Bool→Act→World→Prop
  | 0,listed,a,w=>(listed.getD z false=true∨C w)∧Region.ready .any ops listed=[]∧Q .normal a w
  | fuel+1,listed,a,w=>
    (listed.getD z false=true∨C w)∧(Region.ready .any ops listed=[]→Q .normal a w)∧
    ∀i∈Region.ready .any ops listed,wpOp P ops Q i (wpAnyZ P ops C z Q fuel (listed.setIfInBounds i true)) a w
theorem wpAnyZ.cls {fuel:Nat}{listed:Array Bool}{a:Act}{w:World}(h:wpAnyZ P ops C z Q fuel listed a w):listed.getD z false=true∨C w:=by
  cases fuel <;> exact h.1
theorem ziF:∀(fuel:Nat) (listed:Array Bool) (a:Act) (w:World),wpAnyZ P ops C z Q fuel listed a w→wpAny P .any ops Q fuel listed a w
  | 0,_,_,_,h=>h.2
  | fuel+1,_,_,_,h=>⟨h.2.1,fun i hi=>wpOp_mono (fun a w=>ziF fuel _ a w) (h.2.2 i hi)⟩
def zoJ (ops:Array Oper):Nat→Nat→Nat→Prop
  | 0,_,_=>False
  | f+1,k,i=>∃ok,ops[k]? =some ok∧∃e∈ok.after,Region.binds .any e=true∧(e.on=i∨zoJ ops f e.on i)
def zfF (ops:Array Oper)(z i:Nat):Prop:=∀oz,ops[z]? =some oz→∃e∈oz.after,Region.binds .any e=true∧(e.on=i∨zoJ ops 6 e.on i)
def closed (ops:Array Oper)(listed:Array Bool):Prop:=∀k ok,ops[k]? =some ok→listed.getD k false=true→∀e∈ok.after,Region.binds .any e=true→listed.getD e.on false=true
theorem zeX {listed:Array Bool}{j k:Nat}(h:listed.getD k false=true):(listed.setIfInBounds j true).getD k false=true:=by
  by_cases hjk:j=k
  · subst hjk;rcases Nat.lt_or_ge j listed.size with h' | h'
    · simp[h']
    · simp[Array.getElem?_eq_none h'] at h
  · rw[getD_set_ne false hjk];exact h
theorem zfm {listed:Array Bool}{j:Nat}(hc:closed ops listed)(hj:j∈Region.ready .any ops listed):closed ops (listed.setIfInBounds j true):=fun k ok hk hl e he hb=>by
  obtain ⟨_,oj,hoj,hall⟩:=mem_ready.1 hj;by_cases hjk:j=k
  · subst hjk;rw[hoj] at hk;injection hk with hk;subst hk;exact zeX (hall e he hb)
  · rw[getD_set_ne false hjk] at hl;exact zeX (hc k ok hk hl e he hb)
theorem zfS {listed:Array Bool}(hcl:closed ops listed):∀{f k i:Nat},listed.getD k false=true→zoJ ops f k i→listed.getD i false=true
  | 0,_,_,_,h=>h.elim
  | f+1,k,i,hk,⟨ok,hok,e,he,hb,h⟩=>by
    have h1:=hcl k ok hok hk e he hb;rcases h with h | h
    · rw[←h];exact h1
    · exact zfS hcl h1 h
theorem zkn {i:Nat}{oi:Oper}{v:Value}(hi:ops[i]? =some oi)(hsel:∀(j:Nat) (o:Oper) cs b,ops[j]? =some o→o.op≠ .select cs b)
    (hQ:∀c a w,Q (.panic c) (a.put oi.dst v) w→Q (.panic c) a w) (hiz:i≠z) (hz:zfF ops z i):
    ∀(fuel:Nat) (listed:Array Bool) (a:Act) (w:World),
      (∀j oj,ops[j]? =some oj→j≠i→listed.getD j true=false→(∀e∈oj.after,Region.binds .any e=true→e.on≠i)→oi.apart ops oj=true)→
      i∈Region.ready .any ops listed→closed ops listed→listed.getD z false=false→YieldsC P ops C oi v a→C w→
      wpAnyZ P ops C z Q fuel (listed.setIfInBounds i true) (a.put oi.dst v) w→wpAnyZ P ops C z Q (fuel+1) listed a w:=by
  intro fuel
  induction fuel with
  | zero=>
    intro listed a w _ hr _ _ hy hw H;refine ⟨.inr hw,fun h=>(by rw[h] at hr;cases hr),fun j hj=>?_⟩;by_cases hji:j=i
    · subst hji;exact hy.wpOp hi hw H
    · have:=ready_mono hj hji;rw[H.2.1] at this;cases this
  | succ fuel ih=>
    intro listed a w hfree hr hcl hlz hy hw H;refine ⟨.inr hw,fun h=>(by rw[h] at hr;cases hr),fun j hj=>?_⟩;by_cases hji:j=i
    · subst hji;exact hy.wpOp hi hw H
    · have h1:=H.2.2 j (ready_mono hj hji);obtain ⟨hjun,oj,hoj,hall⟩:=mem_ready.1 hj;have hnot:∀e∈oj.after,Region.binds .any e=true→e.on≠i:=fun e he hb heq=>by
        have h1:=hall e he hb;have h0:=(mem_ready.1 hr).1;rw[heq] at h1;rcases Nat.lt_or_ge i listed.size with h' | h'
        · simp[h'] at h0 h1;rw[h0] at h1;cases h1
        · simp[Array.getElem?_eq_none h'] at h1
      have hjz:j≠z:=fun e=>by
        subst e;obtain ⟨e,he,hb,h⟩:=hz oj hoj;rcases h with h | h
        · exact hnot e he hb h
        · have h5:=hall e he hb;have h6:listed.getD i false=true:=zfS hcl h5 h;have h0:=(mem_ready.1 hr).1;rcases Nat.lt_or_ge i listed.size with h' | h'
          · simp[h'] at h0 h6;rw[h0] at h6;cases h6
          · simp[Array.getElem?_eq_none h'] at h0
      have h2:=zkV hoj (hfree j oj hoj hji hjun hnot) (fun cs b=>hsel i oi cs b hi) (fun cs b=>hsel j oj cs b hoj) hQ hy h1;have hfree':∀k ok,ops[k]? =some ok→k≠i→(listed.setIfInBounds j true).getD k true=false→
          (∀e∈ok.after,Region.binds .any e=true→e.on≠i)→oi.apart ops ok=true:=fun k ok hk hki hun hno=>by
        refine hfree k ok hk hki ?_ hno;by_cases hjk:j=k
        · subst hjk;exact hjun
        · rw[getD_set_ne true hjk] at hun;exact hun
      have hlz':(listed.setIfInBounds j true).getD z false=false:=(by rw[getD_set_ne false hjz];exact hlz);refine wpOp_mono (fun a' w' h3=>ih (listed.setIfInBounds j true) a' w' hfree' (ready_mono hr (Ne.symm hji)) (zfm hcl hj) hlz' h3.1 ?_ ?_) h2
      · rcases h3.2.cls with h | h
        · rw[getD_set_ne false hjz,getD_set_ne false hiz] at h;rw[h] at hlz;cases hlz
        · exact h
      · rw[Array.setIfInBounds_comm _ _ hji];exact h3.2
theorem zci (hs:Region.noSelect ops=true)(hQ:∀c a d v w,Q (.panic c) (a.put d v) w→Q (.panic c) a w)(hp1:∀ch a w,Q1 (.panic ch) a w→Q (.panic ch) a w)(hl1:LetsOut Q1→LetsOut Q)(hn1:∀a w,Q1 .normal a w→wpOp P ops Q z (fun a w=>Q .normal a w) a w):
    ∀(l:List (Nat×Bool)) (listed:Array Bool) (a:Act) (w:World),
    zbw ops (l++ [(z,true)]) listed=true→(∀p∈l,p.1≠z∧zfF ops z p.1)→closed ops listed→listed.getD z true=false→zhA P ops C Q1 l a w→wpAnyZ P ops C z Q (l.length+1) listed a w
  | [],listed,a,w,hp,_,_,hlz,h=>by
    simp only[List.nil_append,zbw,Bool.and_eq_true,beq_iff_eq] at hp;refine ⟨.inr h.1,fun h0=>(by rw[hp.1] at h0;cases h0),fun j hj=>?_⟩;rw[hp.1] at hj;have:j=z:=(by simpa using hj);subst this;have hlt:j<listed.size:=by
      rcases Nat.lt_or_ge j listed.size with h' | h'
      · exact h'
      · simp[Array.getElem?_eq_none h'] at hlz
    refine wpOp_mono (fun a w hq=>⟨.inl ?_,by simpa using hp.2,hq⟩) (hn1 a w h.2);simp[hlt]
  | (i,false)::l,listed,a,w,hp,hz,hcl,hlz,h=>by
    simp only[List.cons_append,zbw,Bool.and_eq_true] at hp;obtain ⟨⟨hr,hf⟩,hp'⟩:=hp;obtain ⟨hw,o,v,ho,hy,h⟩:=h;obtain ⟨hiz,hzi⟩:=hz (i,false) (by simp);have hlz2:listed.getD z false=false:=by
      rcases Nat.lt_or_ge z listed.size with h' | h'
      · simp[h'] at hlz ⊢;exact hlz
      · simp[Array.getElem?_eq_none h'] at hlz
    exact zkn ho (Region.noSelect_spec hs) (fun c a w=>hQ c a _ _ w) hiz hzi (l.length+1) listed a w (Region.free_spec ho hf) (by simpa using hr) hcl hlz2 hy hw
      (zci hs hQ hp1 hl1 hn1 l _ _ _ hp' (fun p hp=>hz p (by simp[hp])) (zfm hcl (by simpa using hr)) (by rw[getD_set_ne true hiz];exact hlz) h)
  | (i,true)::l,listed,a,w,hp,hz,hcl,hlz,h=>by
    simp only[List.cons_append,zbw,Bool.and_eq_true,beq_iff_eq] at hp;obtain ⟨hiz,hzi⟩:=hz (i,true) (by simp);refine ⟨.inr h.1,fun h0=>(by rw[hp.1] at h0;cases h0),fun j hj=>?_⟩;rw[hp.1] at hj;have:j=i:=(by simpa using hj);subst this;exact zrL hp1 hl1 (wpOp_mono (fun a w=>zci hs hQ hp1 hl1 hn1 l _ a w hp.2 (fun p hp=>hz p (by simp[hp])) (zfm hcl (by rw[hp.1];simp)) (by rw[getD_set_ne true hiz];exact hlz)) h.2)
def znY (ops:Array Oper):Nat→Nat→Nat→Bool
  | 0,_,_=>false
  | f+1,k,i=>match ops[k]? with
    | some ok=>(ok.after.any fun e=>Region.binds .any e && Nat.beq e.on i) || ok.after.any fun e=>Region.binds .any e && znY ops f e.on i
    | none=>false
theorem zhx {ops:Array Oper}:∀{f k i:Nat},znY ops f k i=true→zoJ ops f k i
  | 0,_,_,h=>by cases h
  | f+1,k,i,h=>by
    unfold znY at h;split at h
    · rename_i ok hok;rw[Bool.or_eq_true,Array.any_eq_true,Array.any_eq_true] at h;rcases h with ⟨j,hj,h⟩ | ⟨j,hj,h⟩
      · rw[Bool.and_eq_true] at h;exact ⟨ok,hok,ok.after[j],Array.getElem_mem hj,h.1, .inl (Nat.eq_of_beq_eq_true h.2)⟩
      · rw[Bool.and_eq_true] at h;exact ⟨ok,hok,ok.after[j],Array.getElem_mem hj,h.1, .inr (zhx h.2)⟩
    · cases h
def zm7 (ops:Array Oper)(z i:Nat):Bool:=match ops[z]? with
  | some oz=>znY ops 7 z i
  | none=>true
theorem zma {i:Nat}(h:zm7 ops z i=true):zfF ops z i:=fun oz hz=>by
  simp only[zm7,hz] at h;obtain ⟨ok,hok,e,he,hb,h⟩:=zhx h;rw[hz] at hok;injection hok with hok;subst hok;exact ⟨e,he,hb,h⟩
theorem zhn {id:Nat}{a:Act}{w:World}{l:List (Nat×Bool)}(hm:P.follows .mixedOrders=true)(hs:Region.noSelect ops=true)(hl:l.length+1=ops.size)(hzl:z<ops.size)
    (hQ:∀c a d v w,Q (.panic c) (a.put d v) w→Q (.panic c) a w) (hp1:∀ch a w,Q1 (.panic ch) a w→Q (.panic ch) a w) (hl1:LetsOut Q1→LetsOut Q) (hn1:∀a w,Q1 .normal a w→wpOp P ops Q z (fun a w=>Q .normal a w) a w)
    (hp:zbw ops (l++ [(z,true)]) (Array.replicate ops.size false)=true) (hz:l.all (fun p=>!(Nat.beq p.1 z) && zm7 ops z p.1)=true)
    (h:zhA P ops C Q1 l a {w with drawn:=w.drawn+1}):(Code.region id ops true).wp P Q a w:=
  wp_region_any hm (ziF (C:=C) (z:=z) _ _ _ _ (by
    rw[←hl];rw[←hl] at hp hzl;refine zci hs hQ hp1 hl1 hn1 l _ a _ hp (fun p hp=>?_) (fun k ok _ hl=>by simp[Array.getElem?_replicate] at hl;split at hl <;> simp at hl) (by simp[hzl]) h;have:=List.all_eq_true.1 hz p hp;simp only[Bool.and_eq_true,Bool.not_eq_true'] at this;exact ⟨Nat.ne_of_beq_eq_false this.1,zma this.2⟩))
end
section
variable {c:Cx}{E:Env}{L:List HProp}{K:List KI}
theorem zcJ {id:Nat}{l:List Oper}{Lf:List HProp}{oz:Oper}(pl:List (Nat×Bool))(z:Nat)(hz0:l[z]? =some oz)(hm:c.P.follows .mixedOrders=true)(hs:Region.noSelect l.toArray=true)(hl:pl.length+1=l.length)
    (hp:zbw l.toArray (pl++ [(z,true)]) (Array.replicate l.length false)=true) (hz:pl.all (fun p=>!(Nat.beq p.1 z) && zm7 l.toArray z p.1)=true)
    (h:G c (.plan l (fun w=>Sat c.w0 w Lf) pl:: .ops l [oz]::K) E L):G c (.code (.region id l.toArray true)::K) E L:=fun a w hE hS=>by
  have hzl:z<l.length:=(List.getElem?_eq_some_iff.1 hz0).1;refine zhn (Q1:=kq c.P c.Q (.ops l [oz]::K)) (z:=z) (l:=pl) hm hs (by simpa using hl) (by simpa using hzl) (fun ch a d v w hq=>absurd hq za8) (fun ch a w h=>h) (fun h=>h) (fun a w h=>?_) (by simpa using hp) hz (h a _ hE (hS.drew _));have hz1:l.toArray[z]? =some oz:=(by simpa using hz0);unfold wpOp;rw[hz1];exact h
end
section
variable {c:Cx}{g:Option (Nat×Bool)}{E:Env}{L L':List HProp}{d:Option Tmp}{ty:TypeId}{pos:String}{af:Array Edge}{gu:Option (Nat×Bool)}
variable {x y:Operand}{t:TypeId}{v:Value}{s:Option Addr}{j sz cap:Nat}
theorem zk0 {rows:List (List Value)}{row:List Value}{T:Nat}{F:List HProp}(hz:∀w,(sizeOf t).run c.P w= .ok 1 w)(hx:ev g E x=some (adr s (j*sz)))(hy:ev g E y=some v)(h1:one v=true)[R:OwR L s T sz cap rows F](hj:rows[j]? =some row)(hf:0<sz):
    OpL c g E L ⟨d, .store t x y,ty,pos,af,gu⟩ fun _ L'=>L'=owL T sz s cap (rows.set j (row.set 0 v))::F:=zmY hz (f:=0) (by simpa using hx) hy h1 hj hf
end
end Go.Sl
namespace Go.Sl
section
variable {c:Cx}{g:Option (Nat×Bool)}{E:Env}{L L':List HProp}{d:Option Tmp}{ty:TypeId}{pos:String}{af:Array Edge}{gu:Option (Nat×Bool)}
variable {x y:Operand}{t u e:TypeId}{p:Option Addr}
theorem znT {P:Program}{w:World}(hu:P.underlying t=some (.pointer e)):(Op.equal t (.pointer p) (.pointer none)).run P w= .ok p.isNone w:=by
  show (Op.equalIn (9999+1) _ _ _).run _ _=_;unfold Op.equalIn;cases p <;> simp[underlying,program,Sem.run,hu]
theorem zgT (hu:c.P.underlying t=some (.pointer e))(hx:ev g E x=some (.pointer p)):OpV c g E L ⟨d, .binOp .eql t x (.const (.pointer none)) u,ty,pos,af,gu⟩ (Bo p.isNone):= .mk fun a w hE hg hS=>by
  have h3:a.eval (.const (.pointer none))= .pointer none:=rfl;have h4:=znT (P:=c.P) (w:=w) (p:=p) hu;simp only[execOp,hE.ev hg hx,h3,eqGuard,binOp] at h4 ⊢;simp[h4,Sem.run]
end
end Go.Sl
namespace Go.Sl
section
variable {c:Cx}{E:Env}{L:List HProp}{d:Nat}{ty:TypeId}{pos:String}{af:Array Edge}{K:List KI}{all:List Oper}{op:Op}{N:Value→List HProp→Prop}{Lf:List HProp}{pl:List (Nat×Bool)}
theorem d_gl {i j s:Nat}{b want:Bool}(hi:all[i]? =some ⟨some d,op,ty,pos,af,some (j,want)⟩)(hj:(all[j]?).bind (·.dst)=some s)(hs:look none E s=some (.bool b))(hw:b=want)[SC:Sub L Lf]
    (h:OpL c none E L ⟨some d,op,ty,pos,af,some (j,want)⟩ N) (hd:dOk c.n d E=true)
    (k:∀v L',N v L'→G c (.plan all (fun w=>Sat c.w0 w Lf) pl::K) ((d,none,v)::E) L'):G c (.plan all (fun w=>Sat c.w0 w Lf) ((i,true)::pl)::K) E L:=fun a w hE hS=>by
  have hy:=za0 (a:=a) hj hE hs;refine ⟨SC.sat hS,?_⟩;unfold wpOp;simp only[List.getElem?_toArray,hi];rw[if_pos (by simp[Region.wanted,hy,hw])];exact .inl (h.out a w hE (yD a) hS _ _ fun v w' L' hS' hN=>k v L' hN _ w' (hE.put1 hd) hS')
theorem qQ {i j s:Nat}{b want:Bool}{v:Value}(hi:all[i]? =some ⟨some d,op,ty,pos,af,some (j,want)⟩)(hj:(all[j]?).bind (·.dst)=some s)(hs:look none E s=some (.bool b))(hw:b=want)[SC:Sub L Lf]
    (h:OpV c none E Lf ⟨some d,op,ty,pos,af,some (j,want)⟩ v) (hd:dOk c.n d E=true)
    (k:G c (.plan all (fun w=>Sat c.w0 w Lf) pl::K) ((d,none,v)::E) L):G c (.plan all (fun w=>Sat c.w0 w Lf) ((i,false)::pl)::K) E L:=fun a w hE hS=>by
  have hy:=za0 (a:=a) hj hE hs;exact ⟨SC.sat hS,_,v,by simpa using hi, .inl ⟨by simp[Region.wanted,hy,hw],fun w' hw'=> .inl (h.out a w' hE (yD a) hw')⟩,k _ w (hE.put1 hd) hS⟩
end
end Go.Sl
namespace Go.Sl
section
variable {c:Cx}{g:Option (Nat×Bool)}{E:Env}{L L':List HProp}{d:Option Tmp}{ty:TypeId}{pos:String}{af:Array Edge}{gu:Option (Nat×Bool)}
variable {x y z y3:Operand}{t u e:TypeId}{k:IntKind}{v:Value}{s:Option Addr}{b o i j n sz cap off:Nat}
theorem zat {f:FuncId}{xs:List Operand}{fi cap vs:List Value}{ats:Array TypeId}{Pre F:List HProp}{R:List HProp→Value→List HProp→Prop}(hcall:∀args w,(callFunc f args).run c.P w= .ok (.enter f args) w)(hf:ev g E x=some (.func (.func f) fi.toArray cap.toArray))(hx:evs g E xs=some vs)(h:∀F,Ct c.P f (fi++vs++cap) (Pre++F) (R F))[S:Split L Pre F]:
    OpL c g E L ⟨d, .call {callee:= .value x,args:=xs.toArray,argTypes:=ats},ty,pos,af,gu⟩ (R F):=by
  constructor;intro a w hE hg hS nx Q hn;unfold Oper.wp;have hr:(execOp a.eval ⟨d, .call {callee:= .value x,args:=xs.toArray,argTypes:=ats},ty,pos,af,gu⟩).run c.P w= .ok (.enter f (fi++vs++cap).toArray) w:=by
    simp[execOp,resolve,hE.ev hg hf,Deferred.ofValue,invoke,hcall,←hE.evs hg hx]
  rw[hr];refine (h F c.w0 w (S.sat hS)).mono fun e w' he=>?_;cases e with
  | returned v=>obtain ⟨L',h1,h2⟩:=he;exact hn v w' L' h1 h2
  | panicked ch=>exact he.elim
  | outgrown=>exact he.elim
theorem Rows.take {ob:Obj}{off:Nat}{rows:List (List Value)}(h:Rows ob off sz rows)(i:Nat):Rows ob off sz (rows.take i):=fun j row hj f v hf=>by
  have hji:j<i:=(by have:=(List.getElem?_eq_some_iff.1 hj).1;simp at this;omega);rw[List.getElem?_take_of_lt hji] at hj;exact h j row hj f v hf
theorem zn8 {ya:Option Addr}{p m cy:Nat}{T:Nat}{rows:List (List Value)}{F:List HProp}(hu:c.P.underlying t=some (.slice T))(hz:∀w,(sizeOf T).run c.P w= .ok sz w)(h0:0<sz)
    (hx:ev g E x=some (sl s i cap)) (hy:ev g E y=some (sl ya m cy)) [R:OwR L s T sz cap rows F] (hya:At ya s p sz m) (hi:i≤rows.length) (hp:p+m≤rows.length) (him:i+m≤rows.length) (hr0:0<rows.length) (h1:∀r∈rows,ones r=true):
    OpL c g E L ⟨d, .call {callee:= .builtin .append,args:=#[x,y],argTypes:=#[t,t]},ty,pos,af,gu⟩ fun v L'=>v=sl s (i+m) cap∧L'=owL T sz s cap (rows.take i++(rows.drop p).take m)::F:=
  .of_run fun a w hE hg hS=>by
    have hS1:=R.sat hS;have ex:=fun w' v h=>zcP (d:=d) (ty:=ty) (pos:=pos) (af:=af) (gu:=gu) (t:=t) (u:=t) (r:= .ok v w') (P:=c.P) (w:=w) (hE.ev hg hx) (hE.ev hg hy) h;rcases yP hS1 with ⟨rfl,rfl,rfl,hF⟩ | ⟨b,cs,rfl,a1,a2,a3,a4,hP⟩
    · simp at hr0
    · have hnews:∀r∈(rows.drop p).take m,r.length=sz:=fun r hr=>a3 r (List.mem_of_mem_drop (List.mem_of_mem_take hr));have hlen:((rows.drop p).take m).length=m:=(by simp;omega);have htk:(rows.take i).length=i:=(by simp;omega);have fl1:ones ((rows.drop p).take m).flatten=true:=zdb fun v hv=>by
        obtain ⟨r,hr,hv⟩:=List.mem_flatten.1 hv;exact zdM (h1 r (List.mem_of_mem_drop (List.mem_of_mem_take hr))) v hv
      have hfi:(Builtin.firstCells sz m (sl ya m cy)).run c.P w= .ok ((rows.drop p).take m).flatten.toArray w:=by
        refine zdG h0 hnews hlen ?_;by_cases hm0:m=0
        · left;subst hm0;rfl
        · exact .inr ⟨b,0+p*sz,_,hya.addr (by omega),hP.at_,a4.part⟩
      obtain ⟨hle,hrows⟩:=zdm (T:=T) (rows:=rows.take i) (news:=(rows.drop p).take m) h0 a1 (by rw[htk,hlen];omega) (fun r hr=>a3 r (List.mem_of_mem_take hr)) hnews (a4.take i);rw[htk] at hle hrows;have hst:=yJ (P:=c.P) b (i*sz) T ((rows.drop p).take m).flatten w cs 0 hP.at_ (by omega) fl1;refine ⟨sl (some ⟨b,0,none⟩) (i+m) cap,zfj w b (.cells (yW cs (i*sz) ((rows.drop p).take m).flatten) T (0,0)),_,ex _ _ ?_,?_,rfl,rfl⟩
      · exact zcb (base:=some ⟨b,0,none⟩) hu hz zdN hfi (by omega) (by simpa [zaV] using hst)
      · refine wY (hP.set (o':= .cells (yW cs (i*sz) ((rows.drop p).take m).flatten) T (0,0)) rR) (by rw[wH,a1]) (by simp;omega) ?_ hrows;intro r hr;rcases List.mem_append.1 hr with h | h
        · exact a3 r (List.mem_of_mem_take h)
        · exact hnews r h
theorem zqj {zv:Array Value}(h:ones zv.toList=true)(n:Nat):ones (Builtin.zeroCells zv n).toList=true:=zdb fun v hv=>by
  simp only[Builtin.zeroCells,Array.toList_map,List.mem_map,Array.mem_toList_iff,Array.mem_range] at hv;obtain ⟨q,hq,rfl⟩:=hv;have hp:0<zv.size:=by
    rcases Nat.eq_zero_or_pos zv.size with h | h
    · rw[h] at hq;simp at hq
    · exact h
  have hlt:=Nat.mod_lt q hp;rw[getElem!_pos zv _ hlt];exact zdM h _ (by simp)
theorem zev {xa:Option Addr}{l m cx:Nat}{zv:Value}{T:Nat}{rows:List (List Value)}{F:List HProp}(s:Option Addr)(hu:c.P.underlying t=some (.slice T))(hzv:∀w,(zeroValue T).run c.P w= .ok zv w)(hzs:zv.cells.size=sz)(hz1:ones zv.cells.toList=true)
    (hx:ev g E x=some (sl xa m cx)) [R:OwR L s T sz cap rows F] (hxa:At xa s l sz m) (hl:rows.length≤l) (hm:l+m≤cap):
    OpL c g E L ⟨d, .call {callee:= .builtin .clear,args:=#[x],argTypes:=#[t]},ty,pos,af,gu⟩ fun v L'=>v= .tuple #[]∧L'=owL T sz s cap rows::F:=
  .of_run fun a w hE hg hS=>by
    have hS1:=R.sat hS;have e1:=hE.ev hg hx;by_cases hm0:m=0
    · subst hm0;refine ⟨.tuple #[],w,_,?_,hS1,rfl,rfl⟩;cases xa <;> simp[execOp,resolve,invoke,builtin,e1,Builtin.clear_,underlying,program,Sem.run,hu,sl]
    · rcases yP hS1 with ⟨rfl,rfl,rfl,hF⟩ | ⟨b,cs,rfl,a1,a2,a3,a4,hP⟩
      · omega
      · have hxa':=hxa.addr (by omega);subst hxa';have hzl:(Builtin.zeroCells zv.cells m).toList.length=m*sz:=(by rw[Array.length_toList,zbb,hzs]);have hle:l*sz+(Builtin.zeroCells zv.cells m).toList.length≤cs.size:=(by rw[hzl,a1,←Nat.add_mul];exact Nat.mul_le_mul_right _ hm);have hst:=yJ (P:=c.P) b (0+l*sz) T (Builtin.zeroCells zv.cells m).toList w cs 0 hP.at_ (by omega) (zqj hz1 m);refine ⟨.tuple #[],zfj w b (.cells (yW cs (0+l*sz+0) (Builtin.zeroCells zv.cells m).toList) T (0,0)),owL T sz (some ⟨b,0,none⟩) cap rows::F,?_,?_,rfl,rfl⟩
        · obtain ⟨q,rfl⟩:∃q,m=q+1:=⟨m - 1,by omega⟩;have hst2:=hst;simp only[Nat.zero_add,Nat.add_zero] at hst2;simp[execOp,resolve,invoke,builtin,e1,Builtin.clear_,underlying,program,Sem.run,hu,sl,hzv,hst2]
        · refine wY (hP.set (o':= .cells (yW cs (0+l*sz+0) (Builtin.zeroCells zv.cells m).toList) T (0,0)) rR) (by rw[wH,a1]) a2 a3 fun q row hq f v hf=>?_;have:=a4 q row hq f v hf;simp only[yl,Nat.zero_add,Nat.add_zero] at this ⊢;have hq':=(List.getElem?_eq_some_iff.1 hq).1;have hf':f<sz:=(by rw[←a3 row (List.mem_of_getElem? hq)];exact (List.getElem?_eq_some_iff.1 hf).1);have h5:(q+1)*sz≤l*sz:=Nat.mul_le_mul_right _ (by omega);rw[Nat.add_mul,Nat.one_mul] at h5;rw[zaU _ _ _ hle,if_neg (by omega)];exact this
theorem zwX {m m2 m3:Int}{l h q:Nat}(hu:c.P.underlying t=some (.slice e))(hz:∀w,(sizeOf e).run c.P w= .ok sz w)(hx:ev g E x=some (sl s n cap))(hy:ev g E y=some (I m))(hm:m=l)(hz2:ev g E z=some (I m2))(hm2:m2=h)(hz3:ev g E y3=some (I m3))(hm3:m3=q)(hl:l≤h)(hh:h≤q)(hq:q≤cap):
    OpV c g E L ⟨d, .slice t x (some y) (some z) (some y3),ty,pos,af,gu⟩ (sl (if q=l then s else s.map (·.add (l*sz))) (h - l) (q - l)):= .mk fun a w hE hg hS=>by
  have h1:=fun cd=>zak (P:=c.P) (w:=w) (cd:=cd) hm hl;have h2:=fun cd=>zak (P:=c.P) (w:=w) (cd:=cd) hm2 hh;have h3:=fun cd=>zak (P:=c.P) (w:=w) (cd:=cd) hm3 hq;simp only[execOp,Instr.sliceAt,Instr.slice,Instr.sliceBounds,Option.map_some,Option.map_none,hE.ev hg hx,hE.ev hg hy,hE.ev hg hz2,hE.ev hg hz3,sl];simp[underlying,program,Sem.run,hu,hz,h1,h2,h3]
end
end Go.Sl
