/- The walks through image.within, image.whole and image.Parse. No condition but the library's tables. -/
import Derived.Test.YthdjckbjjfiopacGreatDoorPartF
import Derived.Test.YthdjckbjjfiopacGreatDoorIm3
set_option linter.unusedSimpArgs false
set_option linter.unusedVariables false
namespace Go.Proofs.YthdjckbjjfiopacGreatDoor
open _root_.Tryz
open Go.Sl Go.Proofs
theorem zjk {ρ:Type}{m n:Nat}{B:Int→Option ρ}(h:sup n B)(hm:m≤n)(ha:∀q∈ids n B,q≤m):sup m B:=fun q x e=>by
  have h1:=h q x e;have h2:=ha q (mem_ids.2 ⟨h1,by rw[e];rfl⟩);omega
theorem zsx {S:SI}{L:List Pt}{p:Pt}(h:Top S L)(hp:∀i:Nat,p.size≤(i:Int)→i<16→zeY S p.root i=[]):Top S (L++ [p]):=fun x hx i h1 h2=>by
  rcases List.mem_append.1 hx with hx | hx
  · exact h x hx i h1 h2
  · rw[List.mem_singleton] at hx;subst hx;exact hp i h1 h2
theorem zuN (S:SI):Top S []:=fun p hp=>by cases hp
def ztQ (b:Nat)(st:PS)(F:List HProp):Value→List HProp→Prop:=fun v L'=>(v=Bo true∧WholeP st∧L'=vlt b ⟨st.B,st.N⟩ st.L st.n::F)∨(v=Bo false∧¬WholeP st∧L'=F)
section
variable {c:Cx}{E:Env}{L:List HProp}{K:List KI}
theorem wL {F:List HProp}{b:Nat}{st:PS}{vs:List Value}(hR:c.R=ztQ b st F)(he:¬WholeP st)(hr:za6 E c.fn.results.toList=some vs)(hv:tup vs=Bo false)[S:Sub L F](hds:c.n.ds=[]:=by rfl):G c (.code .ret::K) E L:=
  fun a w hE hS=>wp_ret (yb (qx (hds:=hds) hr hE (S.sat hS) (by rw[hR];exact .inr ⟨hv,he,rfl⟩)))
theorem zpF {F:List HProp}{b:Nat}{st:PS}{vs:List Value}(hR:c.R=ztQ b st F)(he:WholeP st)(hr:za6 E c.fn.results.toList=some vs)(hv:tup vs=Bo true)[S:Sub L (vlt b ⟨st.B,st.N⟩ st.L st.n::F)](hds:c.n.ds=[]:=by rfl):G c (.code .ret::K) E L:=
  fun a w hE hS=>wp_ret (yb (qx (hds:=hds) hr hE (S.sat hS) (by rw[hR];exact .inl ⟨hv,he,rfl⟩)))
end
theorem zpe {st:PS}(h:Pok st)(hN:sup 24 st.N)(hB:sup 40 st.B):okS 999 ⟨st.B,st.N⟩:=⟨hB,fun q x e=>(h.b q x e).1,hN,fun q m e=>(h.n q m e).1⟩
def zvm (l:List ChangeM)(T:TypeId)(F:List HProp):Value→List HProp→Prop:=fun v L'=>(∃st q,za7 none ps0 l=some st∧WholeP st∧v= .tuple #[ptr q 0,zbR T 0]∧L'=vlt q ⟨st.B,st.N⟩ st.L st.n::F)∨((∀st,za7 none ps0 l=some st→¬WholeP st)∧v= .tuple #[.pointer none,zbR T 4]∧L'=F)
section
variable {c:Cx}{E:Env}{L:List HProp}{K:List KI}
theorem zqV {F:List HProp}{l:List ChangeM}{T:TypeId}{vs:List Value}(hR:c.R=zvm l T F)(he:∀st,za7 none ps0 l=some st→¬WholeP st)(hr:za6 E c.fn.results.toList=some vs)(hv:tup vs= .tuple #[.pointer none,zbR T 4])[S:Sub L F](hds:c.n.ds=[]:=by rfl):G c (.code .ret::K) E L:=
  fun a w hE hS=>wp_ret (yb (qx (hds:=hds) hr hE (S.sat hS) (by rw[hR];exact .inr ⟨he,hv,rfl⟩)))
theorem zvi {F:List HProp}{l:List ChangeM}{T:TypeId}{st:PS}{q:Nat}{vs:List Value}(hR:c.R=zvm l T F)(he:za7 none ps0 l=some st)(hw:WholeP st)(hr:za6 E c.fn.results.toList=some vs)(hv:tup vs= .tuple #[ptr q 0,zbR T 0])[S:Sub L (vlt q ⟨st.B,st.N⟩ st.L st.n::F)](hds:c.n.ds=[]:=by rfl):G c (.code .ret::K) E L:=
  fun a w hE hS=>wp_ret (yb (qx (hds:=hds) hr hE (S.sat hS) (by rw[hR];exact .inl ⟨st,q,he,hw,hv,rfl⟩)))
end
theorem zl2:∀(l1:List ChangeM) {l2:List ChangeM} {pv:Option Bytes} {st st1:PS},za7 pv st l1=some st1→za7 pv st (l1++l2)=za7 (match l1.getLast? with | none=>pv | some c=>some c.key) st1 l2
  | [],l2,pv,st,st1,h=>by simp only[za7] at h;injection h with h;subst h;rfl
  | c::l1,l2,pv,st,st1,h=>by
    simp only[za7,List.cons_append] at h ⊢;split at h
    · cases h
    · rename_i hb;rw[if_neg hb];split at h
      · cases h
      · rename_i st2 hr;rw[zl2 l1 h];congr 1;cases l1 with
        | nil=>rfl
        | cons d l1=>rw[List.getLast?_cons_cons];cases hq:(d::l1).getLast? with
          | none=>simp at hq
          | some e=>rfl
def pvK (l:List ChangeM)(i:Nat):Option Bytes:=match (l.take i).getLast? with | none=>none | some c=>some c.key
theorem zqi {l:List ChangeM}{i:Nat}{st st':PS}{c:ChangeM}(h:za7 none ps0 (l.take i)=some st)(hc:l[i]?=some c)(hb:¬(badK (pvK l i) c=true∨c.gone=true))(hr:zdX st c=some st'):za7 none ps0 (l.take (i+1))=some st':=by
  rw[←zas hc,zl2 _ h];show za7 (pvK l i) st [c]=_;simp only[za7];rw[if_neg hb,hr]
theorem zkt {l:List ChangeM}{i:Nat}{st:PS}{c:ChangeM}(h:za7 none ps0 (l.take i)=some st)(hc:l[i]?=some c)(hb:(badK (pvK l i) c=true∨c.gone=true)∨zdX st c=none):za7 none ps0 l=none:=by
  have e:l=l.take i++c::l.drop (i+1):=by
    obtain ⟨hi,e⟩:=List.getElem?_eq_some_iff.1 hc;rw[←e,←List.drop_eq_getElem_cons hi,List.take_append_drop]
  rw[e,zl2 _ h];show za7 (pvK l i) st (c::l.drop (i+1))=none;simp only[za7];rcases hb with hb | hb
  · rw[if_pos hb]
  · rw[hb];split <;> rfl
theorem pvK_0 (l:List ChangeM):pvK l 0=none:=by simp[pvK]
theorem pvK_s {l:List ChangeM}{i:Nat}{c:ChangeM}(h:l[i]?=some c):pvK l (i+1)=some c.key:=by
  unfold pvK;rw[←zas h,List.getLast?_append];simp
theorem zxu {st st':PS}{c:ChangeM}(h:zdX st c=some st'):st'.L.length≤st.L.length+1:=by
  by_cases hX:c.key=[120]
  · unfold zdX at h;rw[if_pos hX] at h;unfold xF at h;split at h
    · injection h with h;subst h;simp
    · split at h
      · split at h
        · injection h with h;subst h;simp
        · cases h
      · cases h
  · obtain ⟨id,y,_,_,_,hk⟩:=zr9 hX h;unfold kFr at hk;split at hk
    · unfold bF at hk;split at hk
      · split at hk
        · injection hk with hk;subst hk;simp
        · cases hk
      · cases hk
    · split at hk
      · unfold nF at hk;split at hk
        · split at hk
          · injection hk with hk;subst hk;simp
          · cases hk
        · cases hk
      · split at hk
        · unfold pF at hk;split at hk
          · split at hk
            · injection hk with hk;subst hk;simp
            · cases hk
          · cases hk
        · cases hk
theorem zeX (b p r:Nat)(N:NdT)(m:Nat)(hm:(ids m N).length≤1000)(F:List HProp):Ct Tryz.prog 19 [ptr b 0] ([pt b (.cells #[ptr p 0, .map (some r)] 43 (0,0)),mp r (tb yP m N)]++F) (RSl 3 1 (ids m N).length (yS (ids m N)) (pt b (.cells #[ptr p 0, .map (some r)] 43 (0,0))::mp r (tb yP m N)::F)):=by
  show Ct Tryz.prog 19 [ptr b 0] (pt b (.cells #[ptr p 0, .map (some r)] 43 (0,0))::mp r (tb yP m N)::F) _;refine Ct.of Tryz.func19 rR 21 Tryz.ntmps19 (by simp) fun w0=>?_
  refine zaf r ?_;intro es clk;refine yJ 3 1 (yS []) rR ?_;refine gS (gA rR (qb (gS (gA rR (qb (qf (gS (gM rR (g_v (qc rR) rR (g_v (qa 1 underlying43 rR rR sizeOf41 (by decide) rR) rR ?_))))))))));refine g_v (qe (v:= .map (some r)) isAgg41 rR rR) rR ?_;refine g_l (zbi underlying41 rR) rR ?_;rintro _ _ ⟨b9,rfl,rfl⟩;refine qb (ql ?_);refine qF (α:=MM×List Int×Option (Int×Value)×Option Addr×Nat) (fun z=>(z.2.1++z.1.map (·.1)).Perm (ids m N)) (fun z=>U [(0,ptr b 0),(9,ptr b9 0),(3,sl z.2.2.2.1 z.2.1.length z.2.2.2.2)]) (fun z=>mit b9 r es clk z.1 z.2.2.1::mpE r es clk (tb yP m N)::pt b (.cells #[ptr p 0, .map (some r)] 43 (0,0))::owL 3 1 z.2.2.2.1 z.2.2.2.2 (yS z.2.1)::F) (fun z=>z.1.length) (tb yP m N,[],none,none,0) (by rw[List.nil_append,zdn]) [0,9,3] rR rR ?_;rintro ⟨rest,zs,cur,s,c⟩ hp;simp only[] at hp ⊢;have hzl:zs.length≤1000:=by have h1:=hp.length_eq;simp at h1;omega
  refine gS ?_;refine g_l (zcJ rR) rR ?_;rintro _ _ (⟨hr,rfl,rfl⟩ | ⟨⟨k,v⟩,rest',hq,rfl,rfl⟩)
  · subst hr;simp only[List.map_nil,List.append_nil] at hp;refine g_v (qd rR rR) rR (qb (qf ?_));refine wj rR ?_;refine qy rR ?_;refine gS (gM rR ?_);refine g_l (qj (Pre:=[owL 3 1 s c (yS zs)]) call49 rR (zaX zs s zs.length c rR (by omega))) rR ?_;rintro _ _ ⟨rfl,rfl⟩;rw[zge hp];refine qb (gS (gM rR (gA rR (qb ?_))));refine qK r ?_;exact wv rfl rfl rfl (by rw[hp.length_eq])
  · have hp2:(zs++k::rest'.map (·.1)).Perm (ids m N):=by
        have h1:=((hq.map (·.1)).append_left zs).symm.trans hp;simpa using h1
    refine g_v (qd rR rR) rR (qb (qf ?_));refine wS rR ?_;refine qi (ql (gS (g_v (zbg rR) rR (g_v (qd (v:=I k) rR rR) rR (gA rR (qb (qp (gM rR (gM rR ?_)))))))));refine g_l (qs [[I k]] underlying39 sizeOf3 zeroValue3 rR rR rR (by simp) (by decide) (by decide)) rR ?_;rintro _ _ ⟨b16,rfl,rfl⟩;refine g_l (yD underlying39 sizeOf3 zeroValue3 rfl Tryz.typeInfo3 (by decide) rfl rfl (wl _) rfl (by simp) (by intro r hr;simp at hr;subst hr;rfl) ⟨by omega,by decide,by decide⟩) rfl ?_;rintro _ _ ⟨s17,c17,rfl,rfl⟩;refine gA rR (qb (qG ?_));rw[show yS zs++ [[I k]]=yS (zs++ [k]) by simp[yS]];refine qo (rest',zs++ [k],some (k,v),s17,c17) (by simpa using hp2) (by have:=hq.length_eq;simp at this;simp;omega) [0,9,3] rR (by simp[U])
theorem zfy (b r:Nat)(B:BkT)(m:Nat)(hm:(ids m B).length≤1000)(F:List HProp):Ct Tryz.prog 18 [ptr b 0] ([pt b (.cells #[.map (some r)] 95 (0,0)),mp r (tb encB m B)]++F) (RSl 3 1 (ids m B).length (yS (ids m B)) (pt b (.cells #[.map (some r)] 95 (0,0))::mp r (tb encB m B)::F)):=by
  show Ct Tryz.prog 18 [ptr b 0] (pt b (.cells #[.map (some r)] 95 (0,0))::mp r (tb encB m B)::F) _;refine Ct.of Tryz.func18 rR 21 Tryz.ntmps18 (by simp) fun w0=>?_
  refine zaf r ?_;intro es clk;refine yJ 3 1 (yS []) rR ?_;refine gS (gA rR (qb (gS (gA rR (qb (qf (gS (gM rR (g_v (qc rR) rR (g_v (qa 0 underlying95 rR rR sizeOf93 (by decide) rR) rR ?_))))))))));refine g_v (qe (v:= .map (some r)) isAgg93 rR rR) rR ?_;refine g_l (zbi underlying93 rR) rR ?_;rintro _ _ ⟨b9,rfl,rfl⟩;refine qb (ql ?_);refine qF (α:=MM×List Int×Option (Int×Value)×Option Addr×Nat) (fun z=>(z.2.1++z.1.map (·.1)).Perm (ids m B)) (fun z=>U [(0,ptr b 0),(9,ptr b9 0),(3,sl z.2.2.2.1 z.2.1.length z.2.2.2.2)]) (fun z=>mit b9 r es clk z.1 z.2.2.1::mpE r es clk (tb encB m B)::pt b (.cells #[.map (some r)] 95 (0,0))::owL 3 1 z.2.2.2.1 z.2.2.2.2 (yS z.2.1)::F) (fun z=>z.1.length) (tb encB m B,[],none,none,0) (by rw[List.nil_append,zdn]) [0,9,3] rR rR ?_;rintro ⟨rest,zs,cur,s,c⟩ hp;simp only[] at hp ⊢;have hzl:zs.length≤1000:=by have h1:=hp.length_eq;simp at h1;omega
  refine gS ?_;refine g_l (zcJ rR) rR ?_;rintro _ _ (⟨hr,rfl,rfl⟩ | ⟨⟨k,v⟩,rest',hq,rfl,rfl⟩)
  · subst hr;simp only[List.map_nil,List.append_nil] at hp;refine g_v (qd rR rR) rR (qb (qf ?_));refine wj rR ?_;refine qy rR ?_;refine gS (gM rR ?_);refine g_l (qj (Pre:=[owL 3 1 s c (yS zs)]) call49 rR (zaX zs s zs.length c rR (by omega))) rR ?_;rintro _ _ ⟨rfl,rfl⟩;rw[zge hp];refine qb (gS (gM rR (gA rR (qb ?_))));refine qK r ?_;exact wv rfl rfl rfl (by rw[hp.length_eq])
  · have hp2:(zs++k::rest'.map (·.1)).Perm (ids m B):=by
        have h1:=((hq.map (·.1)).append_left zs).symm.trans hp;simpa using h1
    refine g_v (qd rR rR) rR (qb (qf ?_));refine wS rR ?_;refine qi (ql (gS (g_v (zbg rR) rR (g_v (qd (v:=I k) rR rR) rR (gA rR (qb (qp (gM rR (gM rR ?_)))))))));refine g_l (qs [[I k]] underlying39 sizeOf3 zeroValue3 rR rR rR (by simp) (by decide) (by decide)) rR ?_;rintro _ _ ⟨b16,rfl,rfl⟩;refine g_l (yD underlying39 sizeOf3 zeroValue3 rfl Tryz.typeInfo3 (by decide) rfl rfl (wl _) rfl (by simp) (by intro r hr;simp at hr;subst hr;rfl) ⟨by omega,by decide,by decide⟩) rfl ?_;rintro _ _ ⟨s17,c17,rfl,rfl⟩;refine gA rR (qb (qG ?_));rw[show yS zs++ [[I k]]=yS (zs++ [k]) by simp[yS]];refine qo (rest',zs++ [k],some (k,v),s17,c17) (by simpa using hp2) (by have:=hq.length_eq;simp at this;simp;omega) [0,9,3] rR (by simp[U])
theorem zdp (b:Nat)(S:SI)(L:List Pt)(n:Int)(hl:L.length≤1000000)(hok:okS 999 S)(hp16:∀p∈L,0<p.size∧p.size≤16)(F:List HProp):Ct Tryz.prog 91 [ptr b 0] ([vlt b S L n]++F) (fun v L'=>∃o,v=Bo o∧L'=vlt b S L n::F∧(o=true ↔ Top S L)):=by
  show Ct Tryz.prog 91 [ptr b 0] (vlt b S L n::F) _;refine Ct.of Tryz.func91 rR 31 Tryz.ntmps91 (by simp) fun w0=>?_
  refine zau b S L n ?_;intro x s c;refine gS (gA rR (qb (qf (gS (gM rR (g_v (qc rR) rR (g_v (qa 1 underlying47 rR rR sizeOf45 (by decide) rR) rR (g_v (qe (v:=sl s (L).length c) isAgg45 rR rR) rR (g_v (yk underlying45 rR) rR (gM rR (qb ?_)))))))))));refine ql ?_;refine qF (α:=Nat) (fun j=>j≤L.length∧Top S (L.take j)) (fun j=>U [(0,ptr b 0),(9,sl s L.length c),(10,I L.length),(11,I j)]) (fun j=>pt b (.cells #[ptr x 0,sl s (L).length c,I (n)] 47 (0,0))::ixl x S::owL 55 4 s c (ptR (L))::F) (fun j=>L.length - j) 0 ⟨by simp,by simpa using zuN S⟩ [0,9,10,11] rR rR ?_;rintro j ⟨hj,hT⟩;refine gS (g_v (qL rR rR) rR (qb (qf ?_)));refine qh rR (fun h12=>?_) (fun h12=>?_)
  · simp at h12;have hjn:j<L.length:=by omega
    obtain ⟨p0,hp⟩:∃p0,L[j]?=some p0:=⟨_,List.getElem?_eq_getElem hjn⟩;have hp0:=hp16 p0 (List.mem_of_getElem? hp);refine qi (qf (ql (gS (g_v (qB (j) underlying45 sizeOf55 rR rR rR hjn (by rw[wg];exact hjn)) rR (g_v (yd (row:=yj p0) isAgg55 sizeOf55 rR (zbZ hp) rR) rR ?_)))));refine g_l (qz #[I 0,I 0,I 0,I 0] zeroValue55) rR ?_;rintro _ _ ⟨b4,rfl,rfl⟩;refine yp (qr (cs:=#[I 0,I 0,I 0,I 0]) (vs:=yj (p0)) (yj (p0)).toArray sizeOf55 rR rR rR rR (by simp) (qv rR)) ?_;rintro _ _ rfl;refine qb (gS (g_v (qa 2 underlying55 rR rR sizeOf3 (by decide) rR) rR (g_v (qe (v:=I p0.size) isAgg3 rR rR) rR (gA rR (qb ?_)))));obtain ⟨sz,hsz⟩:∃k:Nat,p0.size=k:=⟨p0.size.toNat,by omega⟩;refine ql ?_;refine qF (α:=Nat) (fun a=>a≤16∧sz≤a∧∀i,sz≤i→i<a→zeY S p0.root i=[]) (fun a=>U [(0,ptr b 0),(9,sl s L.length c),(10,I L.length),(11,I j),(4,ptr b4 0),(5,I a)]) (fun a=>pt b (.cells #[ptr x 0,sl s (L).length c,I (n)] 47 (0,0))::ixl x S::owL 55 4 s c (ptR (L))::pt b4 (.cells (yj p0).toArray 55 (0,0))::F) (fun a=>16 - a) sz ⟨by omega,by omega,fun i h1 h2=>absurd h1 (by omega)⟩ [0,9,10,11,4,5] rR (by simp[U,hsz]) ?_;rintro a ⟨ha,hsa,hget⟩;refine qf (gS (gM rR (g_v (qL rR rR) rR (qb ?_))));refine qh rR (fun h18=>?_) (fun h18=>?_)
    · simp at h18;have ha16:a<16:=by omega
      refine qi (qf (ql (qf ?_)));refine yr (Lf:=[pt b (.cells #[ptr x 0,sl s (L).length c,I (n)] 47 (0,0)),pt b4 (.cells (yj p0).toArray 55 (0,0))]) [(0,false),(1,false),(2,false),(3,false),(4,false),(5,false),(6,false),(7,true),(8,false)] (by kernel_rfl) (by kernel_rfl) rR (by kernel_rfl) ?_;refine d_v rR (qg rR) rR (d_v rR (qc rR) rR (d_v rR (qa 0 underlying47 rR rR sizeOf44 (by decide) rR) rR (d_v rR (qe (v:=ptr x 0) isAgg44 rR rR) rR (d_v rR (qa 3 underlying55 rR rR sizeOf3 (by decide) rR) rR (d_v rR (qe (v:=I p0.root) isAgg3 rR rR) rR (d_v rR (qg rR) rR ?_))))));refine d_l rR (qj (Pre:=[ixl x S]) call68 rR (zaM x S p0.root a 999 hok (by decide) (by omega))) rR ?_;rintro _ _ ⟨rfl,rfl⟩;refine d_v rR (zh3 rR rR) rR ?_;refine qZ ?_;refine qh rR (fun h29=>?_) (fun h29=>?_)
      · simp at h29;refine gS (gA rR (qb ?_))
        first
        | (refine yn b x s c (S) (L) (n) ?_
           exact fun a w hE hS=>wp_ret (yb (qx (vs:=[Bo true]) rfl hE ((inferInstance:Sub _ (vlt b S L n::F)).sat hS) ⟨true,rfl,rfl,fun _=>hT,fun _=>rfl⟩)))
        | (refine yn b x s c (S) (L) (n) ?_
           exact fun a' w hE hS=>wp_ret (yb (qx (vs:=[Bo false]) rfl hE ((inferInstance:Sub _ (vlt b S L n::F)).sat hS) ⟨false,rfl,rfl,(fun h=>by cases h),fun h=>absurd (h p0 (List.mem_of_getElem? hp) a (by omega) ha16) h29⟩)))
      · simp at h29;refine qi (qG (qp (gM rR (g_v (qu rR rR (w64 (by omega))) rR (gA rR (qb ?_))))));exact qo (a+1) ⟨by omega,by omega,fun i h1 h2=>by
          rcases Nat.lt_or_ge i a with h | h
          · exact hget i h1 h
          · obtain rfl:i=a:=by omega
            exact h29⟩ (by omega) [0,9,10,11,4,5] rfl rfl
    · simp at h18;obtain rfl:a=16:=by omega
      refine qy rR ?_;refine qG (qp (g_v (qu rR rR (w64 (by omega))) rR (gM rR (qb ?_))));exact qo (j+1) ⟨by omega,by rw[←zas hp];exact zsx hT fun i h1 h2=>hget i (by omega) h2⟩ (by omega) [0,9,10,11] rfl rfl
  · simp at h12;obtain rfl:j=L.length:=by omega
    rw[List.take_length] at hT;refine qy rR ?_;refine gS (gA rR (qb ?_))
    first
    | (refine yn b x s c (S) (L) (n) ?_
       exact fun a w hE hS=>wp_ret (yb (qx (vs:=[Bo true]) rfl hE ((inferInstance:Sub _ (vlt b S L n::F)).sat hS) ⟨true,rfl,rfl,fun _=>hT,fun _=>rfl⟩)))
    | (refine yn b x s c (S) (L) (n) ?_
       exact fun a' w hE hS=>wp_ret (yb (qx (vs:=[Bo false]) rfl hE ((inferInstance:Sub _ (vlt b S L n::F)).sat hS) ⟨false,rfl,rfl,(fun h=>by cases h),fun h=>absurd (h p0 (List.mem_of_getElem? hp) a (by omega) ha16) h29⟩)))
theorem zhT (b:Nat)(st:PS)(hP:Pok st)(hl:st.L.length≤1000000)(F:List HProp):Ct Tryz.prog 60 [ptr b 0] ([pvl b st]++F) (ztQ b st F):=by
  show Ct Tryz.prog 60 [ptr b 0] (pvl b st::F) _;refine Ct.of Tryz.func60 rR 119 Tryz.ntmps60 (by simp) fun w0=>?_
  refine zd7 b st ?_;intro x p r r2 s cc;refine gS (gA rR (qb (qf (qf ?_))));refine wI [(0,false),(1,false),(2,false),(3,false),(4,false),(5,false),(6,false),(7,false),(8,false),(9,false),(10,false),(11,false),(12,false),(13,false),(14,false),(15,false),(16,false),(17,false),(18,false),(19,false),(20,false),(21,false),(22,false),(23,false),(24,false),(25,false),(26,false),(27,false),(28,false),(29,false),(30,false),(31,false),(32,false),(33,false),(34,false),(35,false),(36,false),(37,false),(38,false),(39,false),(40,false),(41,false),(42,false),(43,false),(44,false),(45,false),(46,false),(47,false),(48,false),(49,false),(50,false),(51,false),(52,false),(53,false),(54,false),(55,false),(56,false),(57,false),(58,false),(59,false),(60,false),(61,false),(62,false),(63,false),(64,false),(65,false)] (by kernel_rfl) (by kernel_rfl) rR (by kernel_rfl) ?_;refine d_v rR (qg rR) rR (d_v rR (qc rR) rR (d_v rR (qa 1 underlying47 rR rR sizeOf45 (by decide) rR) rR (d_v rR (qe (v:=sl s st.L.length cc) isAgg45 rR rR) rR (d_v rR (yk underlying45 rR) rR (d_v rR (yv rR rR) rR (d_v rR (qg rR) rR ?_))))));by_cases g1:(6:Int)<(st.L.length:Int)
  · skip;refine qT rR rR rR (by rw[decide_eq_true g1];rR) rR (qT rR rR rR (by rw[decide_eq_true g1];rR) rR (qT rR rR rR (by rw[decide_eq_true g1];rR) rR (qT rR rR rR (by rw[decide_eq_true g1];rR) rR (qT rR rR rR (by rw[decide_eq_true g1];rR) rR (qT rR rR rR (by rw[decide_eq_true g1];rR) rR (qT rR rR rR (by rw[decide_eq_true g1];rR) rR (qT rR rR rR (by rw[decide_eq_true g1];rR) rR (qT rR rR rR (by rw[decide_eq_true g1];rR) rR (d_v rR (zbj rR (decide_eq_true g1) rR) rR (d_v rR (qg rR) rR (qT rR rR rR rR rR (qT rR rR rR rR rR (qT rR rR rR rR rR ?_)))))))))))));refine qT rR rR rR rR rR (qT rR rR rR rR rR (qT rR rR rR rR rR (qT rR rR rR rR rR (qT rR rR rR rR rR (qT rR rR rR rR rR (qT rR rR rR rR rR (qT rR rR rR rR rR (qT rR rR rR rR rR (d_v rR (zbj rR rR rR) rR (d_v rR (qg rR) rR (qT rR rR rR rR rR (qT rR rR rR rR rR (qT rR rR rR rR rR ?_)))))))))))));refine qT rR rR rR rR rR (qT rR rR rR rR rR (d_v rR (zbj rR rR rR) rR (d_v rR (qg rR) rR (qT rR rR rR rR rR (qT rR rR rR rR rR (qT rR rR rR rR rR (qT rR rR rR rR rR (qT rR rR rR rR rR (qT rR rR rR rR rR (qT rR rR rR rR rR (qT rR rR rR rR rR (qT rR rR rR rR rR (qT rR rR rR rR rR ?_)))))))))))));refine qT rR rR rR rR rR (qT rR rR rR rR rR (qT rR rR rR rR rR (qT rR rR rR rR rR (qT rR rR rR rR rR (qT rR rR rR rR rR (qT rR rR rR rR rR (qT rR rR rR rR rR (qT rR rR rR rR rR (qT rR rR rR rR rR (qT rR rR rR rR rR (qT rR rR rR rR rR (qT rR rR rR rR rR (qT rR rR rR rR rR ?_)))))))))))));refine qT rR rR rR rR rR (qT rR rR rR rR rR (d_v rR (zbj rR rR rR) rR ?_));refine qZ ?_;refine qh rR (fun h74=>?_) (fun h74=>?_)
    · skip;refine gS (gA rR (qb ?_));exact wL rfl (fun hw=>by have:=hw.len;omega) rfl rfl
    · cases h74
  · skip;refine qP rR rR rR (decide_eq_false g1) (qg rR) rR (qP rR rR rR (decide_eq_false g1) (qc rR) rR (qP rR rR rR (decide_eq_false g1) (qa 0 underlying47 rR rR sizeOf44 (by decide) rR) rR (qP rR rR rR (decide_eq_false g1) (qe (v:=ptr x 0) isAgg44 rR rR) rR (qP rR rR rR (decide_eq_false g1) (qc rR) rR (qP rR rR rR (decide_eq_false g1) (qa 1 underlying43 rR rR sizeOf41 (by decide) rR) rR (qP rR rR rR (decide_eq_false g1) (qe (v:= .map (some r)) isAgg41 rR rR) rR (qP rR rR rR (decide_eq_false g1) (zdW underlying41 rR) rR (qP rR rR rR (decide_eq_false g1) (yv rR rR) rR (d_v rR (zaD rR (decide_eq_false g1) rR) rR (d_v rR (qg rR) rR ?_))))))))));by_cases g2:(24:Int)<(((tb yP 999 st.N).length):Int)
    · skip;refine qT rR rR rR (by rw[decide_eq_true g2];rR) rR (qT rR rR rR (by rw[decide_eq_true g2];rR) rR (qT rR rR rR (by rw[decide_eq_true g2];rR) rR (qT rR rR rR (by rw[decide_eq_true g2];rR) rR (qT rR rR rR (by rw[decide_eq_true g2];rR) rR (qT rR rR rR (by rw[decide_eq_true g2];rR) rR (qT rR rR rR (by rw[decide_eq_true g2];rR) rR (qT rR rR rR (by rw[decide_eq_true g2];rR) rR (qT rR rR rR (by rw[decide_eq_true g2];rR) rR (qT rR rR rR (by rw[decide_eq_true g2];rR) rR (qT rR rR rR (by rw[decide_eq_true g2];rR) rR (qT rR rR rR (by rw[decide_eq_true g2];rR) rR (d_v rR (zbj rR (decide_eq_true g2) rR) rR (d_v rR (qg rR) rR ?_)))))))))))));refine qT rR rR rR rR rR (qT rR rR rR rR rR (qT rR rR rR rR rR (qT rR rR rR rR rR (qT rR rR rR rR rR (d_v rR (zbj rR rR rR) rR (d_v rR (qg rR) rR (qT rR rR rR rR rR (qT rR rR rR rR rR (qT rR rR rR rR rR (qT rR rR rR rR rR (qT rR rR rR rR rR (qT rR rR rR rR rR (qT rR rR rR rR rR ?_)))))))))))));refine qT rR rR rR rR rR (qT rR rR rR rR rR (qT rR rR rR rR rR (qT rR rR rR rR rR (qT rR rR rR rR rR (qT rR rR rR rR rR (qT rR rR rR rR rR (qT rR rR rR rR rR (qT rR rR rR rR rR (qT rR rR rR rR rR (qT rR rR rR rR rR (qT rR rR rR rR rR (qT rR rR rR rR rR (qT rR rR rR rR rR ?_)))))))))))));refine qT rR rR rR rR rR (qT rR rR rR rR rR (qT rR rR rR rR rR (qT rR rR rR rR rR (qT rR rR rR rR rR (d_v rR (zbj rR rR rR) rR ?_)))));refine qZ ?_;refine qh rR (fun h74=>?_) (fun h74=>?_)
      · skip;refine gS (gA rR (qb ?_));exact wL rfl (fun hw=>by have h9:=zay 24 st.N;rw[zaP,zpr (n:=999) (by decide) hw.sN] at g2;omega) rfl rfl
      · cases h74
    · skip;refine qP rR rR rR (decide_eq_false g2) (qg rR) rR (qP rR rR rR (decide_eq_false g2) (qc rR) rR (qP rR rR rR (decide_eq_false g2) (qa 0 underlying47 rR rR sizeOf44 (by decide) rR) rR (qP rR rR rR (decide_eq_false g2) (qe (v:=ptr x 0) isAgg44 rR rR) rR (qP rR rR rR (decide_eq_false g2) (qc rR) rR (qP rR rR rR (decide_eq_false g2) (qa 0 underlying43 rR rR sizeOf40 (by decide) rR) rR (qP rR rR rR (decide_eq_false g2) (qe (v:=ptr p 0) isAgg40 rR rR) rR (qP rR rR rR (decide_eq_false g2) (qc rR) rR (qP rR rR rR (decide_eq_false g2) (qa 0 underlying95 rR rR sizeOf93 (by decide) rR) rR (qP rR rR rR (decide_eq_false g2) (qe (v:= .map (some r2)) isAgg93 rR rR) rR (qP rR rR rR (decide_eq_false g2) (zdW underlying93 rR) rR (qP rR rR rR (decide_eq_false g2) (yv rR rR) rR (d_v rR (zaD rR (decide_eq_false g2) rR) rR (d_v rR (qg rR) rR ?_)))))))))))));by_cases g3:(40:Int)<((tb encB 999 st.B).length:Int)
      · skip;refine qT rR rR rR (by rw[decide_eq_true g3];rR) rR (qT rR rR rR (by rw[decide_eq_true g3];rR) rR (qT rR rR rR (by rw[decide_eq_true g3];rR) rR (qT rR rR rR (by rw[decide_eq_true g3];rR) rR (qT rR rR rR (by rw[decide_eq_true g3];rR) rR (d_v rR (zbj rR (decide_eq_true g3) rR) rR (d_v rR (qg rR) rR (qT rR rR rR rR rR (qT rR rR rR rR rR (qT rR rR rR rR rR (qT rR rR rR rR rR (qT rR rR rR rR rR (qT rR rR rR rR rR (qT rR rR rR rR rR ?_)))))))))))));refine qT rR rR rR rR rR (qT rR rR rR rR rR (qT rR rR rR rR rR (qT rR rR rR rR rR (qT rR rR rR rR rR (qT rR rR rR rR rR (qT rR rR rR rR rR (qT rR rR rR rR rR (qT rR rR rR rR rR (qT rR rR rR rR rR (qT rR rR rR rR rR (qT rR rR rR rR rR (qT rR rR rR rR rR (qT rR rR rR rR rR ?_)))))))))))));refine qT rR rR rR rR rR (qT rR rR rR rR rR (qT rR rR rR rR rR (qT rR rR rR rR rR (qT rR rR rR rR rR (d_v rR (zbj rR rR rR) rR ?_)))));refine qZ ?_;refine qh rR (fun h74=>?_) (fun h74=>?_)
        · skip;refine gS (gA rR (qb ?_));exact wL rfl (fun hw=>by have h9:=zay 40 st.B;rw[zaP,zpr (n:=999) (by decide) hw.sB] at g3;omega) rfl rfl
        · cases h74
      · skip;refine qP rR rR rR (decide_eq_false g3) (qg rR) rR (qP rR rR rR (decide_eq_false g3) (qc rR) rR (qP rR rR rR (decide_eq_false g3) (qa 2 underlying47 rR rR sizeOf3 (by decide) rR) rR (qP rR rR rR (decide_eq_false g3) (qe (v:=I st.n) isAgg3 rR rR) rR (qP rR rR rR (decide_eq_false g3) (qL rR rR) rR (d_v rR (zaD rR (decide_eq_false g3) rR) rR (d_v rR (qg rR) rR ?_))))));by_cases g4:st.n<1
        · skip;refine qT rR rR rR (by rw[decide_eq_true g4];rR) rR (qT rR rR rR (by rw[decide_eq_true g4];rR) rR (qT rR rR rR (by rw[decide_eq_true g4];rR) rR (qT rR rR rR (by rw[decide_eq_true g4];rR) rR (qT rR rR rR (by rw[decide_eq_true g4];rR) rR (qT rR rR rR (by rw[decide_eq_true g4];rR) rR (qT rR rR rR (by rw[decide_eq_true g4];rR) rR (qT rR rR rR rR rR (qT rR rR rR rR rR (qT rR rR rR rR rR (qT rR rR rR rR rR (qT rR rR rR rR rR (qT rR rR rR rR rR (qT rR rR rR rR rR ?_)))))))))))));refine qT rR rR rR rR rR (qT rR rR rR rR rR (qT rR rR rR rR rR (qT rR rR rR rR rR (qT rR rR rR rR rR (qT rR rR rR rR rR (qT rR rR rR rR rR (qT rR rR rR rR rR (qT rR rR rR rR rR (qT rR rR rR rR rR (qT rR rR rR rR rR (qT rR rR rR (by rw[decide_eq_true g4];rR) rR (d_v rR (zbj rR (decide_eq_true g4) rR) rR ?_))))))))))));refine qZ ?_;refine qh rR (fun h74=>?_) (fun h74=>?_)
          · skip;refine gS (gA rR (qb ?_));exact wL rfl (fun hw=>by have:=hw.n1;omega) rfl rfl
          · cases h74
        · skip;refine qP rR rR rR (decide_eq_false g4) (qg rR) rR (qP rR rR rR (decide_eq_false g4) (qc rR) rR (qP rR rR rR (decide_eq_false g4) (qa 1 underlying47 rR rR sizeOf45 (by decide) rR) rR (qP rR rR rR (decide_eq_false g4) (qe (v:=sl s st.L.length cc) isAgg45 rR rR) rR (qP rR rR rR (decide_eq_false g4) (yk underlying45 rR) rR (qP rR rR rR (decide_eq_false g4) (yv rR rR) rR (qP rR rR rR (decide_eq_false g4) (qg rR) rR ?_))))));by_cases g5:(0:Int)<(st.L.length:Int)
          · obtain ⟨pl,hpl⟩:∃pl,st.L[st.L.length - 1]?=some pl:=⟨_,List.getElem?_eq_getElem (by omega)⟩;have hpl2:st.L.getLast?=some pl:=by rw[List.getLast?_eq_getElem?];exact hpl
            refine qP rR rR rR (decide_eq_true g5) (qg rR) rR (qP rR rR rR (decide_eq_true g5) (qc rR) rR (qP rR rR rR (decide_eq_true g5) (qa 1 underlying47 rR rR sizeOf45 (by decide) rR) rR (qP rR rR rR (decide_eq_true g5) (qe (v:=sl s st.L.length cc) isAgg45 rR rR) rR (qP rR rR rR (decide_eq_true g5) (qg rR) rR (qP rR rR rR (decide_eq_true g5) (qc rR) rR (qP rR rR rR (decide_eq_true g5) (qa 1 underlying47 rR rR sizeOf45 (by decide) rR) rR (qP rR rR rR (decide_eq_true g5) (qe (v:=sl s st.L.length cc) isAgg45 rR rR) rR (qP rR rR rR (decide_eq_true g5) (yk underlying45 rR) rR (qP rR rR rR (decide_eq_true g5) (za5 rR rR (w64 (by omega))) rR (qP rR rR rR (decide_eq_true g5) (qB (st.L.length - 1) underlying45 sizeOf55 rR rR (by omega) (by omega) (by rw[wg];omega)) rR (qP rR rR rR (decide_eq_true g5) (yu (j:=st.L.length - 1) 0 underlying55 rR rR sizeOf3 (by decide) rR (by rw[wg];omega)) rR (qP rR rR rR (decide_eq_true g5) (wV (v:=I pl.id) isAgg3 rR (zbZ hpl) rR) rR (qP rR rR rR (decide_eq_true g5) (qg rR) rR ?_)))))))))))));refine qP rR rR rR (decide_eq_true g5) (qc rR) rR (qP rR rR rR (decide_eq_true g5) (qa 2 underlying47 rR rR sizeOf3 (by decide) rR) rR (qP rR rR rR (decide_eq_true g5) (qe (v:=I st.n) isAgg3 rR rR) rR (qP rR rR rR (decide_eq_true g5) (zgw rR rR) rR (qP rR rR rR (decide_eq_false g4) (zbj rR (decide_eq_true g5) rR) rR (d_v rR (zaD rR (decide_eq_false g4) rR) rR ?_)))));refine qZ ?_;refine qh rR (fun h74=>?_) (fun h74=>?_)
            · have g6:st.n≤pl.id:=by simpa using h74
              refine gS (gA rR (qb ?_))
              first
              | exact wL rfl (fun hw=>by have:=hw.last pl hpl2;omega) rfl rfl
              | exact wL rfl (fun hw=>by obtain ⟨y,hy⟩:=Option.isSome_iff_exists.1 hqi.2;have:=hw.sN q y hy;omega) rfl rfl
              | exact wL rfl (fun hw=>by obtain ⟨y,hy⟩:=Option.isSome_iff_exists.1 hqi.2;have:=hw.sB q y hy;omega) rfl rfl
            · have g6:¬st.n≤pl.id:=by simpa using h74
              have hlast:∀p,st.L.getLast?=some p→p.id<st.n:=fun p hp=>by rw[hpl2] at hp;injection hp with hp;subst hp;omega
              refine qi (qf (gS (gM rR (g_v (qc rR) rR (g_v (qa 0 underlying47 rR rR sizeOf44 (by decide) rR) rR (g_v (qe (v:=ptr x 0) isAgg44 rR rR) rR ?_))))));refine g_l (qj (Pre:=[pt x (.cells #[ptr p 0, .map (some r)] 43 (0,0)),mp r (tb yP 999 st.N)]) call19 rR (zeX x p r st.N 999 (by rw[zaP] at g2;omega))) rR ?_;rintro _ _ ⟨s79,c79,rfl,rfl⟩;refine yM s79 ?_;refine g_v (yk underlying39 rR) rR (gM rR (qb (ql ?_)));refine qF (α:=Nat) (fun k=>k≤(ids 999 st.N).length∧∀q∈(ids 999 st.N).take k,q≤((24:Nat):Int)) (fun k=>U [(0,ptr b 0),(79,sl s79 (ids 999 st.N).length c79),(80,I (ids 999 st.N).length),(81,I k)]) (fun k=>roL 1 s79 (yS (ids 999 st.N))::pt b (.cells #[ptr x 0,sl s st.L.length cc,I st.n] 47 (0,0))::pt x (.cells #[ptr p 0, .map (some r)] 43 (0,0))::pt p (.cells #[.map (some r2)] 95 (0,0))::mp r (tb yP 999 st.N)::mp r2 (tb encB 999 st.B)::owL 55 4 s cc (ptR st.L)::F) (fun k=>(ids 999 st.N).length - k) 0 ⟨by simp,fun q h=>by simp at h⟩ [0,79,80,81] rR rR ?_;rintro k ⟨hk,hN24⟩;refine gS (g_v (qL rR rR) rR (qb (qf ?_)));refine qh rR (fun h82=>?_) (fun h82=>?_)
              · simp at h82;have hnl:(ids 999 st.N).length≤24:=by rw[zaP] at g2;omega
                have hki:k<(ids 999 st.N).length:=by omega
                obtain ⟨q,hq⟩:∃q,(ids 999 st.N)[k]?=some q:=⟨_,List.getElem?_eq_getElem hki⟩;have hqi:=mem_ids.1 (List.mem_of_getElem? hq);refine qi (qf (ql (gS (g_v (qB k underlying39 sizeOf3 rR rR rR hki (by rw[wl];exact hki)) rR (g_v (ye (v:=I q) isAgg3 rR (zb5 hq) rR) rR (gA rR (qb (gS (gM rR (g_v (yv rR rR) rR (qb ?_)))))))))));refine qh rR (fun h86=>?_) (fun h86=>?_)
                · simp at h86;refine gS (gA rR (qb ?_))
                  first
                  | exact wL rfl (fun hw=>by have:=hw.last pl hpl2;omega) rfl rfl
                  | exact wL rfl (fun hw=>by obtain ⟨y,hy⟩:=Option.isSome_iff_exists.1 hqi.2;have:=hw.sN q y hy;omega) rfl rfl
                  | exact wL rfl (fun hw=>by obtain ⟨y,hy⟩:=Option.isSome_iff_exists.1 hqi.2;have:=hw.sB q y hy;omega) rfl rfl
                · simp at h86;refine qi (qG (qp (g_v (qu rR rR (w64 (by omega))) rR (gM rR (qb ?_)))));exact qo (k+1) ⟨by omega,fun y hy=>by
                    rw[←zas hq,List.mem_append,List.mem_singleton] at hy;rcases hy with hy | rfl
                    · exact hN24 y hy
                    · omega⟩ (by omega) [0,79,80,81] rfl rfl
              · simp at h82;obtain rfl:k=(ids 999 st.N).length:=by omega
                rw[List.take_length] at hN24;refine qy rR ?_;refine qf (gS (gM rR (g_v (qc rR) rR (g_v (qa 0 underlying47 rR rR sizeOf44 (by decide) rR) rR (g_v (qe (v:=ptr x 0) isAgg44 rR rR) rR (g_v (qc rR) rR (g_v (qa 0 underlying43 rR rR sizeOf40 (by decide) rR) rR (g_v (qe (v:=ptr p 0) isAgg40 rR rR) rR ?_))))))));refine g_l (qj (Pre:=[pt p (.cells #[.map (some r2)] 95 (0,0)),mp r2 (tb encB 999 st.B)]) call18 rR (zfy p r2 st.B 999 (by rw[zaP] at g3;omega))) rR ?_;rintro _ _ ⟨s95,c95,rfl,rfl⟩;refine yM s95 ?_;refine g_v (yk underlying39 rR) rR (gM rR (qb (ql ?_)));refine qF (α:=Nat) (fun k=>k≤(ids 999 st.B).length∧∀q∈(ids 999 st.B).take k,q≤((40:Nat):Int)) (fun k=>U [(0,ptr b 0),(95,sl s95 (ids 999 st.B).length c95),(96,I (ids 999 st.B).length),(97,I k)]) (fun k=>roL 1 s95 (yS (ids 999 st.B))::pt b (.cells #[ptr x 0,sl s st.L.length cc,I st.n] 47 (0,0))::pt x (.cells #[ptr p 0, .map (some r)] 43 (0,0))::pt p (.cells #[.map (some r2)] 95 (0,0))::mp r (tb yP 999 st.N)::mp r2 (tb encB 999 st.B)::owL 55 4 s cc (ptR st.L)::F) (fun k=>(ids 999 st.B).length - k) 0 ⟨by simp,fun q h=>by simp at h⟩ [0,95,96,97] rR rR ?_;rintro k ⟨hk,hB40⟩;refine gS (g_v (qL rR rR) rR (qb (qf ?_)));refine qh rR (fun h98=>?_) (fun h98=>?_)
                · simp at h98;have hnl2:(ids 999 st.B).length≤40:=by rw[zaP] at g3;omega
                  have hki:k<(ids 999 st.B).length:=by omega
                  obtain ⟨q,hq⟩:∃q,(ids 999 st.B)[k]?=some q:=⟨_,List.getElem?_eq_getElem hki⟩;have hqi:=mem_ids.1 (List.mem_of_getElem? hq);refine qi (qf (ql (gS (g_v (qB k underlying39 sizeOf3 rR rR rR hki (by rw[wl];exact hki)) rR (g_v (ye (v:=I q) isAgg3 rR (zb5 hq) rR) rR (gA rR (qb (gS (gM rR (g_v (yv rR rR) rR (qb ?_)))))))))));refine qh rR (fun h102=>?_) (fun h102=>?_)
                  · simp at h102;refine gS (gA rR (qb ?_))
                    first
                    | exact wL rfl (fun hw=>by have:=hw.last pl hpl2;omega) rfl rfl
                    | exact wL rfl (fun hw=>by obtain ⟨y,hy⟩:=Option.isSome_iff_exists.1 hqi.2;have:=hw.sN q y hy;omega) rfl rfl
                    | exact wL rfl (fun hw=>by obtain ⟨y,hy⟩:=Option.isSome_iff_exists.1 hqi.2;have:=hw.sB q y hy;omega) rfl rfl
                  · simp at h102;refine qi (qG (qp (g_v (qu rR rR (w64 (by omega))) rR (gM rR (qb ?_)))));exact qo (k+1) ⟨by omega,fun y hy=>by
                      rw[←zas hq,List.mem_append,List.mem_singleton] at hy;rcases hy with hy | rfl
                      · exact hB40 y hy
                      · omega⟩ (by omega) [0,95,96,97] rfl rfl
                · simp at h98;obtain rfl:k=(ids 999 st.B).length:=by omega
                  rw[List.take_length] at hB40;refine qy rR ?_;refine qf ?_;have hsN:sup 24 st.N:=zjk hP.sN (by decide) hN24;have hsB:sup 40 st.B:=zjk hP.sB (by decide) hB40;rw[zmd (enc:=yP) (n:=999) (by decide) hsN,zmd (enc:=encB) (n:=999) (by decide) hsB];refine wh r2 p st.B (.refl _) ?_;refine ym p r x ⟨st.B,st.N⟩ (.refl _) ?_;refine yn b x s cc ⟨st.B,st.N⟩ st.L st.n ?_;refine qp (gM rR ?_);refine g_l (qj (Pre:=[vlt b ⟨st.B,st.N⟩ st.L st.n]) call89 rR (zdZ b ⟨st.B,st.N⟩ st.L st.n (by omega) hsN)) rR ?_;rintro _ _ ⟨rm,Q,o,rfl,rfl,hk1,hk2⟩;refine gM rR (g_v (qd (v:= .map (some rm)) rR rR) rR (g_v (qd (v:=Bo o) rR rR) rR (gA rR (gA rR (qb (gS (gM rR (gM rR ?_))))))));rcases hoo:o with _ | _
                  · have hkn:¬KindsP st.N st.L:=fun h=>by have:=hk1.2 h;rw[hoo] at this;cases this
                    refine yL rR rR rR rR (yL rR rR rR rR (yL rR rR rR rR (g_v (zaD rR rR rR) rR (gM rR (yL rR rR rR rR (yL rR rR rR rR (g_v (zaD rR rR rR) rR (gA rR (qb ?_)))))))));exact wL rfl (fun hw=>by exact hkn hw.kinds) rfl rfl
                  · have hkp:KindsP st.N st.L:=hk1.1 hoo;refine qU rR rR rR (qg rR) rR (qU rR rR rR (qg rR) rR ?_);refine zrZ rR rR rR (qj (Pre:=[mp rm (mi Q),vlt b ⟨st.B,st.N⟩ st.L st.n]) call90 rR (zcG b ⟨st.B,st.N⟩ st.L st.n rm Q (by omega) hsN hsB (fun q x e=>(hP.b q x e).1.1) (hk2 hoo))) rR ?_;rintro _ _ ⟨o2,rfl,rfl,hc⟩;refine g_v (zao rR rR) rR (gM rR ?_);rcases hoo2:o2 with _ | _
                    · have hcn:¬CountP st.B st.N st.L:=fun h=>by have:=hc.2 h;rw[hoo2] at this;cases this
                      refine yL rR rR rR rR (yL rR rR rR rR (g_v (zaD rR rR rR) rR (gA rR (qb ?_))));exact wL rfl (fun hw=>by exact hcn hw.counted) rfl rfl
                    · have hcp:CountP st.B st.N st.L:=hc.1 hoo2;refine qU rR rR rR (qg rR) rR ?_;refine zrZ rR rR rR (qj (Pre:=[vlt b ⟨st.B,st.N⟩ st.L st.n]) call91 rR (zdp b ⟨st.B,st.N⟩ st.L st.n (by omega) (zpe hP hsN hsB) (fun p hp=>(hP.p p hp).2.2.1))) rR ?_;rintro _ _ ⟨o3,rfl,rfl,ht⟩;refine g_v (zbj rR rR rR) rR (gA rR (qb ?_));rcases hoo3:o3 with _ | _
                      · exact wL rfl (fun hw=>by have:=ht.2 hw.within;rw[hoo3] at this;cases this) rfl rfl
                      · exact zpF rfl ⟨by omega,by omega,hlast,hsN,hsB,hkp,hcp,ht.1 hoo3⟩ rfl rfl
          · have hlast:∀p,st.L.getLast?=some p→p.id<st.n:=fun p hp=>by
              have h0:st.L=[]:=List.length_eq_zero_iff.1 (by omega);rw[h0] at hp;cases hp
            refine qT rR rR rR (by rw[decide_eq_false g5];rR) rR (qT rR rR rR (by rw[decide_eq_false g5];rR) rR (qT rR rR rR (by rw[decide_eq_false g5];rR) rR (qT rR rR rR (by rw[decide_eq_false g5];rR) rR (qT rR rR rR (by rw[decide_eq_false g5];rR) rR (qT rR rR rR (by rw[decide_eq_false g5];rR) rR (qT rR rR rR (by rw[decide_eq_false g5];rR) rR (qT rR rR rR (by rw[decide_eq_false g5];rR) rR (qT rR rR rR (by rw[decide_eq_false g5];rR) rR (qT rR rR rR (by rw[decide_eq_false g5];rR) rR (qT rR rR rR (by rw[decide_eq_false g5];rR) rR (qT rR rR rR (by rw[decide_eq_false g5];rR) rR (qT rR rR rR (by rw[decide_eq_false g5];rR) rR (qT rR rR rR (by rw[decide_eq_false g5];rR) rR ?_)))))))))))));refine qT rR rR rR (by rw[decide_eq_false g5];rR) rR (qT rR rR rR (by rw[decide_eq_false g5];rR) rR (qT rR rR rR (by rw[decide_eq_false g5];rR) rR (qT rR rR rR (by rw[decide_eq_false g5];rR) rR (qP rR rR rR (decide_eq_false g4) (zaD rR (decide_eq_false g5) rR) rR (d_v rR (zaD rR (decide_eq_false g4) rR) rR ?_)))));refine qZ ?_;refine qh rR (fun h74=>?_) (fun h74=>?_)
            · cases h74
            · skip;refine qi (qf (gS (gM rR (g_v (qc rR) rR (g_v (qa 0 underlying47 rR rR sizeOf44 (by decide) rR) rR (g_v (qe (v:=ptr x 0) isAgg44 rR rR) rR ?_))))));refine g_l (qj (Pre:=[pt x (.cells #[ptr p 0, .map (some r)] 43 (0,0)),mp r (tb yP 999 st.N)]) call19 rR (zeX x p r st.N 999 (by rw[zaP] at g2;omega))) rR ?_;rintro _ _ ⟨s79,c79,rfl,rfl⟩;refine yM s79 ?_;refine g_v (yk underlying39 rR) rR (gM rR (qb (ql ?_)));refine qF (α:=Nat) (fun k=>k≤(ids 999 st.N).length∧∀q∈(ids 999 st.N).take k,q≤((24:Nat):Int)) (fun k=>U [(0,ptr b 0),(79,sl s79 (ids 999 st.N).length c79),(80,I (ids 999 st.N).length),(81,I k)]) (fun k=>roL 1 s79 (yS (ids 999 st.N))::pt b (.cells #[ptr x 0,sl s st.L.length cc,I st.n] 47 (0,0))::pt x (.cells #[ptr p 0, .map (some r)] 43 (0,0))::pt p (.cells #[.map (some r2)] 95 (0,0))::mp r (tb yP 999 st.N)::mp r2 (tb encB 999 st.B)::owL 55 4 s cc (ptR st.L)::F) (fun k=>(ids 999 st.N).length - k) 0 ⟨by simp,fun q h=>by simp at h⟩ [0,79,80,81] rR rR ?_;rintro k ⟨hk,hN24⟩;refine gS (g_v (qL rR rR) rR (qb (qf ?_)));refine qh rR (fun h82=>?_) (fun h82=>?_)
              · simp at h82;have hnl:(ids 999 st.N).length≤24:=by rw[zaP] at g2;omega
                have hki:k<(ids 999 st.N).length:=by omega
                obtain ⟨q,hq⟩:∃q,(ids 999 st.N)[k]?=some q:=⟨_,List.getElem?_eq_getElem hki⟩;have hqi:=mem_ids.1 (List.mem_of_getElem? hq);refine qi (qf (ql (gS (g_v (qB k underlying39 sizeOf3 rR rR rR hki (by rw[wl];exact hki)) rR (g_v (ye (v:=I q) isAgg3 rR (zb5 hq) rR) rR (gA rR (qb (gS (gM rR (g_v (yv rR rR) rR (qb ?_)))))))))));refine qh rR (fun h86=>?_) (fun h86=>?_)
                · simp at h86;refine gS (gA rR (qb ?_))
                  first
                  | exact wL rfl (fun hw=>by have:=hw.last pl hpl2;omega) rfl rfl
                  | exact wL rfl (fun hw=>by obtain ⟨y,hy⟩:=Option.isSome_iff_exists.1 hqi.2;have:=hw.sN q y hy;omega) rfl rfl
                  | exact wL rfl (fun hw=>by obtain ⟨y,hy⟩:=Option.isSome_iff_exists.1 hqi.2;have:=hw.sB q y hy;omega) rfl rfl
                · simp at h86;refine qi (qG (qp (g_v (qu rR rR (w64 (by omega))) rR (gM rR (qb ?_)))));exact qo (k+1) ⟨by omega,fun y hy=>by
                    rw[←zas hq,List.mem_append,List.mem_singleton] at hy;rcases hy with hy | rfl
                    · exact hN24 y hy
                    · omega⟩ (by omega) [0,79,80,81] rfl rfl
              · simp at h82;obtain rfl:k=(ids 999 st.N).length:=by omega
                rw[List.take_length] at hN24;refine qy rR ?_;refine qf (gS (gM rR (g_v (qc rR) rR (g_v (qa 0 underlying47 rR rR sizeOf44 (by decide) rR) rR (g_v (qe (v:=ptr x 0) isAgg44 rR rR) rR (g_v (qc rR) rR (g_v (qa 0 underlying43 rR rR sizeOf40 (by decide) rR) rR (g_v (qe (v:=ptr p 0) isAgg40 rR rR) rR ?_))))))));refine g_l (qj (Pre:=[pt p (.cells #[.map (some r2)] 95 (0,0)),mp r2 (tb encB 999 st.B)]) call18 rR (zfy p r2 st.B 999 (by rw[zaP] at g3;omega))) rR ?_;rintro _ _ ⟨s95,c95,rfl,rfl⟩;refine yM s95 ?_;refine g_v (yk underlying39 rR) rR (gM rR (qb (ql ?_)));refine qF (α:=Nat) (fun k=>k≤(ids 999 st.B).length∧∀q∈(ids 999 st.B).take k,q≤((40:Nat):Int)) (fun k=>U [(0,ptr b 0),(95,sl s95 (ids 999 st.B).length c95),(96,I (ids 999 st.B).length),(97,I k)]) (fun k=>roL 1 s95 (yS (ids 999 st.B))::pt b (.cells #[ptr x 0,sl s st.L.length cc,I st.n] 47 (0,0))::pt x (.cells #[ptr p 0, .map (some r)] 43 (0,0))::pt p (.cells #[.map (some r2)] 95 (0,0))::mp r (tb yP 999 st.N)::mp r2 (tb encB 999 st.B)::owL 55 4 s cc (ptR st.L)::F) (fun k=>(ids 999 st.B).length - k) 0 ⟨by simp,fun q h=>by simp at h⟩ [0,95,96,97] rR rR ?_;rintro k ⟨hk,hB40⟩;refine gS (g_v (qL rR rR) rR (qb (qf ?_)));refine qh rR (fun h98=>?_) (fun h98=>?_)
                · simp at h98;have hnl2:(ids 999 st.B).length≤40:=by rw[zaP] at g3;omega
                  have hki:k<(ids 999 st.B).length:=by omega
                  obtain ⟨q,hq⟩:∃q,(ids 999 st.B)[k]?=some q:=⟨_,List.getElem?_eq_getElem hki⟩;have hqi:=mem_ids.1 (List.mem_of_getElem? hq);refine qi (qf (ql (gS (g_v (qB k underlying39 sizeOf3 rR rR rR hki (by rw[wl];exact hki)) rR (g_v (ye (v:=I q) isAgg3 rR (zb5 hq) rR) rR (gA rR (qb (gS (gM rR (g_v (yv rR rR) rR (qb ?_)))))))))));refine qh rR (fun h102=>?_) (fun h102=>?_)
                  · simp at h102;refine gS (gA rR (qb ?_))
                    first
                    | exact wL rfl (fun hw=>by have:=hw.last pl hpl2;omega) rfl rfl
                    | exact wL rfl (fun hw=>by obtain ⟨y,hy⟩:=Option.isSome_iff_exists.1 hqi.2;have:=hw.sN q y hy;omega) rfl rfl
                    | exact wL rfl (fun hw=>by obtain ⟨y,hy⟩:=Option.isSome_iff_exists.1 hqi.2;have:=hw.sB q y hy;omega) rfl rfl
                  · simp at h102;refine qi (qG (qp (g_v (qu rR rR (w64 (by omega))) rR (gM rR (qb ?_)))));exact qo (k+1) ⟨by omega,fun y hy=>by
                      rw[←zas hq,List.mem_append,List.mem_singleton] at hy;rcases hy with hy | rfl
                      · exact hB40 y hy
                      · omega⟩ (by omega) [0,95,96,97] rfl rfl
                · simp at h98;obtain rfl:k=(ids 999 st.B).length:=by omega
                  rw[List.take_length] at hB40;refine qy rR ?_;refine qf ?_;have hsN:sup 24 st.N:=zjk hP.sN (by decide) hN24;have hsB:sup 40 st.B:=zjk hP.sB (by decide) hB40;rw[zmd (enc:=yP) (n:=999) (by decide) hsN,zmd (enc:=encB) (n:=999) (by decide) hsB];refine wh r2 p st.B (.refl _) ?_;refine ym p r x ⟨st.B,st.N⟩ (.refl _) ?_;refine yn b x s cc ⟨st.B,st.N⟩ st.L st.n ?_;refine qp (gM rR ?_);refine g_l (qj (Pre:=[vlt b ⟨st.B,st.N⟩ st.L st.n]) call89 rR (zdZ b ⟨st.B,st.N⟩ st.L st.n (by omega) hsN)) rR ?_;rintro _ _ ⟨rm,Q,o,rfl,rfl,hk1,hk2⟩;refine gM rR (g_v (qd (v:= .map (some rm)) rR rR) rR (g_v (qd (v:=Bo o) rR rR) rR (gA rR (gA rR (qb (gS (gM rR (gM rR ?_))))))));rcases hoo:o with _ | _
                  · have hkn:¬KindsP st.N st.L:=fun h=>by have:=hk1.2 h;rw[hoo] at this;cases this
                    refine yL rR rR rR rR (yL rR rR rR rR (yL rR rR rR rR (g_v (zaD rR rR rR) rR (gM rR (yL rR rR rR rR (yL rR rR rR rR (g_v (zaD rR rR rR) rR (gA rR (qb ?_)))))))));exact wL rfl (fun hw=>by exact hkn hw.kinds) rfl rfl
                  · have hkp:KindsP st.N st.L:=hk1.1 hoo;refine qU rR rR rR (qg rR) rR (qU rR rR rR (qg rR) rR ?_);refine zrZ rR rR rR (qj (Pre:=[mp rm (mi Q),vlt b ⟨st.B,st.N⟩ st.L st.n]) call90 rR (zcG b ⟨st.B,st.N⟩ st.L st.n rm Q (by omega) hsN hsB (fun q x e=>(hP.b q x e).1.1) (hk2 hoo))) rR ?_;rintro _ _ ⟨o2,rfl,rfl,hc⟩;refine g_v (zao rR rR) rR (gM rR ?_);rcases hoo2:o2 with _ | _
                    · have hcn:¬CountP st.B st.N st.L:=fun h=>by have:=hc.2 h;rw[hoo2] at this;cases this
                      refine yL rR rR rR rR (yL rR rR rR rR (g_v (zaD rR rR rR) rR (gA rR (qb ?_))));exact wL rfl (fun hw=>by exact hcn hw.counted) rfl rfl
                    · have hcp:CountP st.B st.N st.L:=hc.1 hoo2;refine qU rR rR rR (qg rR) rR ?_;refine zrZ rR rR rR (qj (Pre:=[vlt b ⟨st.B,st.N⟩ st.L st.n]) call91 rR (zdp b ⟨st.B,st.N⟩ st.L st.n (by omega) (zpe hP hsN hsB) (fun p hp=>(hP.p p hp).2.2.1))) rR ?_;rintro _ _ ⟨o3,rfl,rfl,ht⟩;refine g_v (zbj rR rR rR) rR (gA rR (qb ?_));rcases hoo3:o3 with _ | _
                      · exact wL rfl (fun hw=>by have:=ht.2 hw.within;rw[hoo3] at this;cases this) rfl rfl
                      · exact zpF rfl ⟨by omega,by omega,hlast,hsN,hsB,hkp,hcp,ht.1 hoo3⟩ rfl rfl
end Go.Proofs.YthdjckbjjfiopacGreatDoor
