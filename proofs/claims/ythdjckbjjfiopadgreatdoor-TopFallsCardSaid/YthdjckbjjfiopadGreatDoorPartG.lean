/- Several texts in one: walks and rules used by them. No condition. -/
import Derived.Test.YthdjckbjjfiopadGreatDoorPartF
import Derived.Test.YthdjckbjjfiopadGreatDoorPartC
import Derived.Test.YthdjckbjjfiopadGreatDoorPartE
import Derived.Shelf.SlSortCmp.NoneTotal
import Derived.Test.YthdjckbjjfiopadGreatDoorPartB
import Derived.Test.YthdjckbjjfiopadGreatDoorPartD
set_option linter.unusedSimpArgs false
set_option linter.unusedVariables false
namespace Go.Proofs.YthdjckbjjfiopadGreatDoor
open _root_.Go.Proofs.Tryz
open Go.Sl Go.Proofs
theorem lkNs {N:NdT}(h:sup 24 N)(q:Int):(lk (tb yQ 24 N) q).isSome=(N q).isSome:=by
  rw[zqQ yQ h];cases N q <;> rfl
theorem zvf {N:NdT}{F:IM}{o:Bool}{id kind:Int}(h:zhc N F o id kind=true):o=true:=by
  unfold zhc at h;split at h
  · exact h
  · rw[Bool.and_eq_true] at h;exact h.1
theorem zvE {Q:IM}{l:List Int}(h:cm Q (cA l))(k:Int):cm (sti Q k (cA l k+1)) (cA (l++ [k])):=by
  rw[show cA (l++ [k])=del (cA l) k 1 from funext fun q=>zuZ l k q];exact zrw h k
theorem zrC {Q:IM}{c:Int→Int}(h:cm Q c)(q:Int):(lk (mi Q) q).getD (I 0)=I (c q):=by rw[zcs,h.1]
theorem zv3 {N:NdT}(h:sup 24 N){q:Int}{m:Nd}(hm:N q=some m):q∈(tb yQ 24 N).map (·.1):=by
  rw[zds];exact mem_ids.2 ⟨h q m hm,by rw[hm];rfl⟩
theorem zw8 {B:BkT}(h:sup 40 B){q:Int}{x:Bk}(hx:B q=some x):q∈(tb encB 40 B).map (·.1):=by
  rw[zds];exact mem_ids.2 ⟨h q x hx,by rw[hx];rfl⟩
theorem zgy {rest rest':MM}{k:Int}{v:Value}(h:rest.Perm ((k,v)::rest')){q:Int}(hq:q∈rest.map (·.1)):q=k∨q∈rest'.map (·.1):=by
  have:=(h.map (·.1)).mem_iff.1 hq;simpa using this
theorem ze5 {rest rest' M:MM}{p:Int×Value}(h:rest.Perm (p::rest'))(hs:∀p∈rest,p∈M):∀p∈rest',p∈M:=fun q hq=>hs q (h.mem_iff.2 (List.mem_cons_of_mem _ hq))
theorem zjx {rest rest' M:MM}{p:Int×Value}(h:rest.Perm (p::rest'))(hs:∀p∈rest,p∈M):p∈M:=hs p (h.mem_iff.2 (by simp))
theorem zhl {rest rest':MM}{p:Int×Value}(h:rest.Perm (p::rest')):rest'.length<rest.length:=by have:=h.length_eq;simp at this;omega
theorem kd_at (m:Nd):∀i,i<4→(kd m)[i]? =some (kat m i)
  | 0,_=>rfl
  | 1,_=>rfl
  | 2,_=>rfl
  | 3,_=>rfl
  | i+4,h=>absurd h (by omega)
theorem zdB (b x p r q1 q5 q4 rm:Nat)(es:Array MapEntry)(clk:Nat)(S:SI)(L:List Pt)(n:Int)(s:Option Addr)(c:Nat)(Q:IM)(o:Bool)(id kind:Int)(hs:sup 24 S.N)(F:List HProp):Ct Tryz.prog 189 [I id,I kind,ptr q1 0,ptr q5 0,ptr q4 0] ([pt q1 (.cells #[ptr b 0] 29 (0,0)),pt q5 (.cells #[Bo (o)] 4 (0,0)),pt q4 (.cells #[.map (some rm)] 55 (0,0)),mp rm (mi Q),pt b (.cells #[ptr x 0,sl s (L).length c,I (n)] 68 (0,0)),pt x (.cells #[ptr p 0, .map (some r)] 95 (0,0)),mpE r es clk (tb yQ 24 S.N)]++F) (R1 (.tuple #[]) (pt q1 (.cells #[ptr b 0] 29 (0,0))::pt q5 (.cells #[Bo (zhc S.N Q o id kind)] 4 (0,0))::pt q4 (.cells #[.map (some rm)] 55 (0,0))::mp rm (mi (zkb Q id kind))::pt b (.cells #[ptr x 0,sl s (L).length c,I (n)] 68 (0,0))::pt x (.cells #[ptr p 0, .map (some r)] 95 (0,0))::mpE r es clk (tb yQ 24 S.N)::F)):=by
  show Ct Tryz.prog 189 [I id,I kind,ptr q1 0,ptr q5 0,ptr q4 0] (pt q1 (.cells #[ptr b 0] 29 (0,0))::pt q5 (.cells #[Bo (o)] 4 (0,0))::pt q4 (.cells #[.map (some rm)] 55 (0,0))::mp rm (mi Q)::pt b (.cells #[ptr x 0,sl s (L).length c,I (n)] 68 (0,0))::pt x (.cells #[ptr p 0, .map (some r)] 95 (0,0))::mpE r es clk (tb yQ 24 S.N)::F) _;refine Ct.of func189 rR 43 ntmps189 (by simp) fun w0=>?_;refine qf (gS (gM rR (g_v (wh rR rR) rR (qb ?_))));refine qg rR (fun h10=>?_) (fun h10=>?_)
  · simp at h10;rw[show zhc S.N Q o id kind=o by unfold zhc;rw[if_pos h10],show zkb Q id kind=Q by unfold zkb;rw[if_pos h10]];exact qn rfl rfl rfl
  · simp at h10;refine qh (gS (g_v (qe (v:=ptr b 0) isAgg29 rR rR) rR (g_v (qc rR) rR (g_v (qa 0 underlying68 rR rR sizeOf65 (by decide) rR) rR (g_v (qe (v:=ptr x 0) isAgg65 rR rR) rR (g_v (qc rR) rR (g_v (qa 1 underlying95 rR rR sizeOf93 (by decide) rR) rR (g_v (qe (v:= .map (some r)) isAgg93 rR rR) rR (gM rR (g_v (zaJ (v:=yQ (gN S.N id)) (bb:=(S.N id).isSome) underlying93 underlying3 zeroValue107 rR rR (lkN hs id) (lkNs hs id)) rR (gM rR (g_v (qd (v:=yQ (gN S.N id)) rR rR) rR (g_v (qd (v:=Bo (S.N id).isSome) rR rR) rR ?_)))))))))))));refine g_l (qy #[I 0,I 0,I 0,I 0,I 0] zeroValue107) rR ?_;rintro _ _ ⟨b7,rfl,rfl⟩;refine yp (qq (cs:=#[I 0,I 0,I 0,I 0,I 0]) (vs:=ndC (gN S.N id)) (ndC (gN S.N id)).toArray sizeOf107 rR rR rR rR (by simp) (qv rR)) ?_;rintro _ _ rfl;refine gA rR (qb (gS (g_v (qe (v:=Bo o) isAgg4 rR rR) rR (gM rR (qK rR rR (fun hg=>qp rR) rR rR (g_v (zas rR rR) rR (gM rR ?_)))))));rcases hb1:(o && (S.N id).isSome) with _ | _
    · refine yH rR rR rR rR (yH rR rR rR rR (yH rR rR rR rR (yH rR rR rR rR (yH rR rR rR rR (yH rR rR rR rR (yH rR rR rR rR (yH rR rR rR rR (yH rR rR rR rR (yH rR rR rR rR (yH rR rR rR rR (g_v (zau rR rR rR) rR ?_)))))))))));refine yp (qH #[Bo false] sizeOf4 rR rR rR (by simp) rR) ?_;rintro _ _ rfl;refine qb (qo (g_v (qe (v:= .map (some rm)) isAgg55 rR rR) rR (gM rR (gM rR ?_))));refine yp (yg underlying55 underlying3 rR rR rR) ?_;rintro _ _ rfl;rw[zhb];refine qb ?_;rw[show zhc S.N Q o id kind=false by unfold zhc;rw[if_neg h10,←Bool.and_assoc,hb1];rfl,show zkb Q id kind=sti Q id kind by unfold zkb;rw[if_neg h10]];exact zck rfl rfl rfl
    · refine qU rR rR rR (qe (v:= .map (some rm)) isAgg55 rR rR) rR (qU rR rR rR (qp rR) rR (qU rR rR rR (yF (v:=I ((li Q id).getD 0)) underlying55 underlying3 zeroValue3 rR rR (zcs Q id 0)) rR (qU rR rR rR (wh rR rR) rR (qU rR rR rR (qp rR) rR ?_))));by_cases h0:(li Q id).getD 0=0
      · refine yH rR rR (by rw[decide_eq_true h0];rfl) rR (yH rR rR (by rw[decide_eq_true h0];rfl) rR (yH rR rR (by rw[decide_eq_true h0];rfl) rR (yH rR rR (by rw[decide_eq_true h0];rfl) rR (yH rR rR (by rw[decide_eq_true h0];rfl) rR (qU rR rR rR (zbp rR (decide_eq_true h0) rR) rR (g_v (zbp rR rR rR) rR ?_))))));refine yp (qH #[Bo true] sizeOf4 rR rR rR (by simp) rR) ?_;rintro _ _ rfl;refine qb (qo (g_v (qe (v:= .map (some rm)) isAgg55 rR rR) rR (gM rR (gM rR ?_))));refine yp (yg underlying55 underlying3 rR rR rR) ?_;rintro _ _ rfl;rw[zhb];refine qb ?_;rw[show zhc S.N Q o id kind=true by unfold zhc;rw[if_neg h10,←Bool.and_assoc,hb1,decide_eq_true h0];rfl,show zkb Q id kind=sti Q id kind by unfold zkb;rw[if_neg h10]];exact zck rfl rfl rfl
      · refine qU rR rR (decide_eq_false h0) (qe (v:= .map (some rm)) isAgg55 rR rR) rR (qU rR rR (decide_eq_false h0) (qp rR) rR (qU rR rR (decide_eq_false h0) (yF (v:=I ((li Q id).getD 0)) underlying55 underlying3 zeroValue3 rR rR (zcs Q id 0)) rR (qU rR rR (decide_eq_false h0) (qp rR) rR (qU rR rR (decide_eq_false h0) (wh rR rR) rR (qU rR rR rR (zau rR (decide_eq_false h0) rR) rR (g_v (zbp rR rR rR) rR ?_))))));refine yp (qH #[Bo (decide ((li Q id).getD 0=kind))] sizeOf4 rR rR rR (by simp) rR) ?_;rintro _ _ rfl;refine qb (qo (g_v (qe (v:= .map (some rm)) isAgg55 rR rR) rR (gM rR (gM rR ?_))));refine yp (yg underlying55 underlying3 rR rR rR) ?_;rintro _ _ rfl;rw[zhb];refine qb ?_;rw[show zhc S.N Q o id kind=decide ((li Q id).getD 0=kind) by unfold zhc;rw[if_neg h10,←Bool.and_assoc,hb1,decide_eq_false h0];simp,show zkb Q id kind=sti Q id kind by unfold zkb;rw[if_neg h10]];exact zck rfl rfl rfl
theorem zd9 (b:Nat)(S:SI)(L:List Pt)(n:Int)(hl:L.length≤6)(hs:sup 24 S.N)(F:List HProp):Ct Tryz.prog 153 [ptr b 0] ([vlt b S L n]++F) (fun v L'=>∃rm Q o,v= .tuple #[.map (some rm),Bo o]∧L'=mp rm (mi Q)::vlt b S L n::F∧(o=true ↔ KindsP S.N L)∧(o=true→∀q,(li Q q).getD 0=1 ↔ isR L q)):=by
  show Ct Tryz.prog 153 [ptr b 0] (vlt b S L n::F) _;refine Ct.of func153 rR 70 ntmps153 (by simp) fun w0=>?_;refine zaz b S L n ?_;intro x s c;refine zai x S ?_;intro p r;refine zaj r ?_;intro es clk;refine gS ?_;refine g_l (wR #[ptr b 0] rfl rR) rR ?_;rintro _ _ ⟨b1,rfl,rfl⟩;refine gA rR (gA rR (qb (gS ?_)));refine g_l (zaP) rR ?_;rintro _ _ ⟨b13,rfl,rfl⟩;refine g_l (zeP (.map none) zeroValue55 rR) rR ?_;rintro _ _ ⟨b4,rfl,rfl⟩;refine yp (qH #[.map (some b13)] sizeOf55 rR rR rR (by simp) rR) ?_;rintro _ _ rfl;refine qb (gS ?_);refine g_l (zeP (Bo false) zeroValue4 rR) rR ?_;rintro _ _ ⟨b5,rfl,rfl⟩;refine yp (qH #[Bo true] sizeOf4 rR rR rR (by simp) rR) ?_;rintro _ _ rfl;refine qb (gS (g_v (wQ rR rR) rR (gA rR (qb ?_))));refine zga b13 (mi []) (.refl _) ?_;refine qf (gS (g_v (qe (v:=ptr b 0) isAgg29 rR rR) rR (g_v (qc rR) rR (g_v (qa 1 underlying68 rR rR sizeOf66 (by decide) rR) rR (g_v (qe (v:=sl s (L).length c) isAgg66 rR rR) rR (g_v (yo underlying66 rR) rR (gM rR (qb (qj ?_)))))))));refine qE (α:=Nat×Bool×IM) (fun z=>z.1≤L.length∧K1 S.N (L.take z.1) z.2.1 z.2.2) (fun z=>U [(1,ptr b1 0),(4,ptr b4 0),(5,ptr b5 0),(6, .func (.func 189) #[] #[ptr b1 0,ptr b5 0,ptr b4 0]),(18,sl s L.length c),(19,I L.length),(20,I z.1)]) (fun z=>pt b1 (.cells #[ptr b 0] 29 (0,0))::pt b5 (.cells #[Bo (z.2.1)] 4 (0,0))::pt b4 (.cells #[.map (some b13)] 55 (0,0))::mp b13 (mi z.2.2)::pt b (.cells #[ptr x 0,sl s (L).length c,I (n)] 68 (0,0))::pt x (.cells #[ptr p 0, .map (some r)] 95 (0,0))::mpE r es clk (tb yQ 24 S.N)::plb p S.B::owL 70 4 s c (ptR (L))::F) (fun z=>L.length - z.1) (0,true,[]) ⟨by simp,by simpa using zxv S.N⟩ [1,4,5,6,18,19,20] rfl rR ?_;rintro ⟨j,o,Q⟩ ⟨hj,hK⟩;simp only[] at hj hK ⊢;refine gS (g_v (qJ rR rR) rR (qb (qf ?_)));refine qg rR (fun h21=>?_) (fun h21=>?_)
  · simp at h21;have hjn:j<L.length:=(by omega);obtain ⟨p0,hp⟩:∃p0,L[j]? =some p0:=⟨_,List.getElem?_eq_getElem hjn⟩;refine qh (qf (qj (gS (g_v (qA (j) underlying66 sizeOf70 rR rR rR hjn (by rw[wq];exact hjn)) rR (g_v (ym (row:=yn p0) isAgg70 sizeOf70 rR (zcU hp) rR) rR ?_)))));refine g_l (qy #[I 0,I 0,I 0,I 0] zeroValue70) rR ?_;rintro _ _ ⟨b8,rfl,rfl⟩;refine yp (qq (cs:=#[I 0,I 0,I 0,I 0]) (vs:=yn (p0)) (yn (p0)).toArray sizeOf70 rR rR rR rR (by simp) (qv rR)) ?_;rintro _ _ rfl;refine qb (qo (gM rR (g_v (qa 3 underlying70 rR rR sizeOf3 (by decide) rR) rR (g_v (qe (v:=I p0.root) isAgg3 rR rR) rR ?_))));refine g_l (zat (fi:=[]) (cap:=[ptr b1 0,ptr b5 0,ptr b4 0]) (Pre:=[pt b1 (.cells #[ptr b 0] 29 (0,0)),pt b5 (.cells #[Bo (o)] 4 (0,0)),pt b4 (.cells #[.map (some b13)] 55 (0,0)),mp b13 (mi Q),pt b (.cells #[ptr x 0,sl s (L).length c,I (n)] 68 (0,0)),pt x (.cells #[ptr p 0, .map (some r)] 95 (0,0)),mpE r es clk (tb yQ 24 S.N)]) call189 rR rR (zdB b x p r b1 b5 b4 b13 es clk S L n s c Q o (p0.root) 1 hs)) rR ?_;rintro _ _ ⟨rfl,rfl⟩;refine qb (qF (qo (g_v (qu rR rR (w64 (by omega))) rR (gM rR (qb ?_)))));exact qm (j+1,zhc S.N Q o p0.root 1,zkb Q p0.root 1) ⟨by simp only[];omega,by simp only[];rw[←zaC hp];exact zwI hK p0⟩ (by simp only[];omega) [1,4,5,6,18,19,20] rfl rfl
  · simp at h21;obtain rfl:j=L.length:=(by omega);rw[List.take_length] at hK;refine qz rR ?_;refine qf (gS (g_v (qe (v:=ptr b 0) isAgg29 rR rR) rR (g_v (qc rR) rR (g_v (qa 0 underlying68 rR rR sizeOf65 (by decide) rR) rR (g_v (qe (v:=ptr x 0) isAgg65 rR rR) rR (g_v (qc rR) rR (g_v (qa 1 underlying95 rR rR sizeOf93 (by decide) rR) rR (g_v (qe (v:= .map (some r)) isAgg93 rR rR) rR ?_))))))));refine g_l (zbq underlying93 rR) rR ?_;rintro _ _ ⟨b36,rfl,rfl⟩;refine qb (qj ?_);refine qE (α:=MM×List Int×Option (Int×Value)×Bool×IM) (fun z=>K2 S.N L z.2.1 [] z.2.2.2.1 z.2.2.2.2∧(∀q m,S.N q=some m→q∈z.2.1∨q∈z.1.map (·.1))∧∀p∈z.1,p∈tb yQ 24 S.N) (fun z=>U [(1,ptr b1 0),(4,ptr b4 0),(5,ptr b5 0),(6, .func (.func 189) #[] #[ptr b1 0,ptr b5 0,ptr b4 0]),(36,ptr b36 0)]) (fun z=>mit b36 r es clk z.1 z.2.2.1::pt b1 (.cells #[ptr b 0] 29 (0,0))::pt b5 (.cells #[Bo (z.2.2.2.1)] 4 (0,0))::pt b4 (.cells #[.map (some b13)] 55 (0,0))::mp b13 (mi z.2.2.2.2)::pt b (.cells #[ptr x 0,sl s (L).length c,I (n)] 68 (0,0))::pt x (.cells #[ptr p 0, .map (some r)] 95 (0,0))::mpE r es clk (tb yQ 24 S.N)::plb p S.B::owL 70 4 s c (ptR (L))::F) (fun z=>z.1.length) (tb yQ 24 S.N,[],none,o,Q) ⟨ztl hK,fun q m h=> .inr (zv3 hs h),fun _ h=>h⟩ [1,4,5,6,36] rfl rR ?_;rintro ⟨rest,done,cur,o,Q⟩ ⟨hK,hall,hsub⟩;simp only[] at hK hall hsub ⊢;refine gS ?_;refine g_l (zcT rR) rR ?_;rintro _ _ (⟨hr,rfl,rfl⟩ | ⟨⟨k,v⟩,rest',hq,rfl,rfl⟩)
    · subst hr;refine g_v (qd rR rR) rR (qb (qf ?_));refine yR rR ?_;refine qz rR ?_;refine qf ?_;refine yw (Lf:=[pt b1 (.cells #[ptr b 0] 29 (0,0)),pt b5 (.cells #[Bo (o)] 4 (0,0)),pt b4 (.cells #[.map (some b13)] 55 (0,0)),mp b13 (mi Q),pt b (.cells #[ptr x 0,sl s (L).length c,I (n)] 68 (0,0)),pt x (.cells #[ptr p 0, .map (some r)] 95 (0,0)),mpE r es clk (tb yQ 24 S.N)]) [(0,false),(1,false),(2,false),(3,false),(4,false),(5,false),(6,false),(7,false),(8,false),(9,false),(10,false),(11,false),(12,false),(13,false),(14,false),(15,false),(16,false)] (by kernel_rfl) (by kernel_rfl) rR (by kernel_rfl) ?_;refine d_v rR (qe (v:= .map (some b13)) isAgg55 rR rR) rR (d_v rR (qe (v:=Bo o) isAgg4 rR rR) rR (dM rR rR rR (zbW rR rR rR (fun hg=>qe (v:= .map (some b13)) isAgg55 rR rR) rR rR (zbW rR rR rR (fun hg=>zd8 underlying55 rR) rR rR (zbW rR rR rR (fun hg=>qe (v:=ptr b 0) isAgg29 rR rR) rR rR (zbW rR rR rR (fun hg=>qc rR) rR rR (zbW rR rR rR (fun hg=>qa 0 underlying68 rR rR sizeOf65 (by decide) rR) rR rR (zbW rR rR rR (fun hg=>qe (v:=ptr x 0) isAgg65 rR rR) rR rR (zbW rR rR rR (fun hg=>qc rR) rR rR (zbW rR rR rR (fun hg=>qa 1 underlying95 rR rR sizeOf93 (by decide) rR) rR rR (zbW rR rR rR (fun hg=>qe (v:= .map (some r)) isAgg93 rR rR) rR rR (zbW rR rR rR (fun hg=>zd8 underlying93 rR) rR rR (zbW rR rR rR (fun hg=>wh rR rR) rR rR (d_v rR (zas rR rR) rR (d_v rR (qx rR) rR (d_v rR (qx rR) rR ?_))))))))))))))));refine yc ?_;refine zaZ b13 fun hnd=>?_;rw[zhw] at hnd;have hend:=zyA hK (fun q hq=>by obtain ⟨m,hm⟩:=Option.isSome_iff_exists.1 hq;exact (hall q m hm).resolve_right (by simp)) hs hnd;refine qL r ?_;refine yr p r x S (.refl _) ?_;refine yk b x s c (S) (L) (n) ?_;refine zbI (L2:=mp b13 (mi Q)::vlt b S L n::F) ?_;exact fun a w hE hS=>wp_ret (yb (qw (vs:=[.map (some b13),Bo (o && decide (((mi Q).length:Int)=((tb yQ 24 S.N).length:Int)))]) rfl hE hS ⟨b13,Q,_,rfl,rfl,by rw[zaQ,show (mi Q).length=Q.length by simp[mi]];exact hend.1,fun ho=>hend.2 (by rw[Bool.and_eq_true] at ho;exact ho.1)⟩))
    · obtain ⟨m,hm,hv,hk⟩:=zio (zjx hq hsub);simp only at hv hk hm;subst hv;have hall':∀q m,S.N q=some m→q∈k::done∨q∈rest'.map (·.1):=fun q m h=>by
        rcases hall q m h with h1 | h1
        · exact .inl (List.mem_cons_of_mem _ h1)
        · rcases zgy hq h1 with h2 | h2
          · exact .inl (by rw[h2];simp)
          · exact .inr h2
      refine g_v (qd rR rR) rR (qb (qf ?_));refine wV rR ?_;refine qh (qj (gS (g_v (zbs rR) rR (g_v (qd (v:=I k) rR rR) rR (g_v (qd (v:=yQ m) rR rR) rR ?_)))));refine g_l (qy #[I 0,I 0,I 0,I 0,I 0] zeroValue107) rR ?_;rintro _ _ ⟨b10,rfl,rfl⟩;refine gA rR ?_;refine yp (qq (cs:=#[I 0,I 0,I 0,I 0,I 0]) (vs:=ndC m) (ndC m).toArray sizeOf107 rR rR rR rR (by simp) (qv rR)) ?_;rintro _ _ rfl;refine qb (qf (gS (g_v (qe (v:= .map (some b13)) isAgg55 rR rR) rR (gM rR (g_v (yF (v:=I ((li Q k).getD 0)) underlying55 underlying3 zeroValue3 rR rR (zcs Q k 0)) rR (g_v (zd2 rR rR) rR (qb ?_)))))));refine qg rR (fun h45=>?_) (fun h45=>?_)
      · simp at h45;refine qz rR ?_;exact qm (rest',k::done,some (k,yQ m),o,Q) ⟨zvG hK h45,hall',ze5 hq hsub⟩ (zhl hq) [1,4,5,6,36] rfl rfl
      · simp at h45;refine qh (gS (g_v (qa 0 underlying107 rR rR sizeOf105 (by decide) rR) rR (g_v (qI (vs:=kdC m) isAgg105 sizeOf105 rR rR ziE) rR (gM rR (qb (qj ?_))))));refine qE (α:=Nat×Bool×IM) (fun z=>z.1≤4∧K2 S.N L done ((kd m).take z.1) z.2.1 z.2.2∧(z.2.1=true→isR L k)) (fun z=>U [(1,ptr b1 0),(4,ptr b4 0),(5,ptr b5 0),(6, .func (.func 189) #[] #[ptr b1 0,ptr b5 0,ptr b4 0]),(36,ptr b36 0),(47, .agg (kdC m).toArray),(48,I z.1)]) (fun z=>mit b36 r es clk rest' (some (k,yQ m))::pt b1 (.cells #[ptr b 0] 29 (0,0))::pt b5 (.cells #[Bo (z.2.1)] 4 (0,0))::pt b4 (.cells #[.map (some b13)] 55 (0,0))::mp b13 (mi z.2.2)::pt b (.cells #[ptr x 0,sl s (L).length c,I (n)] 68 (0,0))::pt x (.cells #[ptr p 0, .map (some r)] 95 (0,0))::mpE r es clk (tb yQ 24 S.N)::plb p S.B::owL 70 4 s c (ptR (L))::F) (fun z=>4 - z.1) (0,o,Q) ⟨by simp,hK,fun ho=>zv7 (by rw[←ho];exact hK) h45⟩ [1,4,5,6,36,47,48] rfl rR ?_;rintro ⟨i,o,Q⟩ ⟨hi,hK2,hro⟩;simp only[] at hi hK2 hro ⊢;refine gS (g_v (qJ rR rR) rR (qb (qf ?_)));refine qg rR (fun h49=>?_) (fun h49=>?_)
        · simp at h49;have hi4:i<4:=(by omega);refine qh (qf (qj (gS (g_v (zch (v:=I (kat m i)) i underlying105 sizeOf3 isAgg3 rR rR rR hi4 (by simpa using ze2 m i hi4)) rR (gA rR (qb (qo (gM rR (gM rR ?_)))))))));refine g_l (zat (fi:=[]) (cap:=[ptr b1 0,ptr b5 0,ptr b4 0]) (Pre:=[pt b1 (.cells #[ptr b 0] 29 (0,0)),pt b5 (.cells #[Bo (o)] 4 (0,0)),pt b4 (.cells #[.map (some b13)] 55 (0,0)),mp b13 (mi Q),pt b (.cells #[ptr x 0,sl s (L).length c,I (n)] 68 (0,0)),pt x (.cells #[ptr p 0, .map (some r)] 95 (0,0)),mpE r es clk (tb yQ 24 S.N)]) call189 rR rR (zdB b x p r b1 b5 b4 b13 es clk S L n s c Q o (kat m i) 2 hs)) rR ?_;rintro _ _ ⟨rfl,rfl⟩;refine qb (qF (qo (g_v (qu rR rR (w64 (by omega))) rR (gM rR (qb ?_)))));exact qm (i+1,zhc S.N Q o (kat m i) 2,zkb Q (kat m i) 2) ⟨by simp only[];omega,by simp only[];rw[←zaC (kd_at m i hi4)];exact zwU hK2 hro hm (zkL hi4),fun h=>hro (zvf h)⟩ (by simp only[];omega) [1,4,5,6,36,47,48] rfl rfl
        · simp at h49;obtain rfl:i=4:=(by omega);refine qz rR ?_;refine qF ?_;exact qm (rest',k::done,some (k,yQ m),o,Q) ⟨zu0 hK2 hro hm,hall',ze5 hq hsub⟩ (zhl hq) [1,4,5,6,36] rfl rfl
theorem zcW (b:Nat)(S:SI)(L:List Pt)(n:Int)(rk:Nat)(Kd:IM)(hl:L.length≤6)(hs:sup 24 S.N)(hB:sup 40 S.B)(hpos:∀q x,S.B q=some x→0<x.2)(hK:∀q,(li Kd q).getD 0=1 ↔ isR L q)(F:List HProp):Ct Tryz.prog 154 [ptr b 0, .map (some rk)] ([mp rk (mi Kd),vlt b S L n]++F) (fun v L'=>∃o,v=Bo o∧L'=vlt b S L n::F∧(o=true ↔ CountP S.B S.N L)):=by
  show Ct Tryz.prog 154 [ptr b 0, .map (some rk)] (mp rk (mi Kd)::vlt b S L n::F) _;refine Ct.of func154 rR 126 ntmps154 (by simp) fun w0=>?_;refine zaz b S L n ?_;intro x s c;refine zai x S ?_;intro p r;refine zaj r ?_;intro es clk;refine gS (gA rR (qb (gS ?_)));refine g_l (zaP) rR ?_;rintro _ _ ⟨b17,rfl,rfl⟩;refine g_l (zaP) rR ?_;rintro _ _ ⟨b18,rfl,rfl⟩;refine gA rR (gA rR (qb ?_));refine zga b17 (mi []) (.refl _) ?_;refine zga b18 (mi []) (.refl _) ?_;refine qf (gS (gM rR (g_v (qc rR) rR (g_v (qa 1 underlying68 rR rR sizeOf66 (by decide) rR) rR (g_v (qe (v:=sl s (L).length c) isAgg66 rR rR) rR (g_v (yo underlying66 rR) rR (gM rR (qb (qj ?_)))))))));refine qE (α:=Nat×IM) (fun z=>z.1≤L.length∧cm z.2 (cA ((L.take z.1).map (·.root)))) (fun z=>U [(0,ptr b 0),(1, .map (some rk)),(5, .map (some b17)),(6, .map (some b18)),(22,sl s L.length c),(23,I L.length),(24,I z.1)]) (fun z=>mp b17 (mi z.2)::mp b18 (mi [])::mp rk (mi Kd)::pt b (.cells #[ptr x 0,sl s (L).length c,I (n)] 68 (0,0))::pt x (.cells #[ptr p 0, .map (some r)] 95 (0,0))::mpE r es clk (tb yQ 24 S.N)::plb p S.B::owL 70 4 s c (ptR (L))::F) (fun z=>L.length - z.1) (0,[]) ⟨by simp,zuo⟩ [0,1,5,6,22,23,24] rfl rR ?_;rintro ⟨j,Q⟩ ⟨hj,hQ⟩;simp only[] at hj hQ ⊢;refine gS (g_v (qJ rR rR) rR (qb (qf ?_)));refine qg rR (fun h25=>?_) (fun h25=>?_)
  · simp at h25;have hjn:j<L.length:=(by omega);obtain ⟨p0,hp⟩:∃p0,L[j]? =some p0:=⟨_,List.getElem?_eq_getElem hjn⟩;refine qh (qf (qj (gS (g_v (qA (j) underlying66 sizeOf70 rR rR rR hjn (by rw[wq];exact hjn)) rR (g_v (ym (row:=yn p0) isAgg70 sizeOf70 rR (zcU hp) rR) rR ?_)))));refine g_l (qy #[I 0,I 0,I 0,I 0] zeroValue70) rR ?_;rintro _ _ ⟨b8,rfl,rfl⟩;refine yp (qq (cs:=#[I 0,I 0,I 0,I 0]) (vs:=yn (p0)) (yn (p0)).toArray sizeOf70 rR rR rR rR (by simp) (qv rR)) ?_;rintro _ _ rfl;refine qb (qo (gM rR (g_v (qa 3 underlying70 rR rR sizeOf3 (by decide) rR) rR (g_v (qe (v:=I p0.root) isAgg3 rR rR) rR (g_v (yF (v:=I (cA ((L.take j).map (·.root)) p0.root)) underlying55 underlying3 zeroValue3 rR rR (zrC hQ _)) rR (g_v (qu rR rR (w64 (by have:=zxY ((L.take j).map (·.root)) p0.root;have h9:=zxM ((L.take j).map (·.root)) p0.root;rw[List.length_map,List.length_take] at h9;omega))) rR ?_))))));refine yp (yg underlying55 underlying3 rR rR rR) ?_;rintro _ _ rfl;rw[zhb];refine qb (qF (qo (g_v (qu rR rR (w64 (by omega))) rR (gM rR (qb ?_)))));exact qm (j+1,sti Q p0.root (cA ((L.take j).map (·.root)) p0.root+1)) ⟨by simp only[];omega,by simp only[];rw[←zaC hp,List.map_append];exact zvE hQ p0.root⟩ (by simp only[];omega) [0,1,5,6,22,23,24] rfl rfl
  · simp at h25;obtain rfl:j=L.length:=(by omega);rw[List.take_length] at hQ;refine qz rR ?_;refine qf (gS (gM rR (g_v (qc rR) rR (g_v (qa 0 underlying68 rR rR sizeOf65 (by decide) rR) rR (g_v (qe (v:=ptr x 0) isAgg65 rR rR) rR (g_v (qc rR) rR (g_v (qa 1 underlying95 rR rR sizeOf93 (by decide) rR) rR (g_v (qe (v:= .map (some r)) isAgg93 rR rR) rR ?_))))))));refine g_l (zbq underlying93 rR) rR ?_;rintro _ _ ⟨b41,rfl,rfl⟩;refine qb (qj ?_);refine qE (α:=MM×Option (Int×Value)×IM×IM×(Int→Int)×(Int→Int)) (fun z=>Cnt S.N L z.1 z.2.2.2.2.1 z.2.2.2.2.2∧cm z.2.2.1 z.2.2.2.2.1∧cm z.2.2.2.1 z.2.2.2.2.2∧(∀q m,S.N q=some m→q∈z.1.map (·.1)∨¬zap m)∧∀p∈z.1,p∈tb yQ 24 S.N) (fun z=>U [(0,ptr b 0),(1, .map (some rk)),(5, .map (some b17)),(6, .map (some b18)),(41,ptr b41 0)]) (fun z=>mit b41 r es clk z.1 z.2.1::mp b17 (mi z.2.2.1)::mp b18 (mi z.2.2.2.1)::mp rk (mi Kd)::pt b (.cells #[ptr x 0,sl s (L).length c,I (n)] 68 (0,0))::pt x (.cells #[ptr p 0, .map (some r)] 95 (0,0))::mpE r es clk (tb yQ 24 S.N)::plb p S.B::owL 70 4 s c (ptR (L))::F) (fun z=>z.1.length) (tb yQ 24 S.N,none,Q,[],cA (L.map (·.root)),fun _=>0) ⟨zp7,hQ,zuo,fun q m h=> .inl (zv3 hs h),fun _ h=>h⟩ [0,1,5,6,41] rfl rR ?_;rintro ⟨rest,cur,Q1,Q2,c1,c2⟩ ⟨hC0,hQ1,hQ2,hnz,hsub⟩;simp only[] at hC0 hQ1 hQ2 hnz hsub ⊢;refine gS ?_;refine g_l (zcT rR) rR ?_;rintro _ _ (⟨hr,rfl,rfl⟩ | ⟨⟨k,v⟩,rest',hq,rfl,rfl⟩)
    · subst hr;have hnz':∀q m,S.N q=some m→¬zap m:=fun q m h=>(hnz q m h).resolve_left (by simp);refine g_v (qd rR rR) rR (qb (qf ?_));refine yR rR ?_;refine qz rR ?_;refine gS (gM rR ?_);refine yp (zb0 underlying55 underlying3 rR rR) ?_;rintro _ _ ⟨rfl,rfl⟩;rw[zrm];refine qb (gS (gM rR ?_));refine yp (zb0 underlying55 underlying3 rR rR) ?_;rintro _ _ ⟨rfl,rfl⟩;rw[zrm];refine qb ?_;have hE1:=zpB hQ1;have hE2:=zpB hQ2;obtain ⟨D1,eD1⟩:∃D:Int→Int,D=fun q=>if q=0 then 0 else c1 q:=⟨_,rfl⟩
      obtain ⟨D2,eD2⟩:∃D:Int→Int,D=fun q=>if q=0 then 0 else c2 q:=⟨_,rfl⟩
      have hD1:cm (dli Q1 0) D1:=(by rw[eD1];exact hE1);have hD2:cm (dli Q2 0) D2:=(by rw[eD2];exact hE2);refine qf (gS (gM rR (g_v (qc rR) rR (g_v (qa 0 underlying68 rR rR sizeOf65 (by decide) rR) rR (g_v (qe (v:=ptr x 0) isAgg65 rR rR) rR (g_v (qc rR) rR (g_v (qa 1 underlying95 rR rR sizeOf93 (by decide) rR) rR (g_v (qe (v:= .map (some r)) isAgg93 rR rR) rR ?_))))))));refine g_l (zbq underlying93 rR) rR ?_;rintro _ _ ⟨b78,rfl,rfl⟩;refine qb (qj ?_);refine qE (α:=MM×Option (Int×Value)) (fun z=>(∀q m,S.N q=some m→q∈z.1.map (·.1)∨D1 q=m.refs)∧∀p∈z.1,p∈tb yQ 24 S.N) (fun z=>U [(0,ptr b 0),(5, .map (some b17)),(6, .map (some b18)),(78,ptr b78 0)]) (fun z=>mit b78 r es clk z.1 z.2::mp b17 (mi (dli Q1 0))::mp b18 (mi (dli Q2 0))::mp rk (mi Kd)::pt b (.cells #[ptr x 0,sl s (L).length c,I (n)] 68 (0,0))::pt x (.cells #[ptr p 0, .map (some r)] 95 (0,0))::mpE r es clk (tb yQ 24 S.N)::plb p S.B::owL 70 4 s c (ptR (L))::F) (fun z=>z.1.length) (tb yQ 24 S.N,none) ⟨fun q m h=> .inl (zv3 hs h),fun _ h=>h⟩ [0,5,6,78] rfl rR ?_;rintro ⟨rest,cur⟩ ⟨hnn,hsub⟩;simp only[] at hnn hsub ⊢;refine gS ?_;refine g_l (zcT rR) rR ?_;rintro _ _ (⟨hr,rfl,rfl⟩ | ⟨⟨k,v⟩,rest',hq,rfl,rfl⟩)
      · subst hr;have hnn':∀q m,S.N q=some m→D1 q=m.refs:=fun q m h=>(hnn q m h).resolve_left (by simp);refine g_v (qd rR rR) rR (qb (qf ?_));refine yR rR ?_;refine qz rR ?_;refine qf (qf ?_);refine zcc p S.B ?_;intro r2;refine zaj r2 ?_;intro es2 clk2;refine qo (gM rR (g_v (qc rR) rR (g_v (qa 0 underlying68 rR rR sizeOf65 (by decide) rR) rR (g_v (qe (v:=ptr x 0) isAgg65 rR rR) rR (g_v (qc rR) rR (g_v (qa 0 underlying95 rR rR sizeOf92 (by decide) rR) rR (g_v (qe (v:=ptr p 0) isAgg92 rR rR) rR (g_v (qc rR) rR (g_v (qa 0 underlying101 rR rR sizeOf99 (by decide) rR) rR (g_v (qe (v:= .map (some r2)) isAgg99 rR rR) rR ?_))))))))));refine g_l (zbq underlying99 rR) rR ?_;rintro _ _ ⟨b100,rfl,rfl⟩;refine qb (qj ?_);refine qE (α:=MM×Option (Int×Value)) (fun z=>(∀q y,S.B q=some y→q∈z.1.map (·.1)∨D2 q=y.2)∧∀p∈z.1,p∈tb encB 40 S.B) (fun z=>U [(0,ptr b 0),(6, .map (some b18)),(100,ptr b100 0)]) (fun z=>mit b100 r2 es2 clk2 z.1 z.2::mp b17 (mi (dli Q1 0))::mp b18 (mi (dli Q2 0))::mp rk (mi Kd)::pt b (.cells #[ptr x 0,sl s (L).length c,I (n)] 68 (0,0))::pt x (.cells #[ptr p 0, .map (some r)] 95 (0,0))::mpE r es clk (tb yQ 24 S.N)::pt p (.cells #[.map (some r2)] 101 (0,0))::mpE r2 es2 clk2 (tb encB 40 S.B)::owL 70 4 s c (ptR (L))::F) (fun z=>z.1.length) (tb encB 40 S.B,none) ⟨fun q m h=> .inl (zw8 hB h),fun _ h=>h⟩ [0,6,100] rfl rR ?_;rintro ⟨rest,cur⟩ ⟨hbb,hsub⟩;simp only[] at hbb hsub ⊢;refine gS ?_;refine g_l (zcT rR) rR ?_;rintro _ _ (⟨hr,rfl,rfl⟩ | ⟨⟨k,v⟩,rest',hq,rfl,rfl⟩)
        · subst hr;have hbb':∀q y,S.B q=some y→D2 q=y.2:=fun q y h=>(hbb q y h).resolve_left (by simp);refine g_v (qd rR rR) rR (qb (qf ?_));refine yR rR ?_;refine qz rR ?_;refine qf ?_;refine yw (Lf:=[mp b18 (mi (dli Q2 0)),pt b (.cells #[ptr x 0,sl s (L).length c,I (n)] 68 (0,0)),pt x (.cells #[ptr p 0, .map (some r)] 95 (0,0)),pt p (.cells #[.map (some r2)] 101 (0,0)),mpE r2 es2 clk2 (tb encB 40 S.B)]) [(0,false),(1,false),(2,false),(3,false),(4,false),(5,false),(6,false),(7,false),(8,false),(9,false),(10,false),(11,false),(12,false),(13,false),(14,false)] (by kernel_rfl) (by kernel_rfl) rR (by kernel_rfl) ?_;refine dM rR rR rR (d_v rR (zd8 underlying55 rR) rR (dM rR rR rR (d_v rR (qc rR) rR (d_v rR (qa 0 underlying68 rR rR sizeOf65 (by decide) rR) rR (d_v rR (qe (v:=ptr x 0) isAgg65 rR rR) rR (d_v rR (qc rR) rR (d_v rR (qa 0 underlying95 rR rR sizeOf92 (by decide) rR) rR (d_v rR (qe (v:=ptr p 0) isAgg92 rR rR) rR (d_v rR (qc rR) rR (d_v rR (qa 0 underlying101 rR rR sizeOf99 (by decide) rR) rR (d_v rR (qe (v:= .map (some r2)) isAgg99 rR rR) rR (d_v rR (zd8 underlying99 rR) rR (d_v rR (wh rR rR) rR (d_v rR (qx rR) rR ?_))))))))))))));refine yc ?_
          first
          | (refine qL r ?_
             refine yr p r x S (.refl _) ?_;refine yk b x s c (S) (L) (n) ?_;refine zbI (L2:=vlt b S L n::F) ?_;exact fun a w hE hS=>wp_ret (yb (qw (vs:=[Bo false]) rfl hE hS ⟨false,rfl,rfl,(fun h=>by cases h),fun h=>absurd h (fun hc=>hc.nz k m hm hno)⟩)))
          | (subst eD1
             refine qL r ?_;refine yr p r x S (.refl _) ?_;refine yk b x s c (S) (L) (n) ?_;refine zbI (L2:=vlt b S L n::F) ?_;exact fun a w hE hS=>wp_ret (yb (qw (vs:=[Bo false]) rfl hE hS ⟨false,rfl,rfl,(fun h=>by cases h),fun h=>absurd h (zdK hC0 hs hm h89)⟩)))
          | (subst eD2
             refine qL r2 ?_;refine wj r2 p S.B (.refl _) ?_;refine qL r ?_;refine yr p r x S (.refl _) ?_;refine yk b x s c (S) (L) (n) ?_;refine zbI (L2:=vlt b S L n::F) ?_;exact fun a w hE hS=>wp_ret (yb (qw (vs:=[Bo false]) rfl hE hS ⟨false,rfl,rfl,(fun h=>by cases h),fun h=>absurd h (zdX hC0 hB hy h111)⟩)))
          | (refine zaZ b18 fun hnd=>?_
             rw[zhw] at hnd;subst eD1 eD2;have hend:=ze7 hC0 hnz' hnn' hbb' hB hs hpos hD2 hnd;refine qL r2 ?_;refine wj r2 p S.B (.refl _) ?_;refine qL r ?_;refine yr p r x S (.refl _) ?_;refine yk b x s c (S) (L) (n) ?_;refine zbI (L2:=vlt b S L n::F) ?_;exact fun a w hE hS=>wp_ret (yb (qw (vs:=[Bo (decide (((mi (dli Q2 0)).length:Int)=((tb encB 40 S.B).length:Int)))]) rfl hE hS ⟨_,rfl,rfl,by rw[zaQ,show (mi (dli Q2 0)).length=(dli Q2 0).length by simp[mi]];exact hend⟩)))
        · obtain ⟨y,hy,hv,hk⟩:=zio (zjx hq hsub);simp only at hv hk hy;subst hv;refine g_v (qd rR rR) rR (qb (qf ?_));refine wV rR ?_;refine qh (qj (gS (g_v (zbs rR) rR (g_v (qd (v:=I k) rR rR) rR (g_v (qd (v:=encB y) rR rR) rR ?_)))));refine g_l (qy #[Str [],I 0] zeroValue98) rR ?_;rintro _ _ ⟨b16,rfl,rfl⟩;refine gA rR ?_;refine yp (qq (cs:=#[Str [],I 0]) (vs:=[Str y.1,I y.2]) #[Str y.1,I y.2] sizeOf98 rR rR rR rR (by simp) (qv rR)) ?_;rintro _ _ rfl;refine qb (gS (gM rR (gM rR (g_v (yF (v:=I (D2 k)) underlying55 underlying3 zeroValue3 rR rR (zrC hD2 _)) rR (g_v (qa 1 underlying98 rR rR sizeOf3 (by decide) rR) rR (g_v (qe (v:=I y.2) isAgg3 rR rR) rR (g_v (zd2 rR rR) rR (qb ?_))))))));refine qg rR (fun h111=>?_) (fun h111=>?_)
          · have h111:D2 k≠y.2:=(by simpa using h111);refine gS (gA rR (qb ?_))
            first
            | (refine qL r ?_
               refine yr p r x S (.refl _) ?_;refine yk b x s c (S) (L) (n) ?_;refine zbI (L2:=vlt b S L n::F) ?_;exact fun a w hE hS=>wp_ret (yb (qw (vs:=[Bo false]) rfl hE hS ⟨false,rfl,rfl,(fun h=>by cases h),fun h=>absurd h (fun hc=>hc.nz k m hm hno)⟩)))
            | (subst eD1
               refine qL r ?_;refine yr p r x S (.refl _) ?_;refine yk b x s c (S) (L) (n) ?_;refine zbI (L2:=vlt b S L n::F) ?_;exact fun a w hE hS=>wp_ret (yb (qw (vs:=[Bo false]) rfl hE hS ⟨false,rfl,rfl,(fun h=>by cases h),fun h=>absurd h (zdK hC0 hs hm h89)⟩)))
            | (subst eD2
               refine qL r2 ?_;refine wj r2 p S.B (.refl _) ?_;refine qL r ?_;refine yr p r x S (.refl _) ?_;refine yk b x s c (S) (L) (n) ?_;refine zbI (L2:=vlt b S L n::F) ?_;exact fun a w hE hS=>wp_ret (yb (qw (vs:=[Bo false]) rfl hE hS ⟨false,rfl,rfl,(fun h=>by cases h),fun h=>absurd h (zdX hC0 hB hy h111)⟩)))
            | (refine zaZ b18 fun hnd=>?_
               rw[zhw] at hnd;subst eD1 eD2;have hend:=ze7 hC0 hnz' hnn' hbb' hB hs hpos hD2 hnd;refine qL r2 ?_;refine wj r2 p S.B (.refl _) ?_;refine qL r ?_;refine yr p r x S (.refl _) ?_;refine yk b x s c (S) (L) (n) ?_;refine zbI (L2:=vlt b S L n::F) ?_;exact fun a w hE hS=>wp_ret (yb (qw (vs:=[Bo (decide (((mi (dli Q2 0)).length:Int)=((tb encB 40 S.B).length:Int)))]) rfl hE hS ⟨_,rfl,rfl,by rw[zaQ,show (mi (dli Q2 0)).length=(dli Q2 0).length by simp[mi]];exact hend⟩)))
          · have h111:D2 k=y.2:=(by simpa using h111);refine qh (qF ?_);exact qm (rest',some (k,encB y)) ⟨(fun q m' h=>by
              rcases hbb q m' h with h1 | h1
              · rcases zgy hq h1 with rfl | h2
                · rw[hy] at h;injection h with h;subst h;exact .inr h111
                · exact .inl h2
              · exact .inr h1),ze5 hq hsub⟩ (zhl hq) [0,6,100] rfl rfl
      · obtain ⟨m,hm,hv,hk⟩:=zio (zjx hq hsub);simp only at hv hk hm;subst hv;refine g_v (qd rR rR) rR (qb (qf ?_));refine wV rR ?_;refine qh (qj (gS (g_v (zbs rR) rR (g_v (qd (v:=I k) rR rR) rR (g_v (qd (v:=yQ m) rR rR) rR ?_)))));refine g_l (qy #[I 0,I 0,I 0,I 0,I 0] zeroValue107) rR ?_;rintro _ _ ⟨b14,rfl,rfl⟩;refine gA rR ?_;refine yp (qq (cs:=#[I 0,I 0,I 0,I 0,I 0]) (vs:=ndC m) (ndC m).toArray sizeOf107 rR rR rR rR (by simp) (qv rR)) ?_;rintro _ _ rfl;refine qb (gS (gM rR (gM rR (g_v (yF (v:=I (D1 k)) underlying55 underlying3 zeroValue3 rR rR (zrC hD1 _)) rR (g_v (qa 4 underlying107 rR rR sizeOf3 (by decide) rR) rR (g_v (qe (v:=I m.refs) isAgg3 rR rR) rR (g_v (zd2 rR rR) rR (qb ?_))))))));refine qg rR (fun h89=>?_) (fun h89=>?_)
        · have h89:D1 k≠m.refs:=(by simpa using h89);refine gS (gA rR (qb ?_))
          first
          | (refine qL r ?_
             refine yr p r x S (.refl _) ?_;refine yk b x s c (S) (L) (n) ?_;refine zbI (L2:=vlt b S L n::F) ?_;exact fun a w hE hS=>wp_ret (yb (qw (vs:=[Bo false]) rfl hE hS ⟨false,rfl,rfl,(fun h=>by cases h),fun h=>absurd h (fun hc=>hc.nz k m hm hno)⟩)))
          | (subst eD1
             refine qL r ?_;refine yr p r x S (.refl _) ?_;refine yk b x s c (S) (L) (n) ?_;refine zbI (L2:=vlt b S L n::F) ?_;exact fun a w hE hS=>wp_ret (yb (qw (vs:=[Bo false]) rfl hE hS ⟨false,rfl,rfl,(fun h=>by cases h),fun h=>absurd h (zdK hC0 hs hm h89)⟩)))
          | (subst eD2
             refine qL r2 ?_;refine wj r2 p S.B (.refl _) ?_;refine qL r ?_;refine yr p r x S (.refl _) ?_;refine yk b x s c (S) (L) (n) ?_;refine zbI (L2:=vlt b S L n::F) ?_;exact fun a w hE hS=>wp_ret (yb (qw (vs:=[Bo false]) rfl hE hS ⟨false,rfl,rfl,(fun h=>by cases h),fun h=>absurd h (zdX hC0 hB hy h111)⟩)))
          | (refine zaZ b18 fun hnd=>?_
             rw[zhw] at hnd;subst eD1 eD2;have hend:=ze7 hC0 hnz' hnn' hbb' hB hs hpos hD2 hnd;refine qL r2 ?_;refine wj r2 p S.B (.refl _) ?_;refine qL r ?_;refine yr p r x S (.refl _) ?_;refine yk b x s c (S) (L) (n) ?_;refine zbI (L2:=vlt b S L n::F) ?_;exact fun a w hE hS=>wp_ret (yb (qw (vs:=[Bo (decide (((mi (dli Q2 0)).length:Int)=((tb encB 40 S.B).length:Int)))]) rfl hE hS ⟨_,rfl,rfl,by rw[zaQ,show (mi (dli Q2 0)).length=(dli Q2 0).length by simp[mi]];exact hend⟩)))
        · have h89:D1 k=m.refs:=(by simpa using h89);refine qh (qF ?_);exact qm (rest',some (k,yQ m)) ⟨(fun q m' h=>by
            rcases hnn q m' h with h1 | h1
            · rcases zgy hq h1 with rfl | h2
              · rw[hm] at h;injection h with h;subst h;exact .inr h89
              · exact .inl h2
            · exact .inr h1),ze5 hq hsub⟩ (zhl hq) [0,5,6,78] rfl rfl
    · obtain ⟨m,hm,hv,hk⟩:=zio (zjx hq hsub);simp only at hv hk hm;subst hv;refine g_v (qd rR rR) rR (qb (qf ?_));refine wV rR ?_;refine qh (qj (gS (g_v (zbs rR) rR (g_v (qd (v:=I k) rR rR) rR (g_v (qd (v:=yQ m) rR rR) rR ?_)))));refine g_l (qy #[I 0,I 0,I 0,I 0,I 0] zeroValue107) rR ?_;rintro _ _ ⟨b10,rfl,rfl⟩;refine gA rR ?_;refine yp (qq (cs:=#[I 0,I 0,I 0,I 0,I 0]) (vs:=ndC m) (ndC m).toArray sizeOf107 rR rR rR rR (by simp) (qv rR)) ?_;rintro _ _ rfl;refine qb (qf (gS (g_v (qa 0 underlying107 rR rR sizeOf105 (by decide) rR) rR (g_v (qI (vs:=kdC m) isAgg105 sizeOf105 rR rR ziE) rR (gM rR (qb (qj ?_)))))));refine qE (α:=Nat×IM×IM×(Int→Int)×(Int→Int)) (fun z=>z.1≤4∧Cni S.N L rest' k m z.1 z.2.2.2.1 z.2.2.2.2∧cm z.2.1 z.2.2.2.1∧cm z.2.2.1 z.2.2.2.2) (fun z=>U [(0,ptr b 0),(1, .map (some rk)),(5, .map (some b17)),(6, .map (some b18)),(41,ptr b41 0),(9,I k),(10,ptr b10 0),(48, .agg (kdC m).toArray),(49,I z.1)]) (fun z=>mit b41 r es clk rest' (some (k,yQ m))::pt b10 (.cells (ndC m).toArray 107 (0,0))::mp b17 (mi z.2.1)::mp b18 (mi z.2.2.1)::mp rk (mi Kd)::pt b (.cells #[ptr x 0,sl s (L).length c,I (n)] 68 (0,0))::pt x (.cells #[ptr p 0, .map (some r)] 95 (0,0))::mpE r es clk (tb yQ 24 S.N)::plb p S.B::owL 70 4 s c (ptR (L))::F) (fun z=>4 - z.1) (0,Q1,Q2,c1,c2) ⟨by simp,zyb hC0 hq hm,hQ1,hQ2⟩ [0,1,5,6,41,9,10,48,49] rfl rR ?_;rintro ⟨i,Q1,Q2,c1,c2⟩ ⟨hi,hC,hQ1,hQ2⟩;simp only[] at hi hC hQ1 hQ2 ⊢;refine gS (g_v (qJ rR rR) rR (qb (qf ?_)));refine qg rR (fun h50=>?_) (fun h50=>?_)
      · simp at h50;have hi4:i<4:=(by omega);refine qh (qf (qj (gS (g_v (zch (v:=I (kat m i)) i underlying105 sizeOf3 isAgg3 rR rR rR hi4 (by simpa using ze2 m i hi4)) rR (gA rR (qb (gS (gM rR (gM rR (g_v (yF (v:=I ((li Kd k).getD 0)) underlying55 underlying3 zeroValue3 rR rR (zcs Kd k 0)) rR (g_v (wh rR rR) rR (qb ?_))))))))))));refine qg rR (fun h55=>?_) (fun h55=>?_)
        · have h55:(li Kd k).getD 0=1:=(by simpa using h55);refine qo (gM rR (gM rR (g_v (yF (v:=I (c1 (kat m i))) underlying55 underlying3 zeroValue3 rR rR (zrC hQ1 _)) rR (g_v (qu rR rR (w64 (by have:=hQ1.2.2 (kat m i);have:=(zuc hC hl (kat m i)).1;omega))) rR ?_))));refine yp (yg underlying55 underlying3 rR rR rR) ?_;rintro _ _ rfl;rw[zhb];refine qb (qF (qo (g_v (qu rR rR (w64 (by omega))) rR (gM rR (qb ?_)))));exact qm (i+1,sti Q1 (kat m i) (c1 (kat m i)+1),Q2,del c1 (kat m i) 1,c2) ⟨by simp only[];omega,Cni_R hC hi4 ((hK k).1 h55),zrw hQ1 _,hQ2⟩ (by simp only[];omega) [0,1,5,6,41,9,10,48,49] rfl rfl
        · have h55:¬(li Kd k).getD 0=1:=(by simpa using h55);refine qo (gM rR (gM rR (g_v (yF (v:=I (c2 (kat m i))) underlying55 underlying3 zeroValue3 rR rR (zrC hQ2 _)) rR (g_v (qu rR rR (w64 (by have:=hQ2.2.2 (kat m i);have:=(zuc hC hl (kat m i)).2;omega))) rR ?_))));refine yp (yg underlying55 underlying3 rR rR rR) ?_;rintro _ _ rfl;rw[zhb];refine qb (qF (qo (g_v (qu rR rR (w64 (by omega))) rR (gM rR (qb ?_)))));exact qm (i+1,Q1,sti Q2 (kat m i) (c2 (kat m i)+1),c1,del c2 (kat m i) 1) ⟨by simp only[];omega,Cni_L hC hi4 (fun h=>h55 ((hK k).2 h)),hQ1,zrw hQ2 _⟩ (by simp only[];omega) [0,1,5,6,41,9,10,48,49] rfl rfl
      · simp at h50;obtain rfl:i=4:=(by omega);refine qz rR ?_;refine gS (g_v (qa 0 underlying107 rR rR sizeOf105 (by decide) rR) rR (g_v (qI (vs:=kdC m) isAgg105 sizeOf105 rR rR ziE) rR (g_v (qP rR zyw) rR (g_v (zt4 eqGuardType105 rR rR (zxj m nd0)) rR (qb ?_)))));refine qg rR (fun h68=>?_) (fun h68=>?_)
        · have hno:zap m:=of_decide_eq_true h68;refine gS (gA rR (qb ?_))
          first
          | (refine qL r ?_
             refine yr p r x S (.refl _) ?_;refine yk b x s c (S) (L) (n) ?_;refine zbI (L2:=vlt b S L n::F) ?_;exact fun a w hE hS=>wp_ret (yb (qw (vs:=[Bo false]) rfl hE hS ⟨false,rfl,rfl,(fun h=>by cases h),fun h=>absurd h (fun hc=>hc.nz k m hm hno)⟩)))
          | (subst eD1
             refine qL r ?_;refine yr p r x S (.refl _) ?_;refine yk b x s c (S) (L) (n) ?_;refine zbI (L2:=vlt b S L n::F) ?_;exact fun a w hE hS=>wp_ret (yb (qw (vs:=[Bo false]) rfl hE hS ⟨false,rfl,rfl,(fun h=>by cases h),fun h=>absurd h (zdK hC0 hs hm h89)⟩)))
          | (subst eD2
             refine qL r2 ?_;refine wj r2 p S.B (.refl _) ?_;refine qL r ?_;refine yr p r x S (.refl _) ?_;refine yk b x s c (S) (L) (n) ?_;refine zbI (L2:=vlt b S L n::F) ?_;exact fun a w hE hS=>wp_ret (yb (qw (vs:=[Bo false]) rfl hE hS ⟨false,rfl,rfl,(fun h=>by cases h),fun h=>absurd h (zdX hC0 hB hy h111)⟩)))
          | (refine zaZ b18 fun hnd=>?_
             rw[zhw] at hnd;subst eD1 eD2;have hend:=ze7 hC0 hnz' hnn' hbb' hB hs hpos hD2 hnd;refine qL r2 ?_;refine wj r2 p S.B (.refl _) ?_;refine qL r ?_;refine yr p r x S (.refl _) ?_;refine yk b x s c (S) (L) (n) ?_;refine zbI (L2:=vlt b S L n::F) ?_;exact fun a w hE hS=>wp_ret (yb (qw (vs:=[Bo (decide (((mi (dli Q2 0)).length:Int)=((tb encB 40 S.B).length:Int)))]) rfl hE hS ⟨_,rfl,rfl,by rw[zaQ,show (mi (dli Q2 0)).length=(dli Q2 0).length by simp[mi]];exact hend⟩)))
        · have h68:¬zap m:=of_decide_eq_false h68;refine qh (qF ?_);exact qm (rest',some (k,yQ m),Q1,Q2,c1,c2) ⟨zvB hC,hQ1,hQ2,(fun q m' h=>by
            rcases hnz q m' h with h1 | h1
            · rcases zgy hq h1 with rfl | h2
              · rw[hm] at h;injection h with h;subst h;exact .inr h68
              · exact .inl h2
            · exact .inr h1),ze5 hq hsub⟩ (zhl hq) [0,1,5,6,41] rfl rfl
theorem zjE {ρ:Type}{m n:Nat}{B:Int→Option ρ}(h:sup n B)(hm:m≤n)(ha:∀q∈ids n B,q≤m):sup m B:=fun q x e=>by
  have h1:=h q x e;have h2:=ha q (mem_ids.2 ⟨h1,by rw[e];rfl⟩);omega
theorem zsH {S:SI}{L:List Pt}{p:Pt}(h:Top S L)(hp:∀i:Nat,p.size≤(i:Int)→i<16→zcj S p.root i=[]):Top S (L++ [p]):=fun x hx i h1 h2=>by
  rcases List.mem_append.1 hx with hx | hx
  · exact h x hx i h1 h2
  · rw[List.mem_singleton] at hx;subst hx;exact hp i h1 h2
theorem zvw (S:SI):Top S []:=fun p hp=>by cases hp
def zv8 (b:Nat)(st:PS)(F:List HProp):Value→List HProp→Prop:=fun v L'=>(v=Bo true∧WholeP st∧L'=vlt b ⟨st.B,st.N⟩ st.L st.n::F)∨(v=Bo false∧¬WholeP st∧L'=F)
section
variable {c:Cx}{E:Env}{L:List HProp}{K:List KI}
theorem wK {F:List HProp}{b:Nat}{st:PS}{vs:List Value}(hR:c.R=zv8 b st F)(he:¬WholeP st)(hr:zbn E c.fn.results.toList=some vs)(hv:tup vs=Bo false)[S:Sub L F](hds:c.n.ds=[]:=by rfl):G c (.code .ret::K) E L:=
  fun a w hE hS=>wp_ret (yb (qw (hds:=hds) hr hE (S.sat hS) (by rw[hR];exact .inr ⟨hv,he,rfl⟩)))
theorem zpI {F:List HProp}{b:Nat}{st:PS}{vs:List Value}(hR:c.R=zv8 b st F)(he:WholeP st)(hr:zbn E c.fn.results.toList=some vs)(hv:tup vs=Bo true)[S:Sub L (vlt b ⟨st.B,st.N⟩ st.L st.n::F)](hds:c.n.ds=[]:=by rfl):G c (.code .ret::K) E L:=
  fun a w hE hS=>wp_ret (yb (qw (hds:=hds) hr hE (S.sat hS) (by rw[hR];exact .inl ⟨hv,he,rfl⟩)))
end
theorem zoZ {st:PS}(h:Pok st)(hN:sup 24 st.N)(hB:sup 40 st.B):okS 999 ⟨st.B,st.N⟩:=⟨hB,fun q x e=>(h.b q x e).1,hN,fun q m e=>(h.n q m e).1⟩
def zuR (l:List ChangeM)(T:TypeId)(F:List HProp):Value→List HProp→Prop:=fun v L'=>(∃st q,zbd none ps0 l=some st∧WholeP st∧v= .tuple #[ptr q 0,zbV T 0]∧L'=vlt q ⟨st.B,st.N⟩ st.L st.n::F)∨((∀st,zbd none ps0 l=some st→¬WholeP st)∧v= .tuple #[.pointer none,zbV T 4]∧L'=F)
section
variable {c:Cx}{E:Env}{L:List HProp}{K:List KI}
theorem zpe {F:List HProp}{l:List ChangeM}{T:TypeId}{vs:List Value}(hR:c.R=zuR l T F)(he:∀st,zbd none ps0 l=some st→¬WholeP st)(hr:zbn E c.fn.results.toList=some vs)(hv:tup vs= .tuple #[.pointer none,zbV T 4])[S:Sub L F](hds:c.n.ds=[]:=by rfl):G c (.code .ret::K) E L:=
  fun a w hE hS=>wp_ret (yb (qw (hds:=hds) hr hE (S.sat hS) (by rw[hR];exact .inr ⟨he,hv,rfl⟩)))
theorem zvv {F:List HProp}{l:List ChangeM}{T:TypeId}{st:PS}{q:Nat}{vs:List Value}(hR:c.R=zuR l T F)(he:zbd none ps0 l=some st)(hw:WholeP st)(hr:zbn E c.fn.results.toList=some vs)(hv:tup vs= .tuple #[ptr q 0,zbV T 0])[S:Sub L (vlt q ⟨st.B,st.N⟩ st.L st.n::F)](hds:c.n.ds=[]:=by rfl):G c (.code .ret::K) E L:=
  fun a w hE hS=>wp_ret (yb (qw (hds:=hds) hr hE (S.sat hS) (by rw[hR];exact .inl ⟨st,q,he,hw,hv,rfl⟩)))
end
theorem zlw:∀(l1:List ChangeM) {l2:List ChangeM} {pv:Option Bytes} {st st1:PS},zbd pv st l1=some st1→zbd pv st (l1++l2)=zbd (match l1.getLast? with | none=>pv | some c=>some c.key) st1 l2
  | [],l2,pv,st,st1,h=>by simp only[zbd] at h;injection h with h;subst h;rfl
  | c::l1,l2,pv,st,st1,h=>by
    simp only[zbd,List.cons_append] at h ⊢;split at h
    · cases h
    · rename_i hb;rw[if_neg hb];split at h
      · cases h
      · rename_i st2 hr;rw[zlw l1 h];congr 1;cases l1 with
        | nil=>rfl
        | cons d l1=>rw[List.getLast?_cons_cons];cases hq:(d::l1).getLast? with
          | none=>simp at hq
          | some e=>rfl
def pvK (l:List ChangeM)(i:Nat):Option Bytes:=match (l.take i).getLast? with | none=>none | some c=>some c.key
theorem zrD {l:List ChangeM}{i:Nat}{st st':PS}{c:ChangeM}(h:zbd none ps0 (l.take i)=some st)(hc:l[i]? =some c)(hb:¬(badK (pvK l i) c=true∨c.gone=true))(hr:zea st c=some st'):zbd none ps0 (l.take (i+1))=some st':=by
  rw[←zaC hc,zlw _ h];show zbd (pvK l i) st [c]=_;simp only[zbd];rw[if_neg hb,hr]
theorem zkS {l:List ChangeM}{i:Nat}{st:PS}{c:ChangeM}(h:zbd none ps0 (l.take i)=some st)(hc:l[i]? =some c)(hb:(badK (pvK l i) c=true∨c.gone=true)∨zea st c=none):zbd none ps0 l=none:=by
  have e:l=l.take i++c::l.drop (i+1):=by
    obtain ⟨hi,e⟩:=List.getElem?_eq_some_iff.1 hc;rw[←e,←List.drop_eq_getElem_cons hi,List.take_append_drop]
  rw[e,zlw _ h];show zbd (pvK l i) st (c::l.drop (i+1))=none;simp only[zbd];rcases hb with hb | hb
  · rw[if_pos hb]
  · rw[hb];split <;> rfl
theorem pvK_0 (l:List ChangeM):pvK l 0=none:=by simp[pvK]
theorem pvK_s {l:List ChangeM}{i:Nat}{c:ChangeM}(h:l[i]? =some c):pvK l (i+1)=some c.key:=by
  unfold pvK;rw[←zaC h,List.getLast?_append];simp
theorem zyd {st st':PS}{c:ChangeM}(h:zea st c=some st'):st'.L.length≤st.L.length+1:=by
  by_cases hX:c.key=[120]
  · unfold zea at h;rw[if_pos hX] at h;unfold xF at h;split at h
    · injection h with h;subst h;simp
    · split at h
      · split at h
        · injection h with h;subst h;simp
        · cases h
      · cases h
  · obtain ⟨id,y,_,_,_,hk⟩:=ztP hX h;unfold kFr at hk;split at hk
    · unfold bF at hk;split at hk
      · split at hk
        · injection hk with hk;subst hk;simp
        · cases hk
      · cases hk
    · split at hk
      · unfold nF at hk;split at hk
        · split at hk
          · injection hk with hk;subst hk;simp
          · cases hk
        · cases hk
      · split at hk
        · unfold pF at hk;split at hk
          · split at hk
            · injection hk with hk;subst hk;simp
            · cases hk
          · cases hk
        · cases hk
theorem zeB (b p r:Nat)(N:NdT)(m:Nat)(hm:(ids m N).length≤1000)(F:List HProp):Ct Tryz.prog 42 [ptr b 0] ([pt b (.cells #[ptr p 0, .map (some r)] 95 (0,0)),mp r (tb yQ m N)]++F) (RSl 3 1 (ids m N).length (yY (ids m N)) (pt b (.cells #[ptr p 0, .map (some r)] 95 (0,0))::mp r (tb yQ m N)::F)):=by
  show Ct Tryz.prog 42 [ptr b 0] (pt b (.cells #[ptr p 0, .map (some r)] 95 (0,0))::mp r (tb yQ m N)::F) _;refine Ct.of func42 rR 21 ntmps42 (by simp) fun w0=>?_;refine zaj r ?_;intro es clk;refine yG 3 1 (yY []) rR ?_;refine gS (gA rR (qb (gS (gA rR (qb (qf (gS (gM rR (g_v (qc rR) rR (g_v (qa 1 underlying95 rR rR sizeOf93 (by decide) rR) rR (g_v (qe (v:= .map (some r)) isAgg93 rR rR) rR ?_)))))))))));refine g_l (zbq underlying93 rR) rR ?_;rintro _ _ ⟨b9,rfl,rfl⟩;refine qb (qj ?_);refine qE (α:=MM×List Int×Option (Int×Value)×Option Addr×Nat) (fun z=>(z.2.1++z.1.map (·.1)).Perm (ids m N)) (fun z=>U [(0,ptr b 0),(9,ptr b9 0),(3,sl z.2.2.2.1 z.2.1.length z.2.2.2.2)]) (fun z=>mit b9 r es clk z.1 z.2.2.1::mpE r es clk (tb yQ m N)::pt b (.cells #[ptr p 0, .map (some r)] 95 (0,0))::owL 3 1 z.2.2.2.1 z.2.2.2.2 (yY z.2.1)::F) (fun z=>z.1.length) (tb yQ m N,[],none,none,0) (by rw[List.nil_append,zds]) [0,9,3] rfl rR ?_;rintro ⟨rest,zs,cur,s,c⟩ hp;simp only[] at hp ⊢;have hzl:zs.length≤1000:=(by have h1:=hp.length_eq;simp at h1;omega);refine gS ?_;refine g_l (zcT rR) rR ?_;rintro _ _ (⟨hr,rfl,rfl⟩ | ⟨⟨k,v⟩,rest',hq,rfl,rfl⟩)
  · subst hr;simp only[List.map_nil,List.append_nil] at hp;refine g_v (qd rR rR) rR (qb (qf ?_));refine yR rR ?_;refine qz rR ?_;refine gS (gM rR ?_);refine g_l (qi (Pre:=[owL 3 1 s c (yY zs)]) call73 rR (zba zs s zs.length c rR (by omega))) rR ?_;rintro _ _ ⟨rfl,rfl⟩;rw[zgw hp];refine qb (gS (gM rR (gA rR (qb ?_))));refine qL r ?_;exact wx rfl rfl rfl (by rw[hp.length_eq])
  · have hp2:(zs++k::rest'.map (·.1)).Perm (ids m N):=by
        have h1:=((hq.map (·.1)).append_left zs).symm.trans hp;simpa using h1
    refine g_v (qd rR rR) rR (qb (qf ?_));refine wV rR ?_;refine qh (qj (gS (g_v (zbs rR) rR (g_v (qd (v:=I k) rR rR) rR (gA rR (qb (qo (gM rR (gM rR ?_)))))))));refine g_l (qs [[I k]] underlying61 sizeOf3 zeroValue3 rR rR rR (by simp) (by decide) (by decide)) rR ?_;rintro _ _ ⟨b16,rfl,rfl⟩;refine g_l (yC underlying61 sizeOf3 zeroValue3 rfl Tryz.typeInfo3 (by decide) rfl rfl (wu _) rfl (by simp) (by intro r hr;simp at hr;subst hr;rfl) ⟨by omega,by decide,by decide⟩) rfl ?_;rintro _ _ ⟨s17,c17,rfl,rfl⟩;refine gA rR (qb (qF ?_));rw[show yY zs++ [[I k]]=yY (zs++ [k]) by simp[yY]];refine qm (rest',zs++ [k],some (k,v),s17,c17) (by simpa using hp2) (by have:=hq.length_eq;simp at this;simp;omega) [0,9,3] rfl (by simp[U])
theorem zfX (b r:Nat)(B:BkT)(m:Nat)(hm:(ids m B).length≤1000)(F:List HProp):Ct Tryz.prog 40 [ptr b 0] ([pt b (.cells #[.map (some r)] 101 (0,0)),mp r (tb encB m B)]++F) (RSl 3 1 (ids m B).length (yY (ids m B)) (pt b (.cells #[.map (some r)] 101 (0,0))::mp r (tb encB m B)::F)):=by
  show Ct Tryz.prog 40 [ptr b 0] (pt b (.cells #[.map (some r)] 101 (0,0))::mp r (tb encB m B)::F) _;refine Ct.of func40 rR 21 ntmps40 (by simp) fun w0=>?_;refine zaj r ?_;intro es clk;refine yG 3 1 (yY []) rR ?_;refine gS (gA rR (qb (gS (gA rR (qb (qf (gS (gM rR (g_v (qc rR) rR (g_v (qa 0 underlying101 rR rR sizeOf99 (by decide) rR) rR (g_v (qe (v:= .map (some r)) isAgg99 rR rR) rR ?_)))))))))));refine g_l (zbq underlying99 rR) rR ?_;rintro _ _ ⟨b9,rfl,rfl⟩;refine qb (qj ?_);refine qE (α:=MM×List Int×Option (Int×Value)×Option Addr×Nat) (fun z=>(z.2.1++z.1.map (·.1)).Perm (ids m B)) (fun z=>U [(0,ptr b 0),(9,ptr b9 0),(3,sl z.2.2.2.1 z.2.1.length z.2.2.2.2)]) (fun z=>mit b9 r es clk z.1 z.2.2.1::mpE r es clk (tb encB m B)::pt b (.cells #[.map (some r)] 101 (0,0))::owL 3 1 z.2.2.2.1 z.2.2.2.2 (yY z.2.1)::F) (fun z=>z.1.length) (tb encB m B,[],none,none,0) (by rw[List.nil_append,zds]) [0,9,3] rfl rR ?_;rintro ⟨rest,zs,cur,s,c⟩ hp;simp only[] at hp ⊢;have hzl:zs.length≤1000:=(by have h1:=hp.length_eq;simp at h1;omega);refine gS ?_;refine g_l (zcT rR) rR ?_;rintro _ _ (⟨hr,rfl,rfl⟩ | ⟨⟨k,v⟩,rest',hq,rfl,rfl⟩)
  · subst hr;simp only[List.map_nil,List.append_nil] at hp;refine g_v (qd rR rR) rR (qb (qf ?_));refine yR rR ?_;refine qz rR ?_;refine gS (gM rR ?_);refine g_l (qi (Pre:=[owL 3 1 s c (yY zs)]) call73 rR (zba zs s zs.length c rR (by omega))) rR ?_;rintro _ _ ⟨rfl,rfl⟩;rw[zgw hp];refine qb (gS (gM rR (gA rR (qb ?_))));refine qL r ?_;exact wx rfl rfl rfl (by rw[hp.length_eq])
  · have hp2:(zs++k::rest'.map (·.1)).Perm (ids m B):=by
        have h1:=((hq.map (·.1)).append_left zs).symm.trans hp;simpa using h1
    refine g_v (qd rR rR) rR (qb (qf ?_));refine wV rR ?_;refine qh (qj (gS (g_v (zbs rR) rR (g_v (qd (v:=I k) rR rR) rR (gA rR (qb (qo (gM rR (gM rR ?_)))))))));refine g_l (qs [[I k]] underlying61 sizeOf3 zeroValue3 rR rR rR (by simp) (by decide) (by decide)) rR ?_;rintro _ _ ⟨b16,rfl,rfl⟩;refine g_l (yC underlying61 sizeOf3 zeroValue3 rfl Tryz.typeInfo3 (by decide) rfl rfl (wu _) rfl (by simp) (by intro r hr;simp at hr;subst hr;rfl) ⟨by omega,by decide,by decide⟩) rfl ?_;rintro _ _ ⟨s17,c17,rfl,rfl⟩;refine gA rR (qb (qF ?_));rw[show yY zs++ [[I k]]=yY (zs++ [k]) by simp[yY]];refine qm (rest',zs++ [k],some (k,v),s17,c17) (by simpa using hp2) (by have:=hq.length_eq;simp at this;simp;omega) [0,9,3] rfl (by simp[U])
theorem zdt (b:Nat)(S:SI)(L:List Pt)(n:Int)(hl:L.length≤1000000)(hok:okS 999 S)(hp16:∀p∈L,0<p.size∧p.size≤16)(F:List HProp):Ct Tryz.prog 155 [ptr b 0] ([vlt b S L n]++F) (fun v L'=>∃o,v=Bo o∧L'=vlt b S L n::F∧(o=true ↔ Top S L)):=by
  show Ct Tryz.prog 155 [ptr b 0] (vlt b S L n::F) _;refine Ct.of func155 rR 31 ntmps155 (by simp) fun w0=>?_;refine zaz b S L n ?_;intro x s c;refine gS (gA rR (qb (qf (gS (gM rR (g_v (qc rR) rR (g_v (qa 1 underlying68 rR rR sizeOf66 (by decide) rR) rR (g_v (qe (v:=sl s (L).length c) isAgg66 rR rR) rR (g_v (yo underlying66 rR) rR (gM rR (qb (qj ?_))))))))))));refine qE (α:=Nat) (fun j=>j≤L.length∧Top S (L.take j)) (fun j=>U [(0,ptr b 0),(9,sl s L.length c),(10,I L.length),(11,I j)]) (fun j=>pt b (.cells #[ptr x 0,sl s (L).length c,I (n)] 68 (0,0))::ixl x S::owL 70 4 s c (ptR (L))::F) (fun j=>L.length - j) 0 ⟨by simp,by simpa using zvw S⟩ [0,9,10,11] rfl rR ?_;rintro j ⟨hj,hT⟩;refine gS (g_v (qJ rR rR) rR (qb (qf ?_)));refine qg rR (fun h12=>?_) (fun h12=>?_)
  · simp at h12;have hjn:j<L.length:=(by omega);obtain ⟨p0,hp⟩:∃p0,L[j]? =some p0:=⟨_,List.getElem?_eq_getElem hjn⟩;have hp0:=hp16 p0 (List.mem_of_getElem? hp);refine qh (qf (qj (gS (g_v (qA (j) underlying66 sizeOf70 rR rR rR hjn (by rw[wq];exact hjn)) rR (g_v (ym (row:=yn p0) isAgg70 sizeOf70 rR (zcU hp) rR) rR ?_)))));refine g_l (qy #[I 0,I 0,I 0,I 0] zeroValue70) rR ?_;rintro _ _ ⟨b4,rfl,rfl⟩;refine yp (qq (cs:=#[I 0,I 0,I 0,I 0]) (vs:=yn (p0)) (yn (p0)).toArray sizeOf70 rR rR rR rR (by simp) (qv rR)) ?_;rintro _ _ rfl;refine qb (gS (g_v (qa 2 underlying70 rR rR sizeOf3 (by decide) rR) rR (g_v (qe (v:=I p0.size) isAgg3 rR rR) rR (gA rR (qb ?_)))));obtain ⟨sz,hsz⟩:∃k:Nat,p0.size=k:=⟨p0.size.toNat,by omega⟩;refine qj ?_;refine qE (α:=Nat) (fun a=>a≤16∧sz≤a∧∀i,sz≤i→i<a→zcj S p0.root i=[]) (fun a=>U [(0,ptr b 0),(9,sl s L.length c),(10,I L.length),(11,I j),(4,ptr b4 0),(5,I a)]) (fun a=>pt b (.cells #[ptr x 0,sl s (L).length c,I (n)] 68 (0,0))::ixl x S::owL 70 4 s c (ptR (L))::pt b4 (.cells (yn p0).toArray 70 (0,0))::F) (fun a=>16 - a) sz ⟨by omega,by omega,fun i h1 h2=>absurd h1 (by omega)⟩ [0,9,10,11,4,5] rfl (by simp[U,hsz]) ?_;rintro a ⟨ha,hsa,hget⟩;refine qf (gS (gM rR (g_v (qJ rR rR) rR (qb ?_))));refine qg rR (fun h18=>?_) (fun h18=>?_)
    · simp at h18;have ha16:a<16:=(by omega);refine qh (qf (qj (qf ?_)));refine yw (Lf:=[pt b (.cells #[ptr x 0,sl s (L).length c,I (n)] 68 (0,0)),pt b4 (.cells (yn p0).toArray 70 (0,0))]) [(0,false),(1,false),(2,false),(3,false),(4,false),(5,false),(6,false),(7,true),(8,false)] (by kernel_rfl) (by kernel_rfl) rR (by kernel_rfl) ?_;refine dM rR rR rR (d_v rR (qc rR) rR (d_v rR (qa 0 underlying68 rR rR sizeOf65 (by decide) rR) rR (d_v rR (qe (v:=ptr x 0) isAgg65 rR rR) rR (d_v rR (qa 3 underlying70 rR rR sizeOf3 (by decide) rR) rR (d_v rR (qe (v:=I p0.root) isAgg3 rR rR) rR (dM rR rR rR ?_))))));refine d_l rR (qi (Pre:=[ixl x S]) call68 rR (zaN x S p0.root a 999 hok (by decide) (by omega))) rR ?_;rintro _ _ ⟨rfl,rfl⟩;refine d_v rR (zhj rR rR) rR ?_;refine yc ?_;refine qg rR (fun h29=>?_) (fun h29=>?_)
      · simp at h29;refine gS (gA rR (qb ?_))
        first
        | (refine yk b x s c (S) (L) (n) ?_
           exact fun a w hE hS=>wp_ret (yb (qw (vs:=[Bo true]) rfl hE ((inferInstance:Sub _ (vlt b S L n::F)).sat hS) ⟨true,rfl,rfl,fun _=>hT,fun _=>rfl⟩)))
        | (refine yk b x s c (S) (L) (n) ?_
           exact fun a' w hE hS=>wp_ret (yb (qw (vs:=[Bo false]) rfl hE ((inferInstance:Sub _ (vlt b S L n::F)).sat hS) ⟨false,rfl,rfl,(fun h=>by cases h),fun h=>absurd (h p0 (List.mem_of_getElem? hp) a (by omega) ha16) h29⟩)))
      · simp at h29;refine qh (qF (qo (gM rR (g_v (qu rR rR (w64 (by omega))) rR (gA rR (qb ?_))))));exact qm (a+1) ⟨by omega,by omega,fun i h1 h2=>by
          rcases Nat.lt_or_ge i a with h | h
          · exact hget i h1 h
          · obtain rfl:i=a:=(by omega);exact h29⟩ (by omega) [0,9,10,11,4,5] rfl rfl
    · simp at h18;obtain rfl:a=16:=(by omega);refine qz rR ?_;refine qF (qo (g_v (qu rR rR (w64 (by omega))) rR (gM rR (qb ?_))));exact qm (j+1) ⟨by omega,by rw[←zaC hp];exact zsH hT fun i h1 h2=>hget i (by omega) h2⟩ (by omega) [0,9,10,11] rfl rfl
  · simp at h12;obtain rfl:j=L.length:=(by omega);rw[List.take_length] at hT;refine qz rR ?_;refine gS (gA rR (qb ?_))
    first
    | (refine yk b x s c (S) (L) (n) ?_
       exact fun a w hE hS=>wp_ret (yb (qw (vs:=[Bo true]) rfl hE ((inferInstance:Sub _ (vlt b S L n::F)).sat hS) ⟨true,rfl,rfl,fun _=>hT,fun _=>rfl⟩)))
    | (refine yk b x s c (S) (L) (n) ?_
       exact fun a' w hE hS=>wp_ret (yb (qw (vs:=[Bo false]) rfl hE ((inferInstance:Sub _ (vlt b S L n::F)).sat hS) ⟨false,rfl,rfl,(fun h=>by cases h),fun h=>absurd (h p0 (List.mem_of_getElem? hp) a (by omega) ha16) h29⟩)))
theorem zib (b:Nat)(st:PS)(hP:Pok st)(hl:st.L.length≤1000000)(F:List HProp):Ct Tryz.prog 110 [ptr b 0] ([pvl b st]++F) (zv8 b st F):=by
  show Ct Tryz.prog 110 [ptr b 0] (pvl b st::F) _;refine Ct.of func110 rR 119 ntmps110 (by simp) fun w0=>?_;refine zep b st ?_;intro x p r r2 s cc;refine gS (gA rR (qb (qf (qf ?_))));refine wS [(0,false),(1,false),(2,false),(3,false),(4,false),(5,false),(6,false),(7,false),(8,false),(9,false),(10,false),(11,false),(12,false),(13,false),(14,false),(15,false),(16,false),(17,false),(18,false),(19,false),(20,false),(21,false),(22,false),(23,false),(24,false),(25,false),(26,false),(27,false),(28,false),(29,false),(30,false),(31,false),(32,false),(33,false),(34,false),(35,false),(36,false),(37,false),(38,false),(39,false),(40,false),(41,false),(42,false),(43,false),(44,false),(45,false),(46,false),(47,false),(48,false),(49,false),(50,false),(51,false),(52,false),(53,false),(54,false),(55,false),(56,false),(57,false),(58,false),(59,false),(60,false),(61,false),(62,false),(63,false),(64,false),(65,false)] (by kernel_rfl) (by kernel_rfl) rR (by kernel_rfl) ?_;refine dM rR rR rR (d_v rR (qc rR) rR (d_v rR (qa 1 underlying68 rR rR sizeOf66 (by decide) rR) rR (d_v rR (qe (v:=sl s st.L.length cc) isAgg66 rR rR) rR (d_v rR (yo underlying66 rR) rR (d_v rR (yA rR rR) rR (dM rR rR rR ?_))))));by_cases g1:(6:Int)<(st.L.length:Int)
  · refine qT rR rR rR (by rw[decide_eq_true g1];rfl) rR (qT rR rR rR (by rw[decide_eq_true g1];rfl) rR (qT rR rR rR (by rw[decide_eq_true g1];rfl) rR (qT rR rR rR (by rw[decide_eq_true g1];rfl) rR (qT rR rR rR (by rw[decide_eq_true g1];rfl) rR (qT rR rR rR (by rw[decide_eq_true g1];rfl) rR (qT rR rR rR (by rw[decide_eq_true g1];rfl) rR (qT rR rR rR (by rw[decide_eq_true g1];rfl) rR (qT rR rR rR (by rw[decide_eq_true g1];rfl) rR (d_v rR (zbp rR (decide_eq_true g1) rR) rR (dM rR rR rR (qT rR rR rR rR rR (qT rR rR rR rR rR (qT rR rR rR rR rR (qT rR rR rR rR rR (qT rR rR rR rR rR (qT rR rR rR rR rR (qT rR rR rR rR rR (qT rR rR rR rR rR (qT rR rR rR rR rR (qT rR rR rR rR rR (qT rR rR rR rR rR (qT rR rR rR rR rR (d_v rR (zbp rR rR rR) rR (dM rR rR rR (qT rR rR rR rR rR (qT rR rR rR rR rR (qT rR rR rR rR rR (qT rR rR rR rR rR (qT rR rR rR rR rR (d_v rR (zbp rR rR rR) rR (dM rR rR rR (qT rR rR rR rR rR (qT rR rR rR rR rR (qT rR rR rR rR rR (qT rR rR rR rR rR (qT rR rR rR rR rR (qT rR rR rR rR rR (qT rR rR rR rR rR (qT rR rR rR rR rR ?_)))))))))))))))))))))))))))))))))))))));refine qT rR rR rR rR rR (qT rR rR rR rR rR (qT rR rR rR rR rR (qT rR rR rR rR rR (qT rR rR rR rR rR (qT rR rR rR rR rR (qT rR rR rR rR rR (qT rR rR rR rR rR (qT rR rR rR rR rR (qT rR rR rR rR rR (qT rR rR rR rR rR (qT rR rR rR rR rR (qT rR rR rR rR rR (qT rR rR rR rR rR (qT rR rR rR rR rR (qT rR rR rR rR rR (qT rR rR rR rR rR (qT rR rR rR rR rR (d_v rR (zbp rR rR rR) rR ?_))))))))))))))))));refine yc ?_;refine qg rR (fun h74=>?_) (fun h74=>?_)
    · refine gS (gA rR (qb ?_));exact wK rfl (fun hw=>by have:=hw.len;omega) rfl rfl
    · cases h74
  · refine qQ rR rR rR (decide_eq_false g1) (qp rR) rR (qQ rR rR rR (decide_eq_false g1) (qc rR) rR (qQ rR rR rR (decide_eq_false g1) (qa 0 underlying68 rR rR sizeOf65 (by decide) rR) rR (qQ rR rR rR (decide_eq_false g1) (qe (v:=ptr x 0) isAgg65 rR rR) rR (qQ rR rR rR (decide_eq_false g1) (qc rR) rR (qQ rR rR rR (decide_eq_false g1) (qa 1 underlying95 rR rR sizeOf93 (by decide) rR) rR (qQ rR rR rR (decide_eq_false g1) (qe (v:= .map (some r)) isAgg93 rR rR) rR (qQ rR rR rR (decide_eq_false g1) (zd8 underlying93 rR) rR (qQ rR rR rR (decide_eq_false g1) (yA rR rR) rR (d_v rR (zau rR (decide_eq_false g1) rR) rR (dM rR rR rR ?_))))))))));by_cases g2:(24:Int)<(((tb yQ 999 st.N).length):Int)
    · refine qT rR rR rR (by rw[decide_eq_true g2];rfl) rR (qT rR rR rR (by rw[decide_eq_true g2];rfl) rR (qT rR rR rR (by rw[decide_eq_true g2];rfl) rR (qT rR rR rR (by rw[decide_eq_true g2];rfl) rR (qT rR rR rR (by rw[decide_eq_true g2];rfl) rR (qT rR rR rR (by rw[decide_eq_true g2];rfl) rR (qT rR rR rR (by rw[decide_eq_true g2];rfl) rR (qT rR rR rR (by rw[decide_eq_true g2];rfl) rR (qT rR rR rR (by rw[decide_eq_true g2];rfl) rR (qT rR rR rR (by rw[decide_eq_true g2];rfl) rR (qT rR rR rR (by rw[decide_eq_true g2];rfl) rR (qT rR rR rR (by rw[decide_eq_true g2];rfl) rR (d_v rR (zbp rR (decide_eq_true g2) rR) rR (dM rR rR rR (qT rR rR rR rR rR (qT rR rR rR rR rR (qT rR rR rR rR rR (qT rR rR rR rR rR (qT rR rR rR rR rR (d_v rR (zbp rR rR rR) rR (dM rR rR rR (qT rR rR rR rR rR (qT rR rR rR rR rR (qT rR rR rR rR rR (qT rR rR rR rR rR (qT rR rR rR rR rR (qT rR rR rR rR rR (qT rR rR rR rR rR (qT rR rR rR rR rR (qT rR rR rR rR rR (qT rR rR rR rR rR (qT rR rR rR rR rR (qT rR rR rR rR rR (qT rR rR rR rR rR (qT rR rR rR rR rR (qT rR rR rR rR rR (qT rR rR rR rR rR (qT rR rR rR rR rR (qT rR rR rR rR rR (qT rR rR rR rR rR ?_)))))))))))))))))))))))))))))))))))))));refine qT rR rR rR rR rR (qT rR rR rR rR rR (qT rR rR rR rR rR (qT rR rR rR rR rR (qT rR rR rR rR rR (qT rR rR rR rR rR (qT rR rR rR rR rR (d_v rR (zbp rR rR rR) rR ?_)))))));refine yc ?_;refine qg rR (fun h74=>?_) (fun h74=>?_)
      · refine gS (gA rR (qb ?_));exact wK rfl (fun hw=>by have h9:=zaI 24 st.N;rw[zaQ,zpM (n:=999) (by decide) hw.sN] at g2;omega) rfl rfl
      · cases h74
    · refine qQ rR rR rR (decide_eq_false g2) (qp rR) rR (qQ rR rR rR (decide_eq_false g2) (qc rR) rR (qQ rR rR rR (decide_eq_false g2) (qa 0 underlying68 rR rR sizeOf65 (by decide) rR) rR (qQ rR rR rR (decide_eq_false g2) (qe (v:=ptr x 0) isAgg65 rR rR) rR (qQ rR rR rR (decide_eq_false g2) (qc rR) rR (qQ rR rR rR (decide_eq_false g2) (qa 0 underlying95 rR rR sizeOf92 (by decide) rR) rR (qQ rR rR rR (decide_eq_false g2) (qe (v:=ptr p 0) isAgg92 rR rR) rR (qQ rR rR rR (decide_eq_false g2) (qc rR) rR (qQ rR rR rR (decide_eq_false g2) (qa 0 underlying101 rR rR sizeOf99 (by decide) rR) rR (qQ rR rR rR (decide_eq_false g2) (qe (v:= .map (some r2)) isAgg99 rR rR) rR (qQ rR rR rR (decide_eq_false g2) (zd8 underlying99 rR) rR (qQ rR rR rR (decide_eq_false g2) (yA rR rR) rR (d_v rR (zau rR (decide_eq_false g2) rR) rR (dM rR rR rR ?_)))))))))))));by_cases g3:(40:Int)<((tb encB 999 st.B).length:Int)
      · refine qT rR rR rR (by rw[decide_eq_true g3];rfl) rR (qT rR rR rR (by rw[decide_eq_true g3];rfl) rR (qT rR rR rR (by rw[decide_eq_true g3];rfl) rR (qT rR rR rR (by rw[decide_eq_true g3];rfl) rR (qT rR rR rR (by rw[decide_eq_true g3];rfl) rR (d_v rR (zbp rR (decide_eq_true g3) rR) rR (dM rR rR rR (qT rR rR rR rR rR (qT rR rR rR rR rR (qT rR rR rR rR rR (qT rR rR rR rR rR (qT rR rR rR rR rR (qT rR rR rR rR rR (qT rR rR rR rR rR (qT rR rR rR rR rR (qT rR rR rR rR rR (qT rR rR rR rR rR (qT rR rR rR rR rR (qT rR rR rR rR rR (qT rR rR rR rR rR (qT rR rR rR rR rR (qT rR rR rR rR rR (qT rR rR rR rR rR (qT rR rR rR rR rR (qT rR rR rR rR rR (qT rR rR rR rR rR (qT rR rR rR rR rR (qT rR rR rR rR rR (qT rR rR rR rR rR (qT rR rR rR rR rR (qT rR rR rR rR rR (qT rR rR rR rR rR (qT rR rR rR rR rR (d_v rR (zbp rR rR rR) rR ?_)))))))))))))))))))))))))))))))));refine yc ?_;refine qg rR (fun h74=>?_) (fun h74=>?_)
        · refine gS (gA rR (qb ?_));exact wK rfl (fun hw=>by have h9:=zaI 40 st.B;rw[zaQ,zpM (n:=999) (by decide) hw.sB] at g3;omega) rfl rfl
        · cases h74
      · refine qQ rR rR rR (decide_eq_false g3) (qp rR) rR (qQ rR rR rR (decide_eq_false g3) (qc rR) rR (qQ rR rR rR (decide_eq_false g3) (qa 2 underlying68 rR rR sizeOf3 (by decide) rR) rR (qQ rR rR rR (decide_eq_false g3) (qe (v:=I st.n) isAgg3 rR rR) rR (qQ rR rR rR (decide_eq_false g3) (qJ rR rR) rR (d_v rR (zau rR (decide_eq_false g3) rR) rR (dM rR rR rR ?_))))));by_cases g4:st.n<1
        · refine qT rR rR rR (by rw[decide_eq_true g4];rfl) rR (qT rR rR rR (by rw[decide_eq_true g4];rfl) rR (qT rR rR rR (by rw[decide_eq_true g4];rfl) rR (qT rR rR rR (by rw[decide_eq_true g4];rfl) rR (qT rR rR rR (by rw[decide_eq_true g4];rfl) rR (qT rR rR rR (by rw[decide_eq_true g4];rfl) rR (qT rR rR rR (by rw[decide_eq_true g4];rfl) rR (qT rR rR rR rR rR (qT rR rR rR rR rR (qT rR rR rR rR rR (qT rR rR rR rR rR (qT rR rR rR rR rR (qT rR rR rR rR rR (qT rR rR rR rR rR (qT rR rR rR rR rR (qT rR rR rR rR rR (qT rR rR rR rR rR (qT rR rR rR rR rR (qT rR rR rR rR rR (qT rR rR rR rR rR (qT rR rR rR rR rR (qT rR rR rR rR rR (qT rR rR rR rR rR (qT rR rR rR rR rR (qT rR rR rR rR rR (qT rR rR rR (by rw[decide_eq_true g4];rfl) rR (d_v rR (zbp rR (decide_eq_true g4) rR) rR ?_))))))))))))))))))))))))));refine yc ?_;refine qg rR (fun h74=>?_) (fun h74=>?_)
          · refine gS (gA rR (qb ?_));exact wK rfl (fun hw=>by have:=hw.n1;omega) rfl rfl
          · cases h74
        · refine qQ rR rR rR (decide_eq_false g4) (qp rR) rR (qQ rR rR rR (decide_eq_false g4) (qc rR) rR (qQ rR rR rR (decide_eq_false g4) (qa 1 underlying68 rR rR sizeOf66 (by decide) rR) rR (qQ rR rR rR (decide_eq_false g4) (qe (v:=sl s st.L.length cc) isAgg66 rR rR) rR (qQ rR rR rR (decide_eq_false g4) (yo underlying66 rR) rR (qQ rR rR rR (decide_eq_false g4) (yA rR rR) rR (qQ rR rR rR (decide_eq_false g4) (qp rR) rR ?_))))));by_cases g5:(0:Int)<(st.L.length:Int)
          · obtain ⟨pl,hpl⟩:∃pl,st.L[st.L.length - 1]? =some pl:=⟨_,List.getElem?_eq_getElem (by omega)⟩;have hpl2:st.L.getLast? =some pl:=(by rw[List.getLast?_eq_getElem?];exact hpl);refine qQ rR rR rR (decide_eq_true g5) (qp rR) rR (qQ rR rR rR (decide_eq_true g5) (qc rR) rR (qQ rR rR rR (decide_eq_true g5) (qa 1 underlying68 rR rR sizeOf66 (by decide) rR) rR (qQ rR rR rR (decide_eq_true g5) (qe (v:=sl s st.L.length cc) isAgg66 rR rR) rR (qQ rR rR rR (decide_eq_true g5) (qp rR) rR (qQ rR rR rR (decide_eq_true g5) (qc rR) rR (qQ rR rR rR (decide_eq_true g5) (qa 1 underlying68 rR rR sizeOf66 (by decide) rR) rR (qQ rR rR rR (decide_eq_true g5) (qe (v:=sl s st.L.length cc) isAgg66 rR rR) rR (qQ rR rR rR (decide_eq_true g5) (yo underlying66 rR) rR (qQ rR rR rR (decide_eq_true g5) (zce rR rR (w64 (by omega))) rR (qQ rR rR rR (decide_eq_true g5) (qA (st.L.length - 1) underlying66 sizeOf70 rR rR (by omega) (by omega) (by rw[wq];omega)) rR (qQ rR rR rR (decide_eq_true g5) (ye (j:=st.L.length - 1) 0 underlying70 rR rR sizeOf3 (by decide) rR (by rw[wq];omega)) rR (qQ rR rR rR (decide_eq_true g5) (wC (v:=I pl.id) isAgg3 rR (zcU hpl) rR) rR (qQ rR rR rR (decide_eq_true g5) (qp rR) rR (qQ rR rR rR (decide_eq_true g5) (qc rR) rR (qQ rR rR rR (decide_eq_true g5) (qa 2 underlying68 rR rR sizeOf3 (by decide) rR) rR (qQ rR rR rR (decide_eq_true g5) (qe (v:=I st.n) isAgg3 rR rR) rR (qQ rR rR rR (decide_eq_true g5) (zig rR rR) rR (qQ rR rR rR (decide_eq_false g4) (zbp rR (decide_eq_true g5) rR) rR (d_v rR (zau rR (decide_eq_false g4) rR) rR ?_)))))))))))))))))));refine yc ?_;refine qg rR (fun h74=>?_) (fun h74=>?_)
            · have g6:st.n≤pl.id:=(by simpa using h74);refine gS (gA rR (qb ?_))
              first
              | exact wK rfl (fun hw=>by have:=hw.last pl hpl2;omega) rfl rfl
              | exact wK rfl (fun hw=>by obtain ⟨y,hy⟩:=Option.isSome_iff_exists.1 hqi.2;have:=hw.sN q y hy;omega) rfl rfl
              | exact wK rfl (fun hw=>by obtain ⟨y,hy⟩:=Option.isSome_iff_exists.1 hqi.2;have:=hw.sB q y hy;omega) rfl rfl
            · have g6:¬st.n≤pl.id:=(by simpa using h74);have hlast:∀p,st.L.getLast? =some p→p.id<st.n:=fun p hp=>(by rw[hpl2] at hp;injection hp with hp;subst hp;omega);refine qh (qf (gS (gM rR (g_v (qc rR) rR (g_v (qa 0 underlying68 rR rR sizeOf65 (by decide) rR) rR (g_v (qe (v:=ptr x 0) isAgg65 rR rR) rR ?_))))));refine g_l (qi (Pre:=[pt x (.cells #[ptr p 0, .map (some r)] 95 (0,0)),mp r (tb yQ 999 st.N)]) call42 rR (zeB x p r st.N 999 (by rw[zaQ] at g2;omega))) rR ?_;rintro _ _ ⟨s79,c79,rfl,rfl⟩;refine yB s79 ?_;refine g_v (yo underlying61 rR) rR (gM rR (qb (qj ?_)));refine qE (α:=Nat) (fun k=>k≤(ids 999 st.N).length∧∀q∈(ids 999 st.N).take k,q≤((24:Nat):Int)) (fun k=>U [(0,ptr b 0),(79,sl s79 (ids 999 st.N).length c79),(80,I (ids 999 st.N).length),(81,I k)]) (fun k=>roL 1 s79 (yY (ids 999 st.N))::pt b (.cells #[ptr x 0,sl s st.L.length cc,I st.n] 68 (0,0))::pt x (.cells #[ptr p 0, .map (some r)] 95 (0,0))::pt p (.cells #[.map (some r2)] 101 (0,0))::mp r (tb yQ 999 st.N)::mp r2 (tb encB 999 st.B)::owL 70 4 s cc (ptR st.L)::F) (fun k=>(ids 999 st.N).length - k) 0 ⟨by simp,fun q h=>by simp at h⟩ [0,79,80,81] rfl rR ?_;rintro k ⟨hk,hN24⟩;refine gS (g_v (qJ rR rR) rR (qb (qf ?_)));refine qg rR (fun h82=>?_) (fun h82=>?_)
              · simp at h82;have hnl:(ids 999 st.N).length≤24:=(by rw[zaQ] at g2;omega);have hki:k<(ids 999 st.N).length:=(by omega);obtain ⟨q,hq⟩:∃q,(ids 999 st.N)[k]? =some q:=⟨_,List.getElem?_eq_getElem hki⟩;have hqi:=mem_ids.1 (List.mem_of_getElem? hq);refine qh (qf (qj (gS (g_v (qA k underlying61 sizeOf3 rR rR rR hki (by rw[wu];exact hki)) rR (g_v (yd (v:=I q) isAgg3 rR (zcK hq) rR) rR (gA rR (qb (gS (gM rR (g_v (yA rR rR) rR (qb ?_)))))))))));refine qg rR (fun h86=>?_) (fun h86=>?_)
                · simp at h86;refine gS (gA rR (qb ?_))
                  first
                  | exact wK rfl (fun hw=>by have:=hw.last pl hpl2;omega) rfl rfl
                  | exact wK rfl (fun hw=>by obtain ⟨y,hy⟩:=Option.isSome_iff_exists.1 hqi.2;have:=hw.sN q y hy;omega) rfl rfl
                  | exact wK rfl (fun hw=>by obtain ⟨y,hy⟩:=Option.isSome_iff_exists.1 hqi.2;have:=hw.sB q y hy;omega) rfl rfl
                · simp at h86;refine qh (qF (qo (g_v (qu rR rR (w64 (by omega))) rR (gM rR (qb ?_)))));exact qm (k+1) ⟨by omega,fun y hy=>by
                    rw[←zaC hq,List.mem_append,List.mem_singleton] at hy;rcases hy with hy | rfl
                    · exact hN24 y hy
                    · omega⟩ (by omega) [0,79,80,81] rfl rfl
              · simp at h82;obtain rfl:k=(ids 999 st.N).length:=(by omega);rw[List.take_length] at hN24;refine qz rR ?_;refine qf (gS (gM rR (g_v (qc rR) rR (g_v (qa 0 underlying68 rR rR sizeOf65 (by decide) rR) rR (g_v (qe (v:=ptr x 0) isAgg65 rR rR) rR (g_v (qc rR) rR (g_v (qa 0 underlying95 rR rR sizeOf92 (by decide) rR) rR (g_v (qe (v:=ptr p 0) isAgg92 rR rR) rR ?_))))))));refine g_l (qi (Pre:=[pt p (.cells #[.map (some r2)] 101 (0,0)),mp r2 (tb encB 999 st.B)]) call40 rR (zfX p r2 st.B 999 (by rw[zaQ] at g3;omega))) rR ?_;rintro _ _ ⟨s95,c95,rfl,rfl⟩;refine yB s95 ?_;refine g_v (yo underlying61 rR) rR (gM rR (qb (qj ?_)));refine qE (α:=Nat) (fun k=>k≤(ids 999 st.B).length∧∀q∈(ids 999 st.B).take k,q≤((40:Nat):Int)) (fun k=>U [(0,ptr b 0),(95,sl s95 (ids 999 st.B).length c95),(96,I (ids 999 st.B).length),(97,I k)]) (fun k=>roL 1 s95 (yY (ids 999 st.B))::pt b (.cells #[ptr x 0,sl s st.L.length cc,I st.n] 68 (0,0))::pt x (.cells #[ptr p 0, .map (some r)] 95 (0,0))::pt p (.cells #[.map (some r2)] 101 (0,0))::mp r (tb yQ 999 st.N)::mp r2 (tb encB 999 st.B)::owL 70 4 s cc (ptR st.L)::F) (fun k=>(ids 999 st.B).length - k) 0 ⟨by simp,fun q h=>by simp at h⟩ [0,95,96,97] rfl rR ?_;rintro k ⟨hk,hB40⟩;refine gS (g_v (qJ rR rR) rR (qb (qf ?_)));refine qg rR (fun h98=>?_) (fun h98=>?_)
                · simp at h98;have hnl2:(ids 999 st.B).length≤40:=(by rw[zaQ] at g3;omega);have hki:k<(ids 999 st.B).length:=(by omega);obtain ⟨q,hq⟩:∃q,(ids 999 st.B)[k]? =some q:=⟨_,List.getElem?_eq_getElem hki⟩;have hqi:=mem_ids.1 (List.mem_of_getElem? hq);refine qh (qf (qj (gS (g_v (qA k underlying61 sizeOf3 rR rR rR hki (by rw[wu];exact hki)) rR (g_v (yd (v:=I q) isAgg3 rR (zcK hq) rR) rR (gA rR (qb (gS (gM rR (g_v (yA rR rR) rR (qb ?_)))))))))));refine qg rR (fun h102=>?_) (fun h102=>?_)
                  · simp at h102;refine gS (gA rR (qb ?_))
                    first
                    | exact wK rfl (fun hw=>by have:=hw.last pl hpl2;omega) rfl rfl
                    | exact wK rfl (fun hw=>by obtain ⟨y,hy⟩:=Option.isSome_iff_exists.1 hqi.2;have:=hw.sN q y hy;omega) rfl rfl
                    | exact wK rfl (fun hw=>by obtain ⟨y,hy⟩:=Option.isSome_iff_exists.1 hqi.2;have:=hw.sB q y hy;omega) rfl rfl
                  · simp at h102;refine qh (qF (qo (g_v (qu rR rR (w64 (by omega))) rR (gM rR (qb ?_)))));exact qm (k+1) ⟨by omega,fun y hy=>by
                      rw[←zaC hq,List.mem_append,List.mem_singleton] at hy;rcases hy with hy | rfl
                      · exact hB40 y hy
                      · omega⟩ (by omega) [0,95,96,97] rfl rfl
                · simp at h98;obtain rfl:k=(ids 999 st.B).length:=(by omega);rw[List.take_length] at hB40;refine qz rR ?_;refine qf ?_;have hsN:sup 24 st.N:=zjE hP.sN (by decide) hN24;have hsB:sup 40 st.B:=zjE hP.sB (by decide) hB40;rw[zmD (enc:=yQ) (n:=999) (by decide) hsN,zmD (enc:=encB) (n:=999) (by decide) hsB];refine wj r2 p st.B (.refl _) ?_;refine yr p r x ⟨st.B,st.N⟩ (.refl _) ?_;refine yk b x s cc ⟨st.B,st.N⟩ st.L st.n ?_;refine qo (gM rR ?_);refine g_l (qi (Pre:=[vlt b ⟨st.B,st.N⟩ st.L st.n]) call153 rR (zd9 b ⟨st.B,st.N⟩ st.L st.n (by omega) hsN)) rR ?_;rintro _ _ ⟨rm,Q,o,rfl,rfl,hk1,hk2⟩;refine gM rR (g_v (qd (v:= .map (some rm)) rR rR) rR (g_v (qd (v:=Bo o) rR rR) rR (gA rR (gA rR (qb (gS (gM rR (gM rR ?_))))))));rcases hoo:o with _ | _
                  · have hkn:¬KindsP st.N st.L:=fun h=>(by have:=hk1.2 h;rw[hoo] at this;cases this);refine yH rR rR rR rR (yH rR rR rR rR (yH rR rR rR rR (g_v (zau rR rR rR) rR (gM rR (yH rR rR rR rR (yH rR rR rR rR (g_v (zau rR rR rR) rR (gA rR (qb ?_)))))))));exact wK rfl (fun hw=>by exact hkn hw.kinds) rfl rfl
                  · have hkp:KindsP st.N st.L:=hk1.1 hoo;refine qU rR rR rR (qp rR) rR (qU rR rR rR (qp rR) rR ?_);refine zrs rR rR rR (qi (Pre:=[mp rm (mi Q),vlt b ⟨st.B,st.N⟩ st.L st.n]) call154 rR (zcW b ⟨st.B,st.N⟩ st.L st.n rm Q (by omega) hsN hsB (fun q x e=>(hP.b q x e).1.1) (hk2 hoo))) rR ?_;rintro _ _ ⟨o2,rfl,rfl,hc⟩;refine g_v (zas rR rR) rR (gM rR ?_);rcases hoo2:o2 with _ | _
                    · have hcn:¬CountP st.B st.N st.L:=fun h=>(by have:=hc.2 h;rw[hoo2] at this;cases this);refine yH rR rR rR rR (yH rR rR rR rR (g_v (zau rR rR rR) rR (gA rR (qb ?_))));exact wK rfl (fun hw=>by exact hcn hw.counted) rfl rfl
                    · have hcp:CountP st.B st.N st.L:=hc.1 hoo2;refine qU rR rR rR (qp rR) rR ?_;refine zrs rR rR rR (qi (Pre:=[vlt b ⟨st.B,st.N⟩ st.L st.n]) call155 rR (zdt b ⟨st.B,st.N⟩ st.L st.n (by omega) (zoZ hP hsN hsB) (fun p hp=>(hP.p p hp).2.2.1))) rR ?_;rintro _ _ ⟨o3,rfl,rfl,ht⟩;refine g_v (zbp rR rR rR) rR (gA rR (qb ?_));rcases hoo3:o3 with _ | _
                      · exact wK rfl (fun hw=>by have:=ht.2 hw.within;rw[hoo3] at this;cases this) rfl rfl
                      · exact zpI rfl ⟨by omega,by omega,hlast,hsN,hsB,hkp,hcp,ht.1 hoo3⟩ rfl rfl
          · have hlast:∀p,st.L.getLast? =some p→p.id<st.n:=fun p hp=>by
              have h0:st.L=[]:=List.length_eq_zero_iff.1 (by omega);rw[h0] at hp;cases hp
            refine qT rR rR rR (by rw[decide_eq_false g5];rfl) rR (qT rR rR rR (by rw[decide_eq_false g5];rfl) rR (qT rR rR rR (by rw[decide_eq_false g5];rfl) rR (qT rR rR rR (by rw[decide_eq_false g5];rfl) rR (qT rR rR rR (by rw[decide_eq_false g5];rfl) rR (qT rR rR rR (by rw[decide_eq_false g5];rfl) rR (qT rR rR rR (by rw[decide_eq_false g5];rfl) rR (qT rR rR rR (by rw[decide_eq_false g5];rfl) rR (qT rR rR rR (by rw[decide_eq_false g5];rfl) rR (qT rR rR rR (by rw[decide_eq_false g5];rfl) rR (qT rR rR rR (by rw[decide_eq_false g5];rfl) rR (qT rR rR rR (by rw[decide_eq_false g5];rfl) rR (qT rR rR rR (by rw[decide_eq_false g5];rfl) rR (qT rR rR rR (by rw[decide_eq_false g5];rfl) rR (qT rR rR rR (by rw[decide_eq_false g5];rfl) rR (qT rR rR rR (by rw[decide_eq_false g5];rfl) rR (qT rR rR rR (by rw[decide_eq_false g5];rfl) rR (qT rR rR rR (by rw[decide_eq_false g5];rfl) rR (qQ rR rR rR (decide_eq_false g4) (zau rR (decide_eq_false g5) rR) rR (d_v rR (zau rR (decide_eq_false g4) rR) rR ?_)))))))))))))))))));refine yc ?_;refine qg rR (fun h74=>?_) (fun h74=>?_)
            · cases h74
            · refine qh (qf (gS (gM rR (g_v (qc rR) rR (g_v (qa 0 underlying68 rR rR sizeOf65 (by decide) rR) rR (g_v (qe (v:=ptr x 0) isAgg65 rR rR) rR ?_))))));refine g_l (qi (Pre:=[pt x (.cells #[ptr p 0, .map (some r)] 95 (0,0)),mp r (tb yQ 999 st.N)]) call42 rR (zeB x p r st.N 999 (by rw[zaQ] at g2;omega))) rR ?_;rintro _ _ ⟨s79,c79,rfl,rfl⟩;refine yB s79 ?_;refine g_v (yo underlying61 rR) rR (gM rR (qb (qj ?_)));refine qE (α:=Nat) (fun k=>k≤(ids 999 st.N).length∧∀q∈(ids 999 st.N).take k,q≤((24:Nat):Int)) (fun k=>U [(0,ptr b 0),(79,sl s79 (ids 999 st.N).length c79),(80,I (ids 999 st.N).length),(81,I k)]) (fun k=>roL 1 s79 (yY (ids 999 st.N))::pt b (.cells #[ptr x 0,sl s st.L.length cc,I st.n] 68 (0,0))::pt x (.cells #[ptr p 0, .map (some r)] 95 (0,0))::pt p (.cells #[.map (some r2)] 101 (0,0))::mp r (tb yQ 999 st.N)::mp r2 (tb encB 999 st.B)::owL 70 4 s cc (ptR st.L)::F) (fun k=>(ids 999 st.N).length - k) 0 ⟨by simp,fun q h=>by simp at h⟩ [0,79,80,81] rfl rR ?_;rintro k ⟨hk,hN24⟩;refine gS (g_v (qJ rR rR) rR (qb (qf ?_)));refine qg rR (fun h82=>?_) (fun h82=>?_)
              · simp at h82;have hnl:(ids 999 st.N).length≤24:=(by rw[zaQ] at g2;omega);have hki:k<(ids 999 st.N).length:=(by omega);obtain ⟨q,hq⟩:∃q,(ids 999 st.N)[k]? =some q:=⟨_,List.getElem?_eq_getElem hki⟩;have hqi:=mem_ids.1 (List.mem_of_getElem? hq);refine qh (qf (qj (gS (g_v (qA k underlying61 sizeOf3 rR rR rR hki (by rw[wu];exact hki)) rR (g_v (yd (v:=I q) isAgg3 rR (zcK hq) rR) rR (gA rR (qb (gS (gM rR (g_v (yA rR rR) rR (qb ?_)))))))))));refine qg rR (fun h86=>?_) (fun h86=>?_)
                · simp at h86;refine gS (gA rR (qb ?_))
                  first
                  | exact wK rfl (fun hw=>by have:=hw.last pl hpl2;omega) rfl rfl
                  | exact wK rfl (fun hw=>by obtain ⟨y,hy⟩:=Option.isSome_iff_exists.1 hqi.2;have:=hw.sN q y hy;omega) rfl rfl
                  | exact wK rfl (fun hw=>by obtain ⟨y,hy⟩:=Option.isSome_iff_exists.1 hqi.2;have:=hw.sB q y hy;omega) rfl rfl
                · simp at h86;refine qh (qF (qo (g_v (qu rR rR (w64 (by omega))) rR (gM rR (qb ?_)))));exact qm (k+1) ⟨by omega,fun y hy=>by
                    rw[←zaC hq,List.mem_append,List.mem_singleton] at hy;rcases hy with hy | rfl
                    · exact hN24 y hy
                    · omega⟩ (by omega) [0,79,80,81] rfl rfl
              · simp at h82;obtain rfl:k=(ids 999 st.N).length:=(by omega);rw[List.take_length] at hN24;refine qz rR ?_;refine qf (gS (gM rR (g_v (qc rR) rR (g_v (qa 0 underlying68 rR rR sizeOf65 (by decide) rR) rR (g_v (qe (v:=ptr x 0) isAgg65 rR rR) rR (g_v (qc rR) rR (g_v (qa 0 underlying95 rR rR sizeOf92 (by decide) rR) rR (g_v (qe (v:=ptr p 0) isAgg92 rR rR) rR ?_))))))));refine g_l (qi (Pre:=[pt p (.cells #[.map (some r2)] 101 (0,0)),mp r2 (tb encB 999 st.B)]) call40 rR (zfX p r2 st.B 999 (by rw[zaQ] at g3;omega))) rR ?_;rintro _ _ ⟨s95,c95,rfl,rfl⟩;refine yB s95 ?_;refine g_v (yo underlying61 rR) rR (gM rR (qb (qj ?_)));refine qE (α:=Nat) (fun k=>k≤(ids 999 st.B).length∧∀q∈(ids 999 st.B).take k,q≤((40:Nat):Int)) (fun k=>U [(0,ptr b 0),(95,sl s95 (ids 999 st.B).length c95),(96,I (ids 999 st.B).length),(97,I k)]) (fun k=>roL 1 s95 (yY (ids 999 st.B))::pt b (.cells #[ptr x 0,sl s st.L.length cc,I st.n] 68 (0,0))::pt x (.cells #[ptr p 0, .map (some r)] 95 (0,0))::pt p (.cells #[.map (some r2)] 101 (0,0))::mp r (tb yQ 999 st.N)::mp r2 (tb encB 999 st.B)::owL 70 4 s cc (ptR st.L)::F) (fun k=>(ids 999 st.B).length - k) 0 ⟨by simp,fun q h=>by simp at h⟩ [0,95,96,97] rfl rR ?_;rintro k ⟨hk,hB40⟩;refine gS (g_v (qJ rR rR) rR (qb (qf ?_)));refine qg rR (fun h98=>?_) (fun h98=>?_)
                · simp at h98;have hnl2:(ids 999 st.B).length≤40:=(by rw[zaQ] at g3;omega);have hki:k<(ids 999 st.B).length:=(by omega);obtain ⟨q,hq⟩:∃q,(ids 999 st.B)[k]? =some q:=⟨_,List.getElem?_eq_getElem hki⟩;have hqi:=mem_ids.1 (List.mem_of_getElem? hq);refine qh (qf (qj (gS (g_v (qA k underlying61 sizeOf3 rR rR rR hki (by rw[wu];exact hki)) rR (g_v (yd (v:=I q) isAgg3 rR (zcK hq) rR) rR (gA rR (qb (gS (gM rR (g_v (yA rR rR) rR (qb ?_)))))))))));refine qg rR (fun h102=>?_) (fun h102=>?_)
                  · simp at h102;refine gS (gA rR (qb ?_))
                    first
                    | exact wK rfl (fun hw=>by have:=hw.last pl hpl2;omega) rfl rfl
                    | exact wK rfl (fun hw=>by obtain ⟨y,hy⟩:=Option.isSome_iff_exists.1 hqi.2;have:=hw.sN q y hy;omega) rfl rfl
                    | exact wK rfl (fun hw=>by obtain ⟨y,hy⟩:=Option.isSome_iff_exists.1 hqi.2;have:=hw.sB q y hy;omega) rfl rfl
                  · simp at h102;refine qh (qF (qo (g_v (qu rR rR (w64 (by omega))) rR (gM rR (qb ?_)))));exact qm (k+1) ⟨by omega,fun y hy=>by
                      rw[←zaC hq,List.mem_append,List.mem_singleton] at hy;rcases hy with hy | rfl
                      · exact hB40 y hy
                      · omega⟩ (by omega) [0,95,96,97] rfl rfl
                · simp at h98;obtain rfl:k=(ids 999 st.B).length:=(by omega);rw[List.take_length] at hB40;refine qz rR ?_;refine qf ?_;have hsN:sup 24 st.N:=zjE hP.sN (by decide) hN24;have hsB:sup 40 st.B:=zjE hP.sB (by decide) hB40;rw[zmD (enc:=yQ) (n:=999) (by decide) hsN,zmD (enc:=encB) (n:=999) (by decide) hsB];refine wj r2 p st.B (.refl _) ?_;refine yr p r x ⟨st.B,st.N⟩ (.refl _) ?_;refine yk b x s cc ⟨st.B,st.N⟩ st.L st.n ?_;refine qo (gM rR ?_);refine g_l (qi (Pre:=[vlt b ⟨st.B,st.N⟩ st.L st.n]) call153 rR (zd9 b ⟨st.B,st.N⟩ st.L st.n (by omega) hsN)) rR ?_;rintro _ _ ⟨rm,Q,o,rfl,rfl,hk1,hk2⟩;refine gM rR (g_v (qd (v:= .map (some rm)) rR rR) rR (g_v (qd (v:=Bo o) rR rR) rR (gA rR (gA rR (qb (gS (gM rR (gM rR ?_))))))));rcases hoo:o with _ | _
                  · have hkn:¬KindsP st.N st.L:=fun h=>(by have:=hk1.2 h;rw[hoo] at this;cases this);refine yH rR rR rR rR (yH rR rR rR rR (yH rR rR rR rR (g_v (zau rR rR rR) rR (gM rR (yH rR rR rR rR (yH rR rR rR rR (g_v (zau rR rR rR) rR (gA rR (qb ?_)))))))));exact wK rfl (fun hw=>by exact hkn hw.kinds) rfl rfl
                  · have hkp:KindsP st.N st.L:=hk1.1 hoo;refine qU rR rR rR (qp rR) rR (qU rR rR rR (qp rR) rR ?_);refine zrs rR rR rR (qi (Pre:=[mp rm (mi Q),vlt b ⟨st.B,st.N⟩ st.L st.n]) call154 rR (zcW b ⟨st.B,st.N⟩ st.L st.n rm Q (by omega) hsN hsB (fun q x e=>(hP.b q x e).1.1) (hk2 hoo))) rR ?_;rintro _ _ ⟨o2,rfl,rfl,hc⟩;refine g_v (zas rR rR) rR (gM rR ?_);rcases hoo2:o2 with _ | _
                    · have hcn:¬CountP st.B st.N st.L:=fun h=>(by have:=hc.2 h;rw[hoo2] at this;cases this);refine yH rR rR rR rR (yH rR rR rR rR (g_v (zau rR rR rR) rR (gA rR (qb ?_))));exact wK rfl (fun hw=>by exact hcn hw.counted) rfl rfl
                    · have hcp:CountP st.B st.N st.L:=hc.1 hoo2;refine qU rR rR rR (qp rR) rR ?_;refine zrs rR rR rR (qi (Pre:=[vlt b ⟨st.B,st.N⟩ st.L st.n]) call155 rR (zdt b ⟨st.B,st.N⟩ st.L st.n (by omega) (zoZ hP hsN hsB) (fun p hp=>(hP.p p hp).2.2.1))) rR ?_;rintro _ _ ⟨o3,rfl,rfl,ht⟩;refine g_v (zbp rR rR rR) rR (gA rR (qb ?_));rcases hoo3:o3 with _ | _
                      · exact wK rfl (fun hw=>by have:=ht.2 hw.within;rw[hoo3] at this;cases this) rfl rfl
                      · exact zpI rfl ⟨by omega,by omega,hlast,hsN,hsB,hkp,hcp,ht.1 hoo3⟩ rfl rfl
theorem bldV1 (x:Nat)(w:World):(Instr.build 68 #[(0,ptr x 0)]).run Tryz.prog w= .ok (.agg #[ptr x 0,sl none 0 0,I 0]) w:=by
  simp[Instr.build,zeroValue68,runUnderlying68,sizeOf65,Instr.fill,qV,show (ptr x 0).cells=#[ptr x 0] from rfl,sl]
theorem zqN {l:List ChangeM}{i:Nat}{c pc:ChangeM}(h:0<i→l[i - 1]? =some pc):badK (pvK l i) c=(decide ((0:Int)<(i:Int)) && (Op.bytesLess c.key pc.key || decide (c.key=pc.key))):=by
  cases i with
  | zero=>rw[pvK_0];rfl
  | succ i=>
    have h1:l[i]? =some pc:=h (by omega);rw[pvK_s h1];have e:decide ((0:Int)<((i+1:Nat):Int))=true:=decide_eq_true (by omega);rw[e,Bool.true_and]
    rfl
theorem zic (l:List ChangeM)(s:Option Addr)(cap:Nat)(hl:l.length≤1000000)(hll:∀c∈l,c.key.length≤9223372036854775807∧c.val.length≤9223372036854775807)(F:List HProp):Ct Tryz.prog 64 [sl s l.length cap] ([za5,roL 3 s (chR l)]++F) (zuR l 108 (za5::roL 3 s (chR l)::F)):=by
  show Ct Tryz.prog 64 [sl s l.length cap] (za5::roL 3 s (chR l)::F) _;refine Ct.of func64 rR 47 ntmps64 (by simp) fun w0=>?_;refine gS (gA rR (gA rR (qb (gS ?_))));refine g_l (qi (Pre:=[]) call108 rR (zfV)) rR ?_;rintro _ _ ⟨x,rfl,rfl⟩;refine g_v (qP rR (bldV1 x)) rR ?_;refine g_l (wR #[ptr x 0,sl none ps0.L.length 0,I ps0.n] rfl rR) rR ?_;rintro _ _ ⟨b9,rfl,rfl⟩;refine gA rR (qb ?_);refine zai x ⟨fun _=>none,fun _=>none⟩ ?_;intro p r;refine zcc p (fun _=>none) ?_;intro r2;refine zga r (tb yQ 999 ps0.N) (by show (tb yQ 24 (fun _=>none)).Perm (tb yQ 999 (fun _=>none));rw[zcI,zcI]) ?_;refine zga r2 (tb encB 999 ps0.B) (by show (tb encB 40 (fun _=>none)).Perm (tb encB 999 (fun _=>none));rw[zcI,zcI]) ?_;refine yG 70 4 (ptR ps0.L) rR ?_;refine zeu b9 x p r r2 none 0 ps0 ?_;refine qf (gS (gM rR (g_v (yo underlying34 rR) rR (gM rR (qb (qj ?_))))));refine qE (α:=Nat×PS) (fun z=>z.1≤l.length∧zbd none ps0 (l.take z.1)=some z.2∧Pok z.2∧z.2.L.length≤z.1) (fun z=>U [(0,sl s l.length cap),(4,ptr b9 0),(10,sl s l.length cap),(11,I l.length),(12,I z.1)]) (fun z=>za5::roL 3 s (chR l)::pvl b9 z.2::F) (fun z=>l.length - z.1) (0,ps0) ⟨by simp,by simp[zbd],Pok_0,by simp[ps0]⟩ [0,4,10,11,12] rfl rR ?_;rintro ⟨i,st⟩ ⟨hi,hpr,hP,hL⟩;simp only[] at hi hpr hP hL ⊢;refine gS (g_v (qJ rR rR) rR (qb (qf ?_)));refine qg rR (fun h13=>?_) (fun h13=>?_)
  · simp at h13;have hin:i<l.length:=(by omega);obtain ⟨c,hc⟩:∃c,l[i]? =some c:=⟨_,List.getElem?_eq_getElem hin⟩;obtain ⟨pc,hpc⟩:∃pc:ChangeM,0<i→l[i - 1]? =some pc:=⟨(l[i - 1]?).getD c,fun h=>by rw[List.getElem?_eq_getElem (show i - 1<l.length by omega)];rfl⟩;refine qh (qf (qj (gS (gM rR (g_v (qA i underlying34 sizeOf104 rR rR rR hin (by rw[qO];exact hin)) rR (g_v (ym (row:=yu c) isAgg104 sizeOf104 rR (zbg hc) rR) rR ?_))))));refine g_l (qy #[Str [],Str [],Bo false] zeroValue104) rR ?_;rintro _ _ ⟨b6,rfl,rfl⟩;refine gA rR ?_;refine yp (qq (cs:=#[Str [],Str [],Bo false]) (vs:=yu c) (yu c).toArray sizeOf104 rR rR rR rR (by simp) (qv rR)) ?_;rintro _ _ rfl;refine qb (qf ?_);refine yw (Lf:=[pt b6 (.cells (yu c).toArray 104 (0,0)),roL 3 s (chR l)]) [(0,false),(1,false),(2,false),(3,false),(4,false),(5,false),(6,false),(7,false),(8,false),(9,false),(10,false),(11,false),(12,false),(13,false),(14,false),(15,false),(16,false),(17,false),(18,false),(19,false),(20,true),(21,false),(22,false)] (by kernel_rfl) (by kernel_rfl) rR (by kernel_rfl) ?_;refine dM rR rR rR (d_v rR (yA rR rR) rR (dM rR rR rR (zbW rR rR rR (fun hg=>qa 0 underlying104 rR rR sizeOf9 (by decide) rR) rR rR (zbW rR rR rR (fun hg=>qe (v:=Str c.key) isAgg9 rR rR) rR rR (zbW rR rR rR (fun hg=>qp rR) rR rR (zbW rR rR rR (fun hg=>qp rR) rR rR (zbW rR rR rR (fun hg=>zce rR rR (w64 (by simp at hg;omega))) rR rR (zbW rR rR rR (fun hg=>qA (i - 1) underlying34 sizeOf104 rR rR (by simp at hg;omega) (by simp at hg;omega) (by rw[qO];simp at hg;omega)) rR rR (zbW rR rR rR (fun hg=>ye (j:=i - 1) 0 underlying104 rR rR sizeOf9 (by decide) rR (by rw[qO];simp at hg;omega)) rR rR (zbW rR rR rR (fun hg=>wC (v:=Str pc.key) isAgg9 rR (zbg (hpc (by simp at hg;omega))) rR) rR rR (zbW rR rR rR (fun hg=>zx0 rR rR) rR rR (d_v rR (zas rR rR) rR (dM rR rR rR (zbW rR rR rR (fun hg=>qa 2 underlying104 rR rR sizeOf4 (by decide) rR) rR rR (zbW rR rR rR (fun hg=>qe (v:=Bo c.gone) isAgg4 rR rR) rR rR (d_v rR (zaH rR rR) rR (dM rR rR rR ?_)))))))))))))))));rcases hbd:((decide ((0:Int)<(i:Int)) && (Op.bytesLess c.key pc.key || decide (c.key=pc.key))) || c.gone) with _ | _
    · refine qQ rR rR rR rR (qp rR) rR ?_;rcases hrr:zea st c with _ | st'
      · refine qQ rR rR rR rR (qI (vs:=yu c) isAgg104 sizeOf104 rR rR qR) rR ?_;refine d_gl rR rR rR rR (qi (Pre:=[za5,pvl b9 st]) call109 rR (zfM b9 st c (by omega) (hll c (List.mem_of_getElem? hc)).1 (hll c (List.mem_of_getElem? hc)).2)) rR ?_;rintro _ _ hrv;unfold zxZ at hrv;rw[hrr] at hrv;obtain ⟨rfl,rfl⟩:=hrv;refine qQ rR rR rR rR (wo rR) rR (d_v rR (zau rR rR rR) rR ?_);refine yc ?_;refine qg rR (fun h39=>?_) (fun h39=>?_)
        · refine gS (g_v (qB underlying108 rR rR) rR (gA rR (gA rR (qb ?_))));exact zpe rfl (fun st' h'=>by rw[zkS hpr hc (.inr hrr)] at h';cases h') rfl rfl
        · cases h39
      · refine qQ rR rR rR rR (qI (vs:=yu c) isAgg104 sizeOf104 rR rR qR) rR ?_;refine d_gl rR rR rR rR (qi (Pre:=[za5,pvl b9 st]) call109 rR (zfM b9 st c (by omega) (hll c (List.mem_of_getElem? hc)).1 (hll c (List.mem_of_getElem? hc)).2)) rR ?_;rintro _ _ hrv;unfold zxZ at hrv;rw[hrr] at hrv;obtain ⟨rfl,rfl⟩:=hrv;refine qQ rR rR rR rR (wo rR) rR (d_v rR (zau rR rR rR) rR ?_);refine yc ?_;refine qg rR (fun h39=>?_) (fun h39=>?_)
        · cases h39
        · refine qh (qF (qo (g_v (qu rR rR (w64 (by omega))) rR (gM rR (qb ?_)))));exact qm (i+1,st') ⟨by simp only[];omega,zrD hpr hc (by rw[zqN hpc];simpa using hbd) hrr,zuz hP hrr,by have:=zyd hrr;simp only[];omega⟩ (by simp only[];omega) [0,4,10,11,12] rfl rfl
    · refine qT rR rR rR rR rR (qT rR rR rR rR rR ?_);refine d_noL rR rR rR rR rR ?_;refine qT rR rR rR rR rR (d_v rR (zbp rR rR rR) rR ?_);refine yc ?_;refine qg rR (fun h39=>?_) (fun h39=>?_)
      · refine gS (g_v (qB underlying108 rR rR) rR (gA rR (gA rR (qb ?_))));exact zpe rfl (fun st' h'=>by rw[zkS hpr hc (.inl (by rw[zqN hpc];simpa using hbd))] at h';cases h') rfl rfl
      · cases h39
  · simp at h13;obtain rfl:i=l.length:=(by omega);rw[List.take_length] at hpr;refine qz rR ?_;refine qf (gS (gM rR ?_));refine g_l (qi (Pre:=[pvl b9 st]) call110 rR (zib b9 st hP (by omega))) rR ?_;rintro _ _ (⟨rfl,hw,rfl⟩ | ⟨rfl,hw,rfl⟩)
    · refine g_v (wo rR) rR (qb ?_);refine qg rR (fun h44=>?_) (fun h44=>?_)
      · cases h44
      · refine qh (gS (gM rR (gA rR (gA rR (qb ?_)))));exact zvv rfl hpr hw rfl rfl
    · refine g_v (wo rR) rR (qb ?_);refine qg rR (fun h44=>?_) (fun h44=>?_)
      · refine gS (g_v (qB underlying108 rR rR) rR (gA rR (gA rR (qb ?_))));exact zpe rfl (fun st' h'=>by rw[hpr] at h';injection h' with h';rw[←h'];exact hw) rfl rfl
      · cases h44
def goneC (c:ChangeM):ChangeM:=⟨c.key,[],true⟩
def zxs (a b:List ChangeM):List ChangeM:=(a.filter fun c=>!isS b c.key).map goneC++b.filter fun c=>!decide (c∈a)
def mg:List ChangeM→List ChangeM→List ChangeM
  | [],b=>b
  | a,[]=>a.map goneC
  | x::a,y::b=>if kl x.key y.key=true then goneC x::mg a (y::b) else if kl y.key x.key=true then y::mg (x::a) b else if x=y then mg a b else y::mg a b
termination_by a b=>a.length+b.length
theorem znK (b:List ChangeM):mg [] b=b:=by unfold mg;rfl
theorem zlO (a:List ChangeM):mg a []=a.map goneC:=by
  cases a with
  | nil=>rw[znK];rfl
  | cons x a=>unfold mg;rfl
theorem zvR {x y:ChangeM}{a b:List ChangeM}(h:kl x.key y.key=true):mg (x::a) (y::b)=goneC x::mg a (y::b):=by
  rw[mg];rw[if_pos h]
theorem zuQ {x y:ChangeM}{a b:List ChangeM}(h1:¬kl x.key y.key=true)(h:kl y.key x.key=true):mg (x::a) (y::b)=y::mg (x::a) b:=by
  rw[mg];rw[if_neg h1,if_pos h]
theorem zv0 {x y:ChangeM}{a b:List ChangeM}(h1:¬kl x.key y.key=true)(h:¬kl y.key x.key=true):mg (x::a) (y::b)=(if x=y then [] else [y])++mg a b:=by
  rw[mg];rw[if_neg h1,if_neg h];split <;> rfl
theorem isS_iff {l:List ChangeM}{k:Bytes}:isS l k=true ↔ ∃r∈l,r.key=k:=by unfold isS;simp[List.any_eq_true]
theorem zdu:∀{a b:List ChangeM},srt a→srt b→∀c,c∈mg a b ↔ (∃x∈a,c=goneC x∧∀y∈b,y.key≠x.key)∨(c∈b∧c ∉ a)
  | [],b,_,_,c=>by rw[znK];simp
  | x::a,[],_,_,c=>by
    rw[zlO,List.mem_map];constructor
    · rintro ⟨z,hz,rfl⟩;exact .inl ⟨z,hz,rfl,fun y hy=>by cases hy⟩
    · rintro (⟨z,hz,rfl,_⟩ | ⟨h,_⟩)
      · exact ⟨z,hz,rfl⟩
      · cases h
  | x::a,y::b,ha,hb,c=>by
    have ha':=List.pairwise_cons.1 ha;have hb':=List.pairwise_cons.1 hb;by_cases h1:kl x.key y.key=true
    · rw[zvR h1,List.mem_cons,zdu ha'.2 hb];have hxb:∀z∈y::b,z.key≠x.key:=fun z hz e=>by
        rcases List.mem_cons.1 hz with rfl | hz
        · exact zc3 h1 e.symm
        · exact zc3 (za7 h1 (hb'.1 z hz)) e.symm
      constructor
      · rintro (rfl | ⟨z,hz,rfl,hn⟩ | ⟨h2,h3⟩)
        · exact .inl ⟨x,by simp,rfl,hxb⟩
        · exact .inl ⟨z,List.mem_cons_of_mem _ hz,rfl,hn⟩
        · refine .inr ⟨h2,fun h4=>?_⟩;rcases List.mem_cons.1 h4 with rfl | h4
          · exact hxb _ h2 rfl
          · exact h3 h4
      · rintro (⟨z,hz,rfl,hn⟩ | ⟨h2,h3⟩)
        · rcases List.mem_cons.1 hz with rfl | hz
          · exact .inl rfl
          · exact .inr (.inl ⟨z,hz,rfl,hn⟩)
        · exact .inr (.inr ⟨h2,fun h=>h3 (List.mem_cons_of_mem _ h)⟩)
    · by_cases h2:kl y.key x.key=true
      · rw[zuQ h1 h2,List.mem_cons,zdu ha hb'.2];have hya:∀z∈x::a,z.key≠y.key:=fun z hz e=>by
          rcases List.mem_cons.1 hz with rfl | hz
          · exact zc3 h2 e.symm
          · exact zc3 (za7 h2 (ha'.1 z hz)) e.symm
        constructor
        · rintro (rfl | ⟨z,hz,rfl,hn⟩ | ⟨h3,h4⟩)
          · exact .inr ⟨by simp,fun h=>hya _ h rfl⟩
          · refine .inl ⟨z,hz,rfl,fun w hw=>?_⟩;rcases List.mem_cons.1 hw with rfl | hw
            · exact fun e=>hya z hz e.symm
            · exact hn w hw
          · exact .inr ⟨List.mem_cons_of_mem _ h3,h4⟩
        · rintro (⟨z,hz,rfl,hn⟩ | ⟨h3,h4⟩)
          · exact .inr (.inl ⟨z,hz,rfl,fun w hw=>hn w (List.mem_cons_of_mem _ hw)⟩)
          · rcases List.mem_cons.1 h3 with rfl | h3
            · exact .inl rfl
            · exact .inr (.inr ⟨h3,h4⟩)
      · have hk:x.key=y.key:=by
          rcases zgK x.key y.key with h | h | h
          · exact absurd h h1
          · exact h
          · exact absurd h h2
        have hxb:∀z∈b,z.key≠x.key:=fun z hz e=>zc3 (hb'.1 z hz) (by rw[e,hk]);have hya:∀z∈a,z.key≠y.key:=fun z hz e=>zc3 (ha'.1 z hz) (by rw[e,hk]);rw[zv0 h1 h2,List.mem_append,zdu ha'.2 hb'.2];constructor
        · rintro (h3 | ⟨z,hz,rfl,hn⟩ | ⟨h3,h4⟩)
          · split at h3
            · cases h3
            · rename_i hne;rw[List.mem_singleton] at h3;subst h3;refine .inr ⟨by simp,fun h=>?_⟩;rcases List.mem_cons.1 h with h | h
              · exact hne h.symm
              · exact hya _ h rfl
          · refine .inl ⟨z,List.mem_cons_of_mem _ hz,rfl,fun w hw=>?_⟩;rcases List.mem_cons.1 hw with rfl | hw
            · exact fun e=>hya z hz e.symm
            · exact hn w hw
          · refine .inr ⟨List.mem_cons_of_mem _ h3,fun h=>?_⟩;rcases List.mem_cons.1 h with rfl | h
            · exact hxb _ h3 rfl
            · exact h4 h
        · rintro (⟨z,hz,rfl,hn⟩ | ⟨h3,h4⟩)
          · rcases List.mem_cons.1 hz with rfl | hz
            · exact absurd hk.symm (hn y (by simp))
            · exact .inr (.inl ⟨z,hz,rfl,fun w hw=>hn w (List.mem_cons_of_mem _ hw)⟩)
          · rcases List.mem_cons.1 h3 with rfl | h3
            · left;rw[if_neg (fun e=>h4 (by rw[e];simp))];simp
            · exact .inr (.inr ⟨h3,fun h=>h4 (List.mem_cons_of_mem _ h)⟩)
termination_by a b=>a.length+b.length
theorem zq6 {k:Bytes}{a b:List ChangeM}(ha:srt a)(hb:srt b)(h1:∀x∈a,kl k x.key=true)(h2:∀x∈b,kl k x.key=true):∀x∈mg a b,kl k x.key=true:=fun x hx=>by
  rcases (zdu ha hb x).1 hx with ⟨z,hz,rfl,_⟩ | ⟨h,_⟩
  · exact h1 z hz
  · exact h2 x h
theorem zhm:∀{a b:List ChangeM},srt a→srt b→srt (mg a b)
  | [],b,_,hb=>by rw[znK];exact hb
  | x::a,[],ha,_=>by
    rw[zlO];unfold srt;rw[List.pairwise_map];exact ha
  | x::a,y::b,ha,hb=>by
    have ha':=List.pairwise_cons.1 ha;have hb':=List.pairwise_cons.1 hb;by_cases h1:kl x.key y.key=true
    · rw[zvR h1];refine List.pairwise_cons.2 ⟨zq6 ha'.2 hb ha'.1 fun z hz=>?_,zhm ha'.2 hb⟩;rcases List.mem_cons.1 hz with rfl | hz
      · exact h1
      · exact za7 h1 (hb'.1 z hz)
    · by_cases h2:kl y.key x.key=true
      · rw[zuQ h1 h2];refine List.pairwise_cons.2 ⟨zq6 ha hb'.2 (fun z hz=>?_) hb'.1,zhm ha hb'.2⟩;rcases List.mem_cons.1 hz with rfl | hz
        · exact h2
        · exact za7 h2 (ha'.1 z hz)
      · have hk:x.key=y.key:=by
          rcases zgK x.key y.key with h | h | h
          · exact absurd h h1
          · exact h
          · exact absurd h h2
        rw[zv0 h1 h2];split
        · exact zhm ha'.2 hb'.2
        · exact List.pairwise_cons.2 ⟨zq6 ha'.2 hb'.2 (fun z hz=>by rw[←hk];exact ha'.1 z hz) hb'.1,zhm ha'.2 hb'.2⟩
termination_by a b=>a.length+b.length
theorem zsB {x y:ChangeM}{l m:List ChangeM}(hl:srt (x::l))(hm:srt (y::m))(h:∀c,c∈x::l ↔ c∈y::m):x=y:=by
  have hl':=List.pairwise_cons.1 hl;have hm':=List.pairwise_cons.1 hm;rcases List.mem_cons.1 ((h x).1 (by simp)) with e | hx
  · exact e
  · rcases List.mem_cons.1 ((h y).2 (by simp)) with e | hy
    · exact e.symm
    · have h1:=hl'.1 y hy;have h2:=hm'.1 x hx;rw[zdh h1] at h2;cases h2
theorem zl2:∀{l m:List ChangeM},srt l→srt m→(∀c,c∈l ↔ c∈m)→l=m
  | [],[],_,_,_=>rfl
  | [],y::m,_,_,h=>by have:=(h y).2 (by simp);cases this
  | x::l,[],_,_,h=>by have:=(h x).1 (by simp);cases this
  | x::l,y::m,hl,hm,h=>by
    obtain rfl:=zsB hl hm h;have hl':=List.pairwise_cons.1 hl;have hm':=List.pairwise_cons.1 hm;rw[zl2 hl'.2 hm'.2 fun c=>?_];constructor
    · intro hc;rcases List.mem_cons.1 ((h c).1 (List.mem_cons_of_mem _ hc)) with rfl | hc'
      · have:=hl'.1 c hc;rw[zee] at this;cases this
      · exact hc'
    · intro hc;rcases List.mem_cons.1 ((h c).2 (List.mem_cons_of_mem _ hc)) with rfl | hc'
      · have:=hm'.1 c hc;rw[zee] at this;cases this
      · exact hc'
theorem zvx {l:List ChangeM}(h:srt l){x y:ChangeM}(hx:x∈l)(hy:y∈l)(e:x.key=y.key):x=y:=by
  induction l with
  | nil=>cases hx
  | cons z l ih=>
    have h':=List.pairwise_cons.1 h;rcases List.mem_cons.1 hx with h1 | h1
    · rcases List.mem_cons.1 hy with h2 | h2
      · rw[h1,h2]
      · exact absurd (by rw[←h1];exact e) (zc3 (h'.1 y h2))
    · rcases List.mem_cons.1 hy with h2 | h2
      · exact absurd (by rw[←h2];exact e.symm) (zc3 (h'.1 x h1))
      · exact ih h'.2 h1 h2
theorem zsv {a b:List ChangeM}(c:ChangeM):c∈zxs a b ↔ (∃x∈a,c=goneC x∧∀y∈b,y.key≠x.key)∨(c∈b∧c ∉ a):=by
  unfold zxs;rw[List.mem_append,List.mem_map];constructor
  · rintro (⟨x,hx,rfl⟩ | h)
    · rw[List.mem_filter] at hx;refine .inl ⟨x,hx.1,rfl,fun y hy e=>?_⟩;have:isS b x.key=true:=isS_iff.2 ⟨y,hy,e⟩;rw[this] at hx;simp at hx
    · rw[List.mem_filter] at h;exact .inr ⟨h.1,by simpa using h.2⟩
  · rintro (⟨x,hx,rfl,hn⟩ | ⟨h1,h2⟩)
    · refine .inl ⟨x,List.mem_filter.2 ⟨hx,?_⟩,rfl⟩;cases e:isS b x.key with
      | false=>rfl
      | true=>obtain ⟨r,hr,h⟩:=isS_iff.1 e;exact absurd h (hn r hr)
    · exact .inr (List.mem_filter.2 ⟨h1,by simpa using h2⟩)
theorem zrq {a b:List ChangeM}(ha:srt a)(hb:srt b):(zxs a b).Pairwise fun x y=>x.key≠y.key:=by
  unfold zxs;rw[List.pairwise_append];refine ⟨?_,(List.Pairwise.filter _ hb).imp fun h=>zc3 h,fun x hx y hy=>?_⟩
  · rw[List.pairwise_map];exact (List.Pairwise.filter _ ha).imp fun h=>zc3 h
  · obtain ⟨z,hz,rfl⟩:=List.mem_map.1 hx;rw[List.mem_filter] at hz hy;intro e;have:isS b z.key=true:=isS_iff.2 ⟨y,hy.1,e.symm⟩;rw[this] at hz;simp at hz
theorem zn6 {a b l:List ChangeM}(ha:srt a)(hb:srt b)(hp:l.Perm (zxs a b))(hs:l.Pairwise fun x y=>kl y.key x.key=false):l=mg a b:=by
  have hk:l.Pairwise fun x y=>x.key≠y.key:=(hp.pairwise_iff (fun h=>Ne.symm h)).2 (zrq ha hb);have hl:srt l:=(hs.and hk).imp fun {x y} h=>by
    rcases zgK x.key y.key with h1 | h1 | h1
    · exact h1
    · exact absurd h1 h.2
    · rw[h.1] at h1;cases h1
  refine zl2 hl (zhm ha hb) fun c=>?_;rw[hp.mem_iff,zsv,zdu ha hb]
theorem zun {l:List ChangeM}(h:srt l)(c:ChangeM):c∈l ↔ isS l c.key=true∧l[lbS l c.key]? =some c:=by
  constructor
  · intro hc;have h1:isS l c.key=true:=isS_iff.2 ⟨c,hc,rfl⟩;refine ⟨h1,?_⟩;rw[zmw h] at h1;split at h1
    · rename_i r hr;rw[hr,zvx h (List.mem_of_getElem? hr) hc (by simpa using h1)]
    · cases h1
  · rintro ⟨_,h2⟩;exact List.mem_of_getElem? h2
open Go.Sl Go.Proofs Go.Sort Go.RowKit
instance instInhC:Inhabited ChangeM:=⟨⟨[],[],false⟩⟩
def cfC (x y:ChangeM):Int:=Lib.compareBytes x.key y.key
theorem zji (x y:ChangeM):ltOf cfC x y=kl x.key y.key:=by
  unfold ltOf cfC;cases h:kl x.key y.key with
  | true=>exact decide_eq_true ((zi4 x.key y.key).1.2 h)
  | false=>exact decide_eq_false fun hh=>by rw[(zi4 x.key y.key).1.1 hh] at h;cases h
theorem zwW:SWO (ltOf cfC) where
  irrefl x:=by rw[zji,zee]
  trans x y z h1 h2:=by rw[zji] at h1 h2 ⊢;exact za7 h1 h2
  ntrans x y z h1 h2:=by
    rw[zji] at h1 h2 ⊢;cases h:kl x.key z.key with
    | false=>rfl
    | true=>
      rcases zgK x.key y.key with h3 | h3 | h3
      · rw[h1] at h3;cases h3
      · rw[h3,h2] at h;cases h
      · have:=za7 h3 h;rw[h2] at this;cases this
theorem zvc (x y:ChangeM)(W:World):Calls Tryz.prog 135 #[.agg #[Str x.key,Str x.val,Bo x.gone], .agg #[Str y.key,Str y.val,Bo y.gone]] W fun e w'=>e= .returned (I (cfC x y))∧∃q os',w'=grow (W.drewN q) os':=by
  have hcon:=fun W'=>Tryz.strings_Compare ⟨⟨x.key⟩⟩ ⟨⟨y.key⟩⟩ W';change ∀W',Calls Tryz.prog 132 #[Str x.key,Str y.key] W' (fun e w'=>e= .returned (I (cfC x y))∧w'=W') at hcon;generalize cfC x y=r at hcon ⊢
  go_enter func135,ntmps135
  go_wp2_with (go_at_call 132;refine (hcon _).mono ?_;rintro e w' ⟨rfl,rfl⟩)
  go_ret
  exact ⟨rfl,0,_,by rw[alloc_eq_grow,alloc_eq_grow,grow_grow];rfl⟩
theorem zsd (blk off size:Nat)(w:World):CmpLays Tryz.prog 135 #[] yu 3 cfC blk off size w:=
  fun _ _ _ _ x y=>zvc x y _
def srtd (l:List ChangeM):Prop:=l.Pairwise fun a b=>kl b.key a.key=false
theorem zlP (l:List ChangeM)(s:Option Addr)(n cap:Nat)(hn:n=l.length)(hlt:l.length<4611686018427387904)(F:List HProp):
    Ct Tryz.prog 134 [sl s n cap, .func (.func 135) #[] #[]] (owL 104 3 s cap (chR l)::F) (fun v L'=>∃l',l'.Perm l∧srtd l'∧v= .tuple #[]∧L'=owL 104 3 s cap (chR l')::F):=fun w0 w hS=>by
  subst hn;rcases yP hS with ⟨rfl,hr,rfl,hS1⟩ | ⟨b,cs,rfl,h1,h2,h3,h4,hS1⟩
  · have hz:l=[]:=(by simpa [chR] using hr);subst hz;refine (AnyF.slices_SortFunc_none {Tryz.sortFn with} none 0 (.func (.func 135) #[] #[]) w).mono ?_;rintro e w' ⟨rfl,rfl⟩;exact ⟨_,hS,[], .refl _,List.Pairwise.nil,rfl,rfl⟩
  · have hb:=hS1.at_;have hlen:l.length≤cap:=(by simpa [chR] using h2);have eg:∀args w,(callFunc 135 args).run Tryz.prog w= .ok (.enter 135 args) w:=call135;have hH:HoldsK yu 3 w b 0 l.toArray:=fun j hj=>by
      have hj':j<l.length*3:=(by simpa [size_flatK] using hj);have hrow:=h4 (j / 3) (yu l[j / 3]) (by rw[zbg (List.getElem?_eq_getElem (by omega))]) (j % 3);have hcell:∃v,(yu l[j / 3])[j % 3]? =some v∧(flatK yu 3 l.toArray)[j]! =v:=by
        refine ⟨_,List.getElem?_eq_getElem (by simp[yu];omega),?_⟩;rw[get_flatK _ _ _ _ (by simpa using hj')];simp[show j / 3<l.length by omega,show j % 3<(yu l[j / 3]).length by simp[yu];omega]
      obtain ⟨v,hv,he⟩:=hcell;have hc:=hrow v hv;rw[show j / 3*3+j % 3=j by omega] at hc;have:=za1 hb hc;refine ⟨?_,by simp[World.frozen?,hb]⟩;rw[he];simpa using this
    refine (AnyQ.slices_SortFunc Tryz.sortFn 3 isAgg104 sizeOf104 yu (fun _=>rfl) (fun x v hv=>by simp only[yu,List.mem_cons,List.not_mem_nil,or_false] at hv;rcases hv with rfl | rfl | rfl <;> rfl) cfC zwW 135 #[] b 0 cap l.toArray w eg (zsd b 0 _ w) hH (Array.getElem?_eq_some_iff.1 hb).1 (by simpa using hlt)).mono ?_;rintro e w' ⟨rfl,d',m,os,hp,hso,rfl⟩;obtain ⟨hp1,_,hp3⟩:=hp;have hsz:d'.size=l.length:=(by simpa using hp1);have hperm:d'.toList.Perm l:=by
      have e1:d'.extract 0 l.toArray.size=d':=(by rw[←hp1];simp);have e2:l.toArray.extract 0 l.toArray.size=l.toArray:=(by simp);rw[e1,e2] at hp3;simpa using hp3
    have hsorted:srtd d'.toList:=by
      rw[srtd,List.pairwise_iff_getElem];intro i j hi hj hij;have hj':j<d'.size:=(by simpa using hj);have hi':i<d'.size:=(by simpa using hi);have:=hso i j (by omega) hij (by simpa [hsz] using hj');rw[zji] at this;simpa [hi',hj'] using this
    have e1:sortWorldK yu 3 w b 0 m d' os=grow {(Sort.ahead w m) with heap:=(Sort.ahead w m).heap.setIfInBounds b (.cells (putCells id 0 (flatK yu 3 d') cs) 104 (0,0))} os:=by
      unfold sortWorldK putRowK putRow mapBlock;congr 2;apply Array.ext_getElem?;intro i;rw[Array.getElem?_modify,Array.getElem?_setIfInBounds];have hlt:=(Array.getElem?_eq_some_iff.1 hb).1;show (if b=i then _ else _)=_;by_cases hk:b=i
      · subst hk;have he:(Sort.ahead w m).heap[b]? =some (.cells cs 104 (0,0)):=hb;rw[if_pos rfl,if_pos rfl,he,if_pos (by exact hlt)]
        rfl
      · rw[if_neg hk,if_neg hk]
    rw[e1];have hS2:=(hS1.drew (w.drawn+m)).set (w':={(Sort.ahead w m) with heap:=(Sort.ahead w m).heap.setIfInBounds b (.cells (putCells id 0 (flatK yu 3 d') cs) 104 (0,0))}) rfl;have hS3:=ze0 os.toList hS2;refine ⟨_,wY (cap:=cap) (sz:=3) (rows:=chR d'.toList) hS3 (by simp[putCells,h1]) (by simp[chR,hsz];exact hlen) (zdl _) ?_,d'.toList,hperm,hsorted,rfl,rfl⟩;intro j row hj f v hf;simp only[chR,List.getElem?_map] at hj;obtain ⟨x,hx,rfl⟩:=Option.map_eq_some_iff.1 hj;obtain ⟨hjl,hxe⟩:=List.getElem?_eq_some_iff.1 hx;have hjd:j<d'.size:=(by simpa using hjl);have hf3:f<3:=(by have:=(List.getElem?_eq_some_iff.1 hf).1;simpa [yu] using this);simp only[yl,Nat.zero_add];have hsz3:j*3+f<(flatK yu 3 d').size:=(by rw[size_flatK];omega);have hcs:j*3+f<cs.size:=(by rw[h1];omega);have e2:(putCells id 0 (flatK yu 3 d') cs)[j*3+f]? =some ((flatK yu 3 d')[j*3+f]!):=by
      have hnot:¬d'.size*3≤j*3+f:=(by omega);simp[putCells,hcs,hsz3,hnot]
    rw[e2,get_flatK _ _ _ _ (by omega),show (j*3+f) / 3=j by omega,show (j*3+f) % 3=f by omega];have hxd:d'[j]! =x:=(by simp at hxe;simp[hjd,hxe]);rw[hxd];have:=(List.getElem?_eq_some_iff.1 hf);obtain ⟨hfl,hfe⟩:=this;simp[hfl,hfe]
theorem bldC2 (k:Bytes)(w:World):(Instr.build 104 #[(0,Str k),(2,Bo true)]).run Tryz.prog w= .ok (.agg (yu ⟨k,[],true⟩).toArray) w:=by
  simp[Instr.build,zeroValue104,runUnderlying104,sizeOf4,sizeOf9,Instr.fill,qV,yu,show (Str k).cells=#[Str k] from rfl,show (Bo true).cells=#[Bo true] from rfl]
def goK (a b:List ChangeM):List ChangeM:=(a.filter fun c=>!isS b c.key).map goneC
def nwK (a b:List ChangeM):List ChangeM:=b.filter fun c=>!decide (c∈a)
theorem znf {l b:List ChangeM}{k:Nat}{c:ChangeM}(h:l[k]? =some c):goK (l.take (k+1)) b=goK (l.take k) b++if isS b c.key=true then [] else [goneC c]:=by
  unfold goK;rw[←zaC h,List.filter_append,List.map_append];congr 1;cases h2:isS b c.key <;> simp[h2]
theorem zjU {a l:List ChangeM}{k:Nat}{c:ChangeM}(h:l[k]? =some c):nwK a (l.take (k+1))=nwK a (l.take k)++if c∈a then [] else [c]:=by
  unfold nwK;rw[←zaC h,List.filter_append];congr 1;by_cases hc:c∈a <;> simp[hc]
theorem zl9 (a b:List ChangeM):(goK a b).length≤a.length:=by unfold goK;rw[List.length_map];exact List.length_filter_le _ _
theorem zq5 (a b:List ChangeM):(nwK a b).length≤b.length:=by unfold nwK;exact List.length_filter_le _ _
theorem zcp (x:ChangeM)(k:Bytes)(F:List HProp):Ct Tryz.prog 131 [.agg (yu x).toArray,Str k] ([]++F) (R1 (I (Lib.compareBytes x.key k)) F):=by
  show Ct Tryz.prog 131 [.agg (yu x).toArray,Str k] (F) _;refine Ct.of func131 rR 9 ntmps131 (by simp) fun w0=>?_;refine gS ?_;refine g_l (wR (yu x).toArray rR rR) rR ?_;rintro _ _ ⟨b2,rfl,rfl⟩;refine gA rR (qb (gS (g_v (qa 0 underlying104 rR rR sizeOf9 (by decide) rR) rR (g_v (qe (v:=Str x.key) isAgg9 rR rR) rR (gM rR ?_)))));refine g_l (qi (Pre:=[]) call132 rR (zb2 x.key k)) rR ?_;rintro _ _ ⟨rfl,rfl⟩;refine gA rR (qb ?_);refine qn rR rR ?_;exact rfl
theorem zbJ (l:List ChangeM)(s:Option Addr)(cap:Nat)(k:Bytes)(hs:srt l)(hl:l.length≤1000000)(F:List HProp):Ct Tryz.prog 133 [sl s l.length cap,Str k, .func (.func 131) #[] #[]] ([roL 3 s (chR l)]++F) (R1 (.tuple #[I (lbS l k),Bo (isS l k)]) (roL 3 s (chR l)::F)):=by
  show Ct Tryz.prog 133 [sl s l.length cap,Str k, .func (.func 131) #[] #[]] (roL 3 s (chR l)::F) _;refine Ct.of func133 rR 49 ntmps133 (by simp) fun w0=>?_;refine gS (gA rR (gA rR (qb (gS (gM rR (g_v (yo underlying34 rR) rR (gA rR (qb (gS (gM rR (gA rR (gA rR (qb (qf (qj ?_)))))))))))))));refine qE (α:=Nat×Nat) (fun z=>z.1≤lbS l k∧lbS l k≤z.2∧z.2≤l.length) (fun z=>U [(0,sl s l.length cap),(1,Str k),(2, .func (.func 131) #[] #[]),(8,I l.length),(9,I z.1),(10,I z.2)]) (fun _=>roL 3 s (chR l)::F) (fun z=>z.2 - z.1) (0,l.length) ⟨by simp,zqL _ _,Nat.le_refl _⟩ [0,1,2,8,9,10] rfl rR ?_;rintro ⟨i,j⟩ ⟨hi,hj,hjl⟩;simp only[] at hi hj hjl ⊢;refine qf (gS (gM rR (gM rR (g_v (qJ rR rR) rR (qb ?_)))));refine qg rR (fun h17=>?_) (fun h17=>?_)
  · simp at h17;refine qh (qj (qf ?_));have hkn:(i+j) / 2<l.length:=(by omega);obtain ⟨x,hx⟩:∃x,l[(i+j) / 2]? =some x:=⟨_,List.getElem?_eq_getElem hkn⟩;have hkr:(i+j) / 2<(chR l).length:=(by rw[qO];exact hkn);have hlb:=zt9 hs k hx;refine qo (gM rfl (gM rfl (g_v (qu rfl rfl (w64 (by omega))) rfl (g_v (yU underlying3 underlying194 rfl (zn3 (by omega))) rfl (g_v (zd4 (r:=(((i+j) / 2:Nat):Int)) rfl rfl (by decide) (by rw[show min ((1:Int).toNat) IntKind.u64.bits=1 by decide,Int.fdiv_eq_ediv_of_nonneg _ (by decide)];omega)) rfl (g_v (yU underlying194 underlying3 rfl (w64 (by omega))) rfl (gA rfl (qb (gS (gM rfl (gM rfl (gM rfl (g_v (qA ((i+j) / 2) underlying34 sizeOf104 rfl rfl rfl hkn hkr) rfl (g_v (ym (row:=yu x) isAgg104 sizeOf104 rfl (zbg hx) rfl) rfl (gM rfl ?_)))))))))))))));refine g_l (zat (fi:=[]) (cap:=[]) (Pre:=[]) call131 rR rR (zcp x k)) rR ?_;rintro _ _ ⟨rfl,rfl⟩;refine g_v (qJ rR rR) rR (qb ?_);refine qg rR (fun h31=>?_) (fun h31=>?_)
    · simp at h31;refine qo (gM rR (g_v (qu rR rR (w64 (by omega))) rR (gA rR (qb (qF ?_)))));exact qm ((i+j) / 2+1,j) ⟨by simp only[];have:=hlb.1 ((zi4 _ _).1.1 h31);omega,hj,hjl⟩ (by simp only[];omega) [0,1,2,8,9,10] rfl rfl
    · simp at h31;refine qo (gM rR (gA rR (qb (qF ?_))));exact qm (i,(i+j) / 2) ⟨hi,by simp only[];rcases Nat.lt_or_ge ((i+j) / 2) (lbS l k) with h | h;have:=(zi4 _ _).1.2 (hlb.2 h);omega;exact h,by simp only[];omega⟩ (by simp only[];omega) [0,1,2,8,9,10] rfl rfl
  · simp at h17;obtain rfl:i=lbS l k:=(by omega);refine qz rR ?_;refine gS (gM rR (gM rR (gM rR (g_v (qJ rR rR) rR (gM rR ?_)))));by_cases hin:lbS l k<l.length
    · obtain ⟨x,hx⟩:∃x,l[lbS l k]? =some x:=⟨_,List.getElem?_eq_getElem hin⟩;have hkr:lbS l k<(chR l).length:=(by rw[qO];exact hin);have hb:decide ((lbS l k:Int)<l.length)=true:=decide_eq_true (by omega);refine qU rR rR hb (qp rR) rR (qU rR rR hb (qp rR) rR (qU rR rR hb (qp rR) rR (qU rR rR hb (qA (lbS l k) underlying34 sizeOf104 rR rR rR hin hkr) rR (qU rR rR hb (ym (row:=yu x) isAgg104 sizeOf104 rR (zbg hx) rR) rR (qU rR rR hb (qp rR) rR ?_)))));refine zrs rR rR hb (zat (fi:=[]) (cap:=[]) (Pre:=[]) call131 rR rR (zcp x k)) rR ?_;rintro _ _ ⟨rfl,rfl⟩;refine qU rR rR hb (wh rR rR) rR (g_v (zas rR rR) rR (gA rR (gA rR (qb ?_))));exact qn rfl rfl (by rw[zmw hs,hx];show Value.tuple #[I (lbS l k),Bo (decide ((lbS l k:Int)<l.length) && decide (Lib.compareBytes x.key k=0))]=_;rw[hb,Bool.true_and,decide_eq_decide.2 (zi4 x.key k).2])
    · have hb:decide ((lbS l k:Int)<l.length)=false:=decide_eq_false (by omega);refine yH rR rR (by rw[hb];rfl) rR (yH rR rR (by rw[hb];rfl) rR (yH rR rR (by rw[hb];rfl) rR (yH rR rR (by rw[hb];rfl) rR (yH rR rR (by rw[hb];rfl) rR (yH rR rR (by rw[hb];rfl) rR (yH rR rR (by rw[hb];rfl) rR (yH rR rR (by rw[hb];rfl) rR (g_v (zau rR hb rR) rR (gA rR (gA rR (qb ?_)))))))))));exact qn rfl rfl (by rw[zmw hs,List.getElem?_eq_none (by omega)];rfl)
theorem zf5 (a b:List ChangeM)(s s':Option Addr)(cap cap':Nat)(ha:a.length≤1000000)(hb:b.length≤1000000)(hsa:srt a)(hsb:srt b)(F:List HProp):Ct Tryz.prog 82 [sl s a.length cap,sl s' b.length cap'] ([roL 3 s (chR a),roL 3 s' (chR b)]++F) (RSl 104 3 (mg a b).length (chR (mg a b)) (roL 3 s (chR a)::roL 3 s' (chR b)::F)):=by
  show Ct Tryz.prog 82 [sl s a.length cap,sl s' b.length cap'] (roL 3 s (chR a)::roL 3 s' (chR b)::F) _;refine Ct.of func82 rR 70 ntmps82 (by simp) fun w0=>?_;refine gS (gA rR (qb (gS (gA rR (qb (gS (gA rR (qb (qf (qf ?_))))))))));refine yG 104 3 (chR (goK (a.take 0) b)) rR ?_;refine qo (gM rR (g_v (yo underlying34 rR) rR (gM rR (qb (qj ?_)))));refine qE (α:=Nat×Option Addr×Nat) (fun z=>z.1≤a.length) (fun z=>U [(0,sl s a.length cap),(1,sl s' b.length cap'),(5,sl z.2.1 (goK (a.take z.1) b).length z.2.2),(6, .func (.func 131) #[] #[]),(15,sl s a.length cap),(16,I a.length),(17,I z.1)]) (fun z=>owL 104 3 z.2.1 z.2.2 (chR (goK (a.take z.1) b))::roL 3 s (chR a)::roL 3 s' (chR b)::F) (fun z=>a.length - z.1) (0,none,0) (by simp) [0,1,5,6,15,16,17] rfl rR ?_;rintro ⟨k,s3,c3⟩ hk;simp only[] at hk ⊢;have hgl:=zl9 (a.take k) b;rw[List.length_take] at hgl;refine gS (g_v (qJ rR rR) rR (qb (qf ?_)));refine qg rR (fun h18=>?_) (fun h18=>?_)
  · simp at h18;have hkn:k<a.length:=(by omega);obtain ⟨x,hx⟩:∃x,a[k]? =some x:=⟨_,List.getElem?_eq_getElem hkn⟩;refine qh (qf (qj (gS (g_v (qA k underlying34 sizeOf104 rR rR rR hkn (by rw[qO];exact hkn)) rR (g_v (ym (row:=yu x) isAgg104 sizeOf104 rR (zbg hx) rR) rR ?_)))));refine g_l (qy #[Str [],Str [],Bo false] zeroValue104) rR ?_;rintro _ _ ⟨b8,rfl,rfl⟩;refine yp (qq (cs:=#[Str [],Str [],Bo false]) (vs:=yu x) (yu x).toArray sizeOf104 rR rR rR rR (by simp) (qv rR)) ?_;rintro _ _ rfl;refine qb (gS (gM rR (g_v (qa 0 underlying104 rR rR sizeOf9 (by decide) rR) rR (g_v (qe (v:=Str x.key) isAgg9 rR rR) rR (gM rR ?_)))));refine g_l (qi (Pre:=[roL 3 s' (chR b)]) call133 rR (zbJ b s' cap' x.key hsb (by omega))) rR ?_;rintro _ _ ⟨rfl,rfl⟩;refine gM rR (g_v (qd (v:=I (lbS b x.key)) rR rR) rR (g_v (qd (v:=Bo (isS b x.key)) rR rR) rR (gA rR (gA rR (qb (gS (gM rR (g_v (wo rR) rR (qb ?_)))))))));refine qg rR (fun h30=>?_) (fun h30=>?_)
    · have h30':isS b x.key=false:=(by simpa using h30);have hsn:=znf (b:=b) hx;rw[h30',if_neg (by simp)] at hsn;refine qo (gM rR (g_v (qa 0 underlying104 rR rR sizeOf9 (by decide) rR) rR (g_v (qe (v:=Str x.key) isAgg9 rR rR) rR (g_v (qP rR (bldC2 x.key)) rR ?_))));refine g_l (qs [yu (goneC x)] underlying34 sizeOf104 zeroValue104 rfl rfl rfl (by intro r hr;simp at hr;subst hr;rfl) (by decide) (by decide)) rfl ?_;rintro _ _ ⟨b35,rfl,rfl⟩;refine g_l (yC underlying34 sizeOf104 zeroValue104 rfl Tryz.typeInfo104 (by decide) rfl rfl (qO _) rfl (by intro r hr;simp at hr;subst hr;rfl) (by intro r hr;simp at hr;subst hr;rfl) ⟨by omega,by decide,by decide⟩) rfl ?_;rintro _ _ ⟨s36,c36,rfl,rfl⟩;rw[zcS];refine gA rR (qb (qF (qo (g_v (qu rR rR (w64 (by omega))) rR (gM rR (qb ?_))))));rw[←hsn];exact qm (k+1,s36,c36) (by simp only[];omega) (by simp only[];omega) [0,1,5,6,15,16,17] rfl (by first | rfl | simp[U,hsn])
    · have h30':isS b x.key=true:=(by simpa using h30);have hsn:=znf (b:=b) hx;rw[h30',if_pos rfl,List.append_nil] at hsn;refine qh (qF (qo (g_v (qu rR rR (w64 (by omega))) rR (gM rR (qb ?_)))));rw[←hsn];exact qm (k+1,s3,c3) (by simp only[];omega) (by simp only[];omega) [0,1,5,6,15,16,17] rfl (by first | rfl | simp[U,hsn])
  · simp at h18;obtain rfl:k=a.length:=(by omega);rw[List.take_length];refine qz rR ?_;refine qf (qf ?_);refine zcX s3 (chR (goK a b++nwK a (b.take 0))) (by simp[nwK]) ?_;refine qo (gM rR (g_v (yo underlying34 rR) rR (gM rR (qb (qj ?_)))));refine qE (α:=Nat×Option Addr×Nat) (fun z=>z.1≤b.length) (fun z=>U [(0,sl s a.length cap),(1,sl s' b.length cap'),(5,sl z.2.1 ((goK a b).length+(nwK a (b.take z.1)).length) z.2.2),(6, .func (.func 131) #[] #[]),(38,sl s' b.length cap'),(39,I b.length),(40,I z.1)]) (fun z=>owL 104 3 z.2.1 z.2.2 (chR (goK a b++nwK a (b.take z.1)))::roL 3 s (chR a)::roL 3 s' (chR b)::F) (fun z=>b.length - z.1) (0,s3,c3) (by simp) [0,1,5,6,38,39,40] rfl (by simp[U,nwK]) ?_;rintro ⟨k,s3,c3⟩ hk;simp only[] at hk ⊢;have hgl:=zl9 a b;have hnl:=zq5 a (b.take k);rw[List.length_take] at hnl;refine gS (g_v (qJ rR rR) rR (qb (qf ?_)));refine qg rR (fun h41=>?_) (fun h41=>?_)
    · simp at h41;have hkn:k<b.length:=(by omega);obtain ⟨y,hy⟩:∃y,b[k]? =some y:=⟨_,List.getElem?_eq_getElem hkn⟩;refine qh (qf (qj (gS (g_v (qA k underlying34 sizeOf104 rR rR rR hkn (by rw[qO];exact hkn)) rR (g_v (ym (row:=yu y) isAgg104 sizeOf104 rR (zbg hy) rR) rR ?_)))));refine g_l (qy #[Str [],Str [],Bo false] zeroValue104) rR ?_;rintro _ _ ⟨b12,rfl,rfl⟩;refine yp (qq (cs:=#[Str [],Str [],Bo false]) (vs:=yu y) (yu y).toArray sizeOf104 rR rR rR rR (by simp) (qv rR)) ?_;rintro _ _ rfl;refine qb (gS (gM rR (g_v (qa 0 underlying104 rR rR sizeOf9 (by decide) rR) rR (g_v (qe (v:=Str y.key) isAgg9 rR rR) rR (gM rR ?_)))));refine g_l (qi (Pre:=[roL 3 s (chR a)]) call133 rR (zbJ a s cap y.key hsa (by omega))) rR ?_;rintro _ _ ⟨rfl,rfl⟩;refine gM rR (g_v (qd (v:=I (lbS a y.key)) rR rR) rR (g_v (qd (v:=Bo (isS a y.key)) rR rR) rR (gA rR (gA rR (qb (qf ?_))))));refine yw (Lf:=[roL 3 s (chR a),pt b12 (.cells (yu y).toArray 104 (0,0))]) [(0,false),(1,false),(2,false),(3,false),(4,false),(5,false),(6,false),(7,false),(8,false),(9,false)] (by kernel_rfl) (by kernel_rfl) rR (by kernel_rfl) ?_;refine dM rR rR rR (d_v rR (wo rR) rR (dM rR rR rR ?_));by_cases hin:isS a y.key=true
      · obtain ⟨r0,hr0⟩:∃r0,a[lbS a y.key]? =some r0:=by
          have h9:=hin;rw[zmw hsa] at h9;split at h9
          · exact ⟨_,‹_›⟩
          · cases h9
        have hrl:=(List.getElem?_eq_some_iff.1 hr0).1;rw[hin];refine qQ rR rR rR rR (qp rR) rR (qQ rR rR rR rR (qp rR) rR (qQ rR rR rR rR (qA (lbS a y.key) underlying34 sizeOf104 rR rR rR hrl (by rw[qO];exact hrl)) rR (qQ rR rR rR rR (ym (row:=yu r0) isAgg104 sizeOf104 rR (zbg hr0) rR) rR (qQ rR rR rR rR (qI (vs:=yu y) isAgg104 sizeOf104 rR rR qR) rR (qQ rR rR rR rR (zxz eqGuardType104 rR rR (zrN r0 y)) rR (d_v rR (zau rR rR rR) rR ?_))))));refine yc ?_;refine qg rR (fun h61=>?_) (fun h61=>?_)
        · have hne:¬y∈a:=fun h=>(by have h9:=((zun hsa y).1 h).2;rw[hr0] at h9;injection h9 with h9;subst h9;simp at h61);have hsn:=zjU (a:=a) hy;rw[if_neg hne] at hsn;refine qo (gM rR (g_v (qI (vs:=yu y) isAgg104 sizeOf104 rR rR qR) rR ?_));refine g_l (qs [yu (y)] underlying34 sizeOf104 zeroValue104 rfl rfl rfl (by intro r hr;simp at hr;subst hr;rfl) (by decide) (by decide)) rfl ?_;rintro _ _ ⟨b64,rfl,rfl⟩;refine g_l (yC underlying34 sizeOf104 zeroValue104 rfl Tryz.typeInfo104 (by decide) rfl rfl (by rw[qO,List.length_append]) rfl (by intro r hr;simp at hr;subst hr;rfl) (by intro r hr;simp at hr;subst hr;rfl) ⟨by omega,by decide,by decide⟩) rfl ?_;rintro _ _ ⟨s65,c65,rfl,rfl⟩;rw[zcS,List.append_assoc];refine gA rR (qb (qF (qo (g_v (qu rR rR (w64 (by omega))) rR (gM rR (qb ?_))))));rw[←hsn];exact qm (k+1,s65,c65) (by simp only[];omega) (by simp only[];omega) [0,1,5,6,38,39,40] rfl (by first | rfl | simp[U,hsn,Nat.add_assoc])
        · have hmm:y∈a:=by
            have h9:r0=y:=(by simpa using h61);rw[←h9];exact List.mem_of_getElem? hr0
          have hsn:=zjU (a:=a) hy;rw[if_pos hmm,List.append_nil] at hsn;refine qh (qF (qo (g_v (qu rR rR (w64 (by omega))) rR (gM rR (qb ?_)))));rw[←hsn];exact qm (k+1,s3,c3) (by simp only[];omega) (by simp only[];omega) [0,1,5,6,38,39,40] rfl (by first | rfl | simp[U,hsn])
      · have hin':isS a y.key=false:=(by simpa using hin);rw[hin'];refine qT rR rR rR rR rR (qT rR rR rR rR rR (qT rR rR rR rR rR (qT rR rR rR rR rR (qT rR rR rR rR rR (qT rR rR rR rR rR (d_v rR (zbp rR rR rR) rR ?_))))));refine yc ?_;refine qg rR (fun h61=>?_) (fun h61=>?_)
        · have hne:¬y∈a:=fun h=>hin ((zun hsa y).1 h).1;have hsn:=zjU (a:=a) hy;rw[if_neg hne] at hsn;refine qo (gM rR (g_v (qI (vs:=yu y) isAgg104 sizeOf104 rR rR qR) rR ?_));refine g_l (qs [yu (y)] underlying34 sizeOf104 zeroValue104 rfl rfl rfl (by intro r hr;simp at hr;subst hr;rfl) (by decide) (by decide)) rfl ?_;rintro _ _ ⟨b64,rfl,rfl⟩;refine g_l (yC underlying34 sizeOf104 zeroValue104 rfl Tryz.typeInfo104 (by decide) rfl rfl (by rw[qO,List.length_append]) rfl (by intro r hr;simp at hr;subst hr;rfl) (by intro r hr;simp at hr;subst hr;rfl) ⟨by omega,by decide,by decide⟩) rfl ?_;rintro _ _ ⟨s65,c65,rfl,rfl⟩;rw[zcS,List.append_assoc];refine gA rR (qb (qF (qo (g_v (qu rR rR (w64 (by omega))) rR (gM rR (qb ?_))))));rw[←hsn];exact qm (k+1,s65,c65) (by simp only[];omega) (by simp only[];omega) [0,1,5,6,38,39,40] rfl (by first | rfl | simp[U,hsn,Nat.add_assoc])
        · cases h61
    · simp at h41;obtain rfl:k=b.length:=(by omega);rw[List.take_length];refine qz rR ?_;refine gS (gM rR ?_);refine g_l (qi (Pre:=[owL 104 3 s3 c3 (chR (goK a b++nwK a b))]) call134 rR (zlP (goK a b++nwK a b) s3 _ c3 (by rw[List.length_append]) (by have:=zl9 a b;have:=zq5 a b;rw[List.length_append];omega))) rR ?_;rintro _ _ ⟨l',hp,hso,rfl,rfl⟩;have hmg:=zn6 hsa hsb hp hso;subst hmg;refine qb (gS (gM rR (gA rR (qb ?_))));exact wx rfl rfl rfl (by rw[hp.length_eq,List.length_append])
theorem keyle {S:SI}{L:List Pt}{n:Int}{G:Gh}(h:Con S L n G):∀c∈qY S L n,c.key.length≤9223372036854775807∧c.val.length≤9223372036854775807:=fun c hc=>by
  have w:=h.wr;unfold qY at hc;rcases List.mem_append.1 hc with hc | hc
  · rcases List.mem_append.1 hc with hc | hc
    · rcases List.mem_append.1 hc with hc | hc
      · unfold zaL at hc;obtain ⟨q,hq,rfl⟩:=List.mem_map.1 hc;obtain ⟨hq1,hq2⟩:=mem_ids.1 hq;obtain ⟨x,hx⟩:=Option.isSome_iff_exists.1 hq2;have hb:=w.b q x hx;have h1:=yS (n:=q) (by omega);have h2:=yS (n:=x.2) (by omega);rw[show gB S.B q=x by unfold gB;rw[hx];rfl];simp only[zwQ,List.length_cons,List.length_append];omega
      · unfold zaS at hc;obtain ⟨q,hq,rfl⟩:=List.mem_map.1 hc;obtain ⟨hq1,hq2⟩:=mem_ids.1 hq;have hb:=zu1 h.sm q;have h1:=yS (n:=q) (by omega);have h2:=zgm (n:=gN S.N q) (by omega) (fun k hk=>by have:=hb.2 k hk;omega) 4 (by omega);rw[zrI] at h2;simp only[zwO,List.length_cons];omega
    · obtain ⟨p,hp,rfl⟩:=List.mem_map.1 hc;have hb:=w.p p hp;have h1:=yS (n:=p.id) (by omega);have h2:=yS (n:=p.disk) (by omega);have h3:=yS (n:=p.size) (by omega);have h4:=yS (n:=p.root) (by omega);simp only[zj8,List.length_cons,List.length_append];omega
  · rw[List.mem_singleton] at hc;subst hc;have h1:=wa (n:=n) (by have:=w.n1;omega);simp only[zoR,List.length_cons,List.length_nil];omega
theorem zne:∀(a b:List ChangeM),(mg a b).length≤a.length+b.length
  | [],b=>by rw[znK];simp
  | x::a,[]=>by rw[zlO];simp
  | x::a,y::b=>by
    by_cases h1:kl x.key y.key=true
    · rw[zvR h1];have:=zne a (y::b);simp only[List.length_cons] at this ⊢;omega
    · by_cases h2:kl y.key x.key=true
      · rw[zuQ h1 h2];have:=zne (x::a) b;simp only[List.length_cons] at this ⊢;omega
      · rw[zv0 h1 h2];have:=zne a b;split <;> simp only[List.nil_append,List.cons_append,List.length_cons] <;> omega
termination_by a b=>a.length+b.length
structure SeE where
  key:Int
  a:Nat
  so:Option Addr
  co:Nat
  base:Int
  disk:Int
  size:Int
  puts:List PutM
structure MoE where
  key:Int
  a:Nat
  r:Nat
  point:Int
  over:List (Int×Bytes)
def ovM (l:List (Int×Bytes)):MM:=l.map fun p=>(p.1,Str p.2)
def ovL:List (Int×Bytes)→Int→Option Bytes
  | [],_=>none
  | p::l,q=>if p.1=q then some p.2 else ovL l q
def ovS (l:List (Int×Bytes))(q:Int)(d:Bytes):List (Int×Bytes):=if (ovL l q).isSome then l.map fun p=>if p.1=q then (q,d) else p else l++ [(q,d)]
theorem ztm:∀(l:List (Int×Bytes)) (q:Int),lk (ovM l) q=(ovL l q).map Str
  | [],q=>rfl
  | p::l,q=>by
    have ih:=ztm l q;simp only[ovM,List.map_cons,lk,ovL] at ih ⊢;split
    · rfl
    · exact ih
theorem zvP (l:List (Int×Bytes))(q:Int)(d:Bytes):zgC (ovM l) q (Str d)=ovM (ovS l q d):=by
  unfold zgC ovS;rw[ztm,Option.isSome_map];split
  · unfold ovM;rw[List.map_map,List.map_map];refine List.map_congr_left fun p _=>?_;simp only[Function.comp];split <;> rfl
  · simp[ovM]
def zdY (l:List SeE):MM:=l.map fun e=>(e.key,ptr e.a 0)
def zdR (l:List MoE):MM:=l.map fun e=>(e.key,ptr e.a 0)
def fSe (l:List SeE)(id:Int):Option SeE:=l.find? fun e=>decide (e.key=id)
def fMo (l:List MoE)(id:Int):Option MoE:=l.find? fun e=>decide (e.key=id)
theorem znI:∀(l:List SeE) (q:Int),lk (zdY l) q=(fSe l q).map fun e=>ptr e.a 0
  | [],q=>rfl
  | e::l,q=>by
    have ih:=znI l q;unfold fSe at ih ⊢;by_cases h:e.key=q
    · rw[List.find?_cons_of_pos (by simpa using h)];simp only[zdY,List.map_cons,lk,if_pos h,Option.map_some]
    · rw[List.find?_cons_of_neg (by simpa using h),←ih];simp only[zdY,List.map_cons,lk,if_neg h]
theorem znm:∀(l:List MoE) (q:Int),lk (zdR l) q=(fMo l q).map fun e=>ptr e.a 0
  | [],q=>rfl
  | e::l,q=>by
    have ih:=znm l q;unfold fMo at ih ⊢;by_cases h:e.key=q
    · rw[List.find?_cons_of_pos (by simpa using h)];simp only[zdR,List.map_cons,lk,if_pos h,Option.map_some]
    · rw[List.find?_cons_of_neg (by simpa using h),←ih];simp only[zdR,List.map_cons,lk,if_neg h]
theorem zr2 {l:List SeE}{e:SeE}(h:∀x∈l,x.key≠e.key):zgC (zdY l) e.key (ptr e.a 0)=zdY (l++ [e]):=by
  unfold zgC;rw[lk_none.2 (fun p hp=>by unfold zdY at hp;obtain ⟨x,hx,rfl⟩:=List.mem_map.1 hp;exact h x hx),if_neg (by simp)];simp[zdY]
theorem ztK {l:List MoE}{e:MoE}(h:∀x∈l,x.key≠e.key):zgC (zdR l) e.key (ptr e.a 0)=zdR (l++ [e]):=by
  unfold zgC;rw[lk_none.2 (fun p hp=>by unfold zdR at hp;obtain ⟨x,hx,rfl⟩:=List.mem_map.1 hp;exact h x hx),if_neg (by simp)];simp[zdR]
def dSe (l:List SeE)(id:Int):List SeE:=l.filter fun e=>!decide (e.key=id)
def dMo (l:List MoE)(id:Int):List MoE:=l.filter fun e=>!decide (e.key=id)
theorem znb (l:List SeE)(id:Int):zj9 (zdY l) id=zdY (dSe l id):=by
  unfold zj9 zdY dSe;rw[List.filter_map]
  rfl
theorem zr4 (l:List MoE)(id:Int):zj9 (zdR l) id=zdR (dMo l id):=by
  unfold zj9 zdR dMo;rw[List.filter_map]
  rfl
theorem ztw {l:List SeE}{i:Nat}{e e':SeE}(h:l[i]? =some e)(hk:e'.key=e.key)(ha:e'.a=e.a):zdY (l.set i e')=zdY l:=by
  unfold zdY;rw[List.map_set];refine List.ext_getElem? fun j=>?_;rw[List.getElem?_set];split
  · rename_i hj;subst hj;obtain ⟨hi,he⟩:=List.getElem?_eq_some_iff.1 h;rw[if_pos (by simpa using hi),List.getElem?_map,h,hk,ha]
    rfl
  · rfl
theorem zsW {l:List MoE}{i:Nat}{e e':MoE}(h:l[i]? =some e)(hk:e'.key=e.key)(ha:e'.a=e.a):zdR (l.set i e')=zdR l:=by
  unfold zdR;rw[List.map_set];refine List.ext_getElem? fun j=>?_;rw[List.getElem?_set];split
  · rename_i hj;subst hj;obtain ⟨hi,he⟩:=List.getElem?_eq_some_iff.1 h;rw[if_pos (by simpa using hi),List.getElem?_map,h,hk,ha]
    rfl
  · rfl
theorem zbz {α:Type}{l:List α}{i:Nat}{e:α}(h:l[i]? =some e):l.set i e=l:=by
  refine List.ext_getElem? fun j=>?_;rw[List.getElem?_set];split
  · rename_i hj;subst hj;obtain ⟨hi,he⟩:=List.getElem?_eq_some_iff.1 h;rw[if_pos hi,h]
  · rfl
structure RpM where
  h:HdM
  used:Nat
  rows:List ChangeM
  S:SI
  L:List Pt
  n:Int
  ses:List SeE
  mou:List MoE
  next:Int
def seA (e:SeE):List HProp:=[pt e.a (.cells #[I e.base,I e.disk,I e.size,sl e.so e.puts.length e.co] 112 (0,0)),owL 44 2 e.so e.co (zbx e.puts)]
def moA (e:MoE):List HProp:=[pt e.a (.cells #[I e.point, .map (some e.r)] 170 (0,0)),mp e.r (ovM e.over)]
structure RpA where
  bs:Nat
  bl:Nat
  so:Option Addr
  co:Nat
  bv:Nat
  rs:Nat
  rm:Nat
def rpP (b bd:Nat)(z:RpM)(q:RpA):List HProp:=
  [pt b (.cells #[ptr q.bs 0,ptr q.bv 0, .map (some q.rs), .map (some q.rm),I z.next] 89 (0,0)),pt q.bs (.cells (stC bd z.h q.bl q.so z.rows.length q.co) 180 (0,0)),pt q.bl (.cells (lgC bd 122 (200 - 122) z.h.first z.used) 222 (0,0)),roL 3 q.so (chR z.rows),vlt q.bv z.S z.L z.n,mp q.rs (zdY z.ses),big seA z.ses,mp q.rm (zdR z.mou),big moA z.mou]
def rpl (b bd:Nat)(z:RpM):HProp:=hx (rpP b bd z)
section
variable {c:Cx}{E:Env}{L:List HProp}{K:List KI}
theorem zan {F:List HProp}(b bd:Nat)(z:RpM)[R:Rem L (rpl b bd z) F](k:∀bs bl so co bv rs rm,G c K E (pt b (.cells #[ptr bs 0,ptr bv 0, .map (some rs), .map (some rm),I z.next] 89 (0,0))::pt bs (.cells (stC bd z.h bl so z.rows.length co) 180 (0,0))::pt bl (.cells (lgC bd 122 (200 - 122) z.h.first z.used) 222 (0,0))::roL 3 so (chR z.rows)::vlt bv z.S z.L z.n::mp rs (zdY z.ses)::big seA z.ses::mp rm (zdR z.mou)::big moA z.mou::F)):G c K E L:=zb1 (rpl b bd z) rfl fun q=>k q.bs q.bl q.so q.co q.bv q.rs q.rm
theorem zv6 {F:List HProp}(l:List SeE)(i:Nat){e:SeE}(he:l[i]? =some e)[R:Rem L (big seA l) F](k:G c K E (pt e.a (.cells #[I e.base,I e.disk,I e.size,sl e.so e.puts.length e.co] 112 (0,0))::owL 44 2 e.so e.co (zbx e.puts)::big seA (l.eraseIdx i)::F)):G c K E L:=zkk (f:=seA) l i he _ rfl k
theorem zwM {F:List HProp}(l:List MoE)(i:Nat){e:MoE}(he:l[i]? =some e)[R:Rem L (big moA l) F](k:G c K E (pt e.a (.cells #[I e.point, .map (some e.r)] 170 (0,0))::mp e.r (ovM e.over)::big moA (l.eraseIdx i)::F)):G c K E L:=zkk (f:=moA) l i he _ rfl k
theorem yj {F:List HProp}(b bd:Nat)(z:RpM)(bs bl:Nat)(so:Option Addr)(co bv rs rm:Nat)[Sp:Split L [pt b (.cells #[ptr bs 0,ptr bv 0, .map (some rs), .map (some rm),I z.next] 89 (0,0)),pt bs (.cells (stC bd z.h bl so z.rows.length co) 180 (0,0)),pt bl (.cells (lgC bd 122 (200 - 122) z.h.first z.used) 222 (0,0)),roL 3 so (chR z.rows),vlt bv z.S z.L z.n,mp rs (zdY z.ses),big seA z.ses,mp rm (zdR z.mou),big moA z.mou] F](k:G c K E (rpl b bd z::F)):G c K E L:=
  zaY (A:=rpP b bd z) [pt b (.cells #[ptr bs 0,ptr bv 0, .map (some rs), .map (some rm),I z.next] 89 (0,0)),pt bs (.cells (stC bd z.h bl so z.rows.length co) 180 (0,0)),pt bl (.cells (lgC bd 122 (200 - 122) z.h.first z.used) 222 (0,0)),roL 3 so (chR z.rows),vlt bv z.S z.L z.n,mp rs (zdY z.ses),big seA z.ses,mp rm (zdR z.mou),big moA z.mou] (rpl b bd z) ⟨bs,bl,so,co,bv,rs,rm⟩ rfl rfl k
end
structure SOk (e:SeE):Prop where
  size:1≤e.size∧e.size≤16
  nodup:(e.puts.map (·.at_)).Nodup
  rng:∀p∈e.puts,(0≤p.at_∧p.at_<e.size)∧p.data.length≤6
structure Rok (z:RpM):Prop where
  con:∃G,Con z.S z.L z.n G
  next:1≤z.next∧z.next≤1000000
  keyS:∀e∈z.ses,1≤e.key∧e.key<z.next
  keyM:∀e∈z.mou,1≤e.key∧e.key<z.next
  sesS:∀e∈z.ses,SOk e
theorem SOk.len {e:SeE}(h:SOk e):e.puts.length≤16:=by
  have h1:=zhv h.nodup (m:=(List.range 16).map fun k:Nat=>(k:Int)) fun q hq=>by
    obtain ⟨p,hp,rfl⟩:=List.mem_map.1 hq;have h2:=(h.rng p hp).1;have h3:=h.size;exact List.mem_map.2 ⟨p.at_.toNat,by rw[List.mem_range];omega,by omega⟩
  simpa using h1
theorem Rok.putS {z:RpM}(R:Rok z):∀e∈z.ses,e.puts.length≤16∧∀p∈e.puts,p.data.length≤6:=fun e he=>⟨(R.sesS e he).len,fun p hp=>((R.sesS e he).rng p hp).2⟩
structure Dk (i:Nat) (D:DiskM) (z:RpM):Prop where
  ok:okW 200 i D
  s80:S80 D
  hd:z.h.ep≤1000000∧z.h.side≤1∧1≤z.h.first∧z.h.first≤1000000000
  len:z.rows.length≤80
  okr:∀r∈z.rows,okR r
  used:z.used≤200 - 122
  srt:srt z.rows
def RpM.kept (z:RpM)(e:Int)(h:HdM)(used:Nat)(rows:List ChangeM)(S:SI)(L:List Pt)(n:Int):RpM:=if e=0 then ⟨h,used,rows,S,L,n,z.ses,z.mou,z.next⟩ else ⟨h,used,rows,z.S,z.L,z.n,z.ses,z.mou,z.next⟩
def chgR (z:RpM)(S:SI)(L:List Pt)(n:Int):List ChangeM:=mg (qY z.S z.L z.n) (qY S L n)
theorem zo0:∀{l:List SeE},((zdY l).map (·.1)).Nodup→∀{e e':SeE},e∈l→e'∈l→e.key=e'.key→e=e'
  | [],_,e,e',h,_,_=>by cases h
  | a::l,hn,e,e',h,h',hk=>by
    simp only[zdY,List.map_cons,List.nodup_cons,List.mem_map] at hn;rcases List.mem_cons.1 h with rfl | g
    · rcases List.mem_cons.1 h' with rfl | g'
      · rfl
      · exact absurd ⟨_,⟨e',g',rfl⟩,hk.symm⟩ hn.1
    · rcases List.mem_cons.1 h' with rfl | g'
      · exact absurd ⟨_,⟨e,g,rfl⟩,hk⟩ hn.1
      · exact zo0 (by simpa [zdY] using hn.2) g g' hk
theorem zp4:∀{l:List MoE},((zdR l).map (·.1)).Nodup→∀{e e':MoE},e∈l→e'∈l→e.key=e'.key→e=e'
  | [],_,e,e',h,_,_=>by cases h
  | a::l,hn,e,e',h,h',hk=>by
    simp only[zdR,List.map_cons,List.nodup_cons,List.mem_map] at hn;rcases List.mem_cons.1 h with rfl | g
    · rcases List.mem_cons.1 h' with rfl | g'
      · rfl
      · exact absurd ⟨_,⟨e',g',rfl⟩,hk.symm⟩ hn.1
    · rcases List.mem_cons.1 h' with rfl | g'
      · exact absurd ⟨_,⟨e,g,rfl⟩,hk⟩ hn.1
      · exact zp4 (by simpa [zdR] using hn.2) g g' hk
theorem zwY {l:List SeE}(hn:((zdY l).map (·.1)).Nodup){done rest rest':MM}{p:Int×Value}(hp:(done++rest).Perm (zdY l))(hq:rest.Perm (p::rest')):(∃i e,l[i]? =some e∧p=(e.key,ptr e.a 0)∧i<l.length)∧((done++ [p])++rest').Perm (zdY l):=by
  have h1:(done++p::rest').Perm (zdY l):=(hq.append_left done).symm.trans hp;refine ⟨?_,by simpa using h1⟩;have hm:p∈zdY l:=h1.mem_iff.1 (by simp);unfold zdY at hm;obtain ⟨e,he,rfl⟩:=List.mem_map.1 hm;obtain ⟨i,hi⟩:=List.getElem?_of_mem he;exact ⟨i,e,hi,rfl,(List.getElem?_eq_some_iff.1 hi).1⟩
theorem zxh {l:List MoE}(hn:((zdR l).map (·.1)).Nodup){done rest rest':MM}{p:Int×Value}(hp:(done++rest).Perm (zdR l))(hq:rest.Perm (p::rest')):(∃i e,l[i]? =some e∧p=(e.key,ptr e.a 0)∧i<l.length)∧((done++ [p])++rest').Perm (zdR l):=by
  have h1:(done++p::rest').Perm (zdR l):=(hq.append_left done).symm.trans hp;refine ⟨?_,by simpa using h1⟩;have hm:p∈zdR l:=h1.mem_iff.1 (by simp);unfold zdR at hm;obtain ⟨e,he,rfl⟩:=List.mem_map.1 hm;obtain ⟨i,hi⟩:=List.getElem?_of_mem he;exact ⟨i,e,hi,rfl,(List.getElem?_eq_some_iff.1 hi).1⟩
def zbk (z:RpM)(id:Int):Bool:=z.ses.any (fun e=>decide (e.base=id)) || z.mou.any fun e=>decide (e.point=id)
theorem zbM (b:Nat)(v1 v2 v3 v4:Value)(nx:Int)(hnx:0≤nx∧nx≤1000000000)(F:List HProp):Ct Tryz.prog 43 [ptr b 0] ([pt b (.cells #[v1,v2,v3,v4,I nx] 89 (0,0))]++F) (R1 (I nx) (pt b (.cells #[v1,v2,v3,v4,I (nx+1)] 89 (0,0))::F)):=by
  show Ct Tryz.prog 43 [ptr b 0] (pt b (.cells #[v1,v2,v3,v4,I nx] 89 (0,0))::F) _;refine Ct.of func43 rR 15 ntmps43 (by simp) fun w0=>?_;refine gS (gA rR (qb (gS (gM rR (g_v (qc rR) rR (g_v (qa 4 underlying89 rR rR sizeOf3 (by decide) rR) rR (g_v (qe (v:=I nx) isAgg3 rR rR) rR (g_v (qu (r:=nx+1) rR rR (w64 (by omega))) rR (g_v (qc rR) rR (g_v (qa 4 underlying89 rR rR sizeOf3 (by decide) rR) rR ?_))))))))));refine yp (qH #[v1,v2,v3,v4,I (nx+1)] sizeOf3 rR rR rR (by simp) rR) ?_;rintro _ _ rfl;refine qb (gS (gM rfl (g_v (qc rfl) rfl (g_v (qa 4 underlying89 rfl rfl sizeOf3 (by decide) rfl) rfl (g_v (qe (v:=I (nx+1)) isAgg3 rfl rfl) rfl (g_v (zce (r:=nx) rfl rfl (by rw[show nx+1 - 1=nx by omega];exact w64 (by omega))) rfl (gA rfl (qb ?_))))))));refine qn rR rR ?_;exact rfl
theorem wZ (b bd:Nat)(z:RpM)(hl:z.L.length≤1000000)(F:List HProp):Ct Tryz.prog 9 [ptr b 0] ([rpl b bd z]++F) (fun v L'=>∃q,v=ptr q 0∧L'=vlt q z.S z.L z.n::rpl b bd z::F):=by
  show Ct Tryz.prog 9 [ptr b 0] (rpl b bd z::F) _;refine Ct.of func9 rR 8 ntmps9 (by simp) fun w0=>?_;refine zan b bd z ?_;intro bs bl so co bv rs rm;refine gS (gA rR (qb (gS (gM rR (g_v (qc rR) rR (g_v (qa 1 underlying89 rR rR sizeOf29 (by decide) rR) rR (g_v (qe (v:=ptr bv 0) isAgg29 rR rR) rR ?_)))))));refine g_l (qi (Pre:=[vlt bv z.S z.L z.n]) call38 rR (wJ bv z.S z.L z.n hl)) rR ?_;rintro _ _ ⟨q,rfl,rfl⟩;refine gA rR (qb ?_);refine yj b bd (z) bs bl so co bv rs rm ?_;exact ql (vlt q z.S z.L z.n::rpl b bd z::F) rfl ⟨q,rfl,rfl⟩
theorem za2 {ee:Bool}(b bd v i:Nat)(D:DiskM)(z:RpM)(S':SI)(L':List Pt)(n':Int)(G G':Gh)(hC:Con z.S z.L z.n G)(hC':Con S' L' n' G')(hD:Dk i D z)(hi:i≤100000)(F:List HProp):Ct Tryz.prog 47 [ptr b 0,ptr v 0] ([qG ee,rpl b bd z,dsk 140 142 bd (D),vlt v S' L' n']++F) (fun v0 L0=>∃e D2 h2 used2 rows2,ztv D z.h z.rows (200 - 122) z.used (chgR z S' L' n') e D2 h2 used2 rows2∧v0=yK e∧L0=rpl b bd (z.kept e h2 used2 rows2 S' L' n')::dsk 140 142 bd (D2)::qG ee::F):=by
  show Ct Tryz.prog 47 [ptr b 0,ptr v 0] (qG ee::rpl b bd z::dsk 140 142 bd (D)::vlt v S' L' n'::F) _;have hlen:=hC.v.len;have hrow:=zgz (S:=z.S) (n:=z.n) hlen;have hlen':=hC'.v.len;have hrow':=zgz (S:=S') (n:=n') hlen';have hml:=zne (qY z.S z.L z.n) (qY S' L' n');refine Ct.of func47 rR 26 ntmps47 (by simp) fun w0=>?_;refine zan b bd z ?_;intro bs bl so co bv rs rm;refine gS (gA rR (qb (qf ?_)));refine yw (Lf:=[pt b (.cells #[ptr bs 0,ptr bv 0, .map (some rs), .map (some rm),I (z.next)] 89 (0,0))]) [(0,false),(1,false),(2,false),(3,false),(4,false),(5,false),(6,false),(7,false),(9,false),(8,true),(10,true),(11,true),(12,true),(13,false)] (by kernel_rfl) (by kernel_rfl) rR (by kernel_rfl) ?_;refine dM rR rR rR (d_v rR (qc rR) rR (d_v rR (qa 0 underlying89 rR rR sizeOf85 (by decide) rR) rR (d_v rR (qe (v:=ptr bs 0) isAgg85 rR rR) rR (dM rR rR rR (d_v rR (qc rR) rR (d_v rR (qa 1 underlying89 rR rR sizeOf29 (by decide) rR) rR (d_v rR (qe (v:=ptr bv 0) isAgg29 rR rR) rR (dM rR rR rR ?_))))))));refine d_l rR (qi (Pre:=[qG ee,vlt bv z.S z.L z.n]) call11 rR (zcG (ee:=ee) bv z.S z.L z.n hC.sm)) rR ?_;rintro _ _ ⟨s14,c14,rfl,rfl⟩;refine yB s14 ?_;refine d_l rR (qi (Pre:=[qG ee,vlt v S' L' n']) call11 rR (zcG (ee:=ee) v S' L' n' hC'.sm)) rR ?_;rintro _ _ ⟨s16,c16,rfl,rfl⟩;refine yB s16 ?_;refine d_l rR (qi (Pre:=[roL 3 s14 (chR (qY z.S z.L z.n)),roL 3 s16 (chR (qY S' L' n'))]) call82 rR (zf5 (qY z.S z.L z.n) (qY S' L' n') s14 s16 c14 c16 (by omega) (by omega) (zcM hC.wr) (zcM hC'.wr))) rR ?_;rintro _ _ ⟨s17,c17,rfl,rfl⟩;refine yB s17 ?_;refine d_l rfl (qi (Pre:=[pt bs (.cells (stC bd (z.h) bl so (z.rows.length) co) 180 (0,0)),pt bl (.cells (lgC bd 122 (200 - 122) (z.h.first) (z.used)) 222 (0,0)),dsk 140 142 bd (D),roL 3 so (chR z.rows),roL 3 s17 (chR (mg (qY z.S z.L z.n) (qY S' L' n')))]) call81 rfl (zdz bs bd z.h bl so co z.rows 200 i z.used D hD.ok hi hD.s80 (by decide) hD.hd hD.len hD.okr hD.used hD.srt (mg (qY z.S z.L z.n) (qY S' L' n')) s17 c17 (by omega))) rfl ?_;rintro _ _ ⟨e,D2,h2,used2,rows2,bl2,s2,cap2,hcom,rfl,rfl⟩;refine d_v rR (qx rR) rR ?_;refine yc ?_;refine qf (gS (gM rR (g_v (zab underlying37 rR) rR (qb ?_))));refine qg rR (fun h20=>?_) (fun h20=>?_)
  · have he0:e=0:=(by simpa using h20);refine qo (gM rR (gM rR (g_v (qc rR) rR (g_v (qa 1 underlying89 rR rR sizeOf29 (by decide) rR) rR ?_))));refine yp (qH #[ptr bs 0,ptr v 0, .map (some rs), .map (some rm),I z.next] sizeOf29 rR rR rR (by simp) rR) ?_;rintro _ _ rfl;refine qb (gS (gM rR (gA rR (qb ?_))));refine yj b bd (⟨h2,used2,rows2,S',L',n',z.ses,z.mou,z.next⟩) bs bl2 s2 cap2 v rs rm ?_;exact ql (rpl b bd ⟨h2,used2,rows2,S',L',n',z.ses,z.mou,z.next⟩::dsk 140 142 bd (D2)::qG ee::F) rfl ⟨e,D2,h2,used2,rows2,hcom,rfl,by unfold RpM.kept;rw[if_pos he0]⟩
  · have he0:¬e=0:=(by simpa using h20);refine qh (gS (gM rR (gA rR (qb ?_))));refine yj b bd (⟨h2,used2,rows2,z.S,z.L,z.n,z.ses,z.mou,z.next⟩) bs bl2 s2 cap2 bv rs rm ?_;exact ql (rpl b bd ⟨h2,used2,rows2,z.S,z.L,z.n,z.ses,z.mou,z.next⟩::dsk 140 142 bd (D2)::qG ee::F) rfl ⟨e,D2,h2,used2,rows2,hcom,rfl,by unfold RpM.kept;rw[if_neg he0]⟩
theorem zcl (b bd:Nat)(z:RpM)(id:Int)(F:List HProp):Ct Tryz.prog 54 [ptr b 0,I id] ([rpl b bd z]++F) (R1 (Bo (zbk z id)) (rpl b bd z::F)):=by
  show Ct Tryz.prog 54 [ptr b 0,I id] (rpl b bd z::F) _;refine Ct.of func54 rR 39 ntmps54 (by simp) fun w0=>?_;refine zan b bd z ?_;intro bs bl so co bv rs rm;refine zaZ rs (fun hnS=>?_);refine zaZ rm (fun hnM=>?_);refine gS (gA rR (qb (qf (qf ?_))));refine zaj rs ?_;intro es clk;refine qo (gM rR (g_v (qc rR) rR (g_v (qa 2 underlying89 rR rR sizeOf86 (by decide) rR) rR (g_v (qe (v:= .map (some rs)) isAgg86 rR rR) rR ?_))));refine g_l (zbq underlying86 rR) rR ?_;rintro _ _ ⟨b13,rfl,rfl⟩;refine qb (qj ?_);refine qE (α:=MM×MM×Option (Int×Value)) (fun y=>(y.2.1++y.1).Perm (zdY z.ses)∧∀e∈z.ses,(e.key,ptr e.a 0)∈y.2.1→e.base≠id) (fun _=>U [(0,ptr b 0),(1,I id),(13,ptr b13 0)]) (fun y=>mit b13 rs es clk y.1 y.2.2::mpE rs es clk (zdY z.ses)::pt b (.cells #[ptr bs 0,ptr bv 0, .map (some rs), .map (some rm),I (z.next)] 89 (0,0))::pt bs (.cells (stC bd (z.h) bl so (z.rows.length) co) 180 (0,0))::pt bl (.cells (lgC bd 122 (200 - 122) (z.h.first) (z.used)) 222 (0,0))::roL 3 so (chR z.rows)::vlt bv z.S z.L z.n::big seA z.ses::mp rm (zdR z.mou)::big moA z.mou::F) (fun y=>y.1.length) (zdY z.ses,[],none) ⟨.refl _,by simp⟩ [0,1,13] rfl rfl ?_;rintro ⟨rest,done,cur⟩ ⟨hp,hdn⟩;simp only[] at hp hdn ⊢;refine gS ?_;refine g_l (zcT rR) rR ?_;rintro _ _ (⟨hr,rfl,rfl⟩ | ⟨p,rest',hq,rfl,rfl⟩)
  · subst hr;have hS:∀e∈z.ses,e.base≠id:=fun e he=>hdn e he (by have:=hp.mem_iff (a:=(e.key,ptr e.a 0));rw[List.append_nil] at this;exact this.2 (List.mem_map.2 ⟨e,he,rfl⟩));refine g_v (qd rR rR) rR (qb (qf ?_));refine yR rR ?_;refine qz rR ?_;refine qf (qf ?_);refine qL rs ?_;refine zaj rm ?_;intro es2 clk2;refine qo (gM rR (g_v (qc rR) rR (g_v (qa 3 underlying89 rR rR sizeOf87 (by decide) rR) rR (g_v (qe (v:= .map (some rm)) isAgg87 rR rR) rR ?_))));refine g_l (zbq underlying87 rR) rR ?_;rintro _ _ ⟨b28,rfl,rfl⟩;refine qb (qj ?_);refine qE (α:=MM×MM×Option (Int×Value)) (fun y=>(y.2.1++y.1).Perm (zdR z.mou)∧∀e∈z.mou,(e.key,ptr e.a 0)∈y.2.1→e.point≠id) (fun _=>U [(0,ptr b 0),(1,I id),(28,ptr b28 0)]) (fun y=>mit b28 rm es2 clk2 y.1 y.2.2::mpE rm es2 clk2 (zdR z.mou)::pt b (.cells #[ptr bs 0,ptr bv 0, .map (some rs), .map (some rm),I (z.next)] 89 (0,0))::pt bs (.cells (stC bd (z.h) bl so (z.rows.length) co) 180 (0,0))::pt bl (.cells (lgC bd 122 (200 - 122) (z.h.first) (z.used)) 222 (0,0))::roL 3 so (chR z.rows)::vlt bv z.S z.L z.n::big seA z.ses::mp rs (zdY z.ses)::big moA z.mou::F) (fun y=>y.1.length) (zdR z.mou,[],none) ⟨.refl _,by simp⟩ [0,1,28] rfl rfl ?_;rintro ⟨rest,done,cur⟩ ⟨hp,hdn2⟩;simp only[] at hp hdn2 ⊢;refine gS ?_;refine g_l (zcT rR) rR ?_;rintro _ _ (⟨hr,rfl,rfl⟩ | ⟨p,rest',hq,rfl,rfl⟩)
    · subst hr;have hM:∀e∈z.mou,e.point≠id:=fun e he=>hdn2 e he (by have:=hp.mem_iff (a:=(e.key,ptr e.a 0));rw[List.append_nil] at this;exact this.2 (List.mem_map.2 ⟨e,he,rfl⟩));refine g_v (qd rR rR) rR (qb (qf ?_));refine yR rR ?_;refine qz rR ?_;refine gS (gA rR (qb ?_));refine qL rm ?_;refine yj b bd (z) bs bl so co bv rs rm ?_;exact qn rfl rfl (by show Bo false=_;congr 1;symm;unfold zbk;rw[Bool.or_eq_false_iff,List.any_eq_false,List.any_eq_false];exact ⟨fun e he=>by simpa using hS e he,fun e he=>by simpa using hM e he⟩)
    · obtain ⟨⟨i,e,he,rfl,hi⟩,hp2⟩:=zxh hnM hp hq;refine g_v (qd rR rR) rR (qb (qf ?_));refine wV rR ?_;refine qh (qj (gS (g_v (zbs rR) rR (g_v (qd (v:=ptr e.a 0) rR rR) rR (gA rR (qb (qf ?_)))))));refine zwM z.mou i he ?_;refine qo (gM rR (g_v (qc rR) rR (g_v (qa 0 underlying170 rR rR sizeOf3 (by decide) rR) rR (g_v (qe (v:=I e.point) isAgg3 rR rR) rR (gM rR (g_v (wh rR rR) rR (qb ?_)))))));refine zac (f:=moA) z.mou i e [pt e.a (.cells #[I e.point, .map (some e.r)] 170 (0,0)),mp e.r (ovM e.over)] rfl hi ?_;rw[zbz he];refine qg rR (fun h38=>?_) (fun h38=>?_)
      · simp at h38;refine gS (gA rR (qb ?_));refine qL rm ?_;refine yj b bd (z) bs bl so co bv rs rm ?_;exact qn rfl rfl (by show Bo true=_;congr 1;symm;unfold zbk;rw[Bool.or_eq_true,List.any_eq_true,List.any_eq_true];exact .inr ⟨e,List.mem_of_getElem? he,by simpa using h38⟩)
      · refine qh (qF ?_);refine qm (rest',done++ [(e.key,ptr e.a 0)],some (e.key,ptr e.a 0)) ⟨hp2,fun x hx hm=>?_⟩ (by have:=hq.length_eq;simp at this;simp;omega) [0,1,28] rfl rfl;rcases List.mem_append.1 hm with hm | hm
        · exact hdn2 x hx hm
        · have hk:x.key=e.key:=(by simp at hm;exact hm.1);rw[zp4 hnM hx (List.mem_of_getElem? he) hk];simpa using h38
  · obtain ⟨⟨i,e,he,rfl,hi⟩,hp2⟩:=zwY hnS hp hq;refine g_v (qd rR rR) rR (qb (qf ?_));refine wV rR ?_;refine qh (qj (gS (g_v (zbs rR) rR (g_v (qd (v:=ptr e.a 0) rR rR) rR (gA rR (qb (qf ?_)))))));refine zv6 z.ses i he ?_;refine qo (gM rR (g_v (qc rR) rR (g_v (qa 0 underlying112 rR rR sizeOf3 (by decide) rR) rR (g_v (qe (v:=I e.base) isAgg3 rR rR) rR (gM rR (g_v (wh rR rR) rR (qb ?_)))))));refine zac (f:=seA) z.ses i e [pt e.a (.cells #[I e.base,I e.disk,I e.size,sl e.so e.puts.length e.co] 112 (0,0)),owL 44 2 e.so e.co (zbx e.puts)] rfl hi ?_;rw[zbz he];refine qg rR (fun h23=>?_) (fun h23=>?_)
    · simp at h23;refine gS (gA rR (qb ?_));refine qL rs ?_;refine yj b bd (z) bs bl so co bv rs rm ?_;exact qn rfl rfl (by show Bo true=_;congr 1;symm;unfold zbk;rw[Bool.or_eq_true,List.any_eq_true,List.any_eq_true];exact .inl ⟨e,List.mem_of_getElem? he,by simpa using h23⟩)
    · refine qh (qF ?_);refine qm (rest',done++ [(e.key,ptr e.a 0)],some (e.key,ptr e.a 0)) ⟨hp2,fun x hx hm=>?_⟩ (by have:=hq.length_eq;simp at this;simp;omega) [0,1,13] rfl rfl;rcases List.mem_append.1 hm with hm | hm
      · exact hdn x hx hm
      · have hk:x.key=e.key:=(by simp at hm;exact hm.1);rw[zo0 hnS hx (List.mem_of_getElem? he) hk];simpa using h23
theorem zjs {α:Type}(p:α→Bool):∀l:List α,l.find? p=l[l.findIdx p]?
  | []=>rfl
  | a::l=>by
    rw[List.find?_cons,List.findIdx_cons];cases h:p a with
    | true=>simp
    | false=>simpa using zjs p l
def sIx (l:List SeE)(id:Int):Nat:=l.findIdx fun e=>decide (e.key=id)
def mIx (l:List MoE)(id:Int):Nat:=l.findIdx fun e=>decide (e.key=id)
theorem zkK {l:List SeE}{id:Int}{e:SeE}(h:fSe l id=some e):l[sIx l id]? =some e∧e.key=id∧sIx l id<l.length:=by
  have h1:=h;unfold fSe at h1;rw[zjs] at h1;have h2:=List.find?_some h;exact ⟨h1,by simpa using h2,(List.getElem?_eq_some_iff.1 h1).1⟩
theorem zlo {l:List MoE}{id:Int}{e:MoE}(h:fMo l id=some e):l[mIx l id]? =some e∧e.key=id∧mIx l id<l.length:=by
  have h1:=h;unfold fMo at h1;rw[zjs] at h1;have h2:=List.find?_some h;exact ⟨h1,by simpa using h2,(List.getElem?_eq_some_iff.1 h1).1⟩
def ofE (L:List Pt)(base disk:Int):Int:=if base=0 then 0 else match yh L base with
  | none=>5
  | some p=>if p.disk≠disk then 3 else 0
def wm (z:RpM)(base disk size:Int):Int:=if disk<1∨999<disk∨size<1∨16<size then 1 else if ofE z.L base disk≠0 then ofE z.L base disk else if z.ses.length=3 then 8 else 0
def RpM.sess (z:RpM)(l:List SeE):RpM:=⟨z.h,z.used,z.rows,z.S,z.L,z.n,l,z.mou,z.next⟩
def RpM.moun (z:RpM)(l:List MoE):RpM:=⟨z.h,z.used,z.rows,z.S,z.L,z.n,z.ses,l,z.next⟩
def RpM.begun (z:RpM)(a:Nat)(base disk size:Int):RpM:=⟨z.h,z.used,z.rows,z.S,z.L,z.n,z.ses++ [⟨z.next,a,none,0,base,disk,size,[]⟩],z.mou,z.next+1⟩
def RpM.mounted (z:RpM)(a r:Nat)(id:Int):RpM:=⟨z.h,z.used,z.rows,z.S,z.L,z.n,z.ses,z.mou++ [⟨z.next,a,r,id,[]⟩],z.next+1⟩
def zbO (z:RpM)(id:Int):Int:=match yh z.L id with
  | none=>5
  | some _=>if z.mou.length=3 then 8 else 0
def zbj (z:RpM)(id at_:Int):Bytes×Int:=match fMo z.mou id with
  | none=>([],5)
  | some m=>if (rdE z.S z.L m.point at_).2≠0 then ([],(rdE z.S z.L m.point at_).2) else match ovL m.over at_ with
    | some d=>(d,0)
    | none=>((rdE z.S z.L m.point at_).1,0)
def zaT (z:RpM)(id at_:Int)(d:Bytes):Int:=if (zbj z id at_).2≠0 then (zbj z id at_).2 else if 6<d.length then 2 else 0
def RpM.written (z:RpM)(id at_:Int)(d:Bytes):RpM:=match fMo z.mou id with
  | none=>z
  | some m=>z.moun (z.mou.set (mIx z.mou id) ⟨m.key,m.a,m.r,m.point,ovS m.over at_ d⟩)
theorem bldSe (x y k:Int)(w:World):(Instr.build 112 #[(0,I x),(1,I y),(2,I k)]).run Tryz.prog w= .ok (.agg #[I x,I y,I k,sl none 0 0]) w:=by
  simp[Instr.build,zeroValue112,runUnderlying112,sizeOf3,Instr.fill,qV,sl,show ∀k:Int,(I k).cells=#[I k] from fun _=>rfl]
theorem bldMo (x:Int)(r:Nat)(w:World):(Instr.build 170 #[(0,I x),(1, .map (some r))]).run Tryz.prog w= .ok (.agg #[I x, .map (some r)]) w:=by
  simp[Instr.build,zeroValue170,runUnderlying170,sizeOf3,sizeOf168,Instr.fill,qV,show ∀k:Int,(I k).cells=#[I k] from fun _=>rfl,show (Value.map (some r)).cells=#[.map (some r)] from rfl]
theorem zb9 (b bd:Nat)(z:RpM)(base disk size:Int)(hR:Rok z)(F:List HProp):Ct Tryz.prog 12 [ptr b 0,I base,I disk,I size] ([rpl b bd z]++F) (fun v L'=>(wm z base disk size≠0∧v= .tuple #[I 0,yK (wm z base disk size)]∧L'=rpl b bd z::F)∨(wm z base disk size=0∧∃a,v= .tuple #[I z.next,yK 0]∧L'=rpl b bd (z.begun a base disk size)::F)):=by
  show Ct Tryz.prog 12 [ptr b 0,I base,I disk,I size] (rpl b bd z::F) _;obtain ⟨G0,hC⟩:=hR.con;have hlen:=hC.v.len;have hnx:=hR.next;refine Ct.of func12 rR 67 ntmps12 (by simp) fun w0=>?_;refine zan b bd z ?_;intro bs bl so co bv rs rm;refine gS (gA rR (gA rR (qb (qf (gS (gM rR (g_v (qJ rR rR) rR (gM rR (qK rR rR (fun hg=>qp rR) rR rR (qK rR rR (fun hg=>yA rR rR) rR rR (g_v (zaH rR rR) rR (gM rR (qK rR rR (fun hg=>qp rR) rR rR (qK rR rR (fun hg=>qJ rR rR) rR rR (g_v (zaH rR rR) rR (gM rR (qK rR rR (fun hg=>qp rR) rR rR (qK rR rR (fun hg=>yA rR rR) rR rR (g_v (zaH rR rR) rR (qb ?_))))))))))))))))))));refine qg rR (fun h26=>?_) (fun h26=>?_)
  · have hbd:disk<1∨999<disk∨size<1∨16<size:=(by simp at h26;omega);refine gS (g_v (qB underlying108 rR rR) rR (gA rR (gA rR (qb ?_))));refine yj b bd (z) bs bl so co bv rs rm ?_;exact ql (rpl b bd (z)::F) rfl (.inl ⟨by unfold wm;rw[if_pos hbd];decide,by unfold wm;rw[if_pos hbd];rfl,rfl⟩)
  · have hbd:¬(disk<1∨999<disk∨size<1∨16<size):=(by simp at h26;omega);refine qh (qf (gS (gM rR (g_v (zd2 rR rR) rR (qb ?_)))));refine ziS (α:=Unit) (fun _=>ofE z.L base disk=0) (fun _=>U [(0,ptr b 0),(1,I base),(2,I disk),(3,I size)]) (fun _=>pt b (.cells #[ptr bs 0,ptr bv 0, .map (some rs), .map (some rm),I (z.next)] 89 (0,0))::pt bs (.cells (stC bd (z.h) bl so (z.rows.length) co) 180 (0,0))::pt bl (.cells (lgC bd 122 (200 - 122) (z.h.first) (z.used)) 222 (0,0))::roL 3 so (chR z.rows)::vlt bv z.S z.L z.n::mp rs (zdY z.ses)::big seA z.ses::mp rm (zdR z.mou)::big moA z.mou::F) ?_ ?_
    · refine qg rR (fun h29=>?_) (fun h29=>?_)
      · simp at h29;refine gS (gM rR (g_v (qc rR) rR (g_v (qa 1 underlying89 rR rR sizeOf29 (by decide) rR) rR (g_v (qe (v:=ptr bv 0) isAgg29 rR rR) rR (gM rR ?_)))));refine g_l (qi (Pre:=[vlt bv z.S z.L z.n]) call39 rR (yz bv z.S z.L z.n base (by omega))) rR ?_;rintro _ _ ⟨rfl,rfl⟩;refine gM rR (g_v (qd (v:= .agg (yn ((yh z.L base).getD pt0)).toArray) rR rR) rR (g_v (qd (v:=Bo (yh z.L base).isSome) rR rR) rR ?_));refine g_l (qy #[I 0,I 0,I 0,I 0] zeroValue70) rR ?_;rintro _ _ ⟨b10,rfl,rfl⟩;refine yp (qq (cs:=#[I 0,I 0,I 0,I 0]) (vs:=yn (((yh z.L base).getD pt0))) (yn (((yh z.L base).getD pt0))).toArray sizeOf70 rR rR rR rR (by simp) (qv rR)) ?_;rintro _ _ rfl;refine gA rR (qb (qf (gS (gM rR (g_v (wo rR) rR (qb ?_))))));refine qg rR (fun h40=>?_) (fun h40=>?_)
        · simp at h40;refine gS (g_v (qB underlying108 rR rR) rR (gA rR (gA rR (qb ?_))));refine yj b bd (z) bs bl so co bv rs rm ?_;exact ql (rpl b bd (z)::F) rfl (have ho:ofE z.L base disk=5:=by unfold ofE;rw[if_neg h29,h40]
            .inl ⟨by unfold wm;rw[if_neg hbd,if_pos (by omega),ho];decide,by unfold wm;rw[if_neg hbd,if_pos (by omega),ho];rfl,rfl⟩)
        · simp at h40;obtain ⟨p,hf⟩:=Option.isSome_iff_exists.1 h40;rw[show (yh z.L base).getD pt0=p by rw[hf];rfl];refine qh (gS (g_v (qa 1 underlying70 rR rR sizeOf3 (by decide) rR) rR (g_v (qe (v:=I p.disk) isAgg3 rR rR) rR (gM rR (g_v (zd2 rR rR) rR (qb ?_))))));refine qg rR (fun h45=>?_) (fun h45=>?_)
          · simp at h45;refine gS (g_v (qB underlying108 rR rR) rR (gA rR (gA rR (qb ?_))));refine yj b bd (z) bs bl so co bv rs rm ?_;exact ql (rpl b bd (z)::F) rfl (have ho:ofE z.L base disk=3:=by unfold ofE;rw[if_neg h29,hf];simp only;rw[if_pos (by omega)]
              .inl ⟨by unfold wm;rw[if_neg hbd,if_pos (by omega),ho];decide,by unfold wm;rw[if_neg hbd,if_pos (by omega),ho];rfl,rfl⟩)
          · simp at h45;refine qh ?_;exact zaq () (by unfold ofE;rw[if_neg h29,hf];simp only;rw[if_neg (by omega)]) [0,1,2,3] rfl rfl
      · simp at h29;refine qh ?_;exact zaq () (by unfold ofE;rw[if_pos h29]) [0,1,2,3] rfl rfl
    rintro _ hof;refine qf (gS (gM rR (g_v (qc rR) rR (g_v (qa 2 underlying89 rR rR sizeOf86 (by decide) rR) rR (g_v (qe (v:= .map (some rs)) isAgg86 rR rR) rR (g_v (zd8 underlying86 rR) rR (g_v (wh rR rR) rR (qb ?_))))))));refine qg rR (fun h52=>?_) (fun h52=>?_)
    · have hfull:z.ses.length=3:=(by simp[zdY] at h52;omega);refine gS (g_v (qB underlying108 rR rR) rR (gA rR (gA rR (qb ?_))));refine yj b bd (z) bs bl so co bv rs rm ?_;exact ql (rpl b bd (z)::F) rfl (.inl ⟨by unfold wm;rw[if_neg hbd,if_neg (by omega),if_pos hfull];decide,by unfold wm;rw[if_neg hbd,if_neg (by omega),if_pos hfull];rfl,rfl⟩)
    · have hfull:¬z.ses.length=3:=(by simp[zdY] at h52;omega);refine qh (gS (gM rR ?_));refine g_l (qi (Pre:=[pt b (.cells #[ptr bs 0,ptr bv 0, .map (some rs), .map (some rm),I (z.next)] 89 (0,0))]) call43 rR (zbM b (ptr bs 0) (ptr bv 0) (.map (some rs)) (.map (some rm)) z.next (by omega))) rR ?_;rintro _ _ ⟨rfl,rfl⟩;refine gA rR (qb (gS (gM rR (g_v (qc rR) rR (g_v (qa 2 underlying89 rR rR sizeOf86 (by decide) rR) rR (g_v (qe (v:= .map (some rs)) isAgg86 rR rR) rR (gM rR (gM rR (gM rR (gM rR (g_v (qP rR (bldSe base disk size)) rR ?_)))))))))));refine g_l (wR #[I base,I disk,I size,sl none 0 0] rfl rR) rR ?_;rintro _ _ ⟨b65,rfl,rfl⟩;refine yp (yg underlying86 underlying3 rR rR rR) ?_;rintro _ _ rfl;rw[zr2 (l:=z.ses) (e:=(⟨z.next,b65,none,0,base,disk,size,[]⟩:SeE)) (fun x hx=>by have:=hR.keyS x hx;show x.key≠z.next;omega)];refine yG 44 2 (zbx []) rR ?_;refine zm8 (f:=seA) z.ses (⟨z.next,b65,none,0,base,disk,size,[]⟩:SeE) [pt b65 (.cells #[I base,I disk,I size,sl none 0 0] 112 (0,0)),owL 44 2 none 0 (zbx [])] rfl ?_;refine qb (gS (gM rR (gA rR (gA rR (qb ?_)))));refine yj b bd (⟨z.h,z.used,z.rows,z.S,z.L,z.n,z.ses++ [⟨z.next,b65,none,0,base,disk,size,[]⟩],z.mou,z.next+1⟩) bs bl so co bv rs rm ?_;exact ql (rpl b bd (⟨z.h,z.used,z.rows,z.S,z.L,z.n,z.ses++ [⟨z.next,b65,none,0,base,disk,size,[]⟩],z.mou,z.next+1⟩)::F) rfl (.inr ⟨by unfold wm;rw[if_neg hbd,if_neg (by omega),if_neg hfull],b65,rfl,rfl⟩)
theorem zaM (b bd:Nat)(z:RpM)(id:Int)(F:List HProp):Ct Tryz.prog 15 [ptr b 0,I id] ([rpl b bd z]++F) (fun v L'=>(fSe z.ses id=none∧v=yK 5∧L'=rpl b bd z::F)∨(∃e,fSe z.ses id=some e∧v=yK 0∧L'=rpl b bd (z.sess (dSe z.ses id))::F)):=by
  show Ct Tryz.prog 15 [ptr b 0,I id] (rpl b bd z::F) _;refine Ct.of func15 rR 18 ntmps15 (by simp) fun w0=>?_;refine zan b bd z ?_;intro bs bl so co bv rs rm;refine gS (gA rfl (qb (qf (gS (gM rfl (g_v (qc rfl) rfl (g_v (qa 2 underlying89 rfl rfl sizeOf86 (by decide) rfl) rfl (g_v (qe (v:= .map (some rs)) isAgg86 rfl rfl) rfl (gM rfl (g_v (yF (v:= .pointer ((fSe z.ses id).map fun e=>⟨e.a,0,none⟩)) underlying86 underlying3 zeroValue110 rfl rfl (by rw[znI];cases fSe z.ses id <;> rfl)) rfl (g_v (zgT underlying110 rfl) rfl (qb ?_))))))))))));refine qg rR (fun h11=>?_) (fun h11=>?_)
  · have hno:fSe z.ses id=none:=(by simpa using h11);refine gS (g_v (qB underlying108 rR rR) rR (gA rR (qb ?_)));refine yj b bd (z) bs bl so co bv rs rm ?_;exact ql (rpl b bd (z)::F) rfl (.inl ⟨hno,rfl,rfl⟩)
  · obtain ⟨e,hfe⟩:∃e,fSe z.ses id=some e:=Option.isSome_iff_exists.1 (by cases hq:fSe z.ses id with
      | none=>rw[hq] at h11;cases h11
      | some _=>rfl)
    obtain ⟨he,hek,hi⟩:=zkK hfe;rw[hfe];refine qh (gS (gM rR (g_v (qc rR) rR (g_v (qa 2 underlying89 rR rR sizeOf86 (by decide) rR) rR (g_v (qe (v:= .map (some rs)) isAgg86 rR rR) rR (gM rR ?_))))));refine yp (zb0 underlying86 underlying3 rR rR) ?_;rintro _ _ ⟨rfl,rfl⟩;rw[znb];refine zje (f:=seA) z.ses (dSe z.ses id) List.filter_sublist ?_;refine qb (gS (gA rR (qb ?_)));refine yj b bd (⟨z.h,z.used,z.rows,z.S,z.L,z.n,dSe z.ses id,z.mou,z.next⟩) bs bl so co bv rs rm ?_;exact ql (rpl b bd (⟨z.h,z.used,z.rows,z.S,z.L,z.n,dSe z.ses id,z.mou,z.next⟩)::F) rfl (.inr ⟨e,rfl,rfl,rfl⟩)
theorem zd7 (b bd:Nat)(z:RpM)(id:Int)(F:List HProp):Ct Tryz.prog 98 [ptr b 0,I id] ([rpl b bd z]++F) (fun v L'=>(fMo z.mou id=none∧v=yK 5∧L'=rpl b bd z::F)∨(∃e,fMo z.mou id=some e∧v=yK 0∧L'=rpl b bd (z.moun (dMo z.mou id))::F)):=by
  show Ct Tryz.prog 98 [ptr b 0,I id] (rpl b bd z::F) _;refine Ct.of func98 rR 18 ntmps98 (by simp) fun w0=>?_;refine zan b bd z ?_;intro bs bl so co bv rs rm;refine gS (gA rfl (qb (qf (gS (gM rfl (g_v (qc rfl) rfl (g_v (qa 3 underlying89 rfl rfl sizeOf87 (by decide) rfl) rfl (g_v (qe (v:= .map (some rm)) isAgg87 rfl rfl) rfl (gM rfl (g_v (yF (v:= .pointer ((fMo z.mou id).map fun e=>⟨e.a,0,none⟩)) underlying87 underlying3 zeroValue167 rfl rfl (by rw[znm];cases fMo z.mou id <;> rfl)) rfl (g_v (zgT underlying167 rfl) rfl (qb ?_))))))))))));refine qg rR (fun h11=>?_) (fun h11=>?_)
  · have hno:fMo z.mou id=none:=(by simpa using h11);refine gS (g_v (qB underlying108 rR rR) rR (gA rR (qb ?_)));refine yj b bd (z) bs bl so co bv rs rm ?_;exact ql (rpl b bd (z)::F) rfl (.inl ⟨hno,rfl,rfl⟩)
  · obtain ⟨e,hfe⟩:∃e,fMo z.mou id=some e:=Option.isSome_iff_exists.1 (by cases hq:fMo z.mou id with
      | none=>rw[hq] at h11;cases h11
      | some _=>rfl)
    obtain ⟨he,hek,hi⟩:=zlo hfe;rw[hfe];refine qh (gS (gM rR (g_v (qc rR) rR (g_v (qa 3 underlying89 rR rR sizeOf87 (by decide) rR) rR (g_v (qe (v:= .map (some rm)) isAgg87 rR rR) rR (gM rR ?_))))));refine yp (zb0 underlying87 underlying3 rR rR) ?_;rintro _ _ ⟨rfl,rfl⟩;rw[zr4];refine zje (f:=moA) z.mou (dMo z.mou id) List.filter_sublist ?_;refine qb (gS (gA rR (qb ?_)));refine yj b bd (⟨z.h,z.used,z.rows,z.S,z.L,z.n,z.ses,dMo z.mou id,z.next⟩) bs bl so co bv rs rm ?_;exact ql (rpl b bd (⟨z.h,z.used,z.rows,z.S,z.L,z.n,z.ses,dMo z.mou id,z.next⟩)::F) rfl (.inr ⟨e,rfl,rfl,rfl⟩)
theorem zeM (b bd:Nat)(z:RpM)(id:Int)(hR:Rok z)(F:List HProp):Ct Tryz.prog 97 [ptr b 0,I id] ([rpl b bd z]++F) (fun v L'=>(zbO z id≠0∧v= .tuple #[I 0,yK (zbO z id)]∧L'=rpl b bd z::F)∨(zbO z id=0∧∃a r,v= .tuple #[I z.next,yK 0]∧L'=rpl b bd (z.mounted a r id)::F)):=by
  show Ct Tryz.prog 97 [ptr b 0,I id] (rpl b bd z::F) _;obtain ⟨G0,hC⟩:=hR.con;have hlen:=hC.v.len;have hnx:=hR.next;refine Ct.of func97 rR 40 ntmps97 (by simp) fun w0=>?_;refine zan b bd z ?_;intro bs bl so co bv rs rm;refine gS (gA rR (gA rR (qb (gS (gM rR (g_v (qc rR) rR (g_v (qa 1 underlying89 rR rR sizeOf29 (by decide) rR) rR (g_v (qe (v:=ptr bv 0) isAgg29 rR rR) rR (gM rR ?_)))))))));refine g_l (qi (Pre:=[vlt bv z.S z.L z.n]) call39 rR (yz bv z.S z.L z.n id (by omega))) rR ?_;rintro _ _ ⟨rfl,rfl⟩;refine gM rR (g_v (qd (v:= .agg (yn ((yh z.L id).getD pt0)).toArray) rR rR) rR (g_v (qd (v:=Bo (yh z.L id).isSome) rR rR) rR ?_));refine g_l (qy #[I 0,I 0,I 0,I 0] zeroValue70) rR ?_;rintro _ _ ⟨b6,rfl,rfl⟩;refine yp (qq (cs:=#[I 0,I 0,I 0,I 0]) (vs:=yn (((yh z.L id).getD pt0))) (yn (((yh z.L id).getD pt0))).toArray sizeOf70 rR rR rR rR (by simp) (qv rR)) ?_;rintro _ _ rfl;refine gA rR (qb (qf (gS (gM rR (g_v (wo rR) rR (qb ?_))))));refine qg rR (fun h19=>?_) (fun h19=>?_)
  · simp at h19;refine gS (g_v (qB underlying108 rR rR) rR (gA rR (gA rR (qb ?_))));refine yj b bd (z) bs bl so co bv rs rm ?_;exact ql (rpl b bd (z)::F) rfl (have ho:zbO z id=5:=by unfold zbO;rw[h19]
      .inl ⟨by rw[ho];decide,by rw[ho];rfl,rfl⟩)
  · simp at h19;obtain ⟨p,hf⟩:=Option.isSome_iff_exists.1 h19;rw[show (yh z.L id).getD pt0=p by rw[hf];rfl];refine qh (qf (gS (gM rR (g_v (qc rR) rR (g_v (qa 3 underlying89 rR rR sizeOf87 (by decide) rR) rR (g_v (qe (v:= .map (some rm)) isAgg87 rR rR) rR (g_v (zd8 underlying87 rR) rR (g_v (wh rR rR) rR (qb ?_)))))))));refine qg rR (fun h26=>?_) (fun h26=>?_)
    · have hfull:z.mou.length=3:=(by simp[zdR] at h26;omega);refine gS (g_v (qB underlying108 rR rR) rR (gA rR (gA rR (qb ?_))));refine yj b bd (z) bs bl so co bv rs rm ?_;exact ql (rpl b bd (z)::F) rfl (have ho:zbO z id=8:=by unfold zbO;rw[hf];simp only;rw[if_pos hfull]
        .inl ⟨by rw[ho];decide,by rw[ho];rfl,rfl⟩)
    · have hfull:¬z.mou.length=3:=(by simp[zdR] at h26;omega);refine qh (gS (gM rR ?_));refine g_l (qi (Pre:=[pt b (.cells #[ptr bs 0,ptr bv 0, .map (some rs), .map (some rm),I (z.next)] 89 (0,0))]) call43 rR (zbM b (ptr bs 0) (ptr bv 0) (.map (some rs)) (.map (some rm)) z.next (by omega))) rR ?_;rintro _ _ ⟨rfl,rfl⟩;refine gA rR (qb (gS (gM rR (g_v (qc rR) rR (g_v (qa 3 underlying89 rR rR sizeOf87 (by decide) rR) rR (g_v (qe (v:= .map (some rm)) isAgg87 rR rR) rR (gM rR (gM rR ?_))))))));refine g_l (zaP) rR ?_;rintro _ _ ⟨b36,rfl,rfl⟩;refine g_v (qP rR (bldMo id b36)) rR ?_;refine g_l (wR #[I id, .map (some b36)] rfl rR) rR ?_;rintro _ _ ⟨b38,rfl,rfl⟩;refine yp (yg underlying87 underlying3 rR rR rR) ?_;rintro _ _ rfl;rw[ztK (l:=z.mou) (e:=(⟨z.next,b38,b36,id,[]⟩:MoE)) (fun x hx=>by have:=hR.keyM x hx;show x.key≠z.next;omega)];refine zm8 (f:=moA) z.mou (⟨z.next,b38,b36,id,[]⟩:MoE) [pt b38 (.cells #[I id, .map (some b36)] 170 (0,0)),mp b36 []] rfl ?_;refine qb (gS (gM rR (gA rR (gA rR (qb ?_)))));refine yj b bd (⟨z.h,z.used,z.rows,z.S,z.L,z.n,z.ses,z.mou++ [⟨z.next,b38,b36,id,[]⟩],z.next+1⟩) bs bl so co bv rs rm ?_;exact ql (rpl b bd (⟨z.h,z.used,z.rows,z.S,z.L,z.n,z.ses,z.mou++ [⟨z.next,b38,b36,id,[]⟩],z.next+1⟩)::F) rfl (.inr ⟨by unfold zbO;rw[hf];simp only;rw[if_neg hfull],b38,b36,rfl,by unfold RpM.mounted;rfl⟩)
end Go.Proofs.YthdjckbjjfiopadGreatDoor
