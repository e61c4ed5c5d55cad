/- Several texts in one: walks and rules used by them. No condition. -/
import Derived.Test.YthdjckbjjfiopadGreatDoorPartB
import Derived.Test.YthdjckbjjfiopadGreatDoorNums
import Derived.Test.YthdjckbjjfiopadGreatDoorShelf
import Derived.Test.YthdjckbjjfiopadGreatDoorPartA
import Derived.Test.YthdjckbjjfiopadGreatDoorPartD
import Derived.Test.YthdjckbjjfiopadGreatDoorPartC
set_option linter.unusedSimpArgs false
set_option linter.unusedVariables false
namespace Go.Proofs.YthdjckbjjfiopadGreatDoor
open Go.Sl Go.Proofs Go.Sort
theorem ze0 {w0:World}{L:List HProp}:∀(l:List Obj) {w:World},Sat w0 w L→Sat w0 {w with heap:=w.heap++l.toArray} L
  | [],w,h=>by simpa using h
  | o::l,w,h=>by
    have:=ze0 l (h.alloc o).tail;have e:w.heap++(o::l).toArray=w.heap.push o++l.toArray:=(by apply Array.ext';simp);rw[e];exact this
theorem zls (zs:List Int)(cs:Array Value)(k:Nat)(h:k<zs.length)(hc:zs.length≤cs.size):(putCells (Value.int .i64) 0 zs.toArray cs)[k]? =some (I zs[k]):=by
  have:k<cs.size:=(by omega);simp[putCells,this,h,I]
theorem zba (zs:List Int)(s:Option Addr)(n cap:Nat)(hn:n=zs.length)(hlt:zs.length<4611686018427387904)(F:List HProp):
    Ct Tryz.prog 73 [sl s n cap] (owL 3 1 s cap (yY zs)::F) (R1 (.tuple #[]) (owL 3 1 s cap (yY (zs.mergeSort fun x y=>decide (x≤y)))::F)):=fun w0 w hS=>by
  subst hn;rcases yP hS with ⟨rfl,hr,rfl,hS1⟩ | ⟨b,cs,rfl,h1,h2,h3,h4,hS1⟩
  · have hz:zs=[]:=(by simpa [yY] using hr);subst hz;refine (Tryz.slices_Sort_int_none none 0 w).mono ?_;rintro e w' ⟨rfl,rfl⟩;exact ⟨_,hS,rfl,by simp[List.mergeSort]⟩
  · have hb:=hS1.at_;have hlen:zs.length≤cs.size:=(by simp[yY] at h2;omega);have hH:Holds (Value.int .i64) w b 0 zs.toArray:=fun j hj=>by
      have hj':j<zs.length:=(by simpa using hj);have hc:=h4 j [I zs[j]] (by simp[yY,hj']) 0 (I zs[j]) rfl;have:=za1 hb hc;refine ⟨?_,by simp[World.frozen?,hb]⟩;simpa [hj',I] using this
    refine (Tryz.slices_Sort_int b 0 cap zs w hH (Array.getElem?_eq_some_iff.1 hb).1 hlt).mono ?_;rintro e w' ⟨rfl,m,os,rfl⟩;have hml:(zs.mergeSort fun x y=>decide (x≤y)).length=zs.length:=(by simp);have e1:putRow (Value.int .i64) (Sort.ahead w m) b 0 (zs.mergeSort fun x y=>decide (x≤y)).toArray={(Sort.ahead w m) with heap:=(Sort.ahead w m).heap.setIfInBounds b (.cells (putCells (Value.int .i64) 0 (zs.mergeSort fun x y=>decide (x≤y)).toArray cs) 3 (0,0))}:=by
      unfold putRow mapBlock;congr 1;apply Array.ext_getElem?;intro i;rw[Array.getElem?_modify,Array.getElem?_setIfInBounds];have hlt:=(Array.getElem?_eq_some_iff.1 hb).1;show (if b=i then _ else _)=_;by_cases hk:b=i
      · subst hk;have he:(Sort.ahead w m).heap[b]? =some (.cells cs 3 (0,0)):=hb;rw[if_pos rfl,if_pos rfl,he,if_pos (by exact hlt)]
        rfl
      · rw[if_neg hk,if_neg hk]
    rw[e1];have hS2:=(hS1.drew (w.drawn+m)).set (w':={(Sort.ahead w m) with heap:=(Sort.ahead w m).heap.setIfInBounds b (.cells (putCells (Value.int .i64) 0 (zs.mergeSort fun x y=>decide (x≤y)).toArray cs) 3 (0,0))}) rfl;have hS3:=ze0 os.toList hS2;refine ⟨_,wY (cap:=cap) (sz:=1) (rows:=yY (zs.mergeSort fun x y=>decide (x≤y))) hS3 (by simp[putCells,h1]) (by simp[yY] at h2 ⊢;exact h2) (by simp[yY]) ?_,rfl,rfl⟩;intro j row hj f v hf;have hj':j<(zs.mergeSort fun x y=>decide (x≤y)).length:=by
      have:=(List.getElem?_eq_some_iff.1 hj).1;simpa [yY] using this
    have hrow:row=[I (zs.mergeSort fun x y=>decide (x≤y))[j]]:=by
      simp only[yY,List.getElem?_map,List.getElem?_eq_getElem hj',Option.map_some] at hj;injection hj with hj;exact hj.symm
    subst hrow;have hf0:f=0:=by
      have:=(List.getElem?_eq_some_iff.1 hf).1;simp at this;exact this
    subst hf0;simp at hf;simp only[yl,Nat.zero_add,Nat.mul_one,Nat.add_zero];rw[zls _ _ _ hj' (by rw[hml];exact hlen),←hf]
open _root_.Go.Proofs.Tryz
open Go.Sl Go.Proofs
abbrev Bk:=List UInt8×Int
abbrev BkT:=Int→Option Bk
abbrev encB (x:Bk):Value:= .agg [Str x.1,I x.2].toArray
def plP (b:Nat)(B:BkT)(r:Nat):List HProp:=[pt b (.cells #[.map (some r)] 101 (0,0)),mp r (tb encB 40 B)]
def plb (b:Nat)(B:BkT):HProp:=hx (plP b B)
def okB (B:BkT):Prop:=sup 40 B∧∀q x,B q=some x→0<x.2∧x.2<9223372036854775807
def znV (B:BkT)(d:Bytes):Int×Int:=if 6<d.length∨d=[] then (0,3) else match zbi 40 B with | none=>(0,8) | some k=>(k,0)
def zkQ (B:BkT)(d:Bytes):BkT:=if 6<d.length∨d=[] then B else match zbi 40 B with | none=>B | some k=>qD B k (some (d,1))
def zsj (B:BkT)(q:Int):Bytes×Int:=match B q with | none=>([],5) | some x=>(x.1,0)
def zvK (B:BkT)(q:Int):Int:=if (B q).isSome then 0 else 5
def zc5 (B:BkT)(q n:Int):BkT:=match B q with | none=>B | some x=>qD B q (if x.2+n=0 then none else some (x.1,x.2+n))
theorem zq1 {ρ:Type}(B:Int→Option ρ)(k:Int)(x y:Option ρ):qD (qD B k x) k y=qD B k y:=funext fun q=>by unfold qD;split <;> rfl
section
variable {c:Cx}{E:Env}{L:List HProp}{K:List KI}
theorem zcc {F:List HProp}(b:Nat)(B:BkT)[R:Rem L (plb b B) F](k:∀r,G c K E (pt b (.cells #[.map (some r)] 101 (0,0))::mp r (tb encB 40 B)::F)):G c K E L:=zb1 (plb b B) rfl fun z=>k z
theorem wj {F:List HProp}{M:MM}(r b:Nat)(B:BkT)(h:M.Perm (tb encB 40 B))[S:Split L [pt b (.cells #[.map (some r)] 101 (0,0)),mp r M] F](k:G c K E (plb b B::F)):G c K E L:=fun a w hE hS=>by
  have h1:Sat c.w0 w (pt b (.cells #[.map (some r)] 101 (0,0))::mp r M::F):=S.sat hS;have sp:Split (mp r M::F) [] (mp r M::F):=inferInstance;refine k a w hE (Sat.hx_mk (A:=plP b B) r ?_);have r2:Rem (pt b (.cells #[.map (some r)] 101 (0,0))::mp r M::F) (mp r M) (pt b (.cells #[.map (some r)] 101 (0,0))::F):=inferInstance;have h2:=(r2.sat h1).ex;obtain ⟨⟨es,clk⟩,h2⟩:=h2;have h3:Sat c.w0 w (mp r (tb encB 40 B)::pt b (.cells #[.map (some r)] 101 (0,0))::F):=Sat.ex_mk (A:=fun p:Array MapEntry×Nat=>fun m=>MOk p.1 p.2 (tb encB 40 B)∧m r=some (.map p.1 p.2,false)) (es,clk) (h2.weak fun m hm=>⟨hm.1.perm_ h,hm.2⟩);have r3:Rem (mp r (tb encB 40 B)::pt b (.cells #[.map (some r)] 101 (0,0))::F) (pt b (.cells #[.map (some r)] 101 (0,0))) (mp r (tb encB 40 B)::F):=inferInstance;exact r3.sat h3
end
theorem lkB {B:BkT}(h:sup 40 B)(q:Int):lk (tb encB 40 B) q=(B q).map encB:=zqQ encB h q
theorem znv {got rest:MM}{k:Int}{v:Value}(h:lk got k=none):(zgC got k v++rest).Perm (got++(k,v)::rest):=by
  unfold zgC;rw[if_neg (by simp[h]),List.append_assoc];exact .refl _
theorem ziq {got rest M:MM}{k:Int}{v:Value}(hp:(got++(k,v)::rest).Perm M)(hn:(M.map (·.1)).Nodup):lk got k=none:=by
  rw[lk_none];intro p hp' e;have h1:=(hp.map (·.1)).nodup_iff.2 hn;rw[List.map_append,List.nodup_append] at h1;exact h1.2.2 p.1 (List.mem_map.2 ⟨p,hp',rfl⟩) k (by simp) e
theorem zhe (F:List HProp):Ct Tryz.prog 151 [] ([]++F) (fun v L'=>∃b,v=ptr b 0∧L'=plb b (fun _=>none)::F):=by
  show Ct Tryz.prog 151 [] (F) _;refine Ct.of func151 rR 4 ntmps151 (by simp) fun w0=>?_;refine gS (gA rR (qb (gS ?_)));refine g_l (zaP) rR ?_;rintro _ _ ⟨b1,rfl,rfl⟩;refine g_v (qP rR (ztn _ rR)) rR ?_;refine g_l (wR #[.map (some b1)] rfl rR) rR ?_;rintro _ _ ⟨b3,rfl,rfl⟩;refine gA rR (qb ?_);refine wj b1 b3 (fun _=>none) (by rw[zcI]) ?_;exact fun a w hE hS=>wp_ret (yb (qw (vs:=[ptr b3 0]) rfl hE hS ⟨b3,rfl,rfl⟩))
theorem zf8 (b:Nat)(B:BkT)(id:Int)(hB:okB B)(F:List HProp):Ct Tryz.prog 112 [ptr b 0,I id] ([plb b B]++F) (R1 (.tuple #[Str (zsj B id).1,zbV 108 (zsj B id).2]) (plb b B::F)):=by
  show Ct Tryz.prog 112 [ptr b 0,I id] (plb b B::F) _;refine Ct.of func112 rR 22 ntmps112 (by simp) fun w0=>?_;refine zcc b (B) ?_;intro r;refine gS (gA rR (gA rR (qb (gS (gM rR (g_v (qc rR) rR (g_v (qa 0 underlying101 rR rR sizeOf99 (by decide) rR) rR (g_v (qe isAgg99 rR rR) rR (gM rR ?_)))))))));rcases hB0:B id with _ | ⟨d,n⟩
  · have hlk:(lk (tb encB 40 B) id).getD (.agg #[Str [],I 0])= .agg #[Str [],I 0]:=(by rw[lkB hB.1,hB0];rfl);have hls:(lk (tb encB 40 B) id).isSome=false:=(by rw[lkB hB.1,hB0];rfl);refine g_v (zaJ (M:=tb encB 40 B) (q:=id) underlying99 underlying3 zeroValue98 rR rR hlk hls) rR (gM rR (g_v (qd rR rR) rR (g_v (qd rR rR) rR ?_)));refine g_l (qy #[Str [],I 0] zeroValue98) rR ?_;rintro _ _ ⟨b6,rfl,rfl⟩;refine yp (qq _ sizeOf98 rR rR rR rR (by decide) rR) ?_;rintro _ _ rfl;refine gA rR (qb (qf (gS (gM rR (g_v (wo rR) rR (qb ?_))))));refine wV rR ?_;refine gS (g_v (qB underlying108 rR rR) rR (gA rR (gA rR (qb ?_))));refine wj r b (B) (.refl _) ?_;exact qn rfl rfl (by unfold zsj;rw[hB0];rfl)
  · have hlk:(lk (tb encB 40 B) id).getD (.agg #[Str [],I 0])= .agg #[Str d,I n]:=(by rw[lkB hB.1,hB0];rfl);have hls:(lk (tb encB 40 B) id).isSome=true:=(by rw[lkB hB.1,hB0];rfl);have hn:=hB.2 id _ hB0;have hq:=hB.1 id _ hB0;simp only at hn;refine g_v (zaJ (M:=tb encB 40 B) (q:=id) underlying99 underlying3 zeroValue98 rR rR hlk hls) rR (gM rR (g_v (qd rR rR) rR (g_v (qd rR rR) rR ?_)));refine g_l (qy #[Str [],I 0] zeroValue98) rR ?_;rintro _ _ ⟨b6,rfl,rfl⟩;refine yp (qq _ sizeOf98 rR rR rR rR (by decide) rR) ?_;rintro _ _ rfl;refine gA rR (qb (qf (gS (gM rR (g_v (wo rR) rR (qb ?_))))));refine yR rR ?_;refine qh (gS (g_v (qa 0 underlying98 rR rR sizeOf9 (by decide) rR) rR (g_v (qe isAgg9 rR rR) rR (gA rR (gA rR (qb ?_))))));refine wj r b (B) (.refl _) ?_;exact qn rfl rfl (by unfold zsj;rw[hB0];rfl)
theorem zf3 (b:Nat)(B:BkT)(id:Int)(hB:okB B)(F:List HProp):Ct Tryz.prog 174 [ptr b 0,I id] ([plb b B]++F) (R1 (zbV 108 (zvK B id)) (plb b (zc5 B id 1)::F)):=by
  show Ct Tryz.prog 174 [ptr b 0,I id] (plb b B::F) _;refine Ct.of func174 rR 29 ntmps174 (by simp) fun w0=>?_;refine zcc b (B) ?_;intro r;refine gS (gA rR (qb (gS (gM rR (g_v (qc rR) rR (g_v (qa 0 underlying101 rR rR sizeOf99 (by decide) rR) rR (g_v (qe isAgg99 rR rR) rR (gM rR ?_))))))));rcases hB0:B id with _ | ⟨d,n⟩
  · have hlk:(lk (tb encB 40 B) id).getD (.agg #[Str [],I 0])= .agg #[Str [],I 0]:=(by rw[lkB hB.1,hB0];rfl);have hls:(lk (tb encB 40 B) id).isSome=false:=(by rw[lkB hB.1,hB0];rfl);refine g_v (zaJ (M:=tb encB 40 B) (q:=id) underlying99 underlying3 zeroValue98 rR rR hlk hls) rR (gM rR (g_v (qd rR rR) rR (g_v (qd rR rR) rR ?_)));refine g_l (qy #[Str [],I 0] zeroValue98) rR ?_;rintro _ _ ⟨b5,rfl,rfl⟩;refine yp (qq _ sizeOf98 rR rR rR rR (by decide) rR) ?_;rintro _ _ rfl;refine gA rR (qb (qf (gS (gM rR (g_v (wo rR) rR (qb ?_))))));refine wV rR ?_;refine gS (g_v (qB underlying108 rR rR) rR (gA rR (qb ?_)));refine wj r b (B) (.refl _) ?_;have e:plb b B=plb b (zc5 B id 1):=(by unfold zc5;rw[hB0]);rw[e];exact qn rfl rfl (by unfold zvK;rw[hB0];rfl)
  · have hlk:(lk (tb encB 40 B) id).getD (.agg #[Str [],I 0])= .agg #[Str d,I n]:=(by rw[lkB hB.1,hB0];rfl);have hls:(lk (tb encB 40 B) id).isSome=true:=(by rw[lkB hB.1,hB0];rfl);have hn:=hB.2 id _ hB0;have hq:=hB.1 id _ hB0;simp only at hn;refine g_v (zaJ (M:=tb encB 40 B) (q:=id) underlying99 underlying3 zeroValue98 rR rR hlk hls) rR (gM rR (g_v (qd rR rR) rR (g_v (qd rR rR) rR ?_)));refine g_l (qy #[Str [],I 0] zeroValue98) rR ?_;rintro _ _ ⟨b5,rfl,rfl⟩;refine yp (qq #[Str d,I n] sizeOf98 rR rR rR rR (by decide) rR) ?_;rintro _ _ rfl;refine gA rR (qb (qf (gS (gM rR (g_v (wo rR) rR (qb ?_))))));refine yR rR ?_;refine qh (gS (g_v (qa 1 underlying98 rR rR sizeOf3 (by decide) rR) rR (g_v (qe isAgg3 rR rR) rR (g_v (qu rR rR (w64 (by omega))) rR (g_v (qa 1 underlying98 rR rR sizeOf3 (by decide) rR) rR ?_)))));refine yp (qH #[Str d,I (n+1)] sizeOf3 rR rR rR (by simp) rR) ?_;rintro _ _ rfl;refine qb (qf ?_);refine yw (Lf:=[pt b (.cells #[.map (some r)] 101 (0,0)),pt b5 (.cells #[Str d,I (n+1)] 98 (0,0))]) [(0,false),(1,false),(2,false),(3,false),(4,false),(5,false),(6,true)] (by kernel_rfl) (by kernel_rfl) rR (by kernel_rfl) ?_;refine dM rR rR rR (d_v rR (qc rR) rR (d_v rR (qa 0 underlying101 rR rR sizeOf99 (by decide) rR) rR (d_v rR (qe isAgg99 rR rR) rR (dM rR rR rR (d_v rR (qI (vs:=[Str d,I (n+1)]) isAgg98 sizeOf98 rR rR qR) rR ?_)))));refine zoK rR (yg underlying99 underlying3 rR rR rR) ?_;rintro _ _ rfl;refine yc ?_;refine gS (gA rR (qb ?_));refine wj r b (qD B id (some (d,n+1))) (zed encB (x:=(d,n+1)) hq) ?_;have e:zc5 B id 1=qD B id (some (d,n+1)):=(by unfold zc5;rw[hB0];simp only;rw[if_neg (by omega)]);rw[←e];exact qn rfl rfl (by unfold zvK;rw[hB0];rfl)
theorem zb8 (b:Nat)(B:BkT)(id:Int)(hB:okB B)(F:List HProp):Ct Tryz.prog 125 [ptr b 0,I id] ([plb b B]++F) (R1 (zbV 108 (zvK B id)) (plb b (zc5 B id (-1))::F)):=by
  show Ct Tryz.prog 125 [ptr b 0,I id] (plb b B::F) _;refine Ct.of func125 rR 37 ntmps125 (by simp) fun w0=>?_;refine zcc b (B) ?_;intro r;refine gS (gA rR (qb (gS (gM rR (g_v (qc rR) rR (g_v (qa 0 underlying101 rR rR sizeOf99 (by decide) rR) rR (g_v (qe isAgg99 rR rR) rR (gM rR ?_))))))));rcases hB0:B id with _ | ⟨d,n⟩
  · have hlk:(lk (tb encB 40 B) id).getD (.agg #[Str [],I 0])= .agg #[Str [],I 0]:=(by rw[lkB hB.1,hB0];rfl);have hls:(lk (tb encB 40 B) id).isSome=false:=(by rw[lkB hB.1,hB0];rfl);refine g_v (zaJ (M:=tb encB 40 B) (q:=id) underlying99 underlying3 zeroValue98 rR rR hlk hls) rR (gM rR (g_v (qd rR rR) rR (g_v (qd rR rR) rR ?_)));refine g_l (qy #[Str [],I 0] zeroValue98) rR ?_;rintro _ _ ⟨b5,rfl,rfl⟩;refine yp (qq _ sizeOf98 rR rR rR rR (by decide) rR) ?_;rintro _ _ rfl;refine gA rR (qb (qf (gS (gM rR (g_v (wo rR) rR (qb ?_))))));refine wV rR ?_;refine gS (g_v (qB underlying108 rR rR) rR (gA rR (qb ?_)));refine wj r b (B) (.refl _) ?_;have e:plb b B=plb b (zc5 B id (-1)):=(by unfold zc5;rw[hB0]);rw[e];exact qn rfl rfl (by unfold zvK;rw[hB0];rfl)
  · have hlk:(lk (tb encB 40 B) id).getD (.agg #[Str [],I 0])= .agg #[Str d,I n]:=(by rw[lkB hB.1,hB0];rfl);have hls:(lk (tb encB 40 B) id).isSome=true:=(by rw[lkB hB.1,hB0];rfl);have hn:=hB.2 id _ hB0;have hq:=hB.1 id _ hB0;simp only at hn;refine g_v (zaJ (M:=tb encB 40 B) (q:=id) underlying99 underlying3 zeroValue98 rR rR hlk hls) rR (gM rR (g_v (qd rR rR) rR (g_v (qd rR rR) rR ?_)));refine g_l (qy #[Str [],I 0] zeroValue98) rR ?_;rintro _ _ ⟨b5,rfl,rfl⟩;refine yp (qq #[Str d,I n] sizeOf98 rR rR rR rR (by decide) rR) ?_;rintro _ _ rfl;refine gA rR (qb (qf (gS (gM rR (g_v (wo rR) rR (qb ?_))))));refine yR rR ?_;refine qh (gS (g_v (qa 1 underlying98 rR rR sizeOf3 (by decide) rR) rR (g_v (qe isAgg3 rR rR) rR (g_v (zce rR rR (w64 (by omega))) rR (g_v (qa 1 underlying98 rR rR sizeOf3 (by decide) rR) rR ?_)))));refine yp (qH #[Str d,I (n - 1)] sizeOf3 rR rR rR (by simp) rR) ?_;rintro _ _ rfl;refine qb (qf ?_);refine yw (Lf:=[pt b (.cells #[.map (some r)] 101 (0,0)),pt b5 (.cells #[Str d,I (n - 1)] 98 (0,0))]) [(0,false),(1,false),(2,false),(3,false),(4,false),(5,false),(6,true)] (by kernel_rfl) (by kernel_rfl) rR (by kernel_rfl) ?_;refine dM rR rR rR (d_v rR (qc rR) rR (d_v rR (qa 0 underlying101 rR rR sizeOf99 (by decide) rR) rR (d_v rR (qe isAgg99 rR rR) rR (dM rR rR rR (d_v rR (qI (vs:=[Str d,I (n - 1)]) isAgg98 sizeOf98 rR rR qR) rR ?_)))));refine zoK rR (yg underlying99 underlying3 rR rR rR) ?_;rintro _ _ rfl;refine yc ?_;refine qf (gS (g_v (qa 1 underlying98 rR rR sizeOf3 (by decide) rR) rR (g_v (qe isAgg3 rR rR) rR (g_v (wh rR rR) rR (qb ?_)))));refine qg rR (fun h31=>?_) (fun h31=>?_)
    · simp at h31;refine zga r (tb encB 40 (qD B id (some (d,n - 1)))) (zed encB (x:=(d,n - 1)) hq) ?_;refine qo (gM rR (g_v (qc rR) rR (g_v (qa 0 underlying101 rR rR sizeOf99 (by decide) rR) rR (g_v (qe isAgg99 rR rR) rR (gM rR ?_)))));refine yp (zb0 underlying99 underlying3 rR rR) ?_;rintro _ _ ⟨rfl,rfl⟩;refine qb (gS (gA rR (qb ?_)));refine zga r (tb encB 40 (qD B id none)) (by rw[←zq1 B id (some (d,n - 1)) none];exact zyn encB) ?_;refine wj r b (qD B id none) (.refl _) ?_;have e:zc5 B id (-1)=qD B id none:=(by unfold zc5;rw[hB0];simp only;rw[if_pos (by omega)]);rw[←e];exact qn rfl rfl (by unfold zvK;rw[hB0];rfl)
    · simp at h31;refine qh (gS (gA rR (qb ?_)));refine wj r b (qD B id (some (d,n - 1))) (zed encB (x:=(d,n - 1)) hq) ?_;have e:zc5 B id (-1)=qD B id (some (d,n - 1)):=(by unfold zc5;rw[hB0];simp only;rw[if_neg (by omega)];rfl);rw[←e];exact qn rfl rfl (by unfold zvK;rw[hB0];rfl)
theorem zfu (b:Nat)(B:BkT)(F:List HProp):Ct Tryz.prog 113 [ptr b 0] ([plb b B]++F) (fun v L'=>∃q,v=ptr q 0∧L'=plb q (B)::plb b B::F):=by
  show Ct Tryz.prog 113 [ptr b 0] (plb b B::F) _;refine Ct.of func113 rR 24 ntmps113 (by simp) fun w0=>?_;refine zcc b (B) ?_;intro r;refine gS (gA rR (qb (gS ?_)));refine g_l (qi (Pre:=[]) call151 rR zhe) rR ?_;rintro _ _ ⟨q,rfl,rfl⟩;refine gA rR (qb ?_);refine zcc q (fun _=>none) ?_;intro r2;refine zga r2 [] (by rw[zcI]) ?_;refine zaj r ?_;intro es clk;refine qf (gS (gM rR (g_v (qc rR) rR (g_v (qa 0 underlying101 rR rR sizeOf99 (by decide) rR) rR (g_v (qe isAgg99 rR rR) rR ?_)))));refine g_l (zbq underlying99 rR) rR ?_;rintro _ _ ⟨b11,rfl,rfl⟩;refine qb (qj ?_);refine qE (α:=MM×MM×Option (Int×Value)) (fun z=>(z.2.1++z.1).Perm (tb encB 40 B)) (fun _=>U [(0,ptr b 0),(3,ptr q 0),(11,ptr b11 0)]) (fun z=>mit b11 r es clk z.1 z.2.2::mpE r es clk (tb encB 40 B)::pt b (.cells #[.map (some r)] 101 (0,0))::pt q (.cells #[.map (some r2)] 101 (0,0))::mp r2 z.2.1::F) (fun z=>z.1.length) (tb encB 40 B,[],none) (.refl _) [0,3,11] rfl rR ?_;rintro ⟨rest,got,cur⟩ hp;simp only at hp;refine gS ?_;refine g_l (zcT rR) rR ?_;rintro _ _ (⟨hr,rfl,rfl⟩ | ⟨⟨k,v⟩,rest',hq,rfl,rfl⟩)
  · subst hr;have hg:got.Perm (tb encB 40 B):=(by simpa using hp);refine g_v (qd rR rR) rR (qb (qf ?_));refine yR rR ?_;refine qz rR ?_;refine gS (gM rR (gA rR (qb ?_)));refine wj r2 q (B) (hg) ?_;refine qL r ?_;refine wj r b (B) (.refl _) ?_;refine zbI (L2:=plb q B::plb b B::F) ?_;exact fun a w hE hS=>wp_ret (yb (qw (vs:=[ptr q 0]) rfl hE hS ⟨q,rfl,rfl⟩))
  · obtain ⟨x,hx,hv,hk⟩:=zio (hp.mem_iff.1 (List.mem_append_right _ (hq.mem_iff.2 (List.mem_cons_self ..))));simp only at hv hk hx;subst hv;have hp2:(got++(k,encB x)::rest').Perm (tb encB 40 B):=(hq.append_left got).symm.trans hp;have hl:=ziq hp2 (zby encB 40 B);refine g_v (qd rR rR) rR (qb (qf ?_));refine wV rR ?_;refine qh (qj (gS (g_v (zbs rR) rR (g_v (qd (v:=I k) rR rR) rR (g_v (qd (v:=encB x) rR rR) rR ?_)))));refine g_l (qy #[Str [],I 0] zeroValue98) rR ?_;rintro _ _ ⟨b5,rfl,rfl⟩;refine gA rR ?_;refine yp (qq (vs:=[Str x.1,I x.2]) #[Str x.1,I x.2] sizeOf98 rR rR rR rR (by decide) rR) ?_;rintro _ _ rfl;refine qb ?_;refine yw (Lf:=[pt q (.cells #[.map (some r2)] 101 (0,0)),pt b5 (.cells #[Str x.1,I x.2] 98 (0,0))]) [(0,false),(1,false),(2,false),(3,false),(4,false),(5,false),(6,true)] (by kernel_rfl) (by kernel_rfl) rR (by kernel_rfl) ?_;refine dM rR rR rR (d_v rR (qc rR) rR (d_v rR (qa 0 underlying101 rR rR sizeOf99 (by decide) rR) rR (d_v rR (qe isAgg99 rR rR) rR (dM rR rR rR (d_v rR (qI (vs:=[Str x.1,I x.2]) isAgg98 sizeOf98 rR rR qR) rR ?_)))));refine zoK rR (yg underlying99 underlying3 rR rR rR) ?_;rintro _ _ rfl;refine yc ?_;refine qF ?_;refine qm (rest',zgC got k (encB x),some (k,encB x)) ((znv hl).trans hp2) (by have:=hq.length_eq;simp at this;simp;omega) [0,3,11] rfl rfl
theorem zhq (b:Nat)(B:BkT)(F:List HProp):Ct Tryz.prog 40 [ptr b 0] ([plb b B]++F) (RSl 3 1 (ids 40 B).length (yY (ids 40 B)) (plb b B::F)):=by
  show Ct Tryz.prog 40 [ptr b 0] (plb b B::F) _;refine Ct.of func40 rR 21 ntmps40 (by simp) fun w0=>?_;refine zcc b (B) ?_;intro r;refine zaj r ?_;intro es clk;refine yG 3 1 (yY []) rR ?_;refine gS (gA rR (qb (gS (gA rR (qb (qf (gS (gM rR (g_v (qc rR) rR (g_v (qa 0 underlying101 rR rR sizeOf99 (by decide) rR) rR (g_v (qe isAgg99 rR rR) rR ?_)))))))))));refine g_l (zbq underlying99 rR) rR ?_;rintro _ _ ⟨b9,rfl,rfl⟩;refine qb (qj ?_);refine qE (α:=MM×List Int×Option (Int×Value)×Option Addr×Nat) (fun z=>(z.2.1++z.1.map (·.1)).Perm (ids 40 B)) (fun z=>U [(0,ptr b 0),(9,ptr b9 0),(3,sl z.2.2.2.1 z.2.1.length z.2.2.2.2)]) (fun z=>mit b9 r es clk z.1 z.2.2.1::mpE r es clk (tb encB 40 B)::pt b (.cells #[.map (some r)] 101 (0,0))::owL 3 1 z.2.2.2.1 z.2.2.2.2 (yY z.2.1)::F) (fun z=>z.1.length) (tb encB 40 B,[],none,none,0) (by rw[List.nil_append,zds]) [0,9,3] rfl rR ?_;rintro ⟨rest,zs,cur,s,c⟩ hp;simp only[] at hp ⊢;have hzl:zs.length≤40:=(by have h1:=hp.length_eq;have h2:=zaI 40 B;simp at h1;omega);refine gS ?_;refine g_l (zcT rR) rR ?_;rintro _ _ (⟨hr,rfl,rfl⟩ | ⟨⟨k,v⟩,rest',hq,rfl,rfl⟩)
  · subst hr;simp only[List.map_nil,List.append_nil] at hp;refine g_v (qd rR rR) rR (qb (qf ?_));refine yR rR ?_;refine qz rR ?_;refine gS (gM rR ?_);refine g_l (qi (Pre:=[owL 3 1 s c (yY zs)]) call73 rR (zba zs s zs.length c rR (by omega))) rR ?_;rintro _ _ ⟨rfl,rfl⟩;rw[zgw hp];refine qb (gS (gM rR (gA rR (qb ?_))));refine qL r ?_;refine wj r b (B) (.refl _) ?_;exact wx rfl rfl rfl (by rw[hp.length_eq])
  · have hp2:(zs++k::rest'.map (·.1)).Perm (ids 40 B):=by
        have h1:=((hq.map (·.1)).append_left zs).symm.trans hp;simpa using h1
    refine g_v (qd rR rR) rR (qb (qf ?_));refine wV rR ?_;refine qh (qj (gS (g_v (zbs rR) rR (g_v (qd (v:=I k) rR rR) rR (gA rR (qb (qo (gM rR (gM rR ?_)))))))));refine g_l (qs [[I k]] underlying61 sizeOf3 zeroValue3 rR rR rR (by simp) (by decide) (by decide)) rR ?_;rintro _ _ ⟨b16,rfl,rfl⟩;refine g_l (yC underlying61 sizeOf3 zeroValue3 rfl Tryz.typeInfo3 (by decide) rfl rfl (wu _) rfl (by simp) (by intro r hr;simp at hr;subst hr;rfl) ⟨by omega,by decide,by decide⟩) rfl ?_;rintro _ _ ⟨s17,c17,rfl,rfl⟩;refine gA rR (qb (qF ?_));rw[show yY zs++ [[I k]]=yY (zs++ [k]) by simp[yY]];refine qm (rest',zs++ [k],some (k,v),s17,c17) (by simpa using hp2) (by have:=hq.length_eq;simp at this;simp;omega) [0,9,3] rfl (by simp[U])
theorem zf0 (b:Nat)(B:BkT)(d:Bytes)(hB:okB B)(hd:d.length≤9223372036854775807)(F:List HProp):Ct Tryz.prog 173 [ptr b 0,Str d] ([plb b B]++F) (R1 (.tuple #[I (znV B d).1,zbV 108 (znV B d).2]) (plb b (zkQ B d)::F)):=by
  show Ct Tryz.prog 173 [ptr b 0,Str d] (plb b B::F) _;refine Ct.of func173 rR 40 ntmps173 (by simp) fun w0=>?_;refine gS (gA rR (gA rR (qb (qf (gS (gM rR (g_v (wi underlying9 rR) rR (g_v (yA rR rR) rR (gM rR (qK rR rR (fun hg=>qp rR) rR rR (qK rR rR (fun hg=>zaF rR rR) rR rR (g_v (zaH rR rR) rR (qb ?_)))))))))))));refine qg rR (fun h13=>?_) (fun h13=>?_)
  · simp at h13;have h13':6<d.length∨d=[]:=h13.imp (fun h=>by omega) id;refine gS (g_v (qB underlying108 rR rR) rR (gA rR (gA rR (qb ?_))));have e1:znV B d=(0,3):=(by unfold znV;rw[if_pos h13']);have e2:zkQ B d=B:=(by unfold zkQ;rw[if_pos h13']);rw[e1,e2];exact qn rfl rfl rfl
  · simp at h13;have h13':¬(6<d.length∨d=[]):=fun h=>h.elim (fun h=>by omega) h13.2;refine qh (qf (qf ?_));refine zcc b (B) ?_;intro r;refine qo (gM rR (g_v (qc rR) rR (g_v (qa 0 underlying101 rR rR sizeOf99 (by decide) rR) rR (g_v (qe (v:= .map (some r)) isAgg99 rR rR) rR (g_v (zd8 underlying99 rR) rR (g_v (wh rR rR) rR (qb ?_)))))));refine qg rR (fun h20=>?_) (fun h20=>?_)
    · simp at h20;rw[zaQ] at h20;have hfr:=full_iff.1 (show (ids 40 B).length=40 by omega);refine gS (g_v (qB underlying108 rR rR) rR (gA rR (gA rR (qb ?_))));have e1:znV B d=(0,8):=(by unfold znV;rw[if_neg h13',hfr]);have e2:zkQ B d=B:=(by unfold zkQ;rw[if_neg h13',hfr]);rw[e1,e2];refine wj r b (B) (.refl _) ?_;exact qn rfl rfl rfl
    · simp at h20;rw[zaQ] at h20;obtain ⟨m,hm⟩:=zhN (n:=40) (B:=B) (by omega);have hf:=zbm hm;refine qh (gS (gA rR (qb (qf (qj ?_)))));refine qE (α:=Nat) (fun k=>1≤k∧k≤m) (fun k=>U [(0,ptr b 0),(1,Str d),(6,I k)]) (fun _=>pt b (.cells #[.map (some r)] 101 (0,0))::mp r (tb encB 40 B)::F) (fun k=>m - k) 1 ⟨by omega,by omega⟩ [0,1,6] rfl rR ?_;intro k h0;obtain ⟨e,n,hlk,hnk⟩:∃e n,(lk (tb encB 40 B) (k:Int)).getD (.agg #[Str [],I 0])= .agg [Str e,I n].toArray∧(0<n ↔ k<m):=by
        rcases hB0:B (k:Int) with _ | ⟨e,n⟩
        · exact ⟨[],0,by rw[lkB hB.1,hB0];rfl,by simp;exact (Nat.lt_or_ge k m).elim (fun h=>by have:=hf.2.2 k h0.1 h;rw[hB0] at this;cases this) id⟩
        · exact ⟨e,n,by rw[lkB hB.1,hB0];rfl,by
            have h1:=hB.2 k _ hB0;simp only at h1;have h2:k≠m:=fun e=>(by rw[e,hf.2.1] at hB0;cases hB0);omega⟩
      refine qf (gS (gM rR (g_v (qc rR) rR (g_v (qa 0 underlying101 rR rR sizeOf99 (by decide) rR) rR (g_v (qe isAgg99 rR rR) rR (gM rR (g_v (yF (v:= .agg [Str e,I n].toArray) underlying99 underlying3 zeroValue98 rR rR hlk) rR (g_v (zrT (v:=I n) underlying98 rR isAgg3 rR rR) rR (g_v (yA rR rR) rR (qb ?_))))))))));refine qg rR (fun h29=>?_) (fun h29=>?_)
      · simp at h29;refine qh (qj (qo (gM rR (g_v (qu rR rR (w64 (by omega))) rR (gA rR (qb (qF ?_)))))));exact qm (k+1) ⟨by omega,by omega⟩ (by omega) [0,1,6] rfl rfl
      · simp at h29;obtain rfl:k=m:=(by omega);refine qz rR ?_;refine gS (gM rR (g_v (qc rR) rR (g_v (qa 0 underlying101 rR rR sizeOf99 (by decide) rR) rR (g_v (qe isAgg99 rR rR) rR (gM rR (gM rR (g_v (qP rR (zkU _ rR _ rR)) rR ?_)))))));refine yp (yg underlying99 underlying3 rR rR rR) ?_;rintro _ _ rfl;refine qb (gS (gM rR (gA rR (gA rR (qb ?_)))));have e1:znV B d=((k:Int),0):=(by unfold znV;rw[if_neg h13',hm]);have e2:zkQ B d=qD B k (some (d,1)):=(by unfold zkQ;rw[if_neg h13',hm]);rw[e1,e2];refine wj r b (qD B k (some (d,1))) (zed encB (x:=(d,1)) (by omega)) ?_;exact qn rfl rfl rfl
structure Nd where
  k0:Int
  k1:Int
  k2:Int
  k3:Int
  refs:Int
deriving DecidableEq
abbrev NdT:=Int→Option Nd
structure SI where
  B:BkT
  N:NdT
abbrev ndC (n:Nd):List Value:=[I n.k0,I n.k1,I n.k2,I n.k3,I n.refs]
abbrev yQ (n:Nd):Value:= .agg (ndC n).toArray
def kd (n:Nd):List Int:=[n.k0,n.k1,n.k2,n.k3]
abbrev kdC (n:Nd):List Value:=[I n.k0,I n.k1,I n.k2,I n.k3]
def kat (n:Nd)(i:Nat):Int:=match i with | 0=>n.k0 | 1=>n.k1 | 2=>n.k2 | _=>n.k3
def zwP (n:Nd)(i:Nat)(x:Int):Nd:=match i with | 0=>{n with k0:=x} | 1=>{n with k1:=x} | 2=>{n with k2:=x} | _=>{n with k3:=x}
def nd0:Nd:=⟨0,0,0,0,0⟩
def gN (N:NdT)(q:Int):Nd:=(N q).getD nd0
def rf (n:Nd)(r:Int):Nd:=⟨n.k0,n.k1,n.k2,n.k3,r⟩
def zif (N:NdT)(q:Int):NdT:=qD N q (some (rf (gN N q) ((gN N q).refs+1)))
def zcA (leaf:Bool)(S:SI)(k:Int):SI:=if k=0 then S else if leaf=true then ⟨zc5 S.B k 1,S.N⟩ else ⟨S.B,zif S.N k⟩
def zbe (S:SI)(k:Int):SI:=if k=0 then S else ⟨zc5 S.B k (-1),S.N⟩
def unX (f:SI→Int→SI)(S:SI)(q:Int):SI:=if q=0 then S else if 0<(gN S.N q).refs - 1 then ⟨S.B,qD S.N q (some (rf (gN S.N q) ((gN S.N q).refs - 1)))⟩ else (kd (gN S.N q)).foldl f ⟨S.B,qD S.N q none⟩
def unL:SI→Int→SI:=unX zbe
def unR:SI→Int→SI:=unX unL
def zap (n:Nd):Prop:=n.k0=0∧n.k1=0∧n.k2=0∧n.k3=0
instance (n:Nd):Decidable (zap n):=by unfold zap;infer_instance
def yE (S:SI)(n:Nd):Int×Int:=if zap n then (0,0) else match zbi 24 S.N with | none=>(0,8) | some k=>(k,0)
def yq (leaf:Bool)(S:SI)(n:Nd):SI:=if zap n then S else match zbi 24 S.N with | none=>S | some k=>(kd n).foldl (zcA leaf) ⟨S.B,qD S.N k (some (rf n 1))⟩
def zcj (S:SI)(root:Int)(at_:Nat):Bytes:=(zsj S.B (kat (gN S.N (kat (gN S.N root) (at_ / 4))) (at_ % 4))).1
def zbf (S:SI)(q:Int):SI:=if 0<q then ⟨S.B,zif S.N q⟩ else S
def qt (S:SI)(d:Bytes):Int×Int:=if d=[] then (0,0) else znV S.B d
def qk (S:SI)(d:Bytes):SI:=if d=[] then S else ⟨zkQ S.B d,S.N⟩
def wn (S:SI)(root:Int)(at_:Nat)(b:Int):Nd:=zwP (gN S.N (kat (gN S.N root) (at_ / 4))) (at_ % 4) b
def zc6 (S:SI)(root:Int)(at_:Nat)(leaf:Int):Nd:=zwP (gN S.N root) (at_ / 4) leaf
def unB (S:SI)(b:Int):SI:=if 0<b then ⟨zc5 S.B b (-1),S.N⟩ else S
def zc7 (S:SI)(root:Int)(at_:Nat)(d:Bytes):Int×Int:=
  let b:=qt S d;let S1:=qk S d
  if b.2≠0 then (0,b.2) else
  let l:=yE S1 (wn S1 root at_ b.1);let S2:=yq true S1 (wn S1 root at_ b.1)
  if l.2≠0 then (0,l.2) else
  let S3:=unB S2 b.1
  let o:=yE S3 (zc6 S1 root at_ l.1)
  if o.2≠0 then (0,o.2) else (o.1,0)
def zjd (S:SI)(root:Int)(at_:Nat)(d:Bytes):SI:=
  let b:=qt S d;let S1:=qk S d
  if b.2≠0 then S1 else
  let l:=yE S1 (wn S1 root at_ b.1);let S2:=yq true S1 (wn S1 root at_ b.1)
  if l.2≠0 then S2 else
  let S3:=unB S2 b.1
  let o:=yE S3 (zc6 S1 root at_ l.1);let S4:=yq false S3 (zc6 S1 root at_ l.1)
  if o.2≠0 then S4 else unL S4 l.1
def okS (m:Int)(S:SI):Prop:=sup 40 S.B∧(∀q x,S.B q=some x→0<x.2∧x.2≤m)∧sup 24 S.N∧∀q n,S.N q=some n→0<n.refs∧n.refs≤m
theorem zg2 {m:Int}{S:SI}(h:okS m S)(hm:m≤1000000):okB S.B:=⟨h.1,fun q x e=>by have:=h.2.1 q x e;omega⟩
theorem zcF {m m':Int}{S:SI}(h:okS m S)(hm:m≤m'):okS m' S:=⟨h.1,fun q x e=>by have:=h.2.1 q x e;omega,h.2.2.1,fun q n e=>by have:=h.2.2.2 q n e;omega⟩
theorem ziZ {m:Int}{S:SI}(h:okS m S)(h0:0≤m)(q:Int):0≤(gN S.N q).refs∧(gN S.N q).refs≤m:=by
  unfold gN;cases e:S.N q with
  | none=>simp[nd0];exact h0
  | some n=>have:=h.2.2.2 q n e;simp;omega
theorem zdF {m:Int}{S:SI}(h:okS m S){q:Int}{x:Option Nd}(hq:x.isSome=true→1≤q∧q≤24)(hx:∀n,x=some n→0<n.refs∧n.refs≤m):okS m ⟨S.B,qD S.N q x⟩:=
  ⟨h.1,h.2.1,zbU h.2.2.1 hq,fun p n e=>by
    change qD S.N q x p=some n at e;unfold qD at e;split at e
    · exact hx n e
    · exact h.2.2.2 p n e⟩
theorem zn0 {m:Int}{S:SI}(h:okS m S)(q:Int){n:Int}(hn:n=1∨n= -1):okS (m+1) ⟨zc5 S.B q n,S.N⟩:=by
  refine ⟨?_,?_,h.2.2.1,fun p x e=>by have:=h.2.2.2 p x e;omega⟩
  · show sup 40 (zc5 S.B q n);unfold zc5;cases e:S.B q with
    | none=>exact h.1
    | some x=>exact zbU h.1 fun _=>h.1 q x e
  · intro p x e;change zc5 S.B q n p=some x at e;unfold zc5 at e;cases e2:S.B q with
    | none=>rw[e2] at e;have:=h.2.1 p x e;omega
    | some y=>
      rw[e2] at e;unfold qD at e;simp only at e;split at e
      · split at e
        · cases e
        · rename_i h1 h2;injection e with e;subst e;have:=h.2.1 q y e2;simp only;omega
      · have:=h.2.1 p x e;omega
theorem znd {m:Int}{S:SI}(h:okS m S)(q:Int):okS m ⟨zc5 S.B q (-1),S.N⟩:=by
  have h1:=zn0 h q (n:= -1) (.inr rfl);refine ⟨h1.1,fun p x e=>?_,h.2.2.1,h.2.2.2⟩;have h2:=h1.2.1 p x e;refine ⟨h2.1,?_⟩;change zc5 S.B q (-1) p=some x at e;unfold zc5 at e;cases e2:S.B q with
  | none=>rw[e2] at e;exact (h.2.1 p x e).2
  | some y=>
    rw[e2] at e;unfold qD at e;simp only at e;split at e
    · split at e
      · cases e
      · injection e with e;subst e;have:=h.2.1 q y e2;simp only;omega
    · exact (h.2.1 p x e).2
theorem zo6 {m:Int}{S:SI}(h:okS m S)(h0:0≤m){q:Int}(hq:1≤q∧q≤24):okS (m+1) ⟨S.B,zif S.N q⟩:=
  zdF (zcF h (by omega)) (fun _=>hq) fun n e=>by
    injection e with e;subst e;have:=ziZ h h0 q;simp only[rf];omega
theorem zsp {m:Int}{S:SI}(h:okS m S)(h0:0≤m){leaf:Bool}{k:Int}(hk:leaf=false→0≤k∧k≤24):okS (m+1) (zcA leaf S k):=by
  unfold zcA;split
  · exact zcF h (by omega)
  · split
    · exact zn0 h k (.inl rfl)
    · rename_i hk0 hl;have:=hk (by simpa using hl);exact zo6 h h0 (by omega)
theorem zkj {m:Int}{S:SI}(h:okS m S)(k:Int):okS m (zbe S k):=by
  unfold zbe;split
  · exact h
  · exact znd h k
theorem ze3 {α β:Type}{P:α→Prop}{f:α→β→α}(hf:∀a b,P a→P (f a b)):∀(l:List β) (a:α),P a→P (l.foldl f a)
  | [],a,h=>h
  | b::l,a,h=>ze3 hf l (f a b) (hf a b h)
theorem zuC {m:Int}{S:SI}{f:SI→Int→SI}(hf:∀S k,okS m S→okS m (f S k))(h:okS m S)(q:Int):okS m (unX f S q):=by
  unfold unX;split
  · exact h
  · split
    · rename_i hq hr;have hp:S.N q≠none:=fun e=>(by unfold gN at hr;rw[e] at hr;simp[nd0] at hr);obtain ⟨n,hn⟩:=Option.ne_none_iff_exists'.1 hp;refine zdF h (fun _=>h.2.2.1 q n hn) fun n' e=>?_;injection e with e;subst e;have:=h.2.2.2 q n hn;have hg:gN S.N q=n:=(by unfold gN;rw[hn];rfl);rw[hg] at hr ⊢;simp only[rf];omega
    · exact ze3 (P:=okS m) hf _ _ (zdF h (fun e=>by cases e) fun n e=>by cases e)
theorem zvu {m:Int}{S:SI}(h:okS m S)(q:Int):okS m (unL S q):=zuC (fun S k h=>zkj h k) h q
def part (f:SI→Int→SI)(S:SI)(n:Nd)(i:Nat):SI:=((kd n).take i).foldl f S
theorem zfU (f:SI→Int→SI)(S:SI)(n:Nd):∀i,i<4→part f S n (i+1)=f (part f S n i) (kat n i)
  | 0,_=>rfl
  | 1,_=>rfl
  | 2,_=>rfl
  | 3,_=>rfl
  | i+4,h=>absurd h (by omega)
theorem zg6 {m:Int}{S:SI}(h:okS m S)(h0:0≤m){leaf:Bool}{n:Nd}(hk:leaf=false→∀i,i<4→0≤kat n i∧kat n i≤24):∀i:Nat,i≤4→okS (m+i) (part (zcA leaf) S n i)
  | 0,_=>zcF h (by omega)
  | i+1,hi=>by
    rw[zfU _ _ _ i (by omega)];have:=zsp (zg6 h h0 hk i (by omega)) (by omega) (leaf:=leaf) (k:=kat n i) fun hl=>hk hl i (by omega);rw[show m+((i+1:Nat):Int)=m+i+1 by omega];exact this
theorem zq8 {m:Int}{f:SI→Int→SI}(hf:∀S k,okS m S→okS m (f S k)){S:SI}(h:okS m S)(n:Nd)(i:Nat):okS m (part f S n i):=ze3 (P:=okS m) hf _ _ h
theorem zng {m:Int}{S:SI}(h:okS m S)(hm:1≤m){k:Nat}(hk:1≤k∧k≤24)(n:Nd):okS m ⟨S.B,qD S.N k (some (rf n 1))⟩:=zdF h (fun _=>by omega) fun n' e=>by
  injection e with e;subst e;simp only[rf];omega
theorem zn2 {m:Int}{S:SI}(h:okS m S)(hm:1≤m){leaf:Bool}{n:Nd}(hk:leaf=false→∀i,i<4→0≤kat n i∧kat n i≤24):okS (m+4) (yq leaf S n):=by
  unfold yq;split
  · exact zcF h (by omega)
  · split
    · exact zcF h (by omega)
    · rename_i k hf;exact zg6 (zng h hm (zbm hf).1 n) (by omega) hk 4 (by omega)
theorem zqb {m:Int}{S:SI}(h:okS m S)(hm:1≤m)(d:Bytes):okS m (qk S d):=by
  unfold qk;split
  · exact h
  · refine ⟨?_,?_,h.2.2.1,h.2.2.2⟩
    · show sup 40 (zkQ S.B d);unfold zkQ;split
      · exact h.1
      · split
        · exact h.1
        · rename_i k hf;have:=(zbm hf).1;exact zbU h.1 fun _=>by omega
    · intro q x e;change zkQ S.B d q=some x at e;unfold zkQ at e;split at e
      · exact h.2.1 q x e
      · cases hf:zbi 40 S.B with
        | none=>rw[hf] at e;exact h.2.1 q x e
        | some k=>
          rw[hf] at e;simp only at e;unfold qD at e;split at e
          · injection e with e;subst e;simp;omega
          · exact h.2.1 q x e
theorem zvL {m:Int}{S:SI}(h:okS m S)(b:Int):okS m (unB S b):=by
  unfold unB;split
  · exact znd h b
  · exact h
def ixP (b:Nat)(S:SI)(z:Nat×Nat):List HProp:=[pt b (.cells #[ptr z.1 0, .map (some z.2)] 95 (0,0)),plb z.1 S.B,mp z.2 (tb yQ 24 S.N)]
def ixl (b:Nat)(S:SI):HProp:=hx (ixP b S)
section
variable {c:Cx}{E:Env}{L:List HProp}{K:List KI}
theorem zai {F:List HProp}(b:Nat)(S:SI)[R:Rem L (ixl b S) F](k:∀p r,G c K E (pt b (.cells #[ptr p 0, .map (some r)] 95 (0,0))::plb p S.B::mp r (tb yQ 24 S.N)::F)):G c K E L:=zb1 (ixl b S) rfl fun z=>k z.1 z.2
theorem yr {F:List HProp}{M:MM}(p r b:Nat)(S:SI)(h:M.Perm (tb yQ 24 S.N))[Sp:Split L [pt b (.cells #[ptr p 0, .map (some r)] 95 (0,0)),plb p S.B,mp r M] F](k:G c K E (ixl b S::F)):G c K E L:=fun a w hE hS=>by
  have h1:Sat c.w0 w (pt b (.cells #[ptr p 0, .map (some r)] 95 (0,0))::plb p S.B::mp r M::F):=Sp.sat hS;refine k a w hE (Sat.hx_mk (A:=ixP b S) (p,r) ?_);have r2:Rem (pt b (.cells #[ptr p 0, .map (some r)] 95 (0,0))::plb p S.B::mp r M::F) (mp r M) (pt b (.cells #[ptr p 0, .map (some r)] 95 (0,0))::plb p S.B::F):=inferInstance;obtain ⟨⟨es,clk⟩,h2⟩:=(r2.sat h1).ex;have h3:Sat c.w0 w (mp r (tb yQ 24 S.N)::pt b (.cells #[ptr p 0, .map (some r)] 95 (0,0))::plb p S.B::F):=Sat.ex_mk (A:=fun p:Array MapEntry×Nat=>fun m=>MOk p.1 p.2 (tb yQ 24 S.N)∧m r=some (.map p.1 p.2,false)) (es,clk) (h2.weak fun m hm=>⟨hm.1.perm_ h,hm.2⟩);have r3:Sl.Sub (mp r (tb yQ 24 S.N)::pt b (.cells #[ptr p 0, .map (some r)] 95 (0,0))::plb p S.B::F) (pt b (.cells #[ptr p 0, .map (some r)] 95 (0,0))::plb p S.B::mp r (tb yQ 24 S.N)::F):=inferInstance;exact r3.sat h3
end
theorem lkN {N:NdT}(h:sup 24 N)(q:Int):(lk (tb yQ 24 N) q).getD (yQ nd0)=yQ (gN N q):=by
  rw[zqQ yQ h];unfold gN;cases N q <;> rfl
theorem ze2 (n:Nd):∀i,i<4→(kdC n)[i]? =some (I (kat n i))
  | 0,_=>rfl
  | 1,_=>rfl
  | 2,_=>rfl
  | 3,_=>rfl
  | i+4,h=>absurd h (by omega)
theorem zvy (n:Nd)(x:Int):∀i,i<4→(kdC n).set i (I x)=kdC (zwP n i x)
  | 0,_=>rfl
  | 1,_=>rfl
  | 2,_=>rfl
  | 3,_=>rfl
  | i+4,h=>absurd h (by omega)
theorem zvt (n:Nd)(w:World):(Instr.build 107 #[(0, .agg (kdC n).toArray),(1,I 1)]).run Tryz.prog w= .ok (yQ (rf n 1)) w:=by
  simp[Instr.build,zeroValue107,runUnderlying107,sizeOf105,sizeOf3,Instr.fill,qV,show (I 1).cells=#[I 1] from rfl,rf]
theorem zxj (a b:Nd)(w:World):(Op.equal 105 (.agg (kdC a).toArray) (.agg (kdC b).toArray)).run Tryz.prog w= .ok (decide (a.k0=b.k0∧a.k1=b.k1∧a.k2=b.k2∧a.k3=b.k3)) w:=by
  have h:=fun x y:Int=>zv2 (P:=Tryz.prog) (w:=w) (a:=x) (b:=y) 9998 underlying3;show (Op.equalIn (9999+1) _ _ _).run _ _=_;unfold Op.equalIn;simp[underlying,program,Sem.run,underlying105,sizeOf3,List.range',Std.Legacy.Range.forIn_eq_forIn_range',Std.Legacy.Range.size,Go.part,isAgg3,h];by_cases e0:a.k0=b.k0 <;> by_cases e1:a.k1=b.k1 <;> by_cases e2:a.k2=b.k2 <;> by_cases e3:a.k3=b.k3 <;> simp[e0,e1,e2,e3]
theorem zyw (w:World):(Instr.build 105 #[]).run Tryz.prog w= .ok (.agg (kdC nd0).toArray) w:=by
  simp[Instr.build,zeroValue105,runUnderlying105,Instr.fill,qV,nd0]
theorem ziE {n:Nd}{r:Int}{T:TypeId}{f:Nat×Nat}:∀i v,(kdC n)[i]? =some v→yl (.cells (ndC (rf n r)).toArray T f) (0+0+i)=some v:=fun i v h=>by
  match i,h with
  | 0,h=>simpa [yl,rf] using h
  | 1,h=>simpa [yl,rf] using h
  | 2,h=>simpa [yl,rf] using h
  | 3,h=>simpa [yl,rf] using h
  | i+4,h=>simp at h
theorem freeN {m:Int}{S:SI}(h:okS m S){f k:Nat}(hf:zbi 24 S.N=some f)(hk:1≤k∧k≤f):0<(gN S.N k).refs ↔ k<f:=by
  have h1:=zbm hf;constructor
  · intro hr;rcases Nat.lt_or_ge k f with h2 | h2
    · exact h2
    · obtain rfl:k=f:=(by omega);unfold gN at hr;rw[h1.2.1] at hr;simp[nd0] at hr
  · intro hlt;have h2:=h1.2.2 k hk.1 hlt;cases e:S.N k with
    | none=>rw[e] at h2;cases h2
    | some n=>have:=h.2.2.2 k n e;unfold gN;rw[e];exact this.1
theorem zfV (F:List HProp):Ct Tryz.prog 108 [] ([]++F) (fun v L'=>∃b,v=ptr b 0∧L'=ixl b ⟨fun _=>none,fun _=>none⟩::F):=by
  show Ct Tryz.prog 108 [] (F) _;refine Ct.of func108 rR 5 ntmps108 (by simp) fun w0=>?_;refine gS (gA rR (qb (gS ?_)));refine g_l (qi (Pre:=[]) call151 rR (zhe)) rR ?_;rintro _ _ ⟨p,rfl,rfl⟩;refine g_l (zaP) rR ?_;rintro _ _ ⟨b2,rfl,rfl⟩;refine g_v (qP rR (zkT _ rR _ rR)) rR ?_;refine g_l (wR #[ptr p 0, .map (some b2)] rfl rR) rR ?_;rintro _ _ ⟨b4,rfl,rfl⟩;refine gA rR (qb ?_);refine yr p b2 b4 ⟨fun _=>none,fun _=>none⟩ (by rw[zcI]) ?_;exact fun a w hE hS=>wp_ret (yb (qw (vs:=[ptr b4 0]) rfl hE hS ⟨b4,rfl,rfl⟩))
theorem zca (b:Nat)(S:SI)(q m:Int)(hok:okS m S)(hm:0≤m∧m≤1000000)(hq:1≤q∧q≤24)(F:List HProp):Ct Tryz.prog 143 [ptr b 0,I q] ([ixl b S]++F) (R1 (.tuple #[]) (ixl b ⟨S.B,zif S.N q⟩::F)):=by
  show Ct Tryz.prog 143 [ptr b 0,I q] (ixl b S::F) _;refine Ct.of func143 rR 21 ntmps143 (by simp) fun w0=>?_;refine zai b (S) ?_;intro p r;refine gS (gM rR (g_v (qc rR) rR (g_v (qa 1 underlying95 rR rR sizeOf93 (by decide) rR) rR (g_v (qe (v:= .map (some r)) isAgg93 rR rR) rR (gM rR (g_v (yF (v:=yQ (gN S.N (q))) underlying93 underlying3 zeroValue107 rR rR (lkN hok.2.2.1 _)) rR ?_))))));refine g_l (qy #[I 0,I 0,I 0,I 0,I 0] zeroValue107) rR ?_;rintro _ _ ⟨b4,rfl,rfl⟩;refine yp (qq (cs:=#[I 0,I 0,I 0,I 0,I 0]) (vs:=ndC (gN S.N q)) (ndC (gN S.N q)).toArray sizeOf107 rR rR rR rR (by simp) (qv rR)) ?_;rintro _ _ rfl;refine qb (gS (g_v (qa 4 underlying107 rR rR sizeOf3 (by decide) rR) rR (g_v (qe (v:=I (gN S.N q).refs) isAgg3 rR rR) rR (g_v (qu rR rR (w64 (by have:=ziZ hok hm.1 q;omega))) rR (g_v (qa 4 underlying107 rR rR sizeOf3 (by decide) rR) rR ?_)))));refine yp (qH (ndC (rf (gN S.N q) ((gN S.N q).refs+1))).toArray sizeOf3 rR rR rR (by simp) rR) ?_;rintro _ _ rfl;refine qb ?_;refine yw (Lf:=[pt b (.cells #[ptr p 0, .map (some r)] 95 (0,0)),pt b4 (.cells (ndC (rf (gN S.N q) ((gN S.N q).refs+1))).toArray 107 (0,0))]) [(0,false),(1,false),(2,false),(3,false),(4,false),(5,false),(6,true)] (by kernel_rfl) (by kernel_rfl) rR (by kernel_rfl) ?_;refine dM rR rR rR (d_v rR (qc rR) rR (d_v rR (qa 1 underlying95 rR rR sizeOf93 (by decide) rR) rR (d_v rR (qe (v:= .map (some r)) isAgg93 rR rR) rR (dM rR rR rR (d_v rR (qI (vs:=ndC (rf (gN S.N q) ((gN S.N q).refs+1))) isAgg107 sizeOf107 rR rR qR) rR ?_)))));refine zoK rR (yg underlying93 underlying3 rR rR rR) ?_;rintro _ _ rfl;refine yc ?_;refine yr p r b (⟨S.B,zif S.N q⟩) (zed yQ (x:=rf (gN S.N q) ((gN S.N q).refs+1)) hq) ?_;exact zck rfl rfl rfl
theorem zbT (b:Nat)(S:SI)(q m:Int)(hok:okS m S)(hm:0≤m∧m≤1000000)(F:List HProp):Ct Tryz.prog 126 [ptr b 0,I q,Bo true] ([ixl b S]++F) (R1 (.tuple #[]) (ixl b (unL S q)::F)):=by
  show Ct Tryz.prog 126 [ptr b 0,I q,Bo true] (ixl b S::F) _;refine Ct.of func126 rR 55 ntmps126 (by simp) fun w0=>?_;refine qf (gS (gM rR (g_v (wh rR rR) rR (qb ?_))));refine qg rR (fun h10=>?_) (fun h10=>?_)
  · simp at h10;rw[show ixl b S=ixl b (unL S q) by unfold unL unX;rw[if_pos h10]];exact qn rfl rfl rfl
  · simp at h10;refine qh (qf ?_);refine zai b (S) ?_;intro p r;refine qo (gM rR (g_v (qc rR) rR (g_v (qa 1 underlying95 rR rR sizeOf93 (by decide) rR) rR (g_v (qe (v:= .map (some r)) isAgg93 rR rR) rR (gM rR (g_v (yF (v:=yQ (gN S.N (q))) underlying93 underlying3 zeroValue107 rR rR (lkN hok.2.2.1 _)) rR ?_))))));refine g_l (qy #[I 0,I 0,I 0,I 0,I 0] zeroValue107) rR ?_;rintro _ _ ⟨b6,rfl,rfl⟩;refine yp (qq (cs:=#[I 0,I 0,I 0,I 0,I 0]) (vs:=ndC (gN S.N q)) (ndC (gN S.N q)).toArray sizeOf107 rR rR rR rR (by simp) (qv rR)) ?_;rintro _ _ rfl;refine qb (gS (g_v (qa 4 underlying107 rR rR sizeOf3 (by decide) rR) rR (g_v (qe (v:=I (gN S.N q).refs) isAgg3 rR rR) rR (g_v (zce rR rR (w64 (by have:=ziZ hok hm.1 q;omega))) rR (g_v (qa 4 underlying107 rR rR sizeOf3 (by decide) rR) rR ?_)))));refine yp (qH (ndC (rf (gN S.N q) ((gN S.N q).refs - 1))).toArray sizeOf3 rR rR rR (by simp) rR) ?_;rintro _ _ rfl;refine qb (qf ?_);refine yw (Lf:=[pt b (.cells #[ptr p 0, .map (some r)] 95 (0,0)),pt b6 (.cells (ndC (rf (gN S.N q) ((gN S.N q).refs - 1))).toArray 107 (0,0))]) [(0,false),(1,false),(2,false),(3,false),(4,false),(5,false),(6,true)] (by kernel_rfl) (by kernel_rfl) rR (by kernel_rfl) ?_;refine dM rR rR rR (d_v rR (qc rR) rR (d_v rR (qa 1 underlying95 rR rR sizeOf93 (by decide) rR) rR (d_v rR (qe (v:= .map (some r)) isAgg93 rR rR) rR (dM rR rR rR (d_v rR (qI (vs:=ndC (rf (gN S.N q) ((gN S.N q).refs - 1))) isAgg107 sizeOf107 rR rR qR) rR ?_)))));refine zoK rR (yg underlying93 underlying3 rR rR rR) ?_;rintro _ _ rfl;refine yc ?_;refine qf (gS (g_v (qa 4 underlying107 rR rR sizeOf3 (by decide) rR) rR (g_v (qe (v:=I ((gN S.N q).refs - 1)) isAgg3 rR rR) rR (g_v (yA rR rR) rR (qb ?_)))));refine qg rR (fun h29=>?_) (fun h29=>?_)
    · simp at h29;have hp:S.N q≠none:=fun e=>(by unfold gN at h29;rw[e] at h29;simp[nd0] at h29);obtain ⟨n,hn⟩:=Option.ne_none_iff_exists'.1 hp;refine yr p r b (⟨S.B,qD S.N q (some (rf (gN S.N q) ((gN S.N q).refs - 1)))⟩) (zed yQ (x:=rf (gN S.N q) ((gN S.N q).refs - 1)) (hok.2.2.1 q n hn)) ?_;rw[show (⟨S.B,qD S.N q (some (rf (gN S.N q) ((gN S.N q).refs - 1)))⟩:SI)=unL S q by unfold unL unX;rw[if_neg h10,if_pos (by omega)]];exact qn rfl rfl rfl
    · simp at h29;refine qh (gS (gM rR (g_v (qc rR) rR (g_v (qa 1 underlying95 rR rR sizeOf93 (by decide) rR) rR (g_v (qe (v:= .map (some r)) isAgg93 rR rR) rR (gM rR ?_))))));refine yp (zb0 underlying93 underlying3 rR rR) ?_;rintro _ _ ⟨rfl,rfl⟩;refine qb (qf ?_);refine yr p r b (⟨S.B,qD S.N q none⟩) (zkA yQ (v:=yQ (rf (gN S.N q) ((gN S.N q).refs - 1)))) ?_;show G _ _ _ (ixl b (part zbe ⟨S.B,qD S.N q none⟩ (gN S.N q) 0)::_);refine qo (g_v (qa 0 underlying107 rR rR sizeOf105 (by decide) rR) rR (g_v (qI (vs:=kdC (gN S.N q)) isAgg105 sizeOf105 rR rR ziE) rR (gM rR (qb (qj ?_)))));refine qE (α:=Nat) (fun i=>i≤4) (fun i=>U [(0,ptr b 0),(2,Bo true),(36, .agg (kdC (gN S.N q)).toArray),(37,I i)]) (fun i=>ixl b (part zbe ⟨S.B,qD S.N q none⟩ (gN S.N q) i)::F) (fun i=>4 - i) 0 (by omega) [0,2,36,37] rfl rR ?_;intro i hi;have hpi:=zq8 (f:=zbe) (fun S k h=>zkj h k) (zdF hok (q:=q) (x:=none) (fun e=>by cases e) (fun n e=>by cases e)) (gN S.N q) i;refine gS (g_v (qJ rR rR) rR (qb (qf ?_)));refine qg rR (fun h38=>?_) (fun h38=>?_)
      · simp at h38;have hi4:i<4:=(by omega);refine qh (qf (qj (gS (g_v (zch (v:=I (kat (gN S.N q) i)) i underlying105 sizeOf3 isAgg3 rR rR rR hi4 (by simpa using ze2 (gN S.N q) i hi4)) rR (gA rR (qb (qj (gS (gM rR (g_v (wh rR rR) rR (gA rR (qb ?_))))))))))));refine qg rR (fun h43=>?_) (fun h43=>?_)
        · simp at h43;refine qh (qF (qF (qo (g_v (qu rR rR (w64 (by omega))) rR (gM rR (qb ?_))))));rw[show part zbe ⟨S.B,qD S.N q none⟩ (gN S.N q) i=part zbe ⟨S.B,qD S.N q none⟩ (gN S.N q) (i+1) by rw[zfU _ _ _ i hi4];unfold zbe;rw[if_pos h43]];exact qm (i+1) (by omega) (by omega) [0,2,36,37] rfl rfl
        · simp at h43;refine gS (gM rR (gA rR (qb ?_)));refine qg rR (fun h46=>?_) (fun h46=>?_)
          · refine zai b (part zbe ⟨S.B,qD S.N q none⟩ (gN S.N q) i) ?_;intro p2 r2;refine qo (gM rR (g_v (qc rR) rR (g_v (qa 0 underlying95 rR rR sizeOf92 (by decide) rR) rR (g_v (qe (v:=ptr p2 0) isAgg92 rR rR) rR (gM rR ?_)))));refine g_l (qi (Pre:=[plb p2 (part zbe ⟨S.B,qD S.N q none⟩ (gN S.N q) i).B]) call125 rR (zb8 p2 (part zbe ⟨S.B,qD S.N q none⟩ (gN S.N q) i).B (kat (gN S.N q) i) (zg2 hpi (by omega)))) rR ?_;rintro _ _ ⟨rfl,rfl⟩;refine qb (qF (qF (qo (g_v (qu rR rR (w64 (by omega))) rR (gM rR (qb ?_))))));refine yr p2 r2 b (⟨zc5 (part zbe ⟨S.B,qD S.N q none⟩ (gN S.N q) i).B (kat (gN S.N q) i) (-1),(part zbe ⟨S.B,qD S.N q none⟩ (gN S.N q) i).N⟩) (.refl _) ?_;rw[show (⟨zc5 (part zbe ⟨S.B,qD S.N q none⟩ (gN S.N q) i).B (kat (gN S.N q) i) (-1),(part zbe ⟨S.B,qD S.N q none⟩ (gN S.N q) i).N⟩:SI)=part zbe ⟨S.B,qD S.N q none⟩ (gN S.N q) (i+1) by rw[zfU _ _ _ i hi4];unfold zbe;rw[if_neg h43]];exact qm (i+1) (by omega) (by omega) [0,2,36,37] rfl rfl
          · simp at h46
      · simp at h38;obtain rfl:i=4:=(by omega);refine qz rR ?_;rw[show part zbe ⟨S.B,qD S.N q none⟩ (gN S.N q) 4=unL S q by unfold unL unX;rw[if_neg h10,if_neg (by omega)];rfl];exact zck rfl rfl rfl
theorem zhV (b:Nat)(S:SI)(q m:Int)(hok:okS m S)(hm:0≤m∧m≤1000000)(F:List HProp):Ct Tryz.prog 126 [ptr b 0,I q,Bo false] ([ixl b S]++F) (R1 (.tuple #[]) (ixl b (unR S q)::F)):=by
  show Ct Tryz.prog 126 [ptr b 0,I q,Bo false] (ixl b S::F) _;refine Ct.of func126 rR 55 ntmps126 (by simp) fun w0=>?_;refine qf (gS (gM rR (g_v (wh rR rR) rR (qb ?_))));refine qg rR (fun h10=>?_) (fun h10=>?_)
  · simp at h10;rw[show ixl b S=ixl b (unR S q) by unfold unR unX;rw[if_pos h10]];exact qn rfl rfl rfl
  · simp at h10;refine qh (qf ?_);refine zai b (S) ?_;intro p r;refine qo (gM rR (g_v (qc rR) rR (g_v (qa 1 underlying95 rR rR sizeOf93 (by decide) rR) rR (g_v (qe (v:= .map (some r)) isAgg93 rR rR) rR (gM rR (g_v (yF (v:=yQ (gN S.N (q))) underlying93 underlying3 zeroValue107 rR rR (lkN hok.2.2.1 _)) rR ?_))))));refine g_l (qy #[I 0,I 0,I 0,I 0,I 0] zeroValue107) rR ?_;rintro _ _ ⟨b6,rfl,rfl⟩;refine yp (qq (cs:=#[I 0,I 0,I 0,I 0,I 0]) (vs:=ndC (gN S.N q)) (ndC (gN S.N q)).toArray sizeOf107 rR rR rR rR (by simp) (qv rR)) ?_;rintro _ _ rfl;refine qb (gS (g_v (qa 4 underlying107 rR rR sizeOf3 (by decide) rR) rR (g_v (qe (v:=I (gN S.N q).refs) isAgg3 rR rR) rR (g_v (zce rR rR (w64 (by have:=ziZ hok hm.1 q;omega))) rR (g_v (qa 4 underlying107 rR rR sizeOf3 (by decide) rR) rR ?_)))));refine yp (qH (ndC (rf (gN S.N q) ((gN S.N q).refs - 1))).toArray sizeOf3 rR rR rR (by simp) rR) ?_;rintro _ _ rfl;refine qb (qf ?_);refine yw (Lf:=[pt b (.cells #[ptr p 0, .map (some r)] 95 (0,0)),pt b6 (.cells (ndC (rf (gN S.N q) ((gN S.N q).refs - 1))).toArray 107 (0,0))]) [(0,false),(1,false),(2,false),(3,false),(4,false),(5,false),(6,true)] (by kernel_rfl) (by kernel_rfl) rR (by kernel_rfl) ?_;refine dM rR rR rR (d_v rR (qc rR) rR (d_v rR (qa 1 underlying95 rR rR sizeOf93 (by decide) rR) rR (d_v rR (qe (v:= .map (some r)) isAgg93 rR rR) rR (dM rR rR rR (d_v rR (qI (vs:=ndC (rf (gN S.N q) ((gN S.N q).refs - 1))) isAgg107 sizeOf107 rR rR qR) rR ?_)))));refine zoK rR (yg underlying93 underlying3 rR rR rR) ?_;rintro _ _ rfl;refine yc ?_;refine qf (gS (g_v (qa 4 underlying107 rR rR sizeOf3 (by decide) rR) rR (g_v (qe (v:=I ((gN S.N q).refs - 1)) isAgg3 rR rR) rR (g_v (yA rR rR) rR (qb ?_)))));refine qg rR (fun h29=>?_) (fun h29=>?_)
    · simp at h29;have hp:S.N q≠none:=fun e=>(by unfold gN at h29;rw[e] at h29;simp[nd0] at h29);obtain ⟨n,hn⟩:=Option.ne_none_iff_exists'.1 hp;refine yr p r b (⟨S.B,qD S.N q (some (rf (gN S.N q) ((gN S.N q).refs - 1)))⟩) (zed yQ (x:=rf (gN S.N q) ((gN S.N q).refs - 1)) (hok.2.2.1 q n hn)) ?_;rw[show (⟨S.B,qD S.N q (some (rf (gN S.N q) ((gN S.N q).refs - 1)))⟩:SI)=unR S q by unfold unR unX;rw[if_neg h10,if_pos (by omega)]];exact qn rfl rfl rfl
    · simp at h29;refine qh (gS (gM rR (g_v (qc rR) rR (g_v (qa 1 underlying95 rR rR sizeOf93 (by decide) rR) rR (g_v (qe (v:= .map (some r)) isAgg93 rR rR) rR (gM rR ?_))))));refine yp (zb0 underlying93 underlying3 rR rR) ?_;rintro _ _ ⟨rfl,rfl⟩;refine qb (qf ?_);refine yr p r b (⟨S.B,qD S.N q none⟩) (zkA yQ (v:=yQ (rf (gN S.N q) ((gN S.N q).refs - 1)))) ?_;show G _ _ _ (ixl b (part unL ⟨S.B,qD S.N q none⟩ (gN S.N q) 0)::_);refine qo (g_v (qa 0 underlying107 rR rR sizeOf105 (by decide) rR) rR (g_v (qI (vs:=kdC (gN S.N q)) isAgg105 sizeOf105 rR rR ziE) rR (gM rR (qb (qj ?_)))));refine qE (α:=Nat) (fun i=>i≤4) (fun i=>U [(0,ptr b 0),(2,Bo false),(36, .agg (kdC (gN S.N q)).toArray),(37,I i)]) (fun i=>ixl b (part unL ⟨S.B,qD S.N q none⟩ (gN S.N q) i)::F) (fun i=>4 - i) 0 (by omega) [0,2,36,37] rfl rR ?_;intro i hi;have hpi:=zq8 (f:=unL) (fun S k h=>zvu h k) (zdF hok (q:=q) (x:=none) (fun e=>by cases e) (fun n e=>by cases e)) (gN S.N q) i;refine gS (g_v (qJ rR rR) rR (qb (qf ?_)));refine qg rR (fun h38=>?_) (fun h38=>?_)
      · simp at h38;have hi4:i<4:=(by omega);refine qh (qf (qj (gS (g_v (zch (v:=I (kat (gN S.N q) i)) i underlying105 sizeOf3 isAgg3 rR rR rR hi4 (by simpa using ze2 (gN S.N q) i hi4)) rR (gA rR (qb (qj (gS (gM rR (g_v (wh rR rR) rR (gA rR (qb ?_))))))))))));refine qg rR (fun h43=>?_) (fun h43=>?_)
        · simp at h43;refine qh (qF (qF (qo (g_v (qu rR rR (w64 (by omega))) rR (gM rR (qb ?_))))));rw[show part unL ⟨S.B,qD S.N q none⟩ (gN S.N q) i=part unL ⟨S.B,qD S.N q none⟩ (gN S.N q) (i+1) by rw[zfU _ _ _ i hi4];unfold unL unX;rw[if_pos h43]];exact qm (i+1) (by omega) (by omega) [0,2,36,37] rfl rfl
        · simp at h43;refine gS (gM rR (gA rR (qb ?_)));refine qg rR (fun h46=>?_) (fun h46=>?_)
          · simp at h46
          · refine qo (gM rR (gM rR ?_));refine g_l (qi (Pre:=[ixl b (part unL ⟨S.B,qD S.N q none⟩ (gN S.N q) i)]) call126 rR (zbT b (part unL ⟨S.B,qD S.N q none⟩ (gN S.N q) i) (kat (gN S.N q) i) m hpi hm)) rR ?_;rintro _ _ ⟨rfl,rfl⟩;refine qb (qF (qF (qo (g_v (qu rR rR (w64 (by omega))) rR (gM rR (qb ?_))))));rw[show unL (part unL ⟨S.B,qD S.N q none⟩ (gN S.N q) i) (kat (gN S.N q) i)=part unL ⟨S.B,qD S.N q none⟩ (gN S.N q) (i+1) from (zfU _ _ _ i hi4).symm];exact qm (i+1) (by omega) (by omega) [0,2,36,37] rfl rfl
      · simp at h38;obtain rfl:i=4:=(by omega);refine qz rR ?_;rw[show part unL ⟨S.B,qD S.N q none⟩ (gN S.N q) 4=unR S q by unfold unR unX;rw[if_neg h10,if_neg (by omega)];rfl];exact zck rfl rfl rfl
theorem zaA (b:Nat)(S:SI)(n:Nd)(lf:Bool)(m:Int)(hok:okS m S)(hm:1≤m∧m≤900000)(hk:lf=false→∀i,i<4→0≤kat n i∧kat n i≤24)(F:List HProp):Ct Tryz.prog 124 [ptr b 0, .agg (kdC n).toArray,Bo lf] ([ixl b S]++F) (R1 (.tuple #[I (yE S n).1,zbV 108 (yE S n).2]) (ixl b (yq lf S n)::F)):=by
  show Ct Tryz.prog 124 [ptr b 0, .agg (kdC n).toArray,Bo lf] (ixl b S::F) _;refine Ct.of func124 rR 58 ntmps124 (by simp) fun w0=>?_;refine gS ?_;refine g_l (wR (kdC n).toArray rR rR) rR ?_;rintro _ _ ⟨b4,rfl,rfl⟩;refine gA rR (gA rR (qb (qf (gS (g_v (qI (vs:=kdC (n)) isAgg105 sizeOf105 rR rR qR) rR (g_v (qP rR zyw) rR (g_v (zt4 eqGuardType105 rR rR (zxj n nd0)) rR (qb ?_))))))));refine qg rR (fun h13=>?_) (fun h13=>?_)
  · have hno:zap n:=of_decide_eq_true h13;refine gS (gA rR (gA rR (qb ?_)));rw[show yE S n=(0,0) by unfold yE;rw[if_pos hno],show yq lf S n=S by unfold yq;rw[if_pos hno]];exact qn rfl rfl rfl
  · have hno:¬zap n:=of_decide_eq_false h13;refine qh (qf (qf ?_));refine zai b (S) ?_;intro p r;refine qo (gM rR (g_v (qc rR) rR (g_v (qa 1 underlying95 rR rR sizeOf93 (by decide) rR) rR (g_v (qe (v:= .map (some r)) isAgg93 rR rR) rR (g_v (zd8 underlying93 rR) rR (g_v (wh rR rR) rR (qb ?_)))))));refine qg rR (fun h19=>?_) (fun h19=>?_)
    · simp at h19;rw[zaQ] at h19;have hfr:=full_iff.1 (show (ids 24 S.N).length=24 by omega);refine gS (g_v (qB underlying108 rR rR) rR (gA rR (gA rR (qb ?_))));rw[show yE S n=(0,8) by unfold yE;rw[if_neg hno,hfr],show yq lf S n=S by unfold yq;rw[if_neg hno,hfr]];refine yr p r b (S) (.refl _) ?_;exact qn rfl rfl rfl
    · simp at h19;rw[zaQ] at h19;obtain ⟨j,hfr⟩:=zhN (n:=24) (B:=S.N) (by omega);have hjf:=zbm hfr;refine qh (gS (gA rR (qb (qf (qj ?_)))));refine qE (α:=Nat) (fun k=>1≤k∧k≤j) (fun k=>U [(0,ptr b 0),(2,Bo lf),(4,ptr b4 0),(8,I k)]) (fun _=>pt b (.cells #[ptr p 0, .map (some r)] 95 (0,0))::plb p S.B::mp r (tb yQ 24 S.N)::pt b4 (.cells (kdC n).toArray 105 (0,0))::F) (fun k=>j - k) 1 ⟨by omega,by omega⟩ [0,2,4,8] rfl rR ?_;intro k h0;have hnk:=freeN hok hfr h0;refine qf (gS (gM rR (g_v (qc rR) rR (g_v (qa 1 underlying95 rR rR sizeOf93 (by decide) rR) rR (g_v (qe (v:= .map (some r)) isAgg93 rR rR) rR (gM rR (g_v (yF (v:=yQ (gN S.N (k))) underlying93 underlying3 zeroValue107 rR rR (lkN hok.2.2.1 _)) rR (g_v (zrT (v:=I (gN S.N k).refs) underlying107 rR isAgg3 rR rR) rR (g_v (yA rR rR) rR (qb ?_))))))))));refine qg rR (fun h28=>?_) (fun h28=>?_)
      · simp at h28;refine qh (qj (qo (gM rR (g_v (qu rR rR (w64 (by omega))) rR (gA rR (qb (qF ?_)))))));exact qm (k+1) ⟨by omega,by omega⟩ (by omega) [0,2,4,8] rfl rfl
      · simp at h28;obtain rfl:k=j:=(by omega);refine qz rR ?_;refine qf ?_;refine yw (Lf:=[pt b (.cells #[ptr p 0, .map (some r)] 95 (0,0)),pt b4 (.cells (kdC n).toArray 105 (0,0))]) [(0,false),(1,false),(2,false),(3,false),(4,false),(5,false),(6,false),(7,true)] (by kernel_rfl) (by kernel_rfl) rR (by kernel_rfl) ?_;refine dM rR rR rR (d_v rR (qc rR) rR (d_v rR (qa 1 underlying95 rR rR sizeOf93 (by decide) rR) rR (d_v rR (qe (v:= .map (some r)) isAgg93 rR rR) rR (dM rR rR rR (d_v rR (qI (vs:=kdC (n)) isAgg105 sizeOf105 rR rR qR) rR (d_v rR (qP rR (zvt n)) rR ?_))))));refine zoK rR (yg underlying93 underlying3 rR rR rR) ?_;rintro _ _ rfl;refine yc ?_;refine yr p r b (⟨S.B,qD S.N k (some (rf n 1))⟩) (zed yQ (x:=rf n 1) (by omega)) ?_;show G _ _ _ (ixl b (part (zcA lf) ⟨S.B,qD S.N k (some (rf n 1))⟩ n 0)::_);refine qf (gS (g_v (qI (vs:=kdC (n)) isAgg105 sizeOf105 rR rR qR) rR (gM rR (qb (qj ?_)))));refine qE (α:=Nat) (fun i=>i≤4) (fun i=>U [(0,ptr b 0),(2,Bo lf),(8,I k),(38, .agg (kdC n).toArray),(39,I i)]) (fun i=>ixl b (part (zcA lf) ⟨S.B,qD S.N k (some (rf n 1))⟩ n i)::F) (fun i=>4 - i) 0 (by omega) [0,2,8,38,39] rfl rR ?_;intro i hi;have hpi:=zg6 (zng (k:=k) hok hm.1 (by omega) n) (by omega) hk i hi;refine gS (g_v (qJ rR rR) rR (qb (qf ?_)));refine qg rR (fun h40=>?_) (fun h40=>?_)
        · simp at h40;have hi4:i<4:=(by omega);refine qh (qf (qj (gS (g_v (zch (v:=I (kat (n) i)) i underlying105 sizeOf3 isAgg3 rR rR rR hi4 (by simpa using ze2 (n) i hi4)) rR (gA rR (qb (qj (gS (gM rR (g_v (wh rR rR) rR (gA rR (qb ?_))))))))))));refine qg rR (fun h45=>?_) (fun h45=>?_)
          · simp at h45;refine qh (qF (qF (qo (g_v (qu rR rR (w64 (by omega))) rR (gM rR (qb ?_))))));rw[show part (zcA lf) ⟨S.B,qD S.N k (some (rf n 1))⟩ n i=part (zcA lf) ⟨S.B,qD S.N k (some (rf n 1))⟩ n (i+1) by rw[zfU _ _ _ i hi4];unfold zcA;rw[if_pos h45]];exact qm (i+1) (by omega) (by omega) [0,2,8,38,39] rfl rfl
          · simp at h45;refine gS (gM rR (gA rR (qb ?_)));refine qg rR (fun h48=>?_) (fun h48=>?_)
            · refine zai b (part (zcA lf) ⟨S.B,qD S.N k (some (rf n 1))⟩ n i) ?_;intro p2 r2;refine qo (gM rR (g_v (qc rR) rR (g_v (qa 0 underlying95 rR rR sizeOf92 (by decide) rR) rR (g_v (qe (v:=ptr p2 0) isAgg92 rR rR) rR (gM rR ?_)))));refine g_l (qi (Pre:=[plb p2 (part (zcA lf) ⟨S.B,qD S.N k (some (rf n 1))⟩ n i).B]) call174 rR (zf3 p2 (part (zcA lf) ⟨S.B,qD S.N k (some (rf n 1))⟩ n i).B (kat n i) (zg2 hpi (by omega)))) rR ?_;rintro _ _ ⟨rfl,rfl⟩;refine qb (qF (qF (qo (g_v (qu rR rR (w64 (by omega))) rR (gM rR (qb ?_))))));refine yr p2 r2 b (⟨zc5 (part (zcA lf) ⟨S.B,qD S.N k (some (rf n 1))⟩ n i).B (kat n i) 1,(part (zcA lf) ⟨S.B,qD S.N k (some (rf n 1))⟩ n i).N⟩) (.refl _) ?_;rw[show (⟨zc5 (part (zcA lf) ⟨S.B,qD S.N k (some (rf n 1))⟩ n i).B (kat n i) 1,(part (zcA lf) ⟨S.B,qD S.N k (some (rf n 1))⟩ n i).N⟩:SI)=part (zcA lf) ⟨S.B,qD S.N k (some (rf n 1))⟩ n (i+1) by rw[zfU _ _ _ i hi4];unfold zcA;rw[if_neg h45,if_pos h48]];exact qm (i+1) (by omega) (by omega) [0,2,8,38,39] rfl rfl
            · refine qo (gM rR (gM rR ?_));refine g_l (qi (Pre:=[ixl b (part (zcA lf) ⟨S.B,qD S.N k (some (rf n 1))⟩ n i)]) call143 rR (zca b (part (zcA lf) ⟨S.B,qD S.N k (some (rf n 1))⟩ n i) (kat n i) (m+i) hpi (by omega) (by have:=hk (by simpa using h48) i hi4;omega))) rR ?_;rintro _ _ ⟨rfl,rfl⟩;refine qb (qF (qF (qo (g_v (qu rR rR (w64 (by omega))) rR (gM rR (qb ?_))))));rw[show (⟨(part (zcA lf) ⟨S.B,qD S.N k (some (rf n 1))⟩ n i).B,zif (part (zcA lf) ⟨S.B,qD S.N k (some (rf n 1))⟩ n i).N (kat n i)⟩:SI)=part (zcA lf) ⟨S.B,qD S.N k (some (rf n 1))⟩ n (i+1) by rw[zfU _ _ _ i hi4];unfold zcA;rw[if_neg h45,if_neg (by simpa using h48)]];exact qm (i+1) (by omega) (by omega) [0,2,8,38,39] rfl rfl
        · simp at h40;obtain rfl:i=4:=(by omega);refine qz rR ?_;refine gS (gM rR (gA rR (gA rR (qb ?_))));rw[show yE S n=((k:Int),0) by unfold yE;rw[if_neg hno,hfr],show yq lf S n=part (zcA lf) ⟨S.B,qD S.N k (some (rf n 1))⟩ n 4 by unfold yq;rw[if_neg hno,hfr];rfl];exact qn rfl rfl rfl
theorem zd3 (b:Nat)(S:SI)(d:Bytes)(m:Int)(hok:okS m S)(hm:m≤1000000)(hd:d.length≤9223372036854775807)(F:List HProp):Ct Tryz.prog 123 [ptr b 0,Str d] ([ixl b S]++F) (R1 (.tuple #[I (qt S d).1,zbV 108 (qt S d).2]) (ixl b (qk S d)::F)):=by
  show Ct Tryz.prog 123 [ptr b 0,Str d] (ixl b S::F) _;refine Ct.of func123 rR 16 ntmps123 (by simp) fun w0=>?_;refine gS (gA rR (gA rR (qb (qf (gS (gM rR (g_v (zaF rR rR) rR (qb ?_))))))));refine qg rR (fun h7=>?_) (fun h7=>?_)
  · simp at h7;refine gS (gA rR (gA rR (qb ?_)));rw[show qt S d=(0,0) by unfold qt;rw[if_pos h7],show qk S d=S by unfold qk;rw[if_pos h7]];exact qn rfl rfl rfl
  · simp at h7;refine qh (qf ?_);refine zai b (S) ?_;intro p r;refine qo (gM rR (g_v (qc rR) rR (g_v (qa 0 underlying95 rR rR sizeOf92 (by decide) rR) rR (g_v (qe (v:=ptr p 0) isAgg92 rR rR) rR (gM rR ?_)))));refine g_l (qi (Pre:=[plb p S.B]) call173 rR (zf0 p S.B d (zg2 hok hm) hd)) rR ?_;rintro _ _ ⟨rfl,rfl⟩;refine g_v (qd (v:=I (znV S.B d).1) rR rR) rR (g_v (qd (v:=zbV 108 (znV S.B d).2) rR rR) rR (gA rR (gA rR (qb ?_))));rw[show qt S d=znV S.B d by unfold qt;rw[if_neg h7],show qk S d=⟨zkQ S.B d,S.N⟩ by unfold qk;rw[if_neg h7]];refine yr p r b (⟨zkQ S.B d,S.N⟩) (.refl _) ?_;exact qn rfl rfl rfl
theorem zbv (b:Nat)(S:SI)(q m:Int)(hok:okS m S)(hm:0≤m∧m≤1000000)(hq:q≤24)(F:List HProp):Ct Tryz.prog 91 [ptr b 0,I q] ([ixl b S]++F) (R1 (I q) (ixl b (zbf S q)::F)):=by
  show Ct Tryz.prog 91 [ptr b 0,I q] (ixl b S::F) _;refine Ct.of func91 rR 11 ntmps91 (by simp) fun w0=>?_;refine gS (gA rR (qb (qf (gS (gM rR (g_v (yA rR rR) rR (qb ?_)))))));refine qg rR (fun h6=>?_) (fun h6=>?_)
  · simp at h6;refine qo (gM rR (gM rR ?_));refine g_l (qi (Pre:=[ixl b S]) call143 rR (zca b S q m hok hm (by omega))) rR ?_;rintro _ _ ⟨rfl,rfl⟩;refine qb (gS (gM rR (gA rR (qb ?_))));rw[show (⟨S.B,zif S.N q⟩:SI)=zbf S q by unfold zbf;rw[if_pos h6]];exact qn rfl rfl rfl
  · simp at h6;refine qh (gS (gM rR (gA rR (qb ?_))));rw[show ixl b S=ixl b (zbf S q) by unfold zbf;rw[if_neg (by omega)]];exact qn rfl rfl rfl
theorem zaB (b:Nat)(S:SI)(q m:Int)(hok:okS m S)(hm:0≤m∧m≤1000000)(F:List HProp):Ct Tryz.prog 79 [ptr b 0,I q] ([ixl b S]++F) (R1 (.tuple #[]) (ixl b (unR S q)::F)):=by
  show Ct Tryz.prog 79 [ptr b 0,I q] (ixl b S::F) _;refine Ct.of func79 rR 7 ntmps79 (by simp) fun w0=>?_;refine qo (gM rR (gM rR ?_));refine g_l (qi (Pre:=[ixl b S]) call126 rR (zhV b S q m hok hm)) rR ?_;rintro _ _ ⟨rfl,rfl⟩;refine qb ?_;exact zck rfl rfl rfl
theorem quo4 (a:Nat)(h:a<16):IntKind.i64.wrap ((a:Int).tdiv 4)=((a / 4:Nat):Int):=by
  rw[show ((a:Int).tdiv 4)=((a / 4:Nat):Int) from rfl];exact w64 (by omega)
theorem rem4 (a:Nat):(a:Int).tmod 4=((a % 4:Nat):Int):=rfl
theorem zgc (n:Nd):(ndC n).toArray.extract 0 (0+4)=(kdC n).toArray:=by simp
theorem zsL (S:SI)(n:Nd):0≤(yE S n).1∧(yE S n).1≤24:=by
  unfold yE;split
  · simp
  · cases h:zbi 24 S.N with
    | none=>simp
    | some k=>have:=(zbm h).1;simp;omega
theorem zsn (n:Nd)(x:Int):∀i j,i<4→j<4→kat (zwP n i x) j=if j=i then x else kat n j:=by
  intro i j hi hj
  match i,j,hi,hj with
  | 0,0,_,_ | 0,1,_,_ | 0,2,_,_ | 0,3,_,_ | 1,0,_,_ | 1,1,_,_ | 1,2,_,_ | 1,3,_,_ | 2,0,_,_ | 2,1,_,_ | 2,2,_,_ | 2,3,_,_ | 3,0,_,_ | 3,1,_,_ | 3,2,_,_ | 3,3,_,_=>rfl
  | i+4,j,h,_=>omega
  | 0,j+4,_,h | 1,j+4,_,h | 2,j+4,_,h | 3,j+4,_,h=>omega
theorem zrd {n:Nd}{x:Int}{o i:Nat}(hi:i<4)(ho:o=i):(kdC n).toArray.setIfInBounds o (I x)=(kdC (zwP n i x)).toArray:=by
  subst ho;rw[zlV,zvy n x o hi]
theorem zaN (b:Nat)(S:SI)(root:Int)(at_:Nat)(m:Int)(hok:okS m S)(hm:m≤1000000)(hat:at_<16)(F:List HProp):Ct Tryz.prog 68 [ptr b 0,I root,I at_] ([ixl b S]++F) (R1 (Str (zcj S root at_)) (ixl b S::F)):=by
  show Ct Tryz.prog 68 [ptr b 0,I root,I at_] (ixl b S::F) _;refine Ct.of func68 rR 39 ntmps68 (by simp) fun w0=>?_;refine zai b (S) ?_;intro p r;refine gS (gA rR (qb (gS (gM rR (g_v (qc rR) rR (g_v (qa 1 underlying95 rR rR sizeOf93 (by decide) rR) rR (g_v (qe (v:= .map (some r)) isAgg93 rR rR) rR (gM rR (g_v (yF (v:=yQ (gN S.N (root))) underlying93 underlying3 zeroValue107 rR rR (lkN hok.2.2.1 _)) rR (g_v (zgu (kdC (gN S.N root)) underlying107 rR isAgg105 sizeOf105 rR (zgc _)) rR (gM rR (g_v (ztp rR rR (by decide) (quo4 at_ hat)) rR (g_v (zch (v:=I (kat (gN S.N root) (at_ / 4))) (at_ / 4) underlying105 sizeOf3 isAgg3 rR rR rR (by omega) (by simpa using ze2 (gN S.N root) (at_ / 4) (by omega))) rR (gA rR (qb (qf ?_))))))))))))))));refine yw (Lf:=[pt b (.cells #[ptr p 0, .map (some r)] 95 (0,0)),mp r (tb yQ 24 S.N)]) [(0,false),(1,false),(2,false),(3,false),(4,false),(5,false),(6,false),(7,false),(8,false),(9,false),(10,false),(11,false),(12,false),(13,false),(14,true),(15,false),(16,false),(17,false),(18,false),(19,false)] (by kernel_rfl) (by kernel_rfl) rR (by kernel_rfl) ?_;refine dM rR rR rR (d_v rR (qc rR) rR (d_v rR (qa 0 underlying95 rR rR sizeOf92 (by decide) rR) rR (d_v rR (qe (v:=ptr p 0) isAgg92 rR rR) rR (dM rR rR rR (d_v rR (qc rR) rR (d_v rR (qa 1 underlying95 rR rR sizeOf93 (by decide) rR) rR (d_v rR (qe (v:= .map (some r)) isAgg93 rR rR) rR (dM rR rR rR (d_v rR (yF (v:=yQ (gN S.N (kat (gN S.N root) (at_ / 4)))) underlying93 underlying3 zeroValue107 rR rR (lkN hok.2.2.1 _)) rR (d_v rR (zgu (kdC (gN S.N (kat (gN S.N root) (at_ / 4)))) underlying107 rR isAgg105 sizeOf105 rR (zgc _)) rR (dM rR rR rR (d_v rR (zoP rR rR (by decide) (rem4 at_)) rR (d_v rR (zch (v:=I (kat (gN S.N (kat (gN S.N root) (at_ / 4))) (at_ % 4))) (at_ % 4) underlying105 sizeOf3 isAgg3 rR rR rR (Nat.mod_lt _ (by decide)) (by simpa using ze2 (gN S.N (kat (gN S.N root) (at_ / 4))) (at_ % 4) (Nat.mod_lt _ (by decide)))) rR ?_)))))))))))));refine d_l rR (qi (Pre:=[plb p S.B]) call112 rR (zf8 p S.B (kat (gN S.N (kat (gN S.N root) (at_ / 4))) (at_ % 4)) (zg2 hok hm))) rR ?_;rintro _ _ ⟨rfl,rfl⟩;refine dM rR rR rR (d_v rR (qd (v:=Str (zcj S root at_)) rR rR) rR (d_v rR (qd (v:=zbV 108 (zsj S.B (kat (gN S.N (kat (gN S.N root) (at_ / 4))) (at_ % 4))).2) rR rR) rR (d_v rR (qx rR) rR (d_v rR (qx rR) rR ?_))));refine yc ?_;refine gS (gM rR (gA rR (qb ?_)));refine yr p r b (S) (.refl _) ?_;exact qn rfl rfl rfl
theorem zbZ (b:Nat)(S:SI)(root:Int)(at_:Nat)(d:Bytes)(m:Int)(hok:okS m S)(hm:1≤m∧m≤800000)(hat:at_<16)(hd:d.length≤9223372036854775807)(hk:∀i,i<4→0≤kat (gN S.N root) i∧kat (gN S.N root) i≤24)(F:List HProp):Ct Tryz.prog 78 [ptr b 0,I root,I at_,Str d] ([ixl b S]++F) (R1 (.tuple #[I (zc7 S root at_ d).1,zbV 108 (zc7 S root at_ d).2]) (ixl b (zjd S root at_ d)::F)):=by
  show Ct Tryz.prog 78 [ptr b 0,I root,I at_,Str d] (ixl b S::F) _;have hok1:=zqb hok hm.1 d;have hN1:(qk S d).N=S.N:=(by unfold qk;split <;> rfl);have hok2:okS (m+4) (yq true (qk S d) (wn (qk S d) root at_ (qt S d).1)):=zn2 hok1 hm.1 (fun h=>by cases h);have hok3:okS (m+4) (unB (yq true (qk S d) (wn (qk S d) root at_ (qt S d).1)) (qt S d).1):=zvL hok2 _;have hk3:∀i,i<4→0≤kat (zc6 (qk S d) root at_ (yE (qk S d) (wn (qk S d) root at_ (qt S d).1)).1) i∧kat (zc6 (qk S d) root at_ (yE (qk S d) (wn (qk S d) root at_ (qt S d).1)).1) i≤24:=fun i hi=>by
    unfold zc6;rw[zsn _ _ _ _ (by omega) hi,hN1];split
    · exact zsL _ _
    · exact hk i hi
  have hok4:okS (m+4+4) (yq false (unB (yq true (qk S d) (wn (qk S d) root at_ (qt S d).1)) (qt S d).1) (zc6 (qk S d) root at_ (yE (qk S d) (wn (qk S d) root at_ (qt S d).1)).1)):=zn2 hok3 (by omega) (fun _=>hk3);refine Ct.of func78 rR 80 ntmps78 (by simp) fun w0=>?_;refine gS (gA rR (gA rR (qb (gS (gM rR (gM rR ?_))))));refine g_l (qi (Pre:=[ixl b S]) call123 rR (zd3 b S d m hok (by omega) hd)) rR ?_;rintro _ _ ⟨rfl,rfl⟩;refine gM rR (g_v (qd (v:=I (qt S d).1) rR rR) rR (g_v (qd (v:=zbV 108 (qt S d).2) rR rR) rR (gA rR (gA rR (qb (qf (gS (gM rR (g_v (yf underlying37 rR) rR (qb ?_))))))))));refine qg rR (fun h23=>?_) (fun h23=>?_)
  · simp at h23;refine gS (gM rR (gA rR (gA rR (qb ?_))));rw[show zc7 S root at_ d=(0,(qt S d).2) by unfold zc7;simp only;rw[if_pos h23],show zjd S root at_ d=(qk S d) by unfold zjd;simp only;rw[if_pos h23]];exact qn rfl rfl rfl
  · simp at h23;refine qh (qf ?_);refine zai b ((qk S d)) ?_;intro p r;refine qo (gM rR (g_v (qc rR) rR (g_v (qa 1 underlying95 rR rR sizeOf93 (by decide) rR) rR (g_v (qe (v:= .map (some r)) isAgg93 rR rR) rR (gM rR (g_v (yF (v:=yQ (gN (qk S d).N (root))) underlying93 underlying3 zeroValue107 rR rR (lkN hok1.2.2.1 _)) rR (g_v (zgu (kdC (gN (qk S d).N root)) underlying107 rR isAgg105 sizeOf105 rR (zgc _)) rR ?_)))))));refine g_l (qy #[I 0,I 0,I 0,I 0] zeroValue105) rR ?_;rintro _ _ ⟨b12,rfl,rfl⟩;refine yp (qq (cs:=#[I 0,I 0,I 0,I 0]) (vs:=kdC (gN (qk S d).N root)) (kdC (gN (qk S d).N root)).toArray sizeOf105 rR rR rR rR (by simp) (qv rR)) ?_;rintro _ _ rfl;refine qb (qf ?_);refine yw (Lf:=[pt b (.cells #[ptr p 0, .map (some r)] 95 (0,0)),mp r (tb yQ 24 (qk S d).N),pt b12 (.cells (kdC (gN (qk S d).N root)).toArray 105 (0,0))]) [(0,false),(1,false),(2,false),(3,false),(4,false),(5,false),(6,false),(7,false),(8,false),(9,false),(10,true),(11,true)] (by kernel_rfl) (by kernel_rfl) rR (by kernel_rfl) ?_;refine dM rR rR rR (d_v rR (qc rR) rR (d_v rR (qa 1 underlying95 rR rR sizeOf93 (by decide) rR) rR (d_v rR (qe (v:= .map (some r)) isAgg93 rR rR) rR (dM rR rR rR (d_v rR (ztp rR rR (by decide) (quo4 at_ hat)) rR (d_v rR (zcx (at_ / 4) underlying105 sizeOf3 rR rR rR (by omega)) rR (d_v rR (qe (v:=I (kat (gN (qk S d).N root) (at_ / 4))) isAgg3 rR (by simpa [yl] using ze2 (gN (qk S d).N root) (at_ / 4) (by omega))) rR (d_v rR (yF (v:=yQ (gN (qk S d).N (kat (gN (qk S d).N root) (at_ / 4)))) underlying93 underlying3 zeroValue107 rR rR (lkN hok1.2.2.1 _)) rR (d_v rR (zgu (kdC (gN (qk S d).N (kat (gN (qk S d).N root) (at_ / 4)))) underlying107 rR isAgg105 sizeOf105 rR (zgc _)) rR ?_)))))))));refine d_l rR (qy #[I 0,I 0,I 0,I 0] zeroValue105) rR ?_;rintro _ _ ⟨b13,rfl,rfl⟩;refine zoK rR (qq (cs:=#[I 0,I 0,I 0,I 0]) (vs:=kdC (gN (qk S d).N (kat (gN (qk S d).N root) (at_ / 4)))) (kdC (gN (qk S d).N (kat (gN (qk S d).N root) (at_ / 4)))).toArray sizeOf105 rR rR rR rR (by simp) (qv rR)) ?_;rintro _ _ rfl;refine yc ?_;refine gS (gM rR (g_v (zoP rR rR (by decide) (rem4 at_)) rR (gM rR (g_v (zcx (at_ % 4) underlying105 sizeOf3 rR rR rR (Nat.mod_lt _ (by decide))) rR ?_))));refine yp (qH (kdC (wn (qk S d) root at_ (qt S d).1)).toArray sizeOf3 rR rR rR (by simp;omega) (zrd (Nat.mod_lt _ (by decide)) (by omega))) ?_;rintro _ _ rfl;refine qb (qf ?_);refine yr p r b ((qk S d)) (.refl _) ?_;refine qo (gM rR (g_v (qI (vs:=kdC (wn (qk S d) root at_ (qt S d).1)) isAgg105 sizeOf105 rR rR qR) rR ?_));refine g_l (qi (Pre:=[ixl b (qk S d)]) call124 rfl (zaA b (qk S d) (wn (qk S d) root at_ (qt S d).1) true m hok1 (by omega) (fun h=>by cases h))) rfl ?_
    rintro _ _ ⟨rfl,rfl⟩;refine gM rR (g_v (qd (v:=I (yE (qk S d) (wn (qk S d) root at_ (qt S d).1)).1) rR rR) rR (g_v (qd (v:=zbV 108 (yE (qk S d) (wn (qk S d) root at_ (qt S d).1)).2) rR rR) rR (gA rR (gA rR (qb (qf (gS (gM rR (g_v (yf underlying37 rR) rR (qb ?_))))))))));refine qg rR (fun h53=>?_) (fun h53=>?_)
    · simp at h53;refine gS (gM rR (gA rR (gA rR (qb ?_))));rw[show zc7 S root at_ d=(0,(yE (qk S d) (wn (qk S d) root at_ (qt S d).1)).2) by unfold zc7;simp only;rw[if_neg (by omega),if_pos h53],show zjd S root at_ d=(yq true (qk S d) (wn (qk S d) root at_ (qt S d).1)) by unfold zjd;simp only;rw[if_neg (by omega),if_pos h53]];exact qn rfl rfl rfl
    · simp at h53;refine qh (qf (gS (gM rR (g_v (yA rR rR) rR (qb ?_)))));refine qg rR (fun h56=>?_) (fun h56=>?_)
      · simp at h56;refine zai b ((yq true (qk S d) (wn (qk S d) root at_ (qt S d).1))) ?_;intro p2 r2;refine qo (gM rR (g_v (qc rR) rR (g_v (qa 0 underlying95 rR rR sizeOf92 (by decide) rR) rR (g_v (qe (v:=ptr p2 0) isAgg92 rR rR) rR (gM rR ?_)))));refine g_l (qi (Pre:=[plb p2 (yq true (qk S d) (wn (qk S d) root at_ (qt S d).1)).B]) call125 rR (zb8 p2 (yq true (qk S d) (wn (qk S d) root at_ (qt S d).1)).B (qt S d).1 (zg2 hok2 (by omega)))) rR ?_;rintro _ _ ⟨rfl,rfl⟩;refine qb ?_;refine yr p2 r2 b (⟨zc5 (yq true (qk S d) (wn (qk S d) root at_ (qt S d).1)).B (qt S d).1 (-1),(yq true (qk S d) (wn (qk S d) root at_ (qt S d).1)).N⟩) (.refl _) ?_;rw[show (⟨zc5 (yq true (qk S d) (wn (qk S d) root at_ (qt S d).1)).B (qt S d).1 (-1),(yq true (qk S d) (wn (qk S d) root at_ (qt S d).1)).N⟩:SI)=(unB (yq true (qk S d) (wn (qk S d) root at_ (qt S d).1)) (qt S d).1) by unfold unB;rw[if_pos h56]];refine gS (gM rR (g_v (ztp rR rR (by decide) (quo4 at_ hat)) rR (gM rR (g_v (zcx (at_ / 4) underlying105 sizeOf3 rR rR rR (by omega)) rR ?_))));refine yp (qH (kdC (zc6 (qk S d) root at_ (yE (qk S d) (wn (qk S d) root at_ (qt S d).1)).1)).toArray sizeOf3 rR rR rR (by simp;omega) (zrd (by omega) (by omega))) ?_;rintro _ _ rfl;refine qb (gS (gM rR (g_v (qI (vs:=kdC (zc6 (qk S d) root at_ (yE (qk S d) (wn (qk S d) root at_ (qt S d).1)).1)) isAgg105 sizeOf105 rR rR qR) rR ?_)));refine g_l (qi (Pre:=[ixl b (unB (yq true (qk S d) (wn (qk S d) root at_ (qt S d).1)) (qt S d).1)]) call124 rR (zaA b (unB (yq true (qk S d) (wn (qk S d) root at_ (qt S d).1)) (qt S d).1) (zc6 (qk S d) root at_ (yE (qk S d) (wn (qk S d) root at_ (qt S d).1)).1) false (m+4) hok3 (by omega) (fun _=>hk3))) rR ?_;rintro _ _ ⟨rfl,rfl⟩;refine gM rR (g_v (qd (v:=I (yE (unB (yq true (qk S d) (wn (qk S d) root at_ (qt S d).1)) (qt S d).1) (zc6 (qk S d) root at_ (yE (qk S d) (wn (qk S d) root at_ (qt S d).1)).1)).1) rR rR) rR (g_v (qd (v:=zbV 108 (yE (unB (yq true (qk S d) (wn (qk S d) root at_ (qt S d).1)) (qt S d).1) (zc6 (qk S d) root at_ (yE (qk S d) (wn (qk S d) root at_ (qt S d).1)).1)).2) rR rR) rR (gA rR (gA rR (qb (qf (gS (gM rR (g_v (yf underlying37 rR) rR (qb ?_))))))))));refine qg rR (fun h74=>?_) (fun h74=>?_)
        · simp at h74;refine gS (gM rR (gA rR (gA rR (qb ?_))));rw[show zc7 S root at_ d=(0,(yE (unB (yq true (qk S d) (wn (qk S d) root at_ (qt S d).1)) (qt S d).1) (zc6 (qk S d) root at_ (yE (qk S d) (wn (qk S d) root at_ (qt S d).1)).1)).2) by unfold zc7;simp only;rw[if_neg (by omega),if_neg (by omega),if_pos h74],show zjd S root at_ d=(yq false (unB (yq true (qk S d) (wn (qk S d) root at_ (qt S d).1)) (qt S d).1) (zc6 (qk S d) root at_ (yE (qk S d) (wn (qk S d) root at_ (qt S d).1)).1)) by unfold zjd;simp only;rw[if_neg (by omega),if_neg (by omega),if_pos h74]];exact qn rfl rfl rfl
        · simp at h74;refine qh (gS (gM rR (gM rR ?_)));refine g_l (qi (Pre:=[ixl b (yq false (unB (yq true (qk S d) (wn (qk S d) root at_ (qt S d).1)) (qt S d).1) (zc6 (qk S d) root at_ (yE (qk S d) (wn (qk S d) root at_ (qt S d).1)).1))]) call126 rR (zbT b (yq false (unB (yq true (qk S d) (wn (qk S d) root at_ (qt S d).1)) (qt S d).1) (zc6 (qk S d) root at_ (yE (qk S d) (wn (qk S d) root at_ (qt S d).1)).1)) (yE (qk S d) (wn (qk S d) root at_ (qt S d).1)).1 (m+4+4) hok4 (by omega))) rR ?_;rintro _ _ ⟨rfl,rfl⟩;refine qb (gS (gM rR (gA rR (gA rR (qb ?_)))));rw[show zc7 S root at_ d=((yE (unB (yq true (qk S d) (wn (qk S d) root at_ (qt S d).1)) (qt S d).1) (zc6 (qk S d) root at_ (yE (qk S d) (wn (qk S d) root at_ (qt S d).1)).1)).1,0) by unfold zc7;simp only;rw[if_neg (by omega),if_neg (by omega),if_neg (by omega)],show zjd S root at_ d=unL (yq false (unB (yq true (qk S d) (wn (qk S d) root at_ (qt S d).1)) (qt S d).1) (zc6 (qk S d) root at_ (yE (qk S d) (wn (qk S d) root at_ (qt S d).1)).1)) (yE (qk S d) (wn (qk S d) root at_ (qt S d).1)).1 by unfold zjd;simp only;rw[if_neg (by omega),if_neg (by omega),if_neg (by omega)]];exact qn rfl rfl rfl
      · simp at h56;rw[show ixl b (yq true (qk S d) (wn (qk S d) root at_ (qt S d).1))=ixl b (unB (yq true (qk S d) (wn (qk S d) root at_ (qt S d).1)) (qt S d).1) by unfold unB;rw[if_neg (by omega)]];refine qh (gS (gM rR (g_v (ztp rR rR (by decide) (quo4 at_ hat)) rR (gM rR (g_v (zcx (at_ / 4) underlying105 sizeOf3 rR rR rR (by omega)) rR ?_)))));refine yp (qH (kdC (zc6 (qk S d) root at_ (yE (qk S d) (wn (qk S d) root at_ (qt S d).1)).1)).toArray sizeOf3 rR rR rR (by simp;omega) (zrd (by omega) (by omega))) ?_;rintro _ _ rfl;refine qb (gS (gM rR (g_v (qI (vs:=kdC (zc6 (qk S d) root at_ (yE (qk S d) (wn (qk S d) root at_ (qt S d).1)).1)) isAgg105 sizeOf105 rR rR qR) rR ?_)));refine g_l (qi (Pre:=[ixl b (unB (yq true (qk S d) (wn (qk S d) root at_ (qt S d).1)) (qt S d).1)]) call124 rR (zaA b (unB (yq true (qk S d) (wn (qk S d) root at_ (qt S d).1)) (qt S d).1) (zc6 (qk S d) root at_ (yE (qk S d) (wn (qk S d) root at_ (qt S d).1)).1) false (m+4) hok3 (by omega) (fun _=>hk3))) rR ?_;rintro _ _ ⟨rfl,rfl⟩;refine gM rR (g_v (qd (v:=I (yE (unB (yq true (qk S d) (wn (qk S d) root at_ (qt S d).1)) (qt S d).1) (zc6 (qk S d) root at_ (yE (qk S d) (wn (qk S d) root at_ (qt S d).1)).1)).1) rR rR) rR (g_v (qd (v:=zbV 108 (yE (unB (yq true (qk S d) (wn (qk S d) root at_ (qt S d).1)) (qt S d).1) (zc6 (qk S d) root at_ (yE (qk S d) (wn (qk S d) root at_ (qt S d).1)).1)).2) rR rR) rR (gA rR (gA rR (qb (qf (gS (gM rR (g_v (yf underlying37 rR) rR (qb ?_))))))))));refine qg rR (fun h74=>?_) (fun h74=>?_)
        · simp at h74;refine gS (gM rR (gA rR (gA rR (qb ?_))));rw[show zc7 S root at_ d=(0,(yE (unB (yq true (qk S d) (wn (qk S d) root at_ (qt S d).1)) (qt S d).1) (zc6 (qk S d) root at_ (yE (qk S d) (wn (qk S d) root at_ (qt S d).1)).1)).2) by unfold zc7;simp only;rw[if_neg (by omega),if_neg (by omega),if_pos h74],show zjd S root at_ d=(yq false (unB (yq true (qk S d) (wn (qk S d) root at_ (qt S d).1)) (qt S d).1) (zc6 (qk S d) root at_ (yE (qk S d) (wn (qk S d) root at_ (qt S d).1)).1)) by unfold zjd;simp only;rw[if_neg (by omega),if_neg (by omega),if_pos h74]];exact qn rfl rfl rfl
        · simp at h74;refine qh (gS (gM rR (gM rR ?_)));refine g_l (qi (Pre:=[ixl b (yq false (unB (yq true (qk S d) (wn (qk S d) root at_ (qt S d).1)) (qt S d).1) (zc6 (qk S d) root at_ (yE (qk S d) (wn (qk S d) root at_ (qt S d).1)).1))]) call126 rR (zbT b (yq false (unB (yq true (qk S d) (wn (qk S d) root at_ (qt S d).1)) (qt S d).1) (zc6 (qk S d) root at_ (yE (qk S d) (wn (qk S d) root at_ (qt S d).1)).1)) (yE (qk S d) (wn (qk S d) root at_ (qt S d).1)).1 (m+4+4) hok4 (by omega))) rR ?_;rintro _ _ ⟨rfl,rfl⟩;refine qb (gS (gM rR (gA rR (gA rR (qb ?_)))));rw[show zc7 S root at_ d=((yE (unB (yq true (qk S d) (wn (qk S d) root at_ (qt S d).1)) (qt S d).1) (zc6 (qk S d) root at_ (yE (qk S d) (wn (qk S d) root at_ (qt S d).1)).1)).1,0) by unfold zc7;simp only;rw[if_neg (by omega),if_neg (by omega),if_neg (by omega)],show zjd S root at_ d=unL (yq false (unB (yq true (qk S d) (wn (qk S d) root at_ (qt S d).1)) (qt S d).1) (zc6 (qk S d) root at_ (yE (qk S d) (wn (qk S d) root at_ (qt S d).1)).1)) (yE (qk S d) (wn (qk S d) root at_ (qt S d).1)).1 by unfold zjd;simp only;rw[if_neg (by omega),if_neg (by omega),if_neg (by omega)]];exact qn rfl rfl rfl
theorem zem (b:Nat)(S:SI)(F:List HProp):Ct Tryz.prog 69 [ptr b 0] ([ixl b S]++F) (fun v L'=>∃q,v=ptr q 0∧L'=ixl q S::ixl b S::F):=by
  show Ct Tryz.prog 69 [ptr b 0] (ixl b S::F) _;refine Ct.of func69 rR 31 ntmps69 (by simp) fun w0=>?_;refine zai b (S) ?_;intro p r;refine gS (gA rR (qb (gS (gM rR (g_v (qc rR) rR (g_v (qa 0 underlying95 rR rR sizeOf92 (by decide) rR) rR (g_v (qe (v:=ptr p 0) isAgg92 rR rR) rR ?_)))))));refine g_l (qi (Pre:=[plb p S.B]) call113 rR (zfu p S.B)) rR ?_;rintro _ _ ⟨p2,rfl,rfl⟩;refine g_l (zaP) rR ?_;rintro _ _ ⟨b11,rfl,rfl⟩;refine g_v (qP rR (zkT _ rR _ rR)) rR ?_;refine g_l (wR #[ptr p2 0, .map (some b11)] rfl rR) rR ?_;rintro _ _ ⟨b13,rfl,rfl⟩;refine gA rR (qb ?_);refine zaj r ?_;intro es clk;refine qf (gS (gM rR (g_v (qc rR) rR (g_v (qa 1 underlying95 rR rR sizeOf93 (by decide) rR) rR (g_v (qe (v:= .map (some r)) isAgg93 rR rR) rR ?_)))));refine g_l (zbq underlying93 rR) rR ?_;rintro _ _ ⟨b18,rfl,rfl⟩;refine qb (qj ?_);refine qE (α:=MM×MM×Option (Int×Value)) (fun z=>(z.2.1++z.1).Perm (tb yQ 24 S.N)) (fun _=>U [(0,ptr b 0),(3,ptr b13 0),(18,ptr b18 0)]) (fun z=>mit b18 r es clk z.1 z.2.2::mpE r es clk (tb yQ 24 S.N)::pt b (.cells #[ptr p 0, .map (some r)] 95 (0,0))::plb p S.B::pt b13 (.cells #[ptr p2 0, .map (some b11)] 95 (0,0))::plb p2 S.B::mp b11 z.2.1::F) (fun z=>z.1.length) (tb yQ 24 S.N,[],none) (.refl _) [0,3,18] rfl rR ?_;rintro ⟨rest,got,cur⟩ hp;simp only at hp;refine gS ?_;refine g_l (zcT rR) rR ?_;rintro _ _ (⟨hr,rfl,rfl⟩ | ⟨⟨k,v⟩,rest',hq,rfl,rfl⟩)
  · subst hr;have hg:got.Perm (tb yQ 24 S.N):=(by simpa using hp);refine g_v (qd rR rR) rR (qb (qf ?_));refine yR rR ?_;refine qz rR ?_;refine gS (gM rR (gA rR (qb ?_)));refine yr p2 b11 b13 S hg ?_;refine qL r ?_;refine yr p r b S (.refl _) ?_;refine zbI (L2:=ixl b13 S::ixl b S::F) ?_;exact fun a w hE hS=>wp_ret (yb (qw (vs:=[ptr b13 0]) rfl hE hS ⟨b13,rfl,rfl⟩))
  · obtain ⟨x,hx,hv,hk⟩:=zio (hp.mem_iff.1 (List.mem_append_right _ (hq.mem_iff.2 (List.mem_cons_self ..))));simp only at hv hk hx;subst hv;have hp2:(got++(k,yQ x)::rest').Perm (tb yQ 24 S.N):=(hq.append_left got).symm.trans hp;have hl:=ziq hp2 (zby yQ 24 S.N);refine g_v (qd rR rR) rR (qb (qf ?_));refine wV rR ?_;refine qh (qj (gS (g_v (zbs rR) rR (g_v (qd (v:=I k) rR rR) rR (g_v (qd (v:=yQ x) rR rR) rR ?_)))));refine g_l (qy #[I 0,I 0,I 0,I 0,I 0] zeroValue107) rR ?_;rintro _ _ ⟨b5,rfl,rfl⟩;refine gA rR ?_;refine yp (qq (cs:=#[I 0,I 0,I 0,I 0,I 0]) (vs:=ndC x) (ndC x).toArray sizeOf107 rR rR rR rR (by simp) (qv rR)) ?_;rintro _ _ rfl;refine qb ?_;refine yw (Lf:=[pt b13 (.cells #[ptr p2 0, .map (some b11)] 95 (0,0)),pt b5 (.cells (ndC x).toArray 107 (0,0))]) [(0,false),(1,false),(2,false),(3,false),(4,false),(5,false),(6,true)] (by kernel_rfl) (by kernel_rfl) rR (by kernel_rfl) ?_;refine dM rR rR rR (d_v rR (qc rR) rR (d_v rR (qa 1 underlying95 rR rR sizeOf93 (by decide) rR) rR (d_v rR (qe (v:= .map (some b11)) isAgg93 rR rR) rR (dM rR rR rR (d_v rR (qI (vs:=ndC (x)) isAgg107 sizeOf107 rR rR qR) rR ?_)))));refine zoK rR (yg underlying93 underlying3 rR rR rR) ?_;rintro _ _ rfl;refine yc ?_;refine qF ?_;refine qm (rest',zgC got k (yQ x),some (k,yQ x)) ((znv hl).trans hp2) (by have:=hq.length_eq;simp at this;simp;omega) [0,3,18] rfl rfl
theorem zfZ (b:Nat)(S:SI)(F:List HProp):Ct Tryz.prog 42 [ptr b 0] ([ixl b S]++F) (RSl 3 1 (ids 24 S.N).length (yY (ids 24 S.N)) (ixl b S::F)):=by
  show Ct Tryz.prog 42 [ptr b 0] (ixl b S::F) _;refine Ct.of func42 rR 21 ntmps42 (by simp) fun w0=>?_;refine zai b (S) ?_;intro p r;refine zaj r ?_;intro es clk;refine yG 3 1 (yY []) rR ?_;refine gS (gA rR (qb (gS (gA rR (qb (qf (gS (gM rR (g_v (qc rR) rR (g_v (qa 1 underlying95 rR rR sizeOf93 (by decide) rR) rR (g_v (qe (v:= .map (some r)) isAgg93 rR rR) rR ?_)))))))))));refine g_l (zbq underlying93 rR) rR ?_;rintro _ _ ⟨b9,rfl,rfl⟩;refine qb (qj ?_);refine qE (α:=MM×List Int×Option (Int×Value)×Option Addr×Nat) (fun z=>(z.2.1++z.1.map (·.1)).Perm (ids 24 S.N)) (fun z=>U [(0,ptr b 0),(9,ptr b9 0),(3,sl z.2.2.2.1 z.2.1.length z.2.2.2.2)]) (fun z=>mit b9 r es clk z.1 z.2.2.1::mpE r es clk (tb yQ 24 S.N)::pt b (.cells #[ptr p 0, .map (some r)] 95 (0,0))::plb p S.B::owL 3 1 z.2.2.2.1 z.2.2.2.2 (yY z.2.1)::F) (fun z=>z.1.length) (tb yQ 24 S.N,[],none,none,0) (by rw[List.nil_append,zds]) [0,9,3] rfl rR ?_;rintro ⟨rest,zs,cur,s,c⟩ hp;simp only[] at hp ⊢;have hzl:zs.length≤24:=(by have h1:=hp.length_eq;have h2:=zaI 24 S.N;simp at h1;omega);refine gS ?_;refine g_l (zcT rR) rR ?_;rintro _ _ (⟨hr,rfl,rfl⟩ | ⟨⟨k,v⟩,rest',hq,rfl,rfl⟩)
  · subst hr;simp only[List.map_nil,List.append_nil] at hp;refine g_v (qd rR rR) rR (qb (qf ?_));refine yR rR ?_;refine qz rR ?_;refine gS (gM rR ?_);refine g_l (qi (Pre:=[owL 3 1 s c (yY zs)]) call73 rR (zba zs s zs.length c rR (by omega))) rR ?_;rintro _ _ ⟨rfl,rfl⟩;rw[zgw hp];refine qb (gS (gM rR (gA rR (qb ?_))));refine qL r ?_;refine yr p r b S (.refl _) ?_;exact wx rfl rfl rfl (by rw[hp.length_eq])
  · have hp2:(zs++k::rest'.map (·.1)).Perm (ids 24 S.N):=by
        have h1:=((hq.map (·.1)).append_left zs).symm.trans hp;simpa using h1
    refine g_v (qd rR rR) rR (qb (qf ?_));refine wV rR ?_;refine qh (qj (gS (g_v (zbs rR) rR (g_v (qd (v:=I k) rR rR) rR (gA rR (qb (qo (gM rR (gM rR ?_)))))))));refine g_l (qs [[I k]] underlying61 sizeOf3 zeroValue3 rR rR rR (by simp) (by decide) (by decide)) rR ?_;rintro _ _ ⟨b16,rfl,rfl⟩;refine g_l (yC underlying61 sizeOf3 zeroValue3 rfl Tryz.typeInfo3 (by decide) rfl rfl (wu _) rfl (by simp) (by intro r hr;simp at hr;subst hr;rfl) ⟨by omega,by decide,by decide⟩) rfl ?_;rintro _ _ ⟨s17,c17,rfl,rfl⟩;refine gA rR (qb (qF ?_));rw[show yY zs++ [[I k]]=yY (zs++ [k]) by simp[yY]];refine qm (rest',zs++ [k],some (k,v),s17,c17) (by simpa using hp2) (by have:=hq.length_eq;simp at this;simp;omega) [0,9,3] rfl (by simp[U])
def occ (n:Option Nd)(q:Int):Int:=match n with
  | none=>0
  | some n=>(if n.k0=q then 1 else 0)+(if n.k1=q then 1 else 0)+(if n.k2=q then 1 else 0)+(if n.k3=q then 1 else 0)
def zgV (N:NdT)(q:Int):List Nat→Int
  | []=>0
  | k::l=>occ (N (k:Int)) q+zgV N q l
def tot (N:NdT)(q:Int):Int:=zgV N q (List.range' 1 24)
theorem zk4 (n:Option Nd)(q:Int):0≤occ n q:=by
  cases n with
  | none=>simp[occ]
  | some n=>simp only[occ];split <;> split <;> split <;> split <;> omega
theorem zxD (n:Option Nd)(q:Int):occ n q≤4:=by
  cases n with
  | none=>simp[occ]
  | some n=>simp only[occ];split <;> split <;> split <;> split <;> omega
theorem zlu (N:NdT)(q:Int):∀l,0≤zgV N q l
  | []=>by simp[zgV]
  | k::l=>by have:=zlu N q l;have:=zk4 (N (k:Int)) q;simp only[zgV];omega
theorem zrA (N:NdT)(q:Int):∀l,zgV N q l≤4*l.length
  | []=>by simp[zgV]
  | k::l=>by have:=zrA N q l;have:=zxD (N (k:Int)) q;simp only[zgV,List.length_cons];omega
theorem zdy (N:NdT)(q:Int):0≤tot N q:=zlu _ _ _
theorem zmR (N:NdT)(q:Int):tot N q≤96:=by have:=zrA N q (List.range' 1 24);simp at this;exact this
theorem zpw {N:NdT}{q:Int}{k:Nat}:∀{l:List Nat},k∈l→occ (N (k:Int)) q≤zgV N q l
  | [],h=>by simp at h
  | j::l,h=>by
    have h1:=zlu N q l;have h2:=zk4 (N (j:Int)) q;simp only[zgV];rcases List.mem_cons.1 h with rfl | h
    · omega
    · have:=zpw (N:=N) (q:=q) h;omega
theorem zeI {N:NdT}{q p:Int}{x:Option Nd}:∀{l:List Nat},(∀k∈l,(k:Int)≠p)→zgV (qD N p x) q l=zgV N q l
  | [],_=>rfl
  | j::l,h=>by
    simp only[zgV];rw[zeI (fun k hk=>h k (List.mem_cons_of_mem _ hk))];have:=h j (by simp);simp[qD,this]
theorem zkY {N:NdT}{q:Int}{p:Nat}{x:Option Nd}:∀{l:List Nat},l.Nodup→p∈l→zgV (qD N (p:Int) x) q l=zgV N q l - occ (N (p:Int)) q+occ x q
  | [],_,h=>by simp at h
  | j::l,hn,h=>by
    rw[List.nodup_cons] at hn;simp only[zgV];by_cases hj:j=p
    · subst hj;have hnj:∀k∈l,(k:Int)≠(j:Int):=fun k hk e=>hn.1 (by
          have h9:k=j:=(by omega);exact h9 ▸ hk)
      rw[zeI hnj];simp[qD];omega
    · rcases List.mem_cons.1 h with rfl | h
      · exact absurd rfl hj
      · rw[zkY hn.2 h];have:(j:Int)≠p:=(by omega);simp[qD,this];omega
theorem zgf {N:NdT}{p:Int}(hp:1≤p∧p≤24)(x:Option Nd)(q:Int):tot (qD N p x) q=tot N q - occ (N p) q+occ x q:=by
  obtain ⟨k,rfl⟩:∃k:Nat,p=k:=⟨p.toNat,by omega⟩;exact zkY (List.nodup_range' (step:=1)) (by rw[List.mem_range'_1];omega)
theorem zm9 {N:NdT}{p:Int}(hp:1≤p∧p≤24)(q:Int):occ (N p) q≤tot N q:=by
  obtain ⟨k,rfl⟩:∃k:Nat,p=k:=⟨p.toNat,by omega⟩;exact zpw (by rw[List.mem_range'_1];omega)
theorem zi3 (n:Nd):∀i,i<4→1≤occ (some n) (kat n i)
  | 0,_=>by simp only[occ,kat];split <;> split <;> split <;> split <;> first | omega | exact absurd trivial ‹¬True›
  | 1,_=>by simp only[occ,kat];split <;> split <;> split <;> split <;> first | omega | exact absurd trivial ‹¬True›
  | 2,_=>by simp only[occ,kat];split <;> split <;> split <;> split <;> first | omega | exact absurd trivial ‹¬True›
  | 3,_=>by simp only[occ,kat];split <;> split <;> split <;> split <;> first | omega | exact absurd trivial ‹¬True›
  | i+4,h=>absurd h (by omega)
theorem zmr {n:Nd}{q:Int}(h:0<occ (some n) q):∃i,i<4∧kat n i=q:=by
  simp only[occ] at h;by_cases h0:n.k0=q
  · exact ⟨0,by omega,h0⟩
  · by_cases h1:n.k1=q
    · exact ⟨1,by omega,h1⟩
    · by_cases h2:n.k2=q
      · exact ⟨2,by omega,h2⟩
      · by_cases h3:n.k3=q
        · exact ⟨3,by omega,h3⟩
        · simp[h0,h1,h2,h3] at h
theorem zgZ {N:NdT}{q:Int}:∀{l:List Nat},(∀k∈l,occ (N (k:Int)) q=0)→zgV N q l=0
  | [],_=>rfl
  | k::l,h=>by simp only[zgV];rw[h k (by simp),zgZ fun j hj=>h j (List.mem_cons_of_mem _ hj)];rfl
theorem znj (q:Int):tot (fun _=>none) q=0:=zgZ fun _ _=>rfl
structure Gh where
  R:NdT
  L:NdT
  D:Int→Option Bytes
  eR:Int→Int
  eL:Int→Int
  eB:Int→Int
def mkN (G:Gh):NdT:=fun q=>match G.R q with
  | some n=>some (rf n (G.eR q))
  | none=>(G.L q).map fun n=>rf n (G.eL q+tot G.R q)
def mkB (G:Gh):BkT:=fun q=>(G.D q).map fun d=>(d,G.eB q+tot G.L q)
def mkG (G:Gh):SI:=⟨mkB G,mkN G⟩
structure Val (G:Gh):Prop where
  sR:sup 24 G.R
  sL:sup 24 G.L
  sD:sup 40 G.D
  dj:∀q,G.R q=none∨G.L q=none
  nR:∀q,0≤G.eR q
  nL:∀q,0≤G.eL q
  nB:∀q,0≤G.eB q
  pR:∀q,q≠0→((G.R q).isSome=true ↔ 0<G.eR q)
  pL:∀q,q≠0→((G.L q).isSome=true ↔ 0<G.eL q+tot G.R q)
  pD:∀q,q≠0→((G.D q).isSome=true ↔ 0<G.eB q+tot G.L q)
def del (f:Int→Int)(q:Int)(d:Int):Int→Int:=fun p=>if p=q then f p+d else f p
theorem zdO (f:Int→Int)(q d:Int):del f q d q=f q+d:=by simp[del]
theorem zni (f:Int→Int){q p:Int}(d:Int)(h:p≠q):del f q d p=f p:=by simp[del,h]
theorem sup0 {ρ:Type}{n:Nat}{B:Int→Option ρ}(h:sup n B):B 0=none:=by
  cases e:B 0 with
  | none=>rfl
  | some x=>have:=h 0 x e;omega
theorem zcy {ρ:Type}{n:Nat}{B:Int→Option ρ}(h:sup n B){q:Int}{x:ρ}(e:B q=some x):q≠0:=by have:=h q x e;omega
theorem Val.kidR {G:Gh}(V:Val G){q:Int}{n:Nd}(h:G.R q=some n){i:Nat}(hi:i<4):kat n i=0∨∃m,G.L (kat n i)=some m:=by
  by_cases h0:kat n i=0
  · exact .inl h0
  · right;have h1:=zm9 (N:=G.R) (V.sR q n h) (kat n i);rw[h] at h1;have h2:=zi3 n i hi;have h3:=(V.pL _ h0).2 (by have:=V.nL (kat n i);omega);exact Option.isSome_iff_exists.1 h3
theorem Val.kidL {G:Gh}(V:Val G){q:Int}{n:Nd}(h:G.L q=some n){i:Nat}(hi:i<4):kat n i=0∨∃d,G.D (kat n i)=some d:=by
  by_cases h0:kat n i=0
  · exact .inl h0
  · right;have h1:=zm9 (N:=G.L) (V.sL q n h) (kat n i);rw[h] at h1;have h2:=zi3 n i hi;have h3:=(V.pD _ h0).2 (by have:=V.nB (kat n i);omega);exact Option.isSome_iff_exists.1 h3
theorem zg5 {G:Gh}{q:Int}{n:Nd}(h:G.R q=some n):(mkG G).N q=some (rf n (G.eR q)):=by simp[mkG,mkN,h]
theorem zh6 {G:Gh}(V:Val G){q:Int}{n:Nd}(h:G.L q=some n):(mkG G).N q=some (rf n (G.eL q+tot G.R q)):=by
  have:G.R q=none:=(V.dj q).resolve_right (by rw[h];simp);simp[mkG,mkN,h,this]
theorem zcE {G:Gh}{q:Int}(h:G.R q=none)(h2:G.L q=none):(mkG G).N q=none:=by simp[mkG,mkN,h,h2]
theorem zlR {G:Gh}{q:Int}(h:(mkG G).N q=none):G.R q=none∧G.L q=none:=by
  simp only[mkG,mkN] at h;cases e:G.R q with
  | some n=>rw[e] at h;cases h
  | none=>rw[e] at h;simp at h;exact ⟨rfl,h⟩
theorem zb5 {G:Gh}{q:Int}{d:Bytes}(h:G.D q=some d):(mkG G).B q=some (d,G.eB q+tot G.L q):=by simp[mkG,mkB,h]
theorem zeE {G:Gh}{q:Int}(h:G.D q=none):(mkG G).B q=none:=by simp[mkG,mkB,h]
theorem mk_ok {G:Gh}(V:Val G){m:Int}(hR:∀q,G.eR q≤m)(hL:∀q,G.eL q≤m)(hB:∀q,G.eB q≤m):okS (m+96) (mkG G):=by
  refine ⟨fun q x e=>?_,fun q x e=>?_,fun q n e=>?_,fun q n e=>?_⟩
  · cases h:G.D q with
    | none=>rw[zeE h] at e;cases e
    | some d=>exact V.sD q d h
  · cases h:G.D q with
    | none=>rw[zeE h] at e;cases e
    | some d=>
      rw[zb5 h] at e;injection e with e;subst e;have:=(V.pD q (zcy V.sD h)).1 (by rw[h];rfl);have:=zmR G.L q;have:=hB q;simp only;omega
  · cases h:G.R q with
    | some n=>exact V.sR q n h
    | none=>cases h2:G.L q with
      | some n=>exact V.sL q n h2
      | none=>rw[zcE h h2] at e;cases e
  · cases h:G.R q with
    | some n'=>
      rw[zg5 h] at e;injection e with e;subst e;have:=(V.pR q (zcy V.sR h)).1 (by rw[h];rfl);have:=hR q;simp only[rf];omega
    | none=>cases h2:G.L q with
      | some n'=>
        rw[zh6 V h2] at e;injection e with e;subst e;have:=(V.pL q (zcy V.sL h2)).1 (by rw[h2];rfl);have:=zmR G.R q;have:=hL q;simp only[rf];omega
      | none=>rw[zcE h h2] at e;cases e
theorem zbP {S T:SI}(h1:S.B=T.B)(h2:S.N=T.N):S=T:=by cases S;cases T;simp_all
def ndSub (A B:NdT):Prop:=∀q n,A q=some n→B q=some n
def dSub (A B:Int→Option Bytes):Prop:=∀q n,A q=some n→B q=some n
def cutD (G:Gh)(b:Int):Gh:={G with eB:=del G.eB b (-1),D:=if G.eB b+tot G.L b=1 then qD G.D b none else G.D}
theorem Val.cutD {G:Gh}(V:Val G){b:Int}(hb:b≠0)(he:1≤G.eB b):Val (cutD G b):=by
  have ht:=zdy G.L b;refine ⟨V.sR,V.sL,?_,V.dj,V.nR,V.nL,fun q=>?_,V.pR,V.pL,fun q hq=>?_⟩
  · show sup 40 (if G.eB b+tot G.L b=1 then qD G.D b none else G.D);split
    · exact zbU V.sD fun e=>by cases e
    · exact V.sD
  · show 0≤del G.eB b (-1) q;unfold del;split
    · rename_i e;subst e;omega
    · exact V.nB q
  · show ((if G.eB b+tot G.L b=1 then qD G.D b none else G.D) q).isSome=true ↔ 0<del G.eB b (-1) q+tot G.L q;by_cases hqb:q=b
    · subst hqb;rw[zdO];split
      · simp[qD];omega
      · rw[V.pD q hq];omega
    · rw[zni _ _ hqb];have:(if G.eB b+tot G.L b=1 then qD G.D b none else G.D) q=G.D q:=(by split <;> simp[qD,hqb]);rw[this,V.pD q hq]
theorem zn4 {G:Gh}(V:Val G){b:Int}(hb:b≠0)(he:1≤G.eB b):(⟨zc5 (mkG G).B b (-1),(mkG G).N⟩:SI)=mkG (cutD G b):=by
  have ht:=zdy G.L b;obtain ⟨d,hd⟩:=Option.isSome_iff_exists.1 ((V.pD b hb).2 (by omega));refine zbP (funext fun q=>?_) rfl;show zc5 (mkG G).B b (-1) q=mkB (cutD G b) q;unfold zc5;rw[zb5 hd];simp only;by_cases hq:q=b
  · subst hq;show (qD _ _ _) q=((if G.eB q+tot G.L q=1 then qD G.D q none else G.D) q).map fun d=>(d,del G.eB q (-1) q+tot G.L q);rw[zdO];by_cases h1:G.eB q+tot G.L q=1
    · rw[if_pos h1,if_pos (by omega)];simp[qD]
    · rw[if_neg h1,if_neg (by omega),hd];simp[qD];omega
  · show (qD _ _ _) q=((if G.eB b+tot G.L b=1 then qD G.D b none else G.D) q).map fun d=>(d,del G.eB b (-1) q+tot G.L q);rw[zni _ _ hq];have:(if G.eB b+tot G.L b=1 then qD G.D b none else G.D) q=G.D q:=(by split <;> simp[qD,hq]);rw[this];simp[qD,hq,mkG,mkB]
theorem zsl (G:Gh)(b:Int):dSub (cutD G b).D G.D:=fun q n h=>by
  change (if G.eB b+tot G.L b=1 then qD G.D b none else G.D) q=some n at h;split at h
  · unfold qD at h;split at h
    · cases h
    · exact h
  · exact h
def cnt (l:List Int)(q:Int):Int:=if q=0 then 0 else (l.count q:Int)
theorem wk (k:Int)(l:List Int)(q:Int):cnt (k::l) q=cnt l q+if k=q∧q≠0 then 1 else 0:=by
  unfold cnt;by_cases hq:q=0
  · simp[hq]
  · rw[if_neg hq,if_neg hq,List.count_cons];by_cases hk:k=q <;> simp[hk,hq]
theorem zho (l:List Int)(q:Int):0≤cnt l q:=by unfold cnt;split <;> omega
theorem ziK (n:Nd){q:Int}(hq:q≠0):cnt (kd n) q=occ (some n) q:=by
  simp only[kd,wk,occ];have:cnt [] q=0:=(by simp[cnt]);rw[this];simp only[hq,ne_eq,not_false_eq_true,and_true];omega
structure LessD (G G':Gh):Prop where
  R:G'.R=G.R
  L:G'.L=G.L
  eR:G'.eR=G.eR
  eL:G'.eL=G.eL
  D:dSub G'.D G.D
theorem zfo:∀(l:List Int) {G:Gh},Val G→(∀q,cnt l q≤G.eB q)→∃G',Val G'∧l.foldl zbe (mkG G)=mkG G'∧LessD G G'∧∀q,G'.eB q=G.eB q - cnt l q
  | [],G,V,_=>⟨G,V,rfl,⟨rfl,rfl,rfl,rfl,fun q n h=>h⟩,fun q=>by simp[cnt]⟩
  | k::l,G,V,h=>by
    by_cases hk:k=0
    · subst hk;obtain ⟨G',V',e,s,hq⟩:=zfo l V fun q=>by have:=h q;rw[wk] at this;split at this <;> omega
      refine ⟨G',V',?_,s,fun q=>?_⟩
      · rw[List.foldl_cons,show zbe (mkG G) 0=mkG G by simp[zbe]];exact e
      · rw[hq,wk,if_neg (fun h=>h.2 h.1.symm)];omega
    · have he:1≤G.eB k:=(by have:=h k;rw[wk,if_pos ⟨rfl,hk⟩] at this;have:=zho l k;omega);obtain ⟨G',V',e,s,hq⟩:=zfo l (V.cutD hk he) fun q=>by
        have:=h q;rw[wk] at this;show cnt l q≤del G.eB k (-1) q;unfold del;by_cases hqk:q=k
        · subst hqk;rw[if_pos ⟨rfl,hk⟩] at this;simp;omega
        · rw[if_neg (fun hh=>hqk hh.1.symm)] at this;simp[hqk];omega
      refine ⟨G',V',?_,⟨s.R,s.L,s.eR,s.eL,fun q n hn=>zsl G k q n (s.D q n hn)⟩,fun q=>?_⟩
      · rw[List.foldl_cons,show zbe (mkG G) k=mkG (cutD G k) by unfold zbe;rw[if_neg hk];exact zn4 V hk he];exact e
      · rw[hq,wk];show del G.eB k (-1) q - cnt l q=_;unfold del;by_cases hqk:q=k
        · subst hqk;rw[if_pos rfl,if_pos ⟨rfl,hk⟩];omega
        · rw[if_neg hqk,if_neg (fun hh=>hqk hh.1.symm)];omega
structure LessL (G G':Gh):Prop where
  R:G'.R=G.R
  eR:G'.eR=G.eR
  eB:G'.eB=G.eB
  L:ndSub G'.L G.L
  D:dSub G'.D G.D
theorem zvj (i:Nat):kat nd0 i=0:=by unfold kat;split <;> rfl
theorem zt2 (n:Nd)(r:Int)(i:Nat):kat (rf n r) i=kat n i:=by unfold kat;split <;> rfl
theorem zei {N:NdT}{q:Int}{n:Nd}(h:N q=some n):gN N q=n:=by unfold gN;rw[h];rfl
theorem Val.keepL {G:Gh}(V:Val G){q:Int}(hq:q≠0)(he:1≤G.eL q)(h2:2≤G.eL q+tot G.R q):Val {G with eL:=del G.eL q (-1)}:=by
  refine ⟨V.sR,V.sL,V.sD,V.dj,V.nR,fun p=>?_,V.nB,V.pR,fun p hp=>?_,V.pD⟩
  · show 0≤del G.eL q (-1) p;unfold del;split
    · rename_i e;subst e;omega
    · exact V.nL p
  · show (G.L p).isSome=true ↔ 0<del G.eL q (-1) p+tot G.R p;rw[V.pL p hp];unfold del;split
    · rename_i e;subst e;omega
    · rfl
theorem zmI {G:Gh}(V:Val G){q:Int}(hq:q≠0)(he:1≤G.eL q)(h2:2≤G.eL q+tot G.R q):unL (mkG G) q=mkG {G with eL:=del G.eL q (-1)}:=by
  obtain ⟨n,hn⟩:=Option.isSome_iff_exists.1 ((V.pL q hq).2 (by omega));have hg:=zei (zh6 V hn);unfold unL unX;rw[if_neg hq,hg,if_pos (by simp only[rf];omega)];refine zbP rR (funext fun p=>?_);show qD (mkG G).N q _ p=mkN _ p;by_cases hp:p=q
  · subst hp;have hr:G.R p=none:=(V.dj p).resolve_right (by rw[hn];simp);simp only[qD,mkN,hr,hn,Option.map_some,if_pos,rf,del];congr 2;omega
  · simp only[qD,if_neg hp,mkG,mkN,del]
def goL (G:Gh)(q:Int)(n:Nd):Gh:={G with L:=qD G.L q none,eL:=del G.eL q (-1),eB:=fun p=>G.eB p+cnt (kd n) p}
theorem zp6 {G:Gh}(V:Val G){q:Int}{n:Nd}(hn:G.L q=some n){p:Int}(hp:p≠0):G.eB p+cnt (kd n) p+tot (qD G.L q none) p=G.eB p+tot G.L p:=by
  rw[zgf (V.sL q n hn),hn,ziK n hp];simp only[occ];omega
theorem Val.goL {G:Gh}(V:Val G){q:Int}{n:Nd}(hn:G.L q=some n)(he:1≤G.eL q)(h1:G.eL q+tot G.R q=1):Val (goL G q n):=by
  have ht:=zdy G.R q;refine ⟨V.sR,zbU V.sL (fun e=>by cases e),V.sD,fun p=>?_,V.nR,fun p=>?_,fun p=>?_,V.pR,fun p hp=>?_,fun p hp=>?_⟩
  · show G.R p=none∨qD G.L q none p=none;unfold qD;split
    · exact .inr rfl
    · exact V.dj p
  · show 0≤del G.eL q (-1) p;unfold del;split
    · rename_i e;subst e;omega
    · exact V.nL p
  · show 0≤G.eB p+cnt (kd n) p;have:=V.nB p;have:=zho (kd n) p;omega
  · show (qD G.L q none p).isSome=true ↔ 0<del G.eL q (-1) p+tot G.R p;unfold qD del;split
    · rename_i e;subst e;simp;omega
    · exact V.pL p hp
  · show (G.D p).isSome=true ↔ 0<G.eB p+cnt (kd n) p+tot (qD G.L q none) p;rw[zp6 V hn hp];exact V.pD p hp
theorem zyl {G:Gh}(V:Val G){q:Int}{n:Nd}(hn:G.L q=some n):(⟨(mkG G).B,qD (mkG G).N q none⟩:SI)=mkG (goL G q n):=by
  refine zbP (funext fun p=>?_) (funext fun p=>?_)
  · show (G.D p).map _=(G.D p).map _;cases h:G.D p with
    | none=>rfl
    | some d=>
      have:=zp6 V hn (zcy V.sD h);simp only[Option.map_some,goL];rw[this]
  · show qD (mkG G).N q none p=mkN (goL G q n) p;by_cases hp:p=q
    · subst hp;have hr:G.R p=none:=(V.dj p).resolve_right (by rw[hn];simp);simp[qD,mkN,goL,hr]
    · simp[qD,hp,mkG,mkN,goL,del]
theorem zxl {G:Gh}(V:Val G){q:Int}(hq:q≠0)(he:1≤G.eL q):∃G',Val G'∧unL (mkG G) q=mkG G'∧LessL G G'∧G'.eL=del G.eL q (-1):=by
  obtain ⟨n,hn⟩:=Option.isSome_iff_exists.1 ((V.pL q hq).2 (by have:=zdy G.R q;omega));by_cases h2:2≤G.eL q+tot G.R q
  · exact ⟨_,V.keepL hq he h2,zmI V hq he h2,⟨rfl,rfl,rfl,fun q n h=>h,fun q n h=>h⟩,rfl⟩
  · have h1:G.eL q+tot G.R q=1:=(by have:=zdy G.R q;omega);have hg:=zei (zh6 V hn);obtain ⟨G',V',e,s,hb⟩:=zfo (kd n) (V.goL hn he h1) fun p=>by
      show cnt (kd n) p≤G.eB p+cnt (kd n) p;have:=V.nB p;omega
    refine ⟨G',V',?_,⟨s.R,s.eR,funext fun p=>?_,fun p m hp=>?_,s.D⟩,s.eL⟩
    · unfold unL unX;rw[if_neg hq,hg,if_neg (by simp only[rf];omega),zyl V hn];exact e
    · rw[hb p];show G.eB p+cnt (kd n) p - cnt (kd n) p=G.eB p;omega
    · rw[s.L] at hp;change qD G.L q none p=some m at hp;unfold qD at hp;split at hp
      · cases hp
      · exact hp
theorem zjP:∀(l:List Int) {G:Gh},Val G→(∀q,cnt l q≤G.eL q)→∃G',Val G'∧l.foldl unL (mkG G)=mkG G'∧LessL G G'∧∀q,G'.eL q=G.eL q - cnt l q
  | [],G,V,_=>⟨G,V,rfl,⟨rfl,rfl,rfl,fun q n h=>h,fun q n h=>h⟩,fun q=>by simp[cnt]⟩
  | k::l,G,V,h=>by
    by_cases hk:k=0
    · subst hk;obtain ⟨G',V',e,s,hq⟩:=zjP l V fun q=>by have:=h q;rw[wk] at this;split at this <;> omega
      refine ⟨G',V',?_,s,fun q=>?_⟩
      · rw[List.foldl_cons,show unL (mkG G) 0=mkG G by simp[unL,unX]];exact e
      · rw[hq,wk,if_neg (fun h=>h.2 h.1.symm)];omega
    · have he:1≤G.eL k:=(by have:=h k;rw[wk,if_pos ⟨rfl,hk⟩] at this;have:=zho l k;omega);obtain ⟨G1,V1,e1,s1,hq1⟩:=zxl V hk he;obtain ⟨G',V',e,s,hq⟩:=zjP l V1 fun q=>by
        have:=h q;rw[wk] at this;rw[hq1];unfold del;by_cases hqk:q=k
        · subst hqk;rw[if_pos ⟨rfl,hk⟩] at this;simp;omega
        · rw[if_neg (fun hh=>hqk hh.1.symm)] at this;simp[hqk];omega
      refine ⟨G',V',?_,⟨s.R.trans s1.R,s.eR.trans s1.eR,s.eB.trans s1.eB,fun q n hn=>s1.L q n (s.L q n hn),fun q n hn=>s1.D q n (s.D q n hn)⟩,fun q=>?_⟩
      · rw[List.foldl_cons,e1];exact e
      · rw[hq,wk,hq1];unfold del;by_cases hqk:q=k
        · subst hqk;rw[if_pos rfl,if_pos ⟨rfl,hk⟩];omega
        · rw[if_neg hqk,if_neg (fun hh=>hqk hh.1.symm)];omega
structure LessR (G G':Gh):Prop where
  eL:G'.eL=G.eL
  eB:G'.eB=G.eB
  R:ndSub G'.R G.R
  L:ndSub G'.L G.L
  D:dSub G'.D G.D
def goR (G:Gh)(q:Int)(n:Nd):Gh:={G with R:=qD G.R q none,eR:=del G.eR q (-1),eL:=fun p=>G.eL p+cnt (kd n) p}
theorem zoX {G:Gh}(V:Val G){q:Int}{n:Nd}(hn:G.R q=some n){p:Int}(hp:p≠0):G.eL p+cnt (kd n) p+tot (qD G.R q none) p=G.eL p+tot G.R p:=by
  rw[zgf (V.sR q n hn),hn,ziK n hp];simp only[occ];omega
theorem Val.goR {G:Gh}(V:Val G){q:Int}{n:Nd}(hn:G.R q=some n)(h1:G.eR q=1):Val (goR G q n):=by
  refine ⟨zbU V.sR (fun e=>by cases e),V.sL,V.sD,fun p=>?_,fun p=>?_,fun p=>?_,V.nB,fun p hp=>?_,fun p hp=>?_,V.pD⟩
  · show qD G.R q none p=none∨G.L p=none;unfold qD;split
    · exact .inl rfl
    · exact V.dj p
  · show 0≤del G.eR q (-1) p;unfold del;split
    · rename_i e;subst e;omega
    · exact V.nR p
  · show 0≤G.eL p+cnt (kd n) p;have:=V.nL p;have:=zho (kd n) p;omega
  · show (qD G.R q none p).isSome=true ↔ 0<del G.eR q (-1) p;unfold qD del;split
    · rename_i e;subst e;simp;omega
    · exact V.pR p hp
  · show (G.L p).isSome=true ↔ 0<G.eL p+cnt (kd n) p+tot (qD G.R q none) p;rw[zoX V hn hp];exact V.pL p hp
theorem zw9 {G:Gh}(V:Val G){q:Int}{n:Nd}(hn:G.R q=some n):(⟨(mkG G).B,qD (mkG G).N q none⟩:SI)=mkG (goR G q n):=by
  refine zbP rR (funext fun p=>?_);show qD (mkG G).N q none p=mkN (goR G q n) p;by_cases hp:p=q
  · subst hp;have hr:G.L p=none:=(V.dj p).resolve_left (by rw[hn];simp);simp[qD,mkN,goR,hr]
  · have e1:qD G.R q none p=G.R p:=(by simp[qD,hp]);have e2:del G.eR q (-1) p=G.eR p:=(by simp[del,hp]);show qD (mkG G).N q none p=match qD G.R q none p with
      | some n=>some (rf n (del G.eR q (-1) p))
      | none=>(G.L p).map fun m=>rf m (G.eL p+cnt (kd n) p+tot (qD G.R q none) p)
    rw[e1,e2];simp only[qD,if_neg hp,mkG,mkN];cases hr:G.R p with
    | some m=>rfl
    | none=>cases hl:G.L p with
      | none=>rfl
      | some m=>
        have:=zoX V hn (zcy V.sL hl);show some _=some (rf m (G.eL p+cnt (kd n) p+tot (qD G.R q none) p));rw[this]
theorem zwS {G:Gh}(V:Val G){q:Int}(he:q≠0→1≤G.eR q):∃G',Val G'∧unR (mkG G) q=mkG G'∧LessR G G'∧∀p,G'.eR p=G.eR p - if p=q∧q≠0 then 1 else 0:=by
  by_cases hq:q=0
  · subst hq;exact ⟨G,V,by simp[unR,unX],⟨rfl,rfl,fun q n h=>h,fun q n h=>h,fun q n h=>h⟩,fun p=>by simp⟩
  have he:=he hq;obtain ⟨n,hn⟩:=Option.isSome_iff_exists.1 ((V.pR q hq).2 (by omega));have hg:=zei (zg5 hn);by_cases h2:2≤G.eR q
  · refine ⟨{G with eR:=del G.eR q (-1)},⟨V.sR,V.sL,V.sD,V.dj,fun p=>?_,V.nL,V.nB,fun p hp=>?_,V.pL,V.pD⟩,?_,⟨rfl,rfl,fun q n h=>h,fun q n h=>h,fun q n h=>h⟩,fun p=>?_⟩
    · show 0≤del G.eR q (-1) p;unfold del;split
      · rename_i e;subst e;omega
      · exact V.nR p
    · show (G.R p).isSome=true ↔ 0<del G.eR q (-1) p;rw[V.pR p hp];unfold del;split
      · rename_i e;subst e;omega
      · rfl
    · unfold unR unX;rw[if_neg hq,hg,if_pos (by simp only[rf];omega)];refine zbP rR (funext fun p=>?_);show qD (mkG G).N q _ p=mkN _ p;by_cases hp:p=q
      · subst hp;simp only[qD,mkN,hn,if_pos,rf,del];congr 2
      · simp only[qD,if_neg hp,mkG,mkN,del]
    · show del G.eR q (-1) p=_;unfold del;by_cases hp:p=q
      · simp[hp,hq];omega
      · simp[hp]
  · have h1:G.eR q=1:=(by omega);obtain ⟨G',V',e,s,hb⟩:=zjP (kd n) (V.goR hn h1) fun p=>by
      show cnt (kd n) p≤G.eL p+cnt (kd n) p;have:=V.nL p;omega
    refine ⟨G',V',?_,⟨funext fun p=>?_,s.eB,fun p m hp=>?_,s.L,s.D⟩,fun p=>?_⟩
    · unfold unR unX;rw[if_neg hq,hg,if_neg (by simp only[rf];omega),zw9 V hn];exact e
    · rw[hb p];show G.eL p+cnt (kd n) p - cnt (kd n) p=G.eL p;omega
    · rw[s.R] at hp;change qD G.R q none p=some m at hp;unfold qD at hp;split at hp
      · cases hp
      · exact hp
    · rw[s.eR];show del G.eR q (-1) p=_;unfold del;by_cases hp:p=q
      · simp[hp,hq];omega
      · simp[hp]
theorem ndSub.rfl {A:NdT}:ndSub A A:=fun q n h=>h
theorem ndSub.trans {A B C:NdT}(h:ndSub A B)(h2:ndSub B C):ndSub A C:=fun q n e=>h2 q n (h q n e)
theorem dSub.rfl {A:Int→Option Bytes}:dSub A A:=fun q n h=>h
theorem dSub.trans {A B C:Int→Option Bytes}(h:dSub A B)(h2:dSub B C):dSub A C:=fun q n e=>h2 q n (h q n e)
theorem zll {A:NdT}{k:Int}{n:Nd}(h:A k=none):ndSub A (qD A k (some n)):=fun q m e=>by
  unfold qD;split
  · rename_i hq;rw[hq,h] at e;cases e
  · exact e
theorem ztu {A:Int→Option Bytes}{k:Int}{n:Bytes}(h:A k=none):dSub A (qD A k (some n)):=fun q m e=>by
  unfold qD;split
  · rename_i hq;rw[hq,h] at e;cases e
  · exact e
theorem zna {G:Gh}{q:Int}{n:Nd}(h:G.R q=some n)(i:Nat):kat (gN (mkG G).N q) i=kat n i:=by rw[zei (zg5 h),zt2]
theorem zli {G:Gh}(V:Val G){q:Int}{n:Nd}(h:G.L q=some n)(i:Nat):kat (gN (mkG G).N q) i=kat n i:=by rw[zei (zh6 V h),zt2]
theorem zdj {G:Gh}(V:Val G)(i:Nat):kat (gN (mkG G).N 0) i=0:=by
  unfold gN;rw[zcE (sup0 V.sR) (sup0 V.sL)];exact zvj i
def dv (S:SI)(q:Int):Bytes:=(zsj S.B q).1
theorem zmv {G:Gh}{q:Int}{d:Bytes}(h:G.D q=some d):dv (mkG G) q=d:=by unfold dv zsj;rw[zb5 h]
theorem zvs {G:Gh}{q:Int}(h:G.D q=none):dv (mkG G) q=[]:=by unfold dv zsj;rw[zeE h]
theorem dv_0 {G:Gh}(V:Val G):dv (mkG G) 0=[]:=zvs (sup0 V.sD)
def rt (G:Gh)(q:Int):Prop:=q=0∨∃n,G.R q=some n
def lf (G:Gh)(q:Int):Prop:=q=0∨∃n,G.L q=some n
def bl (G:Gh)(q:Int):Prop:=q=0∨∃n,G.D q=some n
theorem zhY {G:Gh}(V:Val G){q:Int}(h:rt G q){i:Nat}(hi:i<4):lf G (kat (gN (mkG G).N q) i):=by
  rcases h with rfl | ⟨n,h⟩
  · exact .inl (zdj V i)
  · rw[zna h];exact V.kidR h hi
theorem zk8 {G:Gh}(V:Val G){q:Int}(h:lf G q){i:Nat}(hi:i<4):bl G (kat (gN (mkG G).N q) i):=by
  rcases h with rfl | ⟨n,h⟩
  · exact .inl (zdj V i)
  · rw[zli V h];exact V.kidL h hi
theorem zpS {G G':Gh}(V:Val G)(V':Val G')(s:ndSub G.R G'.R){q:Int}(h:rt G q)(i:Nat):kat (gN (mkG G').N q) i=kat (gN (mkG G).N q) i:=by
  rcases h with rfl | ⟨n,h⟩
  · rw[zdj V,zdj V']
  · rw[zna h,zna (s q n h)]
theorem zmi {G G':Gh}(V:Val G)(V':Val G')(s:ndSub G.L G'.L){q:Int}(h:lf G q)(i:Nat):kat (gN (mkG G').N q) i=kat (gN (mkG G).N q) i:=by
  rcases h with rfl | ⟨n,h⟩
  · rw[zdj V,zdj V']
  · rw[zli V h,zli V' (s q n h)]
theorem zlx {G G':Gh}(V:Val G)(V':Val G')(s:dSub G.D G'.D){q:Int}(h:bl G q):dv (mkG G') q=dv (mkG G) q:=by
  rcases h with rfl | ⟨n,h⟩
  · rw[dv_0 V,dv_0 V']
  · rw[zmv h,zmv (s q n h)]
theorem zex (S:SI)(root:Int)(i:Nat):zcj S root i=dv S (kat (gN S.N (kat (gN S.N root) (i / 4))) (i % 4)):=rfl
theorem zdJ {G G':Gh}(V:Val G)(V':Val G')(sR:ndSub G.R G'.R)(sL:ndSub G.L G'.L)(sD:dSub G.D G'.D){root:Int}(h:rt G root){i:Nat}(hi:i<16):zcj (mkG G') root i=zcj (mkG G) root i:=by
  rw[zex,zex,zpS V V' sR h];have h1:=zhY V h (i:=i / 4) (by omega);rw[zmi V V' sL h1];exact zlx V V' sD (zk8 V h1 (by omega))
theorem zrr {G G':Gh}(s:ndSub G.R G'.R){q:Int}(h:rt G q):rt G' q:=h.imp id fun ⟨n,e⟩=>⟨n,s q n e⟩
theorem zo3 {G G':Gh}(s:ndSub G.L G'.L){q:Int}(h:lf G q):lf G' q:=h.imp id fun ⟨n,e⟩=>⟨n,s q n e⟩
theorem zqd {G:Gh}(V:Val G){q:Int}(h:rt G q):0≤q∧q≤24:=by
  rcases h with rfl | ⟨n,h⟩
  · omega
  · have:=V.sR q n h;omega
theorem zyo {G:Gh}(V:Val G){q:Int}(h:lf G q):0≤q∧q≤24:=by
  rcases h with rfl | ⟨n,h⟩
  · omega
  · have:=V.sL q n h;omega
theorem zir {p q:Nat→Bool}(a:Nat):∀(l:List Nat),l.Nodup→(∀k∈l,k≠a→p k=true→q k=true)→(l.filter p).length≤(l.filter q).length+1
  | [],_,_=>by simp
  | k::l,hn,h=>by
    rw[List.nodup_cons] at hn;by_cases hk:k=a
    · subst hk;have h0:(l.filter p).length≤(l.filter q).length:=by
        rw[←List.countP_eq_length_filter,←List.countP_eq_length_filter];exact List.countP_mono_left fun j hj hp=>h j (List.mem_cons_of_mem _ hj) (fun e=>hn.1 (e ▸ hj)) hp
      rw[List.filter_cons,List.filter_cons];split <;> split <;> simp <;> omega
    · have h0:=zir a l hn.2 fun j hj=>h j (List.mem_cons_of_mem _ hj);have h1:=h k (by simp) hk;rw[List.filter_cons,List.filter_cons];split
      · rename_i hp;rw[if_pos (h1 hp)];simp;omega
      · split <;> simp <;> omega
theorem zlK {ρ σ:Type}{n:Nat}{A:Int→Option ρ}{B:Int→Option σ}(a:Int)(h:∀q,q≠a→(A q).isSome=true→(B q).isSome=true):(ids n A).length≤(ids n B).length+1:=by
  unfold ids;rw[List.length_map,List.length_map];exact zir a.toNat _ (List.nodup_range' (step:=1)) fun k hk hka=>h k (by rw[List.mem_range'_1] at hk;omega)
theorem ziG (G:Gh)(q:Int):((mkG G).B q).isSome=(G.D q).isSome:=by simp[mkG,mkB]
theorem zdC (G:Gh)(q:Int):((mkG G).N q).isSome=((G.R q).isSome || (G.L q).isSome):=by
  simp only[mkG,mkN];cases G.R q <;> simp
structure Blk (G G1:Gh) (d:Bytes) (b:Int):Prop where
  V:Val G1
  R:G1.R=G.R
  L:G1.L=G.L
  eR:G1.eR=G.eR
  eL:G1.eL=G.eL
  eB:G1.eB=if b=0 then G.eB else del G.eB b 1
  D:dSub G.D G1.D
  b0:b=0→d=[]
  b1:b≠0→G1.D b=some d
  ne:∀q,q≠b→G1.D q=G.D q
theorem zs2 {G:Gh}(V:Val G){d:Bytes}{b:Int}(h:qt (mkG G) d=(b,0)):∃G1,qk (mkG G) d=mkG G1∧Blk G G1 d b:=by
  unfold qt at h;by_cases hd:d=[]
  · rw[if_pos hd] at h;injection h with h;subst h;exact ⟨G,by unfold qk;rw[if_pos hd],V,rfl,rfl,rfl,rfl,rfl,fun q n h=>h,fun _=>hd,fun h=>absurd rfl h,fun q _=>rfl⟩
  · rw[if_neg hd] at h;unfold znV at h;by_cases h6:6<d.length∨d=[]
    · rw[if_pos h6] at h;injection h with _ h;cases h
    · rw[if_neg h6] at h;cases hf:zbi 40 (mkG G).B with
      | none=>rw[hf] at h;injection h with _ h;cases h
      | some k=>
        rw[hf] at h;injection h with h;subst h;have hk:=zbm hf;have hk0:(k:Int)≠0:=(by omega);have hDk:G.D k=none:=by
          have:=hk.2.1;cases e:G.D k with
          | none=>rfl
          | some x=>rw[zb5 e] at this;cases this
        have hz:G.eB k=0∧tot G.L k=0:=by
          have h1:=V.pD k hk0;rw[hDk] at h1;have h2:=V.nB k;have h3:=zdy G.L k;have h4:¬(0<G.eB k+tot G.L k):=fun h=>(by simpa using h1.2 h);omega
        refine ⟨{G with D:=qD G.D k (some d),eB:=del G.eB k 1},?_,⟨V.sR,V.sL,zbU V.sD (fun _=>by omega),V.dj,V.nR,V.nL,fun q=>?_,V.pR,V.pL,fun q hq=>?_⟩,rfl,rfl,rfl,rfl,?_,ztu hDk,fun h=>absurd h hk0,fun _=>by simp[qD],fun q hq=>by simp[qD,hq]⟩
        · unfold qk zkQ;rw[if_neg hd,if_neg h6,hf];refine zbP (funext fun q=>?_) rfl;show qD (mkG G).B k _ q=(qD G.D k (some d) q).map fun d=>(d,del G.eB k 1 q+tot G.L q);by_cases hq:q=k
          · subst hq;simp[qD,del];omega
          · simp[qD,hq,del,mkG,mkB]
        · show 0≤del G.eB k 1 q;unfold del;have:=V.nB q;split <;> omega
        · show (qD G.D k (some d) q).isSome=true ↔ 0<del G.eB k 1 q+tot G.L q;unfold qD del;split
          · rename_i e;subst e;simp;omega
          · exact V.pD q hq
        · show del G.eB k 1=_;rw[if_neg hk0]
theorem zsD {B:BkT}{q:Int}{x:Bk}(h:B q=some x)(hx:0<x.2):zc5 B q 1=qD B q (some (x.1,x.2+1)):=by
  unfold zc5;rw[h];simp only;rw[if_neg (by omega)]
theorem zfA:∀(l:List Int) (S:SI),(∀q x,S.B q=some x→0<x.2)→(∀k∈l,k=0∨∃x,S.B k=some x)→l.foldl (zcA true) S=⟨fun q=>(S.B q).map fun x=>(x.1,x.2+cnt l q),S.N⟩
  | [],S,_,_=>zbP (funext fun q=>by show S.B q=(S.B q).map _;cases S.B q <;> simp[cnt]) rfl
  | k::l,S,hp,h=>by
    rw[List.foldl_cons];by_cases hk:k=0
    · subst hk;rw[show zcA true S 0=S by simp[zcA],zfA l S hp fun j hj=>h j (List.mem_cons_of_mem _ hj)];refine zbP (funext fun q=>?_) rfl;show (S.B q).map _=(S.B q).map _;rw[wk,if_neg (fun hh=>hh.2 hh.1.symm),Int.add_zero]
    · obtain ⟨x,hx⟩:=(h k (by simp)).resolve_left hk;have hb:zcA true S k=⟨qD S.B k (some (x.1,x.2+1)),S.N⟩:=(by unfold zcA;rw[if_neg hk,if_pos rfl,zsD hx (hp k x hx)]);rw[hb,zfA l _ (fun q y hy=>?_) fun j hj=>?_]
      · refine zbP (funext fun q=>?_) rfl;show (qD S.B k (some (x.1,x.2+1)) q).map _=(S.B q).map _;rw[wk];unfold qD;by_cases hq:q=k
        · subst hq;simp[hx,hk];omega
        · rw[if_neg hq,if_neg (fun hh=>hq hh.1.symm),Int.add_zero]
      · change qD S.B k (some (x.1,x.2+1)) q=some y at hy;unfold qD at hy;split at hy
        · injection hy with hy;subst hy;have:=hp k x hx;simp only;omega
        · exact hp q y hy
      · refine (h j (List.mem_cons_of_mem _ hj)).imp id fun ⟨y,hy⟩=>?_;show ∃x',qD S.B k (some (x.1,x.2+1)) j=some x';unfold qD;split
        · exact ⟨_,rfl⟩
        · exact ⟨y,hy⟩
theorem zdU:∀(l:List Int) (S:SI),(∀k∈l,k=0∨∃x,S.N k=some x)→l.foldl (zcA false) S=⟨S.B,fun q=>(S.N q).map fun n=>rf n (n.refs+cnt l q)⟩
  | [],S,_=>zbP rfl (funext fun q=>by show S.N q=(S.N q).map _;cases S.N q <;> simp[cnt,rf])
  | k::l,S,h=>by
    rw[List.foldl_cons];by_cases hk:k=0
    · subst hk;rw[show zcA false S 0=S by simp[zcA],zdU l S fun j hj=>h j (List.mem_cons_of_mem _ hj)];refine zbP rR (funext fun q=>?_);show (S.N q).map _=(S.N q).map _;rw[wk,if_neg (fun hh=>hh.2 hh.1.symm),Int.add_zero]
    · obtain ⟨x,hx⟩:=(h k (by simp)).resolve_left hk;have hb:zcA false S k=⟨S.B,qD S.N k (some (rf x (x.refs+1)))⟩:=(by unfold zcA zif;rw[if_neg hk,if_neg (by simp),zei hx]);rw[hb,zdU l _ fun j hj=>?_]
      · refine zbP rR (funext fun q=>?_);show (qD S.N k (some (rf x (x.refs+1))) q).map _=(S.N q).map _;rw[wk];unfold qD;by_cases hq:q=k
        · subst hq;simp[hx,hk,rf];omega
        · rw[if_neg hq,if_neg (fun hh=>hq hh.1.symm),Int.add_zero]
      · refine (h j (List.mem_cons_of_mem _ hj)).imp id fun ⟨y,hy⟩=>?_;show ∃x',qD S.N k (some (rf x (x.refs+1))) j=some x';unfold qD;split
        · exact ⟨_,rfl⟩
        · exact ⟨y,hy⟩
theorem zkE {n:Nd}{k:Int}(h:k∈kd n):∃i,i<4∧kat n i=k:=by
  simp only[kd,List.mem_cons,List.not_mem_nil,or_false] at h;rcases h with rfl | rfl | rfl | rfl
  · exact ⟨0,by omega,rfl⟩
  · exact ⟨1,by omega,rfl⟩
  · exact ⟨2,by omega,rfl⟩
  · exact ⟨3,by omega,rfl⟩
theorem zfw {n:Nd}(h:zap n)(i:Nat):kat n i=0:=by
  unfold kat;split
  · exact h.1
  · exact h.2.1
  · exact h.2.2.1
  · exact h.2.2.2
theorem zdq {S:SI}{n:Nd}{k:Int}(h:yE S n=(k,0)):(k=0∧zap n∧∀leaf,yq leaf S n=S)∨∃j:Nat,k=j∧(1≤j∧j≤24)∧S.N k=none∧¬zap n∧∀leaf,yq leaf S n=(kd n).foldl (zcA leaf) ⟨S.B,qD S.N k (some (rf n 1))⟩:=by
  unfold yE at h;by_cases h0:zap n
  · rw[if_pos h0] at h;injection h with h;exact .inl ⟨h.symm,h0,fun leaf=>by unfold yq;rw[if_pos h0]⟩
  · rw[if_neg h0] at h;cases hf:zbi 24 S.N with
    | none=>rw[hf] at h;injection h with _ h;cases h
    | some j=>
      rw[hf] at h;injection h with h;subst h;have:=zbm hf;exact .inr ⟨j,rfl,this.1,this.2.1,h0,fun leaf=>by unfold yq;rw[if_neg h0,hf]⟩
theorem zsa (S:SI)(n:Nd):(yE S n).2=0∨(yE S n).2=8:=by
  unfold yE;split
  · exact .inl rfl
  · split
    · exact .inr rfl
    · exact .inl rfl
theorem zxx {G:Gh}(V:Val G){k:Int}(hk:k≠0)(h:(mkG G).N k=none):G.R k=none∧G.L k=none∧G.eR k=0∧G.eL k=0∧tot G.R k=0:=by
  have h1:=zlR h;have h2:=V.pR k hk;have h3:=V.pL k hk;rw[h1.1] at h2;rw[h1.2] at h3;have h4:¬(0<G.eR k):=fun h=>(by simpa using h2.2 h);have h5:¬(0<G.eL k+tot G.R k):=fun h=>(by simpa using h3.2 h);have:=V.nR k;have:=V.nL k;have:=zdy G.R k;exact ⟨h1.1,h1.2,by omega,by omega,by omega⟩
theorem zwE {G:Gh}(V:Val G){n:Nd}{k:Int}(hk:∀i,i<4→bl G (kat n i))(h:yE (mkG G) n=(k,0)):(k=0∧zap n∧yq true (mkG G) n=mkG G)∨(k≠0∧(mkG G).N k=none∧yq true (mkG G) n=mkG {G with L:=qD G.L k (some n),eL:=del G.eL k 1}∧Val {G with L:=qD G.L k (some n),eL:=del G.eL k 1}):=by
  rcases zdq h with ⟨h1,h2,h3⟩ | ⟨j,h1,h2,h3,h4,h5⟩
  · exact .inl ⟨h1,h2,h3 true⟩
  · right;have hk0:k≠0:=(by omega);obtain ⟨z1,z2,z3,z4,z5⟩:=zxx V hk0 h3;have hkr:1≤k∧k≤24:=(by omega);have ht:∀q,q≠0→tot (qD G.L k (some n)) q=tot G.L q+cnt (kd n) q:=fun q hq=>(by rw[zgf hkr,z2,ziK n hq];simp only[occ];omega);refine ⟨hk0,h3,?_,⟨V.sR,zbU V.sL (fun _=>hkr),V.sD,fun q=>?_,V.nR,fun q=>?_,V.nB,V.pR,fun q hq=>?_,fun q hq=>?_⟩⟩
    · rw[h5 true,zfA]
      · refine zbP (funext fun q=>?_) (funext fun q=>?_)
        · show (mkB G q).map _=(G.D q).map _;unfold mkB;cases e:G.D q with
          | none=>rfl
          | some d=>simp only[Option.map_some,ht q (zcy V.sD e)];congr 2;omega
        · show qD (mkG G).N k (some (rf n 1)) q=match G.R q with
            | some n=>some (rf n (G.eR q))
            | none=>(qD G.L k (some n) q).map fun m=>rf m (del G.eL k 1 q+tot G.R q)
          unfold qD del;by_cases hq:q=k
          · subst hq;rw[z1];simp[z4,z5]
          · simp only[if_neg hq];rfl
      · intro q x hx;cases e:G.D q with
        | none=>change (mkG G).B q=some x at hx;rw[zeE e] at hx;cases hx
        | some d=>
          change (mkG G).B q=some x at hx;rw[zb5 e] at hx;injection hx with hx;subst hx;exact (V.pD q (zcy V.sD e)).1 (by rw[e];rfl)
      · intro q hq;obtain ⟨i,hi,rfl⟩:=zkE hq;exact (hk i hi).imp id fun ⟨d,e⟩=>⟨_,zb5 e⟩
    · show G.R q=none∨qD G.L k (some n) q=none;unfold qD;split
      · rename_i e;subst e;exact .inl z1
      · exact V.dj q
    · show 0≤del G.eL k 1 q;have:=V.nL q;unfold del;split <;> omega
    · show (qD G.L k (some n) q).isSome=true ↔ 0<del G.eL k 1 q+tot G.R q;unfold qD del;split
      · rename_i e;subst e;simp;omega
      · exact V.pL q hq
    · show (G.D q).isSome=true ↔ 0<G.eB q+tot (qD G.L k (some n)) q;rw[ht q hq,V.pD q hq];have h6:=zho (kd n) q;have h7:=V.nB q;have h8:=zdy G.L q;constructor
      · intro h;omega
      · intro h;by_cases h9:0<cnt (kd n) q
        · rw[ziK n hq] at h9;obtain ⟨i,hi,e⟩:=zmr h9;obtain ⟨d,hd⟩:=(hk i hi).resolve_left (by rw[e];exact hq);rw[e] at hd;exact (V.pD q hq).1 (by rw[hd];rfl)
        · omega
theorem zwg {G:Gh}(V:Val G){n:Nd}{k:Int}(hk:∀i,i<4→lf G (kat n i))(h:yE (mkG G) n=(k,0)):(k=0∧zap n∧yq false (mkG G) n=mkG G)∨(k≠0∧(mkG G).N k=none∧yq false (mkG G) n=mkG {G with R:=qD G.R k (some n),eR:=del G.eR k 1}∧Val {G with R:=qD G.R k (some n),eR:=del G.eR k 1}):=by
  rcases zdq h with ⟨h1,h2,h3⟩ | ⟨j,h1,h2,h3,h4,h5⟩
  · exact .inl ⟨h1,h2,h3 false⟩
  · right;have hk0:k≠0:=(by omega);obtain ⟨z1,z2,z3,z4,z5⟩:=zxx V hk0 h3;have hkr:1≤k∧k≤24:=(by omega);have ht:∀q,q≠0→tot (qD G.R k (some n)) q=tot G.R q+cnt (kd n) q:=fun q hq=>(by rw[zgf hkr,z1,ziK n hq];simp only[occ];omega);have hc:∀q,(∀m,G.L q≠some m)→cnt (kd n) q=0:=fun q hq=>by
      by_cases hq0:q=0
      · subst hq0;rfl
      · have h6:=zho (kd n) q;by_cases h9:0<cnt (kd n) q
        · rw[ziK n hq0] at h9;obtain ⟨i,hi,e⟩:=zmr h9;obtain ⟨m,hm⟩:=(hk i hi).resolve_left (by rw[e];exact hq0);rw[e] at hm;exact absurd hm (hq m)
        · omega
    refine ⟨hk0,h3,?_,⟨zbU V.sR (fun _=>hkr),V.sL,V.sD,fun q=>?_,fun q=>?_,V.nL,V.nB,fun q hq=>?_,fun q hq=>?_,V.pD⟩⟩
    · rw[h5 false,zdU]
      · refine zbP rR (funext fun q=>?_);show (qD (mkG G).N k (some (rf n 1)) q).map _=match qD G.R k (some n) q with
            | some m=>some (rf m (del G.eR k 1 q))
            | none=>(G.L q).map fun m=>rf m (G.eL q+tot (qD G.R k (some n)) q)
        by_cases hq:q=k
        · subst hq;have:cnt (kd n) q=0:=hc q fun m hm=>(by rw[z2] at hm;cases hm);simp[qD,del,z3,this,rf]
        · have e1:qD G.R k (some n) q=G.R q:=(by simp[qD,hq]);have e2:qD (mkG G).N k (some (rf n 1)) q=(mkG G).N q:=(by simp[qD,hq]);have e3:del G.eR k 1 q=G.eR q:=(by simp[del,hq]);rw[e1,e2,e3];cases hr:G.R q with
          | some m=>
            have hl:G.L q=none:=(V.dj q).resolve_left (by rw[hr];simp);have:cnt (kd n) q=0:=hc q fun m hm=>(by rw[hl] at hm;cases hm);rw[zg5 hr];simp[this,rf]
          | none=>cases hl:G.L q with
            | none=>rw[zcE hr hl];rfl
            | some m=>
              rw[zh6 V hl];simp only[Option.map_some,ht q (zcy V.sL hl),rf];congr 2;omega
      · intro q hq;obtain ⟨i,hi,rfl⟩:=zkE hq;refine (hk i hi).imp id fun ⟨m,e⟩=>?_;have:kat n i≠k:=fun h=>(by rw[h,z2] at e;cases e);exact ⟨_,by show qD (mkG G).N k _ (kat n i)=_;unfold qD;rw[if_neg this];exact zh6 V e⟩
    · show qD G.R k (some n) q=none∨G.L q=none;unfold qD;split
      · rename_i e;subst e;exact .inr z2
      · exact V.dj q
    · show 0≤del G.eR k 1 q;have:=V.nR q;unfold del;split <;> omega
    · show (qD G.R k (some n) q).isSome=true ↔ 0<del G.eR k 1 q;unfold qD del;split
      · rename_i e;subst e;simp;omega
      · exact V.pR q hq
    · show (G.L q).isSome=true ↔ 0<G.eL q+tot (qD G.R k (some n)) q;rw[ht q hq,V.pL q hq];have h6:=zho (kd n) q;have h7:=V.nL q;have h8:=zdy G.R q;constructor
      · intro h;omega
      · intro h;by_cases h9:0<cnt (kd n) q
        · cases hl:G.L q with
          | none=>
              have:=hc q fun m hm=>(by rw[hl] at hm;cases hm);omega
          | some m=>exact (V.pL q hq).1 (by rw[hl];rfl)
        · omega
def gZ:Gh:=⟨fun _=>none,fun _=>none,fun _=>none,fun _=>0,fun _=>0,fun _=>0⟩
theorem gZ_mk:mkG gZ=⟨fun _=>none,fun _=>none⟩:=rfl
theorem zyr:Val gZ:=⟨zeA _,zeA _,zeA _,fun _=> .inl rfl,fun _=>Int.le_refl _,fun _=>Int.le_refl _,fun _=>Int.le_refl _,
  fun q _=>by simp[gZ],fun q _=>by
      have:tot gZ.R q=0:=znj q;rw[this];simp[gZ],fun q _=>by
          have:tot gZ.L q=0:=znj q;rw[this];simp[gZ]⟩
theorem zsR {G:Gh}(V:Val G){q:Int}(hq:rt G q):∃G',Val G'∧zbf (mkG G) q=mkG G'∧G'.R=G.R∧G'.L=G.L∧G'.D=G.D∧G'.eL=G.eL∧G'.eB=G.eB∧∀p,G'.eR p=G.eR p+if p=q∧q≠0 then 1 else 0:=by
  by_cases h0:q=0
  · subst h0;exact ⟨G,V,by unfold zbf;rw[if_neg (by omega)],rfl,rfl,rfl,rfl,rfl,fun p=>by simp⟩
  · obtain ⟨n,hn⟩:=hq.resolve_left h0;have hr:=V.sR q n hn;have he:=(V.pR q h0).1 (by rw[hn];rfl);refine ⟨{G with eR:=del G.eR q 1},⟨V.sR,V.sL,V.sD,V.dj,fun p=>?_,V.nL,V.nB,fun p hp=>?_,V.pL,V.pD⟩,?_,rfl,rfl,rfl,rfl,rfl,fun p=>?_⟩
    · show 0≤del G.eR q 1 p;have:=V.nR p;unfold del;split <;> omega
    · show (G.R p).isSome=true ↔ 0<del G.eR q 1 p;rw[V.pR p hp];unfold del;split
      · rename_i e;subst e;omega
      · rfl
    · unfold zbf zif;rw[if_pos (by omega),zei (zg5 hn)];refine zbP rR (funext fun p=>?_);show qD (mkG G).N q _ p=mkN _ p;by_cases hp:p=q
      · subst hp;simp only[qD,mkN,hn,if_pos,rf,del]
      · simp only[qD,if_neg hp,mkG,mkN,del]
    · show del G.eR q 1 p=_;unfold del;by_cases hp:p=q
      · simp[hp,h0]
      · simp[hp]
theorem zgr (n:Nd)(x:Int):∀i j,i<4→j<4→kat (zwP n i x) j=if j=i then x else kat n j
  | 0,0,_,_=>rfl
  | 0,1,_,_=>rfl
  | 0,2,_,_=>rfl
  | 0,3,_,_=>rfl
  | 1,0,_,_=>rfl
  | 1,1,_,_=>rfl
  | 1,2,_,_=>rfl
  | 1,3,_,_=>rfl
  | 2,0,_,_=>rfl
  | 2,1,_,_=>rfl
  | 2,2,_,_=>rfl
  | 2,3,_,_=>rfl
  | 3,0,_,_=>rfl
  | 3,1,_,_=>rfl
  | 3,2,_,_=>rfl
  | 3,3,_,_=>rfl
  | i+4,_,h,_=>absurd h (by omega)
  | 0,j+4,_,h=>absurd h (by omega)
  | 1,j+4,_,h=>absurd h (by omega)
  | 2,j+4,_,h=>absurd h (by omega)
  | 3,j+4,_,h=>absurd h (by omega)
theorem zqz (f:Int→Int)(q:Int):del (del f q 1) q (-1)=f:=funext fun p=>by unfold del;split <;> omega
structure SetOk (G G':Gh) (root:Int) (at_:Nat) (d:Bytes) (out:Int):Prop where
  V:Val G'
  eR:∀p,G'.eR p=G.eR p+if p=out∧out≠0 then 1 else 0
  eL:G'.eL=G.eL
  eB:G'.eB=G.eB
  R:ndSub G.R G'.R
  L:ndSub G.L G'.L
  D:dSub G.D G'.D
  o:rt G' out
  get:∀i,i<16→zcj (mkG G') out i=if i=at_ then d else zcj (mkG G) root i
  nB:(ids 40 (mkG G').B).length≤(ids 40 (mkG G).B).length+1
  nN:(ids 24 (mkG G').N).length≤(ids 24 (mkG G).N).length+2
theorem zyt {G:Gh}{b:Int}(V:Val G)(h0:0≤b)(h:b≠0→1≤G.eB b∧1≤tot G.L b):∃G',unB (mkG G) b=mkG G'∧Val G'∧G'.R=G.R∧G'.L=G.L∧G'.D=G.D∧G'.eR=G.eR∧G'.eL=G.eL∧G'.eB=if b=0 then G.eB else del G.eB b (-1):=by
  unfold unB;by_cases hb:b=0
  · subst hb;exact ⟨G,by rw[if_neg (by omega)],V,rfl,rfl,rfl,rfl,rfl,by rw[if_pos rfl]⟩
  · have h1:=h hb;refine ⟨cutD G b,?_,V.cutD hb h1.1,rfl,rfl,?_,rfl,rfl,?_⟩
    · rw[if_pos (by omega)];exact zn4 V hb h1.1
    · show (if G.eB b+tot G.L b=1 then qD G.D b none else G.D)=G.D;rw[if_neg (by omega)]
    · rw[if_neg hb];rfl
theorem znQ {S:SI}{root:Int}{at_:Nat}{d:Bytes}{out:Int}(h:zc7 S root at_ d=(out,0)):∃b k,qt S d=(b,0)∧yE (qk S d) (wn (qk S d) root at_ b)=(k,0)∧yE (unB (yq true (qk S d) (wn (qk S d) root at_ b)) b) (zc6 (qk S d) root at_ k)=(out,0)∧zjd S root at_ d=unL (yq false (unB (yq true (qk S d) (wn (qk S d) root at_ b)) b) (zc6 (qk S d) root at_ k)) k:=by
  unfold zc7 at h;unfold zjd;simp only at h ⊢;obtain ⟨b,eb⟩:∃b,qt S d=b:=⟨_,rfl⟩;obtain ⟨b,e⟩:=b;rw[eb] at h ⊢;simp only at h ⊢;by_cases h1:e=0
  · subst h1;rw[if_neg (by simp)] at h ⊢;obtain ⟨l,el⟩:∃l,yE (qk S d) (wn (qk S d) root at_ b)=l:=⟨_,rfl⟩;obtain ⟨k,e⟩:=l;rw[el] at h ⊢;simp only at h ⊢;by_cases h2:e=0
    · subst h2;rw[if_neg (by simp)] at h ⊢;obtain ⟨o,eo⟩:∃o,yE (unB (yq true (qk S d) (wn (qk S d) root at_ b)) b) (zc6 (qk S d) root at_ k)=o:=⟨_,rfl⟩;obtain ⟨o,e⟩:=o;rw[eo] at h ⊢;simp only at h ⊢;by_cases h3:e=0
      · subst h3;rw[if_neg (by simp)] at h ⊢;injection h with h;subst h;exact ⟨b,k,rfl,el,eo,rfl⟩
      · rw[if_pos h3] at h;injection h with _ h;exact absurd h h3
    · rw[if_pos h2] at h;injection h with _ h;exact absurd h h2
  · rw[if_pos h1] at h;injection h with _ h;exact absurd h h1
theorem zxm {G:Gh}(V:Val G){root:Int}{at_:Nat}{d:Bytes}{out:Int}(hr:rt G root)(ha:at_<16)(h:zc7 (mkG G) root at_ d=(out,0)):∃G',zjd (mkG G) root at_ d=mkG G'∧SetOk G G' root at_ d out:=by
  obtain ⟨b,k,hb,hl,ho,hS⟩:=znQ h;obtain ⟨G1,e1,B1⟩:=zs2 V hb;have V1:=B1.V;rw[e1] at hl ho hS;have hb0:0≤b:=by
    by_cases hb:b=0
    · omega
    · have:=V1.sD b d (B1.b1 hb);omega
  have hbl:bl G1 b:=by
    by_cases hb:b=0
    · exact .inl hb
    · exact .inr ⟨d,B1.b1 hb⟩
  have hr1:rt G1 root:=zrr (by rw[B1.R];exact ndSub.rfl) hr;have hli:at_ / 4<4:=(by omega);have hlj:at_ % 4<4:=(by omega);have hol:=zhY V1 hr1 hli;have hkL:∀i,i<4→bl G1 (kat (wn (mkG G1) root at_ b) i):=fun i hi=>by
    unfold wn;rw[zgr _ _ _ _ hlj hi];split
    · exact hbl
    · exact zk8 V1 hol hi
  obtain ⟨nl,hnl⟩:∃n,n=wn (mkG G1) root at_ b:=⟨_,rfl⟩;have hnlk:∀i,i<4→kat nl i=if i=at_ % 4 then b else kat (gN (mkG G1).N (kat (gN (mkG G1).N root) (at_ / 4))) i:=fun i hi=>by rw[hnl];exact zgr _ _ _ _ hlj hi
  rw[←hnl] at hl ho hS hkL;obtain ⟨nr,hnr⟩:∃n,n=zc6 (mkG G1) root at_ k:=⟨_,rfl⟩;have hnrk:∀i,i<4→kat nr i=if i=at_ / 4 then k else kat (gN (mkG G1).N root) i:=fun i hi=>by rw[hnr];exact zgr _ _ _ _ hli hi
  rw[←hnr] at ho hS
  -- the leaf
  obtain ⟨G2,V2,e2,r2,d2,er2,eb2,el2,l2,k2,lk2,nn2⟩:∃G2,Val G2∧yq true (mkG G1) nl=mkG G2∧G2.R=G.R∧G2.D=G1.D∧G2.eR=G.eR∧G2.eB=G1.eB∧G2.eL=(if k=0 then G.eL else del G.eL k 1)∧ndSub G.L G2.L∧lf G2 k∧(∀i,i<4→kat (gN (mkG G2).N k) i=kat nl i)∧(∀q,q≠k→(G2.L q).isSome=true→(G.L q).isSome=true):=by
    rcases zwE V1 hkL hl with ⟨rfl,h2,h3⟩ | ⟨h1,h2,h3,h4⟩
    · exact ⟨G1,V1,h3,B1.R,rfl,B1.eR,rfl,by rw[if_pos rfl,B1.eL],by rw[B1.L];exact ndSub.rfl, .inl rfl,fun i _=>by rw[zfw h2,zdj V1],fun q _ h=>by rw[B1.L] at h;exact h⟩
    · refine ⟨_,h4,h3,B1.R,rfl,B1.eR,rfl,by rw[if_neg h1,←B1.eL],by rw[←B1.L];exact zll (zlR h2).2, .inr ⟨nl,by simp[qD]⟩,fun i _=>zli h4 (by simp[qD]) i,fun q hq h=>?_⟩;change (qD G1.L k (some nl) q).isSome=true at h;simpa [qD,hq,B1.L] using h
  have l12:ndSub G1.L G2.L:=(by rw[B1.L];exact l2);rw[e2] at ho hS
  -- the block's own
  have ht2:b≠0→1≤G2.eB b∧1≤tot G2.L b:=fun hb=>by
    constructor
    · rw[eb2,B1.eB,if_neg hb,zdO];have:=V.nB b;omega
    · have hkb:=hnlk (at_ % 4) hlj;rw[if_pos rfl] at hkb;have hk0:k≠0:=fun hk=>by
        subst hk;have:=lk2 (at_ % 4) hlj;rw[zdj V2,hkb] at this;exact hb this.symm
      obtain ⟨m,hm⟩:=k2.resolve_left hk0;have h5:=zm9 (N:=G2.L) (V2.sL k m hm) b;have h6:=zi3 m (at_ % 4) hlj;have h7:=lk2 (at_ % 4) hlj;rw[zli V2 hm,hkb] at h7;rw[h7,←hm] at h6;omega
  obtain ⟨G3,e3,V3,r3,l3,d3,er3,el3,eb3⟩:=zyt V2 hb0 ht2;rw[e3] at ho hS;have eb3':G3.eB=G.eB:=by
    rw[eb3,eb2,B1.eB];by_cases hb:b=0
    · rw[if_pos hb,if_pos hb]
    · rw[if_neg hb,if_neg hb,zqz]
  -- the root
  have k3:lf G3 k:=zo3 (by rw[l3];exact ndSub.rfl) k2;have hkR:∀i,i<4→lf G3 (kat nr i):=fun i hi=>by
    rw[hnrk i hi];split
    · exact k3
    · exact zo3 (by rw[l3];exact l12) (zhY V1 hr1 hi)
  obtain ⟨G4,V4,e4,d4,l4,eb4,el4,r4,er4,o4,ok4,nn4,t4⟩:∃G4,Val G4∧yq false (mkG G3) nr=mkG G4∧G4.D=G3.D∧G4.L=G3.L∧G4.eB=G3.eB∧G4.eL=G3.eL∧ndSub G3.R G4.R∧(∀p,G4.eR p=G3.eR p+if p=out∧out≠0 then 1 else 0)∧rt G4 out∧(∀i,i<4→kat (gN (mkG G4).N out) i=kat nr i)∧(∀q,q≠out→(G4.R q).isSome=true→(G3.R q).isSome=true)∧(k≠0→1≤tot G4.R k):=by
    rcases zwg V3 hkR ho with ⟨rfl,h2,h3⟩ | ⟨h1,h2,h3,h4⟩
    · refine ⟨G3,V3,h3,rfl,rfl,rfl,rfl,ndSub.rfl,fun p=>by simp, .inl rfl,fun i _=>by rw[zfw h2,zdj V3],fun q _ h=>h,fun hk=>?_⟩;have:=hnrk (at_ / 4) hli;rw[if_pos rfl,zfw h2] at this;exact absurd this.symm hk
    · refine ⟨_,h4,h3,rfl,rfl,rfl,rfl,zll (zlR h2).1,fun p=>?_, .inr ⟨nr,by simp[qD]⟩,fun i _=>zna (by simp[qD]) i,fun q hq h=>?_,fun hk=>?_⟩
      · show del G3.eR out 1 p=_;unfold del;by_cases hp:p=out
        · simp[hp,h1]
        · simp[hp]
      · change (qD G3.R out (some nr) q).isSome=true at h;simpa [qD,hq] using h
      · have h5:=zm9 (N:=qD G3.R out (some nr)) (h4.sR out nr (by simp[qD])) k;have h6:=zi3 nr (at_ / 4) hli;have h7:=hnrk (at_ / 4) hli;rw[if_pos rfl] at h7;rw[h7] at h6;rw[show qD G3.R out (some nr) out=some nr by simp[qD]] at h5;exact Int.le_trans h6 h5
  rw[e4] at hS
  -- the leaf's own
  obtain ⟨G5,e5,V5,r5,d5,l5,er5,el5,eb5⟩:∃G5,unL (mkG G4) k=mkG G5∧Val G5∧G5.R=G4.R∧G5.D=G4.D∧G5.L=G4.L∧G5.eR=G4.eR∧G5.eL=G.eL∧G5.eB=G4.eB:=by
    by_cases hk:k=0
    · subst hk;exact ⟨G4,by simp[unL,unX],V4,rfl,rfl,rfl,rfl,by rw[el4,el3,el2,if_pos rfl],rfl⟩
    · have h1:G4.eL k=G.eL k+1:=(by rw[el4,el3,el2,if_neg hk,zdO]);have h2:=V.nL k;have h3:=t4 hk;refine ⟨_,zmI V4 hk (by omega) (by omega),V4.keepL hk (by omega) (by omega),rfl,rfl,rfl,rfl,?_,rfl⟩;show del G4.eL k (-1)=G.eL;rw[el4,el3,el2,if_neg hk,zqz]
  have sR:ndSub G.R G5.R:=(by rw[r5,←r2,←r3];exact r4);have sL1:ndSub G1.L G5.L:=(by rw[l5,l4,l3];exact l12);have sL:ndSub G.L G5.L:=(by rw[l5,l4,l3];exact l2);have sD:dSub G.D G5.D:=(by rw[d5,d4,d3,d2];exact B1.D);have sD1:dSub G1.D G5.D:=(by rw[d5,d4,d3,d2];exact dSub.rfl);have sR1:ndSub G1.R G5.R:=(by rw[B1.R];exact sR);refine ⟨G5,hS.trans e5,⟨V5,fun p=>by rw[er5,er4,er3,er2],el5,by rw[eb5,eb4,eb3'],sR,sL,sD,zrr (by rw[r5];exact ndSub.rfl) o4,fun i hi=>?_,?_,?_⟩⟩
  · -- what the new root has
    have ho5:∀i,i<4→kat (gN (mkG G5).N out) i=kat nr i:=fun i hi=>(by rw[zpS V4 V5 (by rw[r5];exact ndSub.rfl) o4];exact ok4 i hi);rw[zex,ho5 (i / 4) (by omega),hnrk (i / 4) (by omega)];by_cases h4:i / 4=at_ / 4
    · rw[if_pos h4,zmi V2 V5 (by rw[l5,l4,l3];exact ndSub.rfl) k2,lk2 _ (by omega),hnlk _ (by omega)];by_cases h5:i % 4=at_ % 4
      · rw[if_pos h5,if_pos (by omega)];by_cases hb:b=0
        · rw[hb,dv_0 V5,B1.b0 hb]
        · exact zmv (sD1 b d (B1.b1 hb))
      · rw[if_neg h5,if_neg (by omega),zlx V1 V5 sD1 (zk8 V1 hol (by omega)),zex,←h4];have h6:=zk8 V1 (zhY V1 hr1 (i:=i / 4) (by omega)) (i:=i % 4) (by omega);have h7:=zdJ V V1 (by rw[B1.R];exact ndSub.rfl) (by rw[B1.L];exact ndSub.rfl) B1.D hr hi;rw[zex,zex] at h7;exact h7
    · rw[if_neg h4,if_neg (by omega)];have h6:=zhY V1 hr1 (i:=i / 4) (by omega);rw[zmi V1 V5 sL1 h6,zlx V1 V5 sD1 (zk8 V1 h6 (by omega))];exact zdJ V V1 (by rw[B1.R];exact ndSub.rfl) (by rw[B1.L];exact ndSub.rfl) B1.D hr hi
  · refine zlK b fun q hq h=>?_;rw[ziG,d5,d4,d3,d2,B1.ne q hq] at h;rw[ziG];exact h
  · refine Nat.le_trans (zlK (B:=(mkG G3).N) out fun q hq h=>?_) (Nat.add_le_add_right (zlK k fun q hq h=>?_) 1)
    · rw[zdC,r5,l5,l4,Bool.or_eq_true] at h;rw[zdC,Bool.or_eq_true];exact h.imp (nn4 q hq) id
    · rw[zdC,r3,r2,l3,Bool.or_eq_true] at h;rw[zdC,Bool.or_eq_true];exact h.imp id (nn2 q hq)
theorem zms (l:List Int)(x q:Int):cnt (l++ [x]) q=cnt l q+if q=x∧x≠0 then 1 else 0:=by
  unfold cnt;by_cases hq:q=0
  · subst hq;rw[if_pos rfl,if_pos rfl,if_neg (fun h=>h.2 h.1.symm)]
    rfl
  · rw[if_neg hq,if_neg hq,List.count_append,List.count_cons];by_cases hx:x=q
    · subst hx;simp[hq]
    · simp[hx,Ne.symm hx]
theorem zxt (l:List Int)(q:Int):cnt l q≤l.length:=by
  unfold cnt;split
  · omega
  · have:=List.count_le_length (l:=l) (a:=q);omega
theorem zp3 {l:List Int}{q:Int}(h:q∈l)(h0:q≠0):1≤cnt l q:=by
  unfold cnt;rw[if_neg h0];have:=List.count_pos_iff.2 h;omega
structure Rt (G:Gh) (roots:List Int):Prop where
  V:Val G
  eL:∀q,G.eL q=0
  eB:∀q,G.eB q=0
  eR:∀q,G.eR q=cnt roots q
theorem zmx {G:Gh}{roots:List Int}(h:Rt G roots){q:Int}(hq:q∈roots):rt G q:=by
  by_cases h0:q=0
  · exact .inl h0
  · refine .inr (Option.isSome_iff_exists.1 ((h.V.pR q h0).2 ?_));have:=zp3 hq h0;rw[h.eR];omega
theorem RtOk {G:Gh}{roots:List Int}(h:Rt G roots){m:Int}(hm:(roots.length:Int)+96≤m):okS m (mkG G):=zcF (mk_ok h.V (m:=roots.length) (fun q=>by rw[h.eR];exact zxt _ _) (fun q=>by rw[h.eL];omega) (fun q=>by rw[h.eB];omega)) hm
theorem zpZ {G:Gh}(V:Val G){q:Int}(h:rt G q):∀i,i<4→0≤kat (gN (mkG G).N q) i∧kat (gN (mkG G).N q) i≤24:=fun i hi=>zyo V (zhY V h hi)
theorem RtSet {G G':Gh}{roots:List Int}{root out:Int}{at_:Nat}{d:Bytes}(h:Rt G roots)(o:SetOk G G' root at_ d out):Rt G' (roots++ [out]):=
  ⟨o.V,fun q=>by rw[o.eL];exact h.eL q,fun q=>by rw[o.eB];exact h.eB q,fun q=>by rw[o.eR,h.eR,zms]⟩
theorem RtZ:Rt gZ [0]:=⟨zyr,fun _=>rfl,fun _=>rfl,fun q=>by
  show (0:Int)=cnt [0] q;unfold cnt;by_cases h:q=0
  · simp[h]
  · simp[h,Ne.symm h]⟩
theorem zyf {l:List ActM}{m:Int}(h:zbY l m=true):(l.length:Int)≤m:=by
  unfold zbY at h;simp only[Bool.and_eq_true,decide_eq_true_eq] at h;exact h.1
theorem zwu (S:SI)(root:Int)(at_:Nat)(d:Bytes):0≤(zc7 S root at_ d).2:=by
  have hb:0≤(qt S d).2:=by
    unfold qt;split
    · simp
    · unfold znV;split
      · simp
      · cases zbi 40 S.B <;> simp
  have hn:∀S n,0≤(yE S n).2:=fun S n=>(by have:=zsa S n;omega);unfold zc7;simp only;split
  · exact hb
  · split
    · exact hn _ _
    · split
      · exact hn _ _
      · simp
structure Pt where
  id:Int
  disk:Int
  size:Int
  root:Int
deriving DecidableEq
abbrev yn (p:Pt):List Value:=[I p.id,I p.disk,I p.size,I p.root]
def ptR (l:List Pt):List (List Value):=l.map yn
theorem wq (l:List Pt):(ptR l).length=l.length:=by simp[ptR]
theorem zcU {l:List Pt}{k:Nat}{c:Pt}(h:l[k]? =some c):(ptR l)[k]? =some (yn c):=by simp[ptR,h]
def pt0:Pt:=⟨0,0,0,0⟩
def yh (l:List Pt)(id:Int):Option Pt:=l.find? fun p=>decide (p.id=id)
def zua (l:List Pt)(id:Int):Nat:=l.findIdx fun p=>decide (p.id=id)
def ptI (l:List Pt)(id:Int):Int:=if zua l id<l.length then (zua l id:Int) else -1
theorem zo2 {l:List Pt}{id:Int}{k:Nat}{s:Pt}(hno:∀j,j<k→∀t,l[j]? =some t→t.id≠id)(hs:l[k]? =some s)(he:s.id=id):ptI l id=k:=by
  obtain ⟨hk,hk2⟩:=List.getElem?_eq_some_iff.1 hs;have e:zua l id=k:=by
    unfold zua;rw[List.findIdx_eq hk];refine ⟨by rw[hk2];simpa using he,fun j hj=>?_⟩;have:=hno j hj l[j] (List.getElem?_eq_getElem (by omega));simpa using this
  unfold ptI;rw[if_pos (by omega),e]
theorem ziR {l:List Pt}{id:Int}(hno:∀j,j<l.length→∀t,l[j]? =some t→t.id≠id):ptI l id= -1:=by
  unfold ptI;rw[if_neg];intro h;have:=List.findIdx_getElem (w:=h);simp at this;exact hno _ h _ (List.getElem?_eq_getElem h) this
theorem zrl {l:List Pt}{id:Int}(h:¬ptI l id<0):∃i s,ptI l id=((i:Nat):Int)∧l[i]? =some s∧s.id=id∧i<l.length∧yh l id=some s∧∀j,j<i→∀t,l[j]? =some t→t.id≠id:=by
  unfold ptI at h ⊢;split at h
  · rename_i hl;have hid:l[zua l id].id=id:=of_decide_eq_true (List.findIdx_getElem (p:=fun p:Pt=>decide (p.id=id)) (w:=hl));have hno:∀j,j<zua l id→∀t,l[j]? =some t→t.id≠id:=fun j hj t ht=>by
      have h1:=List.not_of_lt_findIdx hj;obtain ⟨hj',e⟩:=List.getElem?_eq_some_iff.1 ht;subst e;simpa using h1
    refine ⟨zua l id,l[zua l id],by rw[if_pos hl],List.getElem?_eq_getElem hl,hid,hl,?_,hno⟩;unfold yh;rw[List.find?_eq_some_iff_getElem];refine ⟨decide_eq_true hid,_,hl,rfl,fun j hj=>?_⟩;have:=hno j hj l[j] (List.getElem?_eq_getElem (by omega));simpa using this
  · omega
theorem zoH {l:List Pt}{id:Int}(h:ptI l id<0):yh l id=none:=by
  unfold yh;rw[List.find?_eq_none];intro x hx;unfold ptI at h;split at h
  · omega
  · rename_i hl;intro he;exact hl (List.findIdx_lt_length_of_exists ⟨x,hx,he⟩)
theorem yT {l:List Pt}{id:Int}{p:Pt}(h:yh l id=some p):p∈l∧p.id=id:=by
  unfold yh at h;exact ⟨List.mem_of_find?_eq_some h,by simpa using List.find?_some h⟩
def put1 (z:SI×Int)(at_:Nat)(d:Bytes):Except Int (SI×Int):=if (zc7 z.1 z.2 at_ d).2=0 then .ok (unR (zjd z.1 z.2 at_ d) z.2,(zc7 z.1 z.2 at_ d).1) else .error (zc7 z.1 z.2 at_ d).2
def zlr:SI×Int→List Nat→Except Int (SI×Int)
  | z,[]=> .ok z
  | z,a::l=>match put1 z a [] with
    | .ok z'=>zlr z' l
    | .error e=> .error e
def zbQ (size:Int):SI×Int→List PutM→Except Int (SI×Int)
  | z,[]=> .ok z
  | z,p::l=>if p.at_<0∨size≤p.at_ then .error 1 else if zcj z.1 z.2 p.at_.toNat=p.data then zbQ size z l else match put1 z p.at_.toNat p.data with
    | .ok z'=>zbQ size z' l
    | .error e=> .error e
def zdr (S:SI)(L:List Pt)(base disk size:Int):Except Int (SI×Int):=if base=0 then .ok (S,0) else match yh L base with
  | none=> .error 5
  | some p=>if p.disk≠disk then .error 3 else zlr (zbf S p.root,p.root) (List.range' size.toNat (p.size.toNat - size.toNat))
def zct (L:List Pt)(n:Int):Int:=if L.length=6∨999<n then 8 else 0
abbrev VR:=Except Int (SI×List Pt×Int×Int)
def zgn (S:SI)(L:List Pt)(n base disk size:Int)(puts:List PutM):VR:=if disk<1∨999<disk∨size<1∨16<size then .error 1 else match zdr S L base disk size with
  | .error e=> .error e
  | .ok z=>match zbQ size z puts with
    | .error e=> .error e
    | .ok z=>if zct L n≠0 then .error (zct L n) else .ok (z.1,L++ [⟨n,disk,size,z.2⟩],n+1,n)
def ziJ (S:SI)(L:List Pt)(n id:Int):VR:=match yh L id with
  | none=> .error 5
  | some p=>if zct L n≠0 then .error (zct L n) else .ok (zbf S p.root,L++ [⟨n,p.disk,p.size,p.root⟩],n+1,n)
def zh0 (S:SI)(L:List Pt)(n id:Int):VR:=match yh L id with
  | none=> .error 5
  | some p=> .ok (unR S p.root,L.filter (fun x=>!decide (x.id=id)),n,0)
def rdE (S:SI)(L:List Pt)(id at_:Int):Bytes×Int:=match yh L id with
  | none=>([],5)
  | some p=>if at_<0∨p.size≤at_ then ([],1) else (zcj S p.root at_.toNat,0)
def zeH (L:List Pt)(disk keep:Int):List Int:=let l:=(L.filter fun p=>decide (p.disk=disk)).map (·.id);l.take (l.length - keep.toNat)
structure Vok (S:SI) (L:List Pt) (n:Int) (G:Gh):Prop where
  e:S=mkG G
  rt:Rt G (L.map (·.root))
  len:L.length≤6
  n1:1≤n∧n≤1000
  pts:∀p∈L,(1≤p.id∧p.id<n)∧(1≤p.disk∧p.disk≤999)∧(1≤p.size∧p.size≤16)
  srt:L.Pairwise fun a b=>a.id<b.id
theorem zvU {G:Gh}{l l':List Int}(h:Rt G l)(e:∀q,cnt l q=cnt l' q):Rt G l':=⟨h.V,h.eL,h.eB,fun q=>by rw[h.eR,e]⟩
theorem zwq {G:Gh}{l:List Int}(h:Rt G l):Rt G (0::l):=zvU h fun q=>by
  rw[wk,if_neg (fun h=>h.2 h.1.symm)];omega
theorem zqI {G:Gh}{l:List Int}(h:Rt G (0::l)):Rt G l:=zvU h fun q=>by
  rw[wk,if_neg (fun h=>h.2 h.1.symm)];omega
theorem zxr {G:Gh}{l:List Int}{x:Int}(h:Rt G (x::l)):Rt G (l++ [x]):=zvU h fun q=>by
  rw[wk,zms];by_cases h:x=q
  · subst h;simp
  · simp[h,Ne.symm h]
theorem zdc (x:Int)(l:List Int)(q:Int):cnt (x::l) q=cnt l q+if q=x∧x≠0 then 1 else 0:=by
  rw[wk];by_cases h:x=q
  · subst h;simp
  · simp[h,Ne.symm h]
theorem zgo {G:Gh}{l:List Int}{q:Int}(h:Rt G l)(hq:q∈l):∃G',zbf (mkG G) q=mkG G'∧Rt G' (q::l)∧G'.R=G.R∧G'.L=G.L∧G'.D=G.D:=by
  obtain ⟨G',V',e,e1,e2,e3,e4,e5,e6⟩:=zsR h.V (zmx h hq);exact ⟨G',e,⟨V',fun p=>by rw[e4];exact h.eL p,fun p=>by rw[e5];exact h.eB p,fun p=>by rw[e6,h.eR,zdc]⟩,e1,e2,e3⟩
theorem ztW {G:Gh}{l l':List Int}{q:Int}(h:Rt G l)(hq:q∈l)(hc:∀p,cnt l p=cnt l' p+if p=q∧q≠0 then 1 else 0):∃G',unR (mkG G) q=mkG G'∧Rt G' l'∧LessR G G':=by
  obtain ⟨G',V',e,s,e3⟩:=zwS h.V (q:=q) fun h0=>by rw[h.eR];exact zp3 hq h0
  exact ⟨G',e,⟨V',fun p=>by rw[s.eL];exact h.eL p,fun p=>by rw[s.eB];exact h.eB p,fun p=>by rw[e3,h.eR,hc];omega⟩,s⟩
def zf6 (G G':Gh)(rs:List Int):Prop:=∀r∈rs,∀i,i<16→zcj (mkG G') r i=zcj (mkG G) r i
theorem zim {G G':Gh}{l l':List Int}(h:Rt G l)(h':Rt G' l')(s:LessR G G')(rs:List Int)(hr:∀r∈rs,r∈l'):zf6 G G' rs:=fun r hrr i hi=>(zdJ h'.V h.V s.R s.L s.D (zmx h' (hr r hrr)) hi).symm
theorem zhL {G:Gh}{root:Int}{rs:List Int}{at_:Nat}{d:Bytes}(h:Rt G (root::rs))(hl:rs.length≤8)(ha:at_<16)(hE:(zc7 (mkG G) root at_ d).2=0):
    ∃G1 G2,zjd (mkG G) root at_ d=mkG G1∧okS 200 (mkG G1)∧rt G1 root∧Val G1∧unR (mkG G1) root=mkG G2∧Rt G2 ((zc7 (mkG G) root at_ d).1::rs)∧
      (∀i,i<16→zcj (mkG G2) (zc7 (mkG G) root at_ d).1 i=if i=at_ then d else zcj (mkG G) root i)∧zf6 G G2 rs:=by
  obtain ⟨G1,e1,o⟩:=zxm h.V (zmx h (List.mem_cons_self ..)) ha (Prod.ext rfl hE:zc7 (mkG G) root at_ d=((zc7 (mkG G) root at_ d).1,0));have h1:=RtSet h o;obtain ⟨G2,e2,h2,s⟩:=ztW (l':=(zc7 (mkG G) root at_ d).1::rs) h1 (q:=root) (by simp) fun p=>by
    rw[zms,zdc,zdc];omega
  have k2:=zim h1 h2 s ((zc7 (mkG G) root at_ d).1::rs) fun r hr=>hr;refine ⟨G1,G2,e1,RtOk h1 (by simp;omega),zmx h1 (by simp),h1.V,e2,h2,fun i hi=>?_,fun r hr i hi=>?_⟩
  · rw[k2 _ (List.mem_cons_self ..) i hi];exact o.get i hi
  · rw[k2 _ (List.mem_cons_of_mem _ hr) i hi];exact zdJ h.V o.V o.R o.L o.D (zmx h (List.mem_cons_of_mem _ hr)) hi
theorem zmS {z:SI×Int}{at_:Nat}{d:Bytes}{e:Int}(h:put1 z at_ d= .error e):0<e:=by
  unfold put1 at h;split at h
  · cases h
  · injection h with h;have:=zwu z.1 z.2 at_ d;omega
theorem znl:∀(l:List Nat) {z:SI×Int} {e:Int},zlr z l= .error e→0<e
  | [],z,e,h=>by simp[zlr] at h
  | a::l,z,e,h=>by
    unfold zlr at h;cases hp:put1 z a [] with
    | ok z'=>rw[hp] at h;exact znl l h
    | error e'=>rw[hp] at h;injection h with h;subst h;exact zmS hp
theorem zhG {size:Int}:∀(l:List PutM) {z:SI×Int} {e:Int},zbQ size z l= .error e→0<e
  | [],z,e,h=>by simp[zbQ] at h
  | p::l,z,e,h=>by
    unfold zbQ at h;split at h
    · injection h with h;omega
    · split at h
      · exact zhG l h
      · cases hp:put1 z p.at_.toNat p.data with
        | ok z'=>rw[hp] at h;exact zhG l h
        | error e'=>rw[hp] at h;injection h with h;subst h;exact zmS hp
theorem zk5 {S:SI}{L:List Pt}{base disk size e:Int}(h:zdr S L base disk size= .error e):0<e:=by
  unfold zdr at h;split at h
  · cases h
  · split at h
    · injection h with h;omega
    · split at h
      · injection h with h;omega
      · exact znl _ h
theorem zqD (L:List Pt)(n:Int):zct L n=0∨zct L n=8:=by unfold zct;split <;> simp
theorem zmF {S:SI}{L:List Pt}{n base disk size e:Int}{puts:List PutM}(h:zgn S L n base disk size puts= .error e):0<e:=by
  unfold zgn at h;split at h
  · injection h with h;omega
  · cases hb:zdr S L base disk size with
    | error e'=>rw[hb] at h;injection h with h;subst h;exact zk5 hb
    | ok z=>
      rw[hb] at h;simp only at h;cases hp:zbQ size z puts with
      | error e'=>rw[hp] at h;injection h with h;subst h;exact zhG _ hp
      | ok z'=>
        rw[hp] at h;simp only at h;split at h
        · injection h with h;have:=zqD L n;omega
        · cases h
theorem zqt {rs:List Int}(hl:rs.length≤8):∀(l:List Nat) {G:Gh} {root:Int} {z:SI×Int},Rt G (root::rs)→(∀a∈l,a<16)→zlr (mkG G,root) l= .ok z→
    ∃G',z.1=mkG G'∧Rt G' (z.2::rs)∧(∀i,i<16→zcj (mkG G') z.2 i=if i∈l then [] else zcj (mkG G) root i)∧zf6 G G' rs
  | [],G,root,z,h,_,e=>by
    simp only[zlr] at e;injection e with e;subst e;exact ⟨G,rfl,h,fun i _=>by simp,fun r _ i _=>rfl⟩
  | a::l,G,root,z,h,ha,e=>by
    unfold zlr at e;cases hp:put1 (mkG G,root) a [] with
    | error e'=>rw[hp] at e;cases e
    | ok z'=>
      rw[hp] at e;simp only at e;unfold put1 at hp;split at hp
      · rename_i hE;injection hp with hp;obtain ⟨G1,G2,e1,o1,r1,v1,e2,h2,g2,k2⟩:=zhL h hl (ha a (by simp)) hE;simp only at hp e1;rw[e1,e2] at hp;subst hp;obtain ⟨G',hz,h',g',k'⟩:=zqt hl l h2 (fun b hb=>ha b (List.mem_cons_of_mem _ hb)) e;refine ⟨G',hz,h',fun i hi=>?_,fun r hr i hi=>by rw[k' r hr i hi,k2 r hr i hi]⟩;rw[g' i hi,g2 i hi];by_cases h5:i∈l
        · simp[h5]
        · by_cases h6:i=a
          · simp[h6]
          · simp[h5,h6]
      · cases hp
def zoM (l:List PutM)(i:Nat)(d:Bytes):Bytes:=l.foldl (fun d p=>if p.at_=(i:Int) then p.data else d) d
theorem ziT {size:Int}(hs:size≤16){rs:List Int}(hl:rs.length≤8):∀(l:List PutM) {G:Gh} {root:Int} {z:SI×Int},Rt G (root::rs)→zbQ size (mkG G,root) l= .ok z→
    ∃G',z.1=mkG G'∧Rt G' (z.2::rs)∧(∀i,i<16→zcj (mkG G') z.2 i=zoM l i (zcj (mkG G) root i))∧zf6 G G' rs∧∀p∈l,0≤p.at_∧p.at_<size
  | [],G,root,z,h,e=>by
    simp only[zbQ] at e;injection e with e;subst e;exact ⟨G,rfl,h,fun i _=>rfl,(fun r _ i _=>rfl),fun p hp=>by simp at hp⟩
  | p::l,G,root,z,h,e=>by
    unfold zbQ at e;split at e
    · cases e
    · rename_i hb;have hb2:0≤p.at_∧p.at_<size:=(by omega);have hcast:∀i:Nat,i=p.at_.toNat ↔ p.at_=(i:Int):=fun i=>(by omega);split at e
      · rename_i hg;obtain ⟨G',hz,h',g',k',b'⟩:=ziT hs hl l h e;refine ⟨G',hz,h',fun i hi=>?_,k',fun q hq=>?_⟩
        · rw[g' i hi];unfold zoM;rw[List.foldl_cons];by_cases h6:p.at_=(i:Int)
          · rw[if_pos h6,←hg,←(hcast i).2 h6]
          · rw[if_neg h6]
        · rcases List.mem_cons.1 hq with rfl | hq
          · exact hb2
          · exact b' q hq
      · cases hp:put1 (mkG G,root) p.at_.toNat p.data with
        | error e'=>rw[hp] at e;cases e
        | ok z'=>
          rw[hp] at e;simp only at e;unfold put1 at hp;split at hp
          · rename_i hE;injection hp with hp;obtain ⟨G1,G2,e1,o1,r1,v1,e2,h2,g2,k2⟩:=zhL h hl (by omega) hE;simp only at hp e1;rw[e1,e2] at hp;subst hp;obtain ⟨G',hz,h',g',k',b'⟩:=ziT hs hl l h2 e;refine ⟨G',hz,h',fun i hi=>?_,fun r hr i hi=>by rw[k' r hr i hi,k2 r hr i hi],fun q hq=>?_⟩
            · rw[g' i hi,g2 i hi];unfold zoM;rw[List.foldl_cons];by_cases h6:p.at_=(i:Int)
              · rw[if_pos h6,if_pos ((hcast i).2 h6)]
              · rw[if_neg h6,if_neg (fun h=>h6 ((hcast i).1 h))]
            · rcases List.mem_cons.1 hq with rfl | hq
              · exact hb2
              · exact b' q hq
          · cases hp
theorem zaw {L:List Pt}{id:Int}{p:Pt}(h:yh L id=some p):p.root∈L.map (·.root):=List.mem_map.2 ⟨p,(yT h).1,rfl⟩
theorem zi9 {S:SI}{L:List Pt}{n base disk size:Int}{G:Gh}{z:SI×Int}(h:Vok S L n G)(hs:1≤size∧size≤16)(e:zdr S L base disk size= .ok z):
    ∃G',z.1=mkG G'∧Rt G' (z.2::L.map (·.root))∧zf6 G G' (L.map (·.root))∧
      ∀i:Nat,i<16→zcj (mkG G') z.2 i=match (if base=0 then none else yh L base) with | none=>[] | some p=>if size≤(i:Int)∧(i:Int)<p.size then [] else zcj S p.root i:=by
  have hlen:(L.map (·.root)).length≤8:=(by have:=h.len;simp;omega);have hS:=h.e;subst hS;unfold zdr at e;by_cases hb:base=0
  · rw[if_pos hb] at e;injection e with e;subst e;refine ⟨G,rfl,zwq h.rt,(fun r _ i _=>rfl),fun i _=>?_⟩;rw[if_pos hb,zex,zdj h.rt.V,zdj h.rt.V,dv_0 h.rt.V]
  · rw[if_neg hb] at e ⊢;cases hf:yh L base with
    | none=>rw[hf] at e;cases e
    | some p=>
      rw[hf] at e;simp only at e ⊢;split at e
      · cases e
      · obtain ⟨hpm,hpi⟩:=yT hf;have hps:=(h.pts p hpm).2.2;obtain ⟨G1,e1,h1,q1,q2,q3⟩:=zgo h.rt (zaw hf);rw[e1] at e;obtain ⟨G',hz,h',g',k'⟩:=zqt hlen _ h1 (fun a ha=>by rw[List.mem_range'_1] at ha;omega) e;have same:∀r∈L.map (·.root),∀i,i<16→zcj (mkG G1) r i=zcj (mkG G) r i:=fun r hr i hi=>zdJ h.rt.V h1.V (by rw[q1];exact ndSub.rfl) (by rw[q2];exact ndSub.rfl) (by rw[q3];exact dSub.rfl) (zmx h.rt hr) hi;refine ⟨G',hz,h',fun r hr i hi=>by rw[k' r hr i hi,same r hr i hi],fun i hi=>?_⟩;rw[g' i (by omega),same _ (zaw hf) i (by omega)];have:i∈List.range' size.toNat (p.size.toNat - size.toNat) ↔ size≤(i:Int)∧(i:Int)<p.size:=(by rw[List.mem_range'_1];omega);simp only[this]
theorem zpx {S:SI}{L:List Pt}{n disk size root:Int}{G G':Gh}(h:Vok S L n G)(h':Rt G' (root::L.map (·.root)))(ha:zct L n=0)(hd:1≤disk∧disk≤999)(hs:1≤size∧size≤16):Vok (mkG G') (L++ [⟨n,disk,size,root⟩]) (n+1) G':=by
  unfold zct at ha;have ha:¬(L.length=6∨999<n):=fun hh=>(by rw[if_pos hh] at ha;cases ha);have hl:=h.len;have hn:=h.n1;refine ⟨rfl,?_,by simp;omega,by omega,fun p hp=>?_,?_⟩
  · rw[List.map_append];exact zxr h'
  · rcases List.mem_append.1 hp with hp | hp
    · have:=h.pts p hp;omega
    · rw[List.mem_singleton] at hp;subst hp;simp only;omega
  · rw[List.pairwise_append];refine ⟨h.srt,List.pairwise_singleton _ _,fun a ha b hb=>?_⟩;rw[List.mem_singleton] at hb;subst hb;exact (h.pts a ha).1.2
theorem zjg {S:SI}{L:List Pt}{n base disk size:Int}{puts:List PutM}{G:Gh}{S':SI}{L':List Pt}{n' r:Int}(h:Vok S L n G)(e:zgn S L n base disk size puts= .ok (S',L',n',r)):
    ∃G' root,Vok S' L' n' G'∧zf6 G G' (L.map (·.root))∧L'=L++ [⟨n,disk,size,root⟩]∧n'=n+1∧r=n∧(1≤disk∧disk≤999)∧(1≤size∧size≤16)∧(∀p∈puts,0≤p.at_∧p.at_<size)∧
      ∀i:Nat,i<16→zcj S' root i=zoM puts i (match (if base=0 then none else yh L base) with | none=>[] | some p=>if size≤(i:Int)∧(i:Int)<p.size then [] else zcj S p.root i):=by
  unfold zgn at e;split at e
  · cases e
  · rename_i hbd;have hlen:(L.map (·.root)).length≤8:=(by have:=h.len;simp;omega);cases hb:zdr S L base disk size with
    | error e'=>rw[hb] at e;cases e
    | ok z=>
      rw[hb] at e;simp only at e;obtain ⟨z1,z2⟩:=z;obtain ⟨G1,hz,h1,k1,g1⟩:=zi9 h (by omega) hb;simp only at hz;subst hz;cases hp:zbQ size (mkG G1,z2) puts with
      | error e'=>rw[hp] at e;cases e
      | ok z'=>
        rw[hp] at e;simp only at e;obtain ⟨y1,y2⟩:=z';obtain ⟨G2,hy,h2,g2,k2,b2⟩:=ziT (by omega) hlen puts h1 hp;simp only at hy;subst hy;split at e
        · cases e
        · rename_i ha;injection e with e;injection e with e1 e;injection e with e2 e;injection e with e3 e4;subst e1 e2 e3 e4;refine ⟨G2,y2,zpx h h2 (Decidable.not_not.1 ha) (by omega) (by omega),fun r hr i hi=>by rw[k2 r hr i hi,k1 r hr i hi],rfl,rfl,rfl,by omega,by omega,b2,fun i hi=>?_⟩;rw[g2 i (by omega),g1 i hi]
theorem zjf {S:SI}{L:List Pt}{n id:Int}{G:Gh}{S':SI}{L':List Pt}{n' r:Int}(h:Vok S L n G)(e:ziJ S L n id= .ok (S',L',n',r)):
    ∃G' p,Vok S' L' n' G'∧yh L id=some p∧zf6 G G' (L.map (·.root))∧L'=L++ [⟨n,p.disk,p.size,p.root⟩]∧n'=n+1∧r=n:=by
  unfold ziJ at e;cases hf:yh L id with
  | none=>rw[hf] at e;cases e
  | some p=>
    rw[hf] at e;simp only at e;split at e
    · cases e
    · rename_i ha;injection e with e;injection e with e1 e;injection e with e2 e;injection e with e3 e4;subst e1 e2 e3 e4;obtain ⟨hpm,hpi⟩:=yT hf;have hps:=h.pts p hpm;have hS:=h.e;subst hS;obtain ⟨G1,e1,h1,q1,q2,q3⟩:=zgo h.rt (zaw hf);rw[e1];exact ⟨G1,p,zpx h h1 (Decidable.not_not.1 ha) hps.2.1 hps.2.2,rfl,fun r hr i hi=>zdJ h.rt.V h1.V (by rw[q1];exact ndSub.rfl) (by rw[q2];exact ndSub.rfl) (by rw[q3];exact dSub.rfl) (zmx h.rt hr) hi,rfl,rfl,rfl⟩
theorem zom {L:List Pt}{p:Pt}(hs:L.Pairwise fun a b=>a.id<b.id)(hp:p∈L)(q:Int):cnt (L.map (·.root)) q=cnt ((L.filter fun x=>!decide (x.id=p.id)).map (·.root)) q+if q=p.root∧p.root≠0 then 1 else 0:=by
  induction L with
  | nil=>simp at hp
  | cons a L ih=>
    rw[List.pairwise_cons] at hs;rw[List.map_cons,zdc];rcases List.mem_cons.1 hp with rfl | hp
    · have hall:L.filter (fun x=>!decide (x.id=p.id))=L:=List.filter_eq_self.2 fun b hb=>(by have:=hs.1 b hb;simp;omega);rw[List.filter_cons_of_neg (by simp),hall]
    · have:=hs.1 p hp;rw[List.filter_cons_of_pos (by simp;omega),List.map_cons,zdc,ih hs.2 hp];omega
theorem zmu {S:SI}{L:List Pt}{n id:Int}{G:Gh}{S':SI}{L':List Pt}{n' r:Int}(h:Vok S L n G)(e:zh0 S L n id= .ok (S',L',n',r)):
    ∃G' p,Vok S' L' n' G'∧yh L id=some p∧zf6 G G' (L'.map (·.root))∧L'=L.filter (fun x=>!decide (x.id=id))∧n'=n∧r=0:=by
  unfold zh0 at e;cases hf:yh L id with
  | none=>rw[hf] at e;cases e
  | some p=>
    rw[hf] at e;simp only at e;injection e with e;injection e with e1 e;injection e with e2 e;injection e with e3 e4;subst e1 e2 e3 e4;obtain ⟨hpm,hpi⟩:=yT hf;have hS:=h.e;subst hS;subst hpi;obtain ⟨G1,e1,h1,s1⟩:=ztW (l':=(L.filter fun x=>!decide (x.id=p.id)).map (·.root)) h.rt (zaw hf) (zom h.srt hpm);rw[e1];refine ⟨G1,p,⟨rfl,h1,Nat.le_trans (List.length_filter_le _ _) h.len,h.n1,fun x hx=>h.pts x (List.mem_filter.1 hx).1,List.Pairwise.sublist List.filter_sublist h.srt⟩,rfl,zim h.rt h1 s1 _ fun r hr=>hr,rfl,rfl,rfl⟩
theorem Vok_z:Vok (mkG gZ) [] 1 gZ:=⟨rfl,zqI RtZ,by simp,by omega,(fun p hp=>by simp at hp),List.Pairwise.nil⟩
theorem zfW {S:SI}{L:List Pt}{n:Int}{G:Gh}(h:Vok S L n G):okS 200 S:=by rw[h.e];exact RtOk h.rt (by have:=h.len;simp;omega)
def Top (S:SI)(L:List Pt):Prop:=∀p∈L,∀i:Nat,p.size≤(i:Int)→i<16→zcj S p.root i=[]
theorem zph {puts:List PutM}{size:Int}(h:∀p∈puts,0≤p.at_∧p.at_<size){i:Nat}(hi:size≤(i:Int)):∀d:Bytes,zoM puts i d=d:=by
  unfold zoM
  induction puts with
  | nil=>intro d;rfl
  | cons p l ih=>
    intro d;have:=h p (by simp);rw[List.foldl_cons,if_neg (by omega)];exact ih (fun q hq=>h q (List.mem_cons_of_mem _ hq)) d
theorem zez {G G':Gh}{L:List Pt}(h:Top (mkG G) L)(k:zf6 G G' (L.map (·.root))):Top (mkG G') L:=fun p hp i h1 h2=>by
  rw[k _ (List.mem_map.2 ⟨p,hp,rfl⟩) i h2];exact h p hp i h1 h2
theorem zsh {S:SI}{L:List Pt}{n base disk size:Int}{puts:List PutM}{G:Gh}{S':SI}{L':List Pt}{n' r:Int}(h:Vok S L n G)(t:Top S L)(e:zgn S L n base disk size puts= .ok (S',L',n',r)):Top S' L':=by
  obtain ⟨G',root,h',k',e1,_,_,_,hs,hp,g⟩:=zjg h e;have hS:=h.e;subst hS;have hS':=h'.e;subst hS';rw[e1];intro p hpm i h1 h2;rcases List.mem_append.1 hpm with hpm | hpm
  · exact zez t k' p hpm i h1 h2
  · rw[List.mem_singleton] at hpm;subst hpm;simp only at h1 ⊢;rw[g i h2,zph hp h1];split
    · rfl
    · rename_i q hq;split
      · rfl
      · rename_i hn;have hqm:q∈L:=by
          by_cases hb:base=0
          · rw[if_pos hb] at hq;cases hq
          · rw[if_neg hb] at hq;exact (yT hq).1
        exact t q hqm i (by omega) h2
theorem zty {S:SI}{L:List Pt}{n id:Int}{G:Gh}{S':SI}{L':List Pt}{n' r:Int}(h:Vok S L n G)(t:Top S L)(e:ziJ S L n id= .ok (S',L',n',r)):Top S' L':=by
  obtain ⟨G',q,h',hf,k',e1,_⟩:=zjf h e;have hS:=h.e;subst hS;have hS':=h'.e;subst hS';rw[e1];intro p hpm i h1 h2;rcases List.mem_append.1 hpm with hpm | hpm
  · exact zez t k' p hpm i h1 h2
  · rw[List.mem_singleton] at hpm;subst hpm;exact zez t k' q (yT hf).1 i h1 h2
theorem zsE {S:SI}{L:List Pt}{n id:Int}{G:Gh}{S':SI}{L':List Pt}{n' r:Int}(h:Vok S L n G)(t:Top S L)(e:zh0 S L n id= .ok (S',L',n',r)):Top S' L':=by
  obtain ⟨G',q,h',hf,k',e1,_⟩:=zmu h e;have hS:=h.e;subst hS;have hS':=h'.e;subst hS';refine zez (fun p hp i h1 h2=>t p ?_ i h1 h2) k';rw[e1] at hp;exact (List.mem_filter.1 hp).1
theorem Top_z:Top (mkG gZ) []:=fun p hp=>by simp at hp
def vR (b:Nat→SI→List Pt→Int→HProp)(Ev:Int→Value)(p:Nat)(F:List HProp)(R:VR):Value→List HProp→Prop:=fun v L'=>match R with
  | .ok (S,L,n,r)=>v= .tuple #[I r,Ev 0]∧L'=b p S L n::F
  | .error e=>v= .tuple #[I 0,Ev e]∧L'=F
def vR1 (b:Nat→SI→List Pt→Int→HProp)(Ev:Int→Value)(p:Nat)(F:List HProp)(R:VR):Value→List HProp→Prop:=fun v L'=>match R with
  | .ok (S,L,n,_)=>v=Ev 0∧L'=b p S L n::F
  | .error e=>v=Ev e∧L'=F
def zlD (S:SI)(L:List Pt)(n base disk size:Int):VR:=match zdr S L base disk size with
  | .ok z=> .ok (z.1,L,n,z.2)
  | .error e=> .error e
def zjR (L:List Pt)(n disk size root:Int):List Pt:=if zct L n=0 then L++ [⟨n,disk,size,root⟩] else L
def zs3 (L:List Pt)(n:Int):Int:=if zct L n=0 then n+1 else n
def zmk (L:List Pt)(n:Int):Int:=if zct L n=0 then n else 0
def vaP (b:Nat)(S:SI)(L:List Pt)(n:Int)(z:Nat×Option Addr×Nat):List HProp:=[pt b (.cells #[ptr z.1 0,sl z.2.1 L.length z.2.2,I n] 68 (0,0)),ixl z.1 S,owL 70 4 z.2.1 z.2.2 (ptR L)]
def vlt (b:Nat)(S:SI)(L:List Pt)(n:Int):HProp:=hx (vaP b S L n)
section
variable {c:Cx}{E:Env}{L:List HProp}{K:List KI}
theorem zaz {F:List HProp}(b:Nat)(S:SI)(P:List Pt)(n:Int)[R:Rem L (vlt b S P n) F](k:∀x s cc,G c K E (pt b (.cells #[ptr x 0,sl s P.length cc,I n] 68 (0,0))::ixl x S::owL 70 4 s cc (ptR P)::F)):G c K E L:=zb1 (vlt b S P n) rfl fun z=>k z.1 z.2.1 z.2.2
theorem yk {F:List HProp}(b x:Nat)(s:Option Addr)(cc:Nat)(S:SI)(P:List Pt)(n:Int)[Sp:Split L [pt b (.cells #[ptr x 0,sl s P.length cc,I n] 68 (0,0)),ixl x S,owL 70 4 s cc (ptR P)] F](k:G c K E (vlt b S P n::F)):G c K E L:=
  zaY (A:=vaP b S P n) [pt b (.cells #[ptr x 0,sl s P.length cc,I n] 68 (0,0)),ixl x S,owL 70 4 s cc (ptR P)] (vlt b S P n) (x,s,cc) rfl rfl k
theorem zcd {F:List HProp}{R:VR}{vs:List Value}{b:Nat→SI→List Pt→Int→HProp}{Ev:Int→Value}{p:Nat}{e:Int}(hR:c.R=vR b Ev p F R)(he:R= .error e)(hr:zbn E c.fn.results.toList=some vs)(hv:tup vs= .tuple #[I 0,Ev e])[S:Sub L F](hds:c.n.ds=[]:=by rfl):G c (.code .ret::K) E L:=
  fun a w hE hS=>wp_ret (yb (qw (hds:=hds) hr hE (S.sat hS) (by rw[hR,he];exact ⟨hv,rfl⟩)))
theorem zjI {F:List HProp}{R:VR}{vs:List Value}{b:Nat→SI→List Pt→Int→HProp}{Ev:Int→Value}{p:Nat}{S:SI}{P:List Pt}{n r:Int}(hR:c.R=vR b Ev p F R)(he:R= .ok (S,P,n,r))(hr:zbn E c.fn.results.toList=some vs)(hv:tup vs= .tuple #[I r,Ev 0])[Su:Sub L (b p S P n::F)](hds:c.n.ds=[]:=by rfl):G c (.code .ret::K) E L:=
  fun a w hE hS=>wp_ret (yb (qw (hds:=hds) hr hE (Su.sat hS) (by rw[hR,he];exact ⟨hv,rfl⟩)))
theorem zti {F:List HProp}{R:VR}{vs:List Value}{b:Nat→SI→List Pt→Int→HProp}{Ev:Int→Value}{p:Nat}{e:Int}(hR:c.R=vR1 b Ev p F R)(he:R= .error e)(hr:zbn E c.fn.results.toList=some vs)(hv:tup vs=Ev e)[S:Sub L F](hds:c.n.ds=[]:=by rfl):G c (.code .ret::K) E L:=
  fun a w hE hS=>wp_ret (yb (qw (hds:=hds) hr hE (S.sat hS) (by rw[hR,he];exact ⟨hv,rfl⟩)))
theorem zsQ {F:List HProp}{R:VR}{vs:List Value}{b:Nat→SI→List Pt→Int→HProp}{Ev:Int→Value}{p:Nat}{S:SI}{P:List Pt}{n r:Int}(hR:c.R=vR1 b Ev p F R)(he:R= .ok (S,P,n,r))(hr:zbn E c.fn.results.toList=some vs)(hv:tup vs=Ev 0)[Su:Sub L (b p S P n::F)](hds:c.n.ds=[]:=by rfl):G c (.code .ret::K) E L:=
  fun a w hE hS=>wp_ret (yb (qw (hds:=hds) hr hE (Su.sat hS) (by rw[hR,he];exact ⟨hv,rfl⟩)))
theorem zhJ {T sz cap:Nat}{rows:List (List Value)}{F:List HProp}(s:Option Addr)(n:Nat)[R:OwR L s T sz cap rows F](k:G c K E (owL T sz s cap (rows.take n)::F)):G c K E L:=fun a w hE hS=>k a w hE ((R.sat hS).weak fun m hm=>by
  rcases hm with ⟨rfl,rfl,rfl⟩ | ⟨b,cs,hs,hm,h1,h2,h3,h4⟩
  · exact .inl ⟨rfl,by simp,rfl⟩
  · refine .inr ⟨b,cs,hs,hm,h1,by simp;omega,fun r hr=>h3 r (List.mem_of_mem_take hr),fun j row hj f v hf=>h4 j row ?_ f v hf⟩;rw[List.getElem?_take] at hj;split at hj
    · exact hj
    · cases hj)
end
def qG (e:Bool):HProp:=fun m=>
  (∃g cs t f,Tryz.prog.globalNamed "internal/strconv.uint64pow10" =some g∧m g=some (.cells cs t f,true)∧cs=(Lib.pow10Tab.map fun z=>Value.int .u64 z).toArray)∧
  (e=true→∃g t f tp p,Tryz.prog.globalNamed "strconv.ErrSyntax" =some g∧m g=some (.cells #[.iface tp p] t f,true))
abbrev za5:HProp:=qG true
theorem zhi {w0 w w':World}{L:List HProp}(h:Sat w0 w L)(b:RowKit.Below w.heap.size w w'):Sat w0 w' L:=by
  obtain ⟨f,hf1,hf2⟩:=h.parts;refine ⟨b.os.trans h.os,b.tape.trans h.tape,b.output.trans h.output,Nat.le_trans h.size b.size,f,fun i A hA=>⟨(hf1 i A hA).1,fun k x hx=>?_⟩,hf2⟩;have:=(hf1 i A hA).2 k x hx;rw[b.block k (Array.getElem?_eq_some_iff.1 this).1];exact this
theorem znR {w0 w:World}{A:HProp}{L:List HProp}(h:Sat w0 w (A::L)):∃m:Res,m.fits w∧A m:=by
  obtain ⟨f,hf1,_⟩:=h.parts;exact ⟨f 0,(hf1 0 A rfl).2,(hf1 0 A rfl).1⟩
theorem zsr {e:Bool}{w0 w:World}{L:List HProp}(h:Sat w0 w (qG e::L)):Lib.TabIs Tryz.prog w "internal/strconv.uint64pow10" .u64 Lib.pow10Tab:=by
  obtain ⟨m,hm,⟨g,cs,t,f,h1,h2,rfl⟩,_⟩:=znR h;have:=hm _ _ h2;simp only[Lib.TabIs,World.var?,h1,Option.bind_some,this]
theorem zse {w0 w:World}{L:List HProp}(h:Sat w0 w (za5::L)):∃tp p,w.var? Tryz.prog "strconv.ErrSyntax" =some #[.iface tp p]:=by
  obtain ⟨m,hm,_,h6⟩:=znR h;obtain ⟨g,t,f,tp,p,h1,h2⟩:=h6 rfl;have:=hm _ _ h2;exact ⟨tp,p,by simp only[World.var?,h1,Option.bind_some,this]⟩
theorem ztH {e:Bool}{W w0 w:World}{L:List HProp}(h:Sat w0 w (old W::L))(h1:Lib.TabIs Tryz.prog W "internal/strconv.uint64pow10" .u64 Lib.pow10Tab)(h2:e=true→∃tp p,W.var? Tryz.prog "strconv.ErrSyntax" =some #[.iface tp p]):Sat w0 w (qG e::old W::L):=by
  refine (h.dup (Pers.old W)).weak fun m hm=>⟨?_,fun he=>?_⟩
  · unfold Lib.TabIs World.var? at h1;cases hg:Tryz.prog.globalNamed "internal/strconv.uint64pow10" with
    | none=>rw[hg] at h1;cases h1
    | some g=>
      rw[hg] at h1;simp only[Option.bind_some] at h1;split at h1
      · rename_i cs t f he;injection h1 with h1;exact ⟨g,cs,t,f,rfl,hm g _ he,h1⟩
      · cases h1
  · obtain ⟨tp,p,h2⟩:=h2 he;unfold World.var? at h2;cases hg:Tryz.prog.globalNamed "strconv.ErrSyntax" with
    | none=>rw[hg] at h2;cases h2
    | some g=>
      rw[hg] at h2;simp only[Option.bind_some] at h2;split at h2
      · rename_i cs t f he;injection h2 with h2;subst h2;exact ⟨g,t,f,tp,p,rfl,hm g _ he⟩
      · cases h2
theorem ztM {W w0 w:World}{L:List HProp}(h:Sat w0 w (old W::L))(h1:Lib.TabIs Tryz.prog W "internal/strconv.uint64pow10" .u64 Lib.pow10Tab)(h2:∃tp p,W.var? Tryz.prog "strconv.ErrSyntax" =some #[.iface tp p]):Sat w0 w (za5::old W::L):=ztH h h1 fun _=>h2
theorem zuG {ee:Bool}(n:Int)(h0: -9223372036854775808≤n)(h1:n≤9223372036854775807)(F:List HProp):
    Ct Tryz.prog 74 [I n] (qG ee::F) (R1 (Str (Lib.itoa n)) (qG ee::F)):=fun w0 w hS=>by
  refine (Tryz.strconv_Itoa n h0 h1 w (zsr hS)).mono ?_;rintro e w' ⟨rfl,k,os,rfl⟩;exact ⟨_,ze0 os.toList (hS.drew (w.drawn+k)),rfl,rfl⟩
theorem zpq (c:Nat)(hc:c≤3)(F:List HProp):
    Ct Tryz.prog 75 [Str [48],I c] F (R1 (Str (Lib.repeatL [48] c)) F):=fun w0 w hS=>by
  refine (Tryz.strings_Repeat ⟨⟨[48]⟩⟩ c w (by omega) (by show 1*c≤_;omega)).mono ?_;rintro e w' ⟨rfl,hb⟩;exact ⟨_,zhi hS hb,rfl,rfl⟩
theorem znA:∀(l:List UInt8) (acc:Nat),(acc+1)*10 ^ l.length≤100000→Lib.parseUint10 acc l≠ .range∧∀u,Lib.parseUint10 acc l= .ok u→u<(acc+1)*10 ^ l.length
  | [],acc,h=>by
    simp only[Lib.parseUint10];exact ⟨by simp,fun u hu=>by injection hu with hu;subst hu;simp⟩
  | c::r,acc,h=>by
    simp only[List.length_cons,Nat.pow_succ] at h ⊢;have hp:1≤10 ^ r.length:=Nat.one_le_pow _ _ (by decide);have h1:acc+1≤(acc+1)*(10 ^ r.length*10):=Nat.le_mul_of_pos_right _ (by omega);simp only[Lib.parseUint10];split
    · rename_i hd;have h2:(acc*10+(c.toNat - 48)+1)*10 ^ r.length≤(acc+1)*(10 ^ r.length*10):=by
        rw[show (acc+1)*(10 ^ r.length*10)=((acc+1)*10)*10 ^ r.length by rw[Nat.mul_comm (10 ^ r.length) 10,Nat.mul_assoc]];exact Nat.mul_le_mul_right _ (by omega)
      rw[if_neg (by omega),if_neg (by omega)];have ih:=znA r (acc*10+(c.toNat - 48)) (by omega);exact ⟨ih.1,fun u hu=>Nat.lt_of_lt_of_le (ih.2 u hu) h2⟩
    · exact ⟨by simp,fun u hu=>by cases hu⟩
theorem zle {l:List UInt8}(h:l.length≤3):Lib.parseMag l≠ .range∧∀u,Lib.parseMag l= .ok u→u<10 ^ l.length:=by
  unfold Lib.parseMag;split
  · exact ⟨by simp,fun u hu=>by cases hu⟩
  · have hp:10 ^ l.length≤10 ^ 3:=Nat.pow_le_pow_right (by decide) h;have:=znA l 0 (by omega);simpa using this
theorem zky {s:List UInt8}(hs:s.length=3):Lib.atoiAll s≠ .range∧∀v,Lib.atoiAll s= .ok v→ -99≤v∧v≤999:=by
  cases s with
  | nil=>simp at hs
  | cons c r=>
    simp at hs;unfold Lib.atoiAll;simp only;by_cases hc:c.toNat=43∨c.toNat=45
    · rw[if_pos hc];obtain ⟨h1,h2⟩:=zle (l:=r) (by omega);cases hm:Lib.parseMag r with
      | ok u=>
        have h3:=h2 u hm;rw[hs] at h3;simp only;rw[if_neg (by omega),if_neg (by omega)];refine ⟨by simp,fun v hv=>?_⟩;injection hv with hv;subst hv;split <;> omega
      | range=>exact absurd hm h1
      | _=>exact ⟨by simp,fun v hv=>by cases hv⟩
    · rw[if_neg hc];obtain ⟨h1,h2⟩:=zle (l:=c::r) (by simp;omega);cases hm:Lib.parseMag (c::r) with
      | ok u=>
        have h3:=h2 u hm;simp only[List.length_cons,hs] at h3;simp only;rw[if_neg (by omega),if_neg (by omega)];refine ⟨by simp,fun v hv=>?_⟩;injection hv with hv;subst hv;split <;> omega
      | range=>exact absurd hm h1
      | _=>exact ⟨by simp,fun v hv=>by cases hv⟩
def zq9 (s:List UInt8):Option Int:=match Lib.atoiAll s with | .ok v=>some v | _=>none
theorem zv5 (s:List UInt8)(hs:s.length=3)(F:List HProp):
    Ct Tryz.prog 188 [Str s] (za5::F) (fun v L'=>L'=za5::F∧((∃n,zq9 s=some n∧v= .tuple #[I n, .nilIface])∨(zq9 s=none∧∃t p,v= .tuple #[I 0, .iface t (ptr p 0)]))):=fun w0 w hS=>by
  cases ha:Lib.atoiAll s with
  | ok v=>
    refine (Tryz.strconv_Atoi_ok ⟨⟨s⟩⟩ (by show s.length≤_;omega) v ha w).mono ?_;rintro e w' ⟨rfl,hw⟩;rcases hw with rfl | ⟨t,rfl⟩
    · exact ⟨_,hS,rfl, .inl ⟨v,by unfold zq9;rw[ha],rfl⟩⟩
    · refine ⟨za5::F,?_,rfl, .inl ⟨v,by unfold zq9;rw[ha],rfl⟩⟩;exact zhi hS ((Lib.bytesWorld_below w _ t))
  | range=>exact absurd ha (zky hs).1
  | _=>
    obtain ⟨tp,p,hv⟩:=zse hS;refine (Tryz.strconv_Atoi_syntax_var ⟨⟨s⟩⟩ (by show s.length≤_;omega) ha tp p w hv).mono ?_;rintro e w' ⟨N,rfl,_,_,hb⟩;exact ⟨_,zhi hS hb,rfl, .inr ⟨by unfold zq9;rw[ha],_,N,rfl⟩⟩
def thr (n:Int):List UInt8:=Lib.repeatL [48] (3 - (Lib.itoa n).length)++Lib.itoa n
def dgt (n:Nat):UInt8:=UInt8.ofNat (48+n)
theorem zfi {n:Nat}(h:n<10):(dgt n).toNat=48+n:=by
  unfold dgt;rw[UInt8.toNat_ofNat'];omega
theorem zrE {u:Nat}(h:u<10):Lib.decDigits u=[dgt u]:=by rw[Lib.decDigits,dif_pos h];rfl
theorem zbc {u:Nat}(h:¬u<10):Lib.decDigits u=Lib.decDigits (u / 10)++ [dgt (u % 10)]:=by rw[Lib.decDigits,dif_neg h];rfl
theorem zjC (u:Nat):Lib.itoa (u:Int)=Lib.decDigits u:=by unfold Lib.itoa;rw[if_neg (by omega)];simp
theorem zlm {u:Nat}(h:u<1000):thr (u:Int)=[dgt (u / 100),dgt (u / 10 % 10),dgt (u % 10)]:=by
  unfold thr;rw[zjC];by_cases h1:u<10
  · rw[zrE h1,show u / 100=0 by omega,show u / 10 % 10=0 by omega,show u % 10=u by omega];rfl
  · rw[zbc h1];by_cases h2:u<100
    · rw[zrE (by omega),show u / 100=0 by omega,show u / 10 % 10=u / 10 by omega];rfl
    · rw[zbc (by omega),zrE (by omega),show u / 10 / 10=u / 100 by omega];rfl
theorem zrX:thr 1000=[49,48,48,48]:=by
  unfold thr;rw[show (1000:Int)=((1000:Nat):Int) from rfl,zjC,zbc (by omega),zbc (by omega),zbc (by omega),zrE (by omega)]
  rfl
theorem yS {n:Int}(h:0≤n∧n≤999):(thr n).length=3:=by
  obtain ⟨u,rfl⟩:∃u:Nat,n=u:=⟨n.toNat,by omega⟩;rw[zlm (by omega)];rfl
theorem znz {n:Int}(h: -999≤n∧n≤1000):(Lib.itoa n).length≤4:=by
  by_cases h0:n<0
  · unfold Lib.itoa;rw[if_pos h0,List.length_cons];have hd:∀u:Nat,u<1000→(Lib.decDigits u).length≤3:=fun u hu=>by
      by_cases h1:u<10
      · rw[zrE h1];simp
      · rw[zbc h1];by_cases h2:u<100
        · rw[zrE (by omega)];simp
        · rw[zbc (by omega),zrE (by omega)];simp
    have:=hd n.natAbs (by omega);omega
  · obtain ⟨u,rfl⟩:∃u:Nat,n=u:=⟨n.toNat,by omega⟩;rw[zjC];by_cases h1:u<10
    · rw[zrE h1];simp
    · rw[zbc h1];by_cases h2:u<100
      · rw[zrE (by omega)];simp
      · rw[zbc (by omega)];by_cases h3:u<1000
        · rw[zrE (by omega)];simp
        · obtain rfl:u=1000:=(by omega);rw[zbc (by omega),zrE (by omega)];simp
theorem wa {n:Int}(h: -999≤n∧n≤1000):(thr n).length≤4:=by
  have:=znz h;unfold thr;rw[List.length_append,Lib.repeatL_length];simp;omega
theorem zjK {c:Nat}(h:c<10)(acc:Nat)(r:List UInt8)(ha:acc<1000):Lib.parseUint10 acc (dgt c::r)=Lib.parseUint10 (acc*10+c) r:=by
  simp only[Lib.parseUint10];rw[zfi h,if_pos (by omega),if_neg (by omega),show 48+c - 48=c by omega,if_neg (by omega)]
theorem zvN {n:Int}(h:0≤n∧n≤999):zq9 (thr n)=some n:=by
  obtain ⟨u,rfl⟩:∃u:Nat,n=u:=⟨n.toNat,by omega⟩;rw[zlm (by omega)];unfold zq9 Lib.atoiAll;simp only;rw[zfi (by omega),if_neg (by omega)];unfold Lib.parseMag;rw[if_neg (by simp),zjK (by omega) _ _ (by omega),zjK (by omega) _ _ (by omega),zjK (by omega) _ _ (by omega)];simp only[Lib.parseUint10];rw[if_neg (by omega),if_neg (by omega),if_neg (by omega)];simp only[Option.some.injEq];omega
theorem zq7 {s:List UInt8}(hs:s.length=3){v:Int}(h:zq9 s=some v): -99≤v∧v≤999:=by
  unfold zq9 at h;split at h
  · rename_i u hu;injection h with h;subst h;exact (zky hs).2 _ hu
  · cases h
def zri (s:List UInt8):Option Int:=match zq9 s with | some v=>if thr v=s then some v else none | none=>none
theorem zso {n:Int}(h:0≤n∧n≤999):zri (thr n)=some n:=by unfold zri;rw[zvN h];simp
theorem zpl {s:List UInt8}(hs:s.length=3){v:Int}(h:zri s=some v):thr v=s∧ -99≤v∧v≤999:=by
  unfold zri at h;cases ha:zq9 s with
  | none=>rw[ha] at h;cases h
  | some u=>
    rw[ha] at h;simp only at h;split at h
    · injection h with h;subst h;exact ⟨‹_›,zq7 hs ha⟩
    · cases h
def zbD:Nat→List UInt8→Option (List Int)
  | 0,_=>some []
  | k+1,s=>match zri (s.take 3) with
    | none=>none
    | some v=>(zbD k (s.drop 3)).map (v::·)
theorem zff:∀{k:Nat} {s:List UInt8} {l:List Int},zbD k s=some l→l.length=k
  | 0,s,l,h=>by simp[zbD] at h;subst h;rfl
  | k+1,s,l,h=>by
    simp only[zbD] at h;split at h
    · cases h
    · obtain ⟨l',h1,rfl⟩:=Option.map_eq_some_iff.1 h;simp[zff h1]
theorem zit:∀{k:Nat} {s:List UInt8} {l:List Int},3*k≤s.length→zbD k s=some l→s=l.flatMap thr++s.drop (3*k)∧∀v∈l, -99≤v∧v≤999
  | 0,s,l,_,h=>by simp[zbD] at h;subst h;simp
  | k+1,s,l,hk,h=>by
    simp only[zbD] at h;split at h
    · cases h
    · rename_i v hv;obtain ⟨l',h1,rfl⟩:=Option.map_eq_some_iff.1 h;have hl:(s.take 3).length=3:=(by simp;omega);obtain ⟨e1,e2⟩:=zpl hl hv;obtain ⟨e3,e4⟩:=zit (by simp;omega) h1;refine ⟨?_,fun x hx=>?_⟩
      · rw[List.flatMap_cons,e1,List.append_assoc]
        conv=>lhs;rw[←List.take_append_drop 3 s,e3]
        rw[List.drop_drop];rw[show 3*(k+1)=3+3*k by omega]
      · rcases List.mem_cons.1 hx with rfl | hx
        · exact e2
        · exact e4 x hx
theorem zgj:∀{l:List Int} {k:Nat} (t:List UInt8),l.length=k→(∀v∈l,0≤v∧v≤999)→zbD k (l.flatMap thr++t)=some l
  | [],k,t,hk,_=>by subst hk;rfl
  | v::l,k,t,hk,h=>by
    obtain ⟨k,rfl⟩:∃j,k=j+1:=⟨l.length,by simpa using hk.symm⟩;have hv:=h v (by simp);have h3:=yS hv;simp only[zbD,List.flatMap_cons,List.append_assoc];rw[List.take_append_of_le_length (by omega),List.take_of_length_le (by omega),zso hv,List.drop_append_of_le_length (by omega),List.drop_of_length_le (by omega),List.nil_append];simp only;rw[zgj t (by simpa using hk) fun x hx=>h x (by simp[hx])]
    rfl
theorem zhI (k:Nat):∀(j:Nat) (s:List UInt8),zbD (j+k) s=(zbD j s).bind fun l=>(zbD k (s.drop (3*j))).map (l++·)
  | 0,s=>by simp[zbD]
  | j+1,s=>by
    rw[show j+1+k=(j+k)+1 by omega];simp only[zbD];cases zri (s.take 3) with
    | none=>rfl
    | some v=>
      simp only;rw[zhI k j];cases zbD j (s.drop 3) with
      | none=>rfl
      | some l=>
        simp only[Option.bind_some,Option.map_some,List.drop_drop,Option.map_map];rw[show 3+3*j=3*(j+1) by omega]
        rfl
theorem zfs {j:Nat}{s:List UInt8}{l:List Int}(h:zbD j s=some l):zbD (j+1) s=(zri ((s.drop (3*j)).take 3)).map fun v=>l++ [v]:=by
  rw[zhI,h];simp only[Option.bind_some,zbD];cases zri ((s.drop (3*j)).take 3) <;> rfl
theorem ziw {j k:Nat}{s:List UInt8}(h:zbD j s=none):zbD (j+k) s=none:=by rw[zhI,h];rfl
def gB (B:BkT)(q:Int):Bk:=(B q).getD ([],0)
def zwQ (id:Int)(x:Bk):ChangeM:=⟨98::thr id,thr x.2++x.1,false⟩
def zrV (n:Nd):Bytes:=thr n.refs++(kd n).flatMap thr
def zwO (id:Int)(n:Nd):ChangeM:=⟨110::thr id,zrV n,false⟩
def zj8 (p:Pt):ChangeM:=⟨112::thr p.id,thr p.disk++thr p.size++thr p.root,false⟩
def zoR (n:Int):ChangeM:=⟨[120],thr n,false⟩
def zaL (m:Nat)(B:BkT):List ChangeM:=(ids m B).map fun q=>zwQ q (gB B q)
def zaS (m:Nat)(N:NdT):List ChangeM:=(ids m N).map fun q=>zwO q (gN N q)
def qY (S:SI)(L:List Pt)(n:Int):List ChangeM:=zaL 40 S.B++zaS 24 S.N++L.map zj8++ [zoR n]
structure Sm (S:SI) (L:List Pt) (n:Int):Prop where
  ok:okS 999 S
  dat:∀q x,S.B q=some x→x.1.length≤6
  kid:∀q m,S.N q=some m→∀k∈kd m,0≤k∧k≤999
  pts:∀p∈L,(0≤p.id∧p.id≤999)∧(0≤p.disk∧p.disk≤999)∧(0≤p.size∧p.size≤999)∧(0≤p.root∧p.root≤999)
  len:L.length≤6
  n1:0≤n∧n≤1000
theorem zht (S:SI)(L:List Pt)(n:Int):(qY S L n).length=(ids 40 S.B).length+(ids 24 S.N).length+L.length+1:=by
  simp[qY,zaL,zaS];omega
theorem zgz {S:SI}{L:List Pt}{n:Int}(h:L.length≤6):(qY S L n).length≤71:=by
  rw[zht];have:=zaI 40 S.B;have:=zaI 24 S.N;omega
structure PS where
  B:BkT
  N:NdT
  L:List Pt
  n:Int
def ps0:PS:=⟨fun _=>none,fun _=>none,[],0⟩
def wG (k:Nat)(s:Bytes):Option (List Int):=if s.length<3*k then none else zbD k s
def isX (c:ChangeM):Prop:=c.key=[120]
instance (c:ChangeM):Decidable (isX c):=by unfold isX;infer_instance
def xF (st:PS)(c:ChangeM):Option PS:=if c.val=[49,48,48,48] then some {st with n:=1000} else match wG 1 c.val with
  | some [v]=>if c.val.length=3 then some {st with n:=v} else none
  | _=>none
def bF (st:PS)(id:Int)(c:ChangeM):Option PS:=match wG 1 c.val with
  | some [r]=>if 0<r∧3<c.val.length∧c.val.length≤9 then some {st with B:=qD st.B id (some (c.val.drop 3,r))} else none
  | _=>none
def nF (st:PS)(id:Int)(c:ChangeM):Option PS:=match wG 5 c.val with
  | some [r,k0,k1,k2,k3]=>if 0<r∧c.val.length=15 then some {st with N:=qD st.N id (some ⟨k0,k1,k2,k3,r⟩)} else none
  | _=>none
def pF (st:PS)(id:Int)(c:ChangeM):Option PS:=match wG 3 c.val with
  | some [d,s,r]=>if c.val.length=9∧0<d∧0<s∧s≤16 then some {st with L:=st.L++ [⟨id,d,s,r⟩]} else none
  | _=>none
def kFr (st:PS)(id:Int)(c:ChangeM):Option PS:=if c.key.head? =some 98 then bF st id c else if c.key.head? =some 110 then nF st id c else if c.key.head? =some 112 then pF st id c else none
def zea (st:PS)(c:ChangeM):Option PS:=if c.key=[120] then xF st c else if c.key.length≠4∨c.gone=true then none else match wG 1 (c.key.drop 1) with
  | some [id]=>if id<1 then none else kFr st id c
  | _=>none
def badK (pv:Option Bytes)(c:ChangeM):Bool:=match pv with
  | none=>false
  | some p=>Op.bytesLess c.key p || decide (c.key=p)
def zbd:Option Bytes→PS→List ChangeM→Option PS
  | _,st,[]=>some st
  | pv,st,c::l=>if badK pv c=true∨c.gone=true then none else match zea st c with
    | none=>none
    | some st'=>zbd (some c.key) st' l
def isR (L:List Pt)(q:Int):Prop:=q≠0∧∃p∈L,p.root=q
def isL (N:NdT)(L:List Pt)(q:Int):Prop:=q≠0∧∃r m,isR L r∧N r=some m∧q∈kd m
instance (L:List Pt)(q:Int):Decidable (isR L q):=by unfold isR;infer_instance
structure KindsP (N:NdT) (L:List Pt):Prop where
  r:∀q,isR L q→(N q).isSome=true
  l:∀q,isL N L q→(N q).isSome=true
  dj:∀q,isR L q→¬isL N L q
  all:∀q,(N q).isSome=true→isR L q∨isL N L q
def rOf (N:NdT)(L:List Pt):NdT:=fun q=>if isR L q then N q else none
def lOf (N:NdT)(L:List Pt):NdT:=fun q=>if isR L q then none else N q
def cN (N:NdT)(L:List Pt)(q:Int):Int:=cnt (L.map (·.root)) q+tot (rOf N L) q
structure CountP (B:BkT) (N:NdT) (L:List Pt):Prop where
  nz:∀q m,N q=some m→¬zap m
  n:∀q m,N q=some m→cN N L q=m.refs
  b:∀q x,B q=some x→tot (lOf N L) q=x.2
  all:∀q,q≠0→tot (lOf N L) q≠0→(B q).isSome=true
structure WholeP (st:PS):Prop where
  len:st.L.length≤6
  n1:1≤st.n
  last:∀p,st.L.getLast? =some p→p.id<st.n
  sN:sup 24 st.N
  sB:sup 40 st.B
  kinds:KindsP st.N st.L
  counted:CountP st.B st.N st.L
  within:Top ⟨st.B,st.N⟩ st.L
structure Pok (st:PS):Prop where
  sB:sup 999 st.B
  sN:sup 999 st.N
  b:∀q x,st.B q=some x→(0<x.2∧x.2≤999)∧x.1≠ []∧x.1.length≤6
  n:∀q m,st.N q=some m→(0<m.refs∧m.refs≤999)∧∀k∈kd m, -99≤k∧k≤999
  p:∀p∈st.L,(1≤p.id∧p.id≤999)∧(0<p.disk∧p.disk≤999)∧(0<p.size∧p.size≤16)∧(-99≤p.root∧p.root≤999)
  n1:st.n≤1000∧ -99≤st.n
theorem Pok_0:Pok ps0:=⟨zeA _,zeA _,(fun q x h=>by cases h),(fun q x h=>by cases h),(fun p h=>by simp[ps0] at h),by simp[ps0]⟩
theorem zaf {k:Nat}{s:Bytes}{l:List Int}(h:wG k s=some l):l.length=k∧3*k≤s.length:=by
  unfold wG at h;split at h
  · cases h
  · exact ⟨zff h,by omega⟩
theorem wz {k:Nat}{s:Bytes}{l:List Int}(h:wG k s=some l):s=l.flatMap thr++s.drop (3*k)∧∀v∈l, -99≤v∧v≤999:=by
  have h1:=(zaf h).2;unfold wG at h;rw[if_neg (by omega)] at h;exact zit h1 h
theorem len1 {l:List Int}(h:l.length=1):∃a,l=[a]:=by
  match l,h with
  | [a],_=>exact ⟨a,rfl⟩
theorem len3 {l:List Int}(h:l.length=3):∃a b c,l=[a,b,c]:=by
  match l,h with
  | [a,b,c],_=>exact ⟨a,b,c,rfl⟩
theorem len5 {l:List Int}(h:l.length=5):∃a b c d e,l=[a,b,c,d,e]:=by
  match l,h with
  | [a,b,c,d,e],_=>exact ⟨a,b,c,d,e,rfl⟩
theorem zpU {ρ:Type}{B:Int→Option ρ}{P:ρ→Prop}(h:∀q x,B q=some x→P x){id:Int}{y:ρ}(hy:P y):∀q x,qD B id (some y) q=some x→P x:=fun q x e=>by
  unfold qD at e;split at e
  · injection e with e;subst e;exact hy
  · exact h q x e
theorem zuz {st st':PS}{c:ChangeM}(h:Pok st)(e:zea st c=some st'):Pok st':=by
  unfold zea at e;split at e
  · unfold xF at e;split at e
    · injection e with e;subst e;exact ⟨h.sB,h.sN,h.b,h.n,h.p,by simp⟩
    · split at e
      · rename_i v hv;split at e
        · injection e with e;subst e;have:=(wz hv).2 v (by simp);exact ⟨h.sB,h.sN,h.b,h.n,h.p,by simp only;omega⟩
        · cases e
      · cases e
  · split at e
    · cases e
    · split at e
      · rename_i id hid;have hr:=(wz hid).2 id (by simp);split at e
        · cases e
        · have hid1:1≤id∧id≤((999:Nat):Int):=(by omega);unfold kFr at e;split at e
          · unfold bF at e;split at e
            · rename_i r hv;have:=(wz hv).2 r (by simp);split at e
              · injection e with e;subst e;exact ⟨zbU h.sB fun _=>hid1,h.sN,zpU (P:=fun x:Bk=>(0<x.2∧x.2≤999)∧x.1≠ []∧x.1.length≤6) h.b ⟨by simp only;omega,by simp only;intro hh;have:=congrArg List.length hh;simp at this;omega,by simp;omega⟩,h.n,h.p,h.n1⟩
              · cases e
            · cases e
          · split at e
            · unfold nF at e;split at e
              · rename_i r k0 k1 k2 k3 hv;have hv:=(wz hv).2;split at e
                · injection e with e;subst e;refine ⟨h.sB,zbU h.sN fun _=>hid1,h.b,zpU (P:=fun m:Nd=>(0<m.refs∧m.refs≤999)∧∀k∈kd m, -99≤k∧k≤999) h.n ⟨?_,?_⟩,h.p,h.n1⟩
                  · have:=hv r (by simp);simp only;omega
                  · intro k hk;exact hv k (by simp[kd] at hk ⊢;rcases hk with h | h | h | h <;> simp[h])
                · cases e
              · cases e
            · split at e
              · unfold pF at e;split at e
                · rename_i d s r hv;have hv:=(wz hv).2;split at e
                  · injection e with e;subst e;refine ⟨h.sB,h.sN,h.b,h.n,fun p hp=>?_,h.n1⟩;rcases List.mem_append.1 hp with hp | hp
                    · exact h.p p hp
                    · rw[List.mem_singleton] at hp;subst hp;have h1:=hv d (by simp);have h2:=hv s (by simp);have h3:=hv r (by simp);simp only;omega
                  · cases e
                · cases e
              · cases e
      · cases e
theorem ztj {st:PS}{id:Int}{c:ChangeM}(h:c.key.head? =some 98):kFr st id c=bF st id c:=by unfold kFr;rw[if_pos h]
theorem zm1 {st:PS}{id:Int}{c:ChangeM}(h:c.key.head? =some 110):kFr st id c=nF st id c:=by unfold kFr;rw[if_neg (by rw[h];decide),if_pos h]
theorem zmX {st:PS}{id:Int}{c:ChangeM}(h:c.key.head? =some 112):kFr st id c=pF st id c:=by unfold kFr;rw[if_neg (by rw[h];decide),if_neg (by rw[h];decide),if_pos h]
theorem zkL {n:Nd}:∀{i:Nat},i<4→kat n i∈kd n
  | 0,_=>by simp[kd,kat]
  | 1,_=>by simp[kd,kat]
  | 2,_=>by simp[kd,kat]
  | 3,_=>by simp[kd,kat]
  | i+4,h=>absurd h (by omega)
end Go.Proofs.YthdjckbjjfiopadGreatDoor
