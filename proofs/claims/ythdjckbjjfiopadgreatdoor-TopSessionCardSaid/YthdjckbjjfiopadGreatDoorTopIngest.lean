/- The walk through the law TopIngest. No condition. -/
import Derived.Test.YthdjckbjjfiopadGreatDoorPartG
set_option linter.unusedSimpArgs false
set_option linter.unusedVariables false
namespace Go.Proofs.YthdjckbjjfiopadGreatDoor
open _root_.Go.Proofs.Tryz
open Go.Sl Go.Proofs
def zdV (S:SI)(L:List Pt)(id:Int):List Bytes:=match yh L id with
  | none=>[]
  | some p=>blk S p
def wL (l:List Bytes):Array Value:=(l.map fun s=>Str s).toArray
theorem zld (l:List Bytes):(wL l).size=l.length:=by simp[wL]
theorem ztt {l:List Bytes}{o:Nat}(x:Bytes):(wL l).setIfInBounds o (Str x)=wL (l.set o x):=by
  unfold wL;rw[List.setIfInBounds_toArray,List.map_set]
def w16 (g:Nat→Bytes):List Bytes:=(List.range 16).map g
theorem zqQ (g:Nat→Bytes):(w16 g).length=16:=by simp[w16]
theorem zro (g h:Nat→Bytes){i:Nat}{x:Bytes}(hi:i<16)(e:∀j,j<16→h j=if j=i then x else g j):(w16 g).set i x=w16 h:=by
  unfold w16;apply List.ext_getElem?;intro t;rw[List.getElem?_set];by_cases ht:t<16
  · by_cases hti:i=t
    · subst hti;simp[hi,e i hi]
    · rw[if_neg hti];simp only[List.getElem?_map,List.getElem?_range ht,Option.map_some];rw[e t ht,if_neg (Ne.symm hti)]
  · rw[List.getElem?_eq_none (by simp;omega)];split
    · omega
    · rw[List.getElem?_eq_none (by simp;omega)]
theorem zeroW (w:World):(zeroValue 41).run Tryz.prog w= .ok (.agg (wL (w16 fun _=>[]))) w:=by
  have e:wL (w16 fun _=>[])=Array.replicate 16 (Str []):=(by kernel_rfl);rw[e];exact zeroValue41 w
section
variable {c:Cx}{g:Option (Nat×Bool)}{E:Env}{L:List HProp}{K:List KI}{d:Option Tmp}{ty:TypeId}{pos:String}{af:Array Edge}{gu:Option (Nat×Bool)}
variable {x y:Operand}{t e:TypeId}{b o sz:Nat}
theorem zqE {m:Int}{h nn:Nat}(hu:c.P.underlying t=some (.array nn e))(hz:∀w,(sizeOf e).run c.P w= .ok sz w)(hx:ev g E x=some (ptr b o))(hy:ev g E y=some (I m))(hm:m=h)(hl:h≤nn):
    OpV c g E L ⟨d, .slice t x none (some y) none,ty,pos,af,gu⟩ (sl (some ⟨b,o,none⟩) h nn):= .mk fun a w hE hg hS=>by
  have h1:=fun cd=>wS (P:=c.P) (w:=w) (cd:=cd) hm hl;simp only[execOp,Instr.sliceAt,Instr.sliceBounds,Option.map_some,Option.map_none,hE.ev hg hx,hE.ev hg hy,sl];simp[underlying,program,Sem.run,hu,hz,h1,Instr.sureAddr];intro _;simp[Addr.add]
theorem zrZ {F:List HProp}{T:TypeId}(b:Nat)(l:List Bytes)[R:Rem L (pt b (.cells (wL l) T (0,0))) F](k:G c K E (owL T 1 (some ⟨b,0,none⟩) l.length (yR l)::F)):G c K E L:=fun a w hE hS=>k a w hE ((R.sat hS).weak fun m hm=>by
  refine .inr ⟨b,wL l,rfl,hm,by rw[zld,Nat.mul_one],by simp[yR],fun r hr=>by simp only[yR,List.mem_map] at hr;obtain ⟨s,_,rfl⟩:=hr;rfl,fun j row hj f v hf=>?_⟩;simp only[yR,List.getElem?_map,Option.map_eq_some_iff] at hj;obtain ⟨s,hs,rfl⟩:=hj;obtain ⟨hf0,hf1⟩:=List.getElem?_eq_some_iff.1 hf;have hf2:f=0:=(by simp at hf0;exact hf0);subst hf2;simp at hf1;subst hf1;simp[yk,wL,hs])
end
theorem zvl {S:SI}{L:List Pt}{n base size:Int}{G:Gh}{S':SI}{root:Int}{puts:List PutM}(h:Vok S L n G)(ht:Top S L)(hs:1≤size∧size≤16)
    (g:∀i:Nat,i<16→zbc S' root i=zbZ puts i (match (if base=0 then none else yh L base) with | none=>[] | some p=>if size≤(i:Int)∧(i:Int)<p.size then [] else zbc S p.root i)) (disk:Int) (q:Int):
    (w16 fun j=>zbZ puts j (if (j:Int)<size then (zdV S L base).getD j [] else [])).take size.toNat=blk S' ⟨q,disk,size,root⟩:=by
  unfold w16 blk;rw[←List.map_take,List.take_range];rw[show min size.toNat 16=size.toNat by omega];refine List.map_congr_left fun j hj=>?_;rw[List.mem_range] at hj;rw[g j (by omega),if_pos (by omega)];congr 1;unfold zdV;by_cases hb:base=0
  · rw[if_pos hb];have hn:yh L base=none:=by
      cases hf:yh L base with
      | none=>rfl
      | some p=>have:=yT hf;have:=(h.pts p this.1).1;omega
    rw[hn];simp
  · rw[if_neg hb];cases hf:yh L base with
    | none=>simp
    | some p=>
      simp only;rw[if_neg (by omega)];have hp:=(yT hf).1;have hps:=(h.pts p hp).2.2;unfold blk;by_cases hjp:(j:Int)<p.size
      · rw[List.getD_eq_getElem?_getD,List.getElem?_map,List.getElem?_range (by omega)];rfl
      · rw[List.getD_eq_getElem?_getD,List.getElem?_eq_none (by simp;omega)];exact (ht p hp j (by omega) (by omega)).symm
theorem zog {L:List Pt}{n:Int}{q:Pt}(h:∀p∈L,p.id<n)(hq:q.id=n):yh (L++ [q]) n=some q:=by
  have hn:yh L n=none:=by
    unfold yh;rw[List.find?_eq_none];intro p hp he;have:=h p hp;simp at he;omega
  unfold yh at hn ⊢;rw[List.find?_append,hn];simp[hq]
theorem zkF (b:Nat)(S:SI)(L:List Pt)(n id:Int)(G0:Gh)(hV:Vok S L n G0)(F:List HProp):Ct Tryz.prog 10 [ptr b 0,I id] ([vlt b S L n]++F) (fun v L'=>∃so co bb,v= .tuple #[sl so (zdV S L id).length co,Bo bb]∧L'=owL 9 1 so co (yR (zdV S L id))::vlt b S L n::F):=by
  show Ct Tryz.prog 10 [ptr b 0,I id] (vlt b S L n::F) _;have hll:=hV.len;refine Ct.of func10 rR 40 ntmps10 (by simp) fun w0=>?_;refine gS (gA rR (gA rR (qb (gS (gM rR (gM rR ?_))))));refine g_l (qi (Pre:=[vlt b S L n]) call39 rR (ym b S L n id (by omega))) rR ?_;rintro _ _ ⟨rfl,rfl⟩;refine gM rR (g_v (qd (v:= .agg (yf ((yh L id).getD pt0)).toArray) rR rR) rR (g_v (qd (v:=Bo (yh L id).isSome) rR rR) rR ?_));refine g_l (qy #[I 0,I 0,I 0,I 0] zeroValue70) rR ?_;rintro _ _ ⟨b6,rfl,rfl⟩;refine yu (qr (cs:=#[I 0,I 0,I 0,I 0]) (vs:=yf (((yh L id).getD pt0))) (yf (((yh L id).getD pt0))).toArray sizeOf70 rR rR rR rR (by simp) (qw rR)) ?_;rintro _ _ rfl;refine gA rR (qb (qf (gS (gM rR (g_v (wq rR) rR (qb ?_))))));refine qg rR (fun h19=>?_) (fun h19=>?_)
  · simp at h19;refine gS (gA rR (gA rR (qb ?_)));rw[show zdV S L id=[] by unfold zdV;rw[h19]];refine yD 9 1 (yR []) rR ?_;refine zbq (L2:=owL 9 1 none 0 (yR [])::vlt b S L n::F) ?_;exact fun a w hE hS=>wp_ret (qX (qv (vs:=[sl none 0 0,Bo false]) rfl hE hS ⟨none,0,false,rfl,rfl⟩))
  · simp at h19;obtain ⟨p,hf⟩:=Option.isSome_iff_exists.1 h19;have hpm:=yT hf;have hps:=hV.pts p hpm.1;rw[show (yh L id).getD pt0=p by rw[hf];rfl];refine qh (qf ?_);refine yD 9 1 (yR ((List.range 0).map (zbc S p.root))) rR ?_;refine qp (gA rR (qb (qf (gS (gA rR (qb (qj ?_)))))));refine qD (α:=Nat×Option Addr×Nat) (fun z=>(z.1:Int)≤p.size) (fun z=>U [(0,ptr b 0),(1,I id),(6,ptr b6 0),(8,sl z.2.1 ((List.range z.1).map (zbc S p.root)).length z.2.2),(9,I z.1)]) (fun z=>owL 9 1 z.2.1 z.2.2 (yR ((List.range z.1).map (zbc S p.root)))::pt b6 (.cells (yf (p)).toArray 70 (0,0))::vlt b S L n::F) (fun z=>p.size.toNat - z.1) (0,none,0) (by simp;omega) [0,1,6,8,9] rfl rR ?_;rintro ⟨a,s8,c8⟩ ha;simp only[] at ha ⊢;refine qf (gS (gM rR (g_v (qa 2 underlying70 rR rR sizeOf3 (by decide) rR) rR (g_v (qe (v:=I p.size) isAgg3 rR rR) rR (g_v (qK rR rR) rR (qb ?_))))));refine qg rR (fun h23=>?_) (fun h23=>?_)
    · simp at h23;refine qh (qf (qj (gS (gM rR (gM rR (gM rR ?_))))));refine g_l (qi (Pre:=[vlt b S L n]) call37 rR (wM b S L n id a G0 hV)) rR ?_;rintro _ _ ⟨rfl,rfl⟩;rw[show rdE S L id a=(zbc S p.root a,0) by unfold rdE;rw[hf];simp only;rw[if_neg (by omega)];rfl];refine gM rR (g_v (qd (v:=Str (zbc S p.root a)) rR rR) rR (g_v (qd (v:=zbG 108 0) rR rR) rR (gA rR (gA rR (qb (qf (gS (gM rR (g_v (qZ underlying37 rR) rR (qb ?_))))))))));refine qg rR (fun h34=>?_) (fun h34=>?_)
      · simp at h34
      · refine qh (qp (gM rR (gM rR ?_)));refine g_l (qq [[Str (zbc S p.root a)]] underlying31 sizeOf9 zeroValue9 rR rR rR (by simp) (by decide) (by decide)) rR ?_;rintro _ _ ⟨b37,rfl,rfl⟩;refine g_l (yA underlying31 sizeOf9 zeroValue9 rfl Tryz.typeInfo9 (by decide) rfl rfl (zbz _) rfl (by simp) (by intro r hr;simp at hr;subst hr;rfl) ⟨by simp;omega,by decide,by decide⟩) rfl ?_;rintro _ _ ⟨s38,c38,rfl,rfl⟩;refine gA rR (qb (qG (qp (gM rR (g_v (qu rR rR (w64 (by omega))) rR (gA rR (qb ?_)))))));rw[show yR ((List.range a).map (zbc S p.root))++ [[Str (zbc S p.root a)]]=yR ((List.range (a+1)).map (zbc S p.root)) by rw[List.range_succ];simp[yR],show ((List.range a).map (zbc S p.root)).length+1=((List.range (a+1)).map (zbc S p.root)).length by simp];exact qo (a+1,s38,c38) (by simp only[];omega) (by simp only[];omega) [0,1,6,8,9] rfl rfl
    · simp at h23;obtain rfl:a=p.size.toNat:=(by omega);refine qz rR ?_;refine gS (gM rR (gA rR (gA rR (qb ?_))));rw[show (List.range p.size.toNat).map (zbc S p.root)=zdV S L id by unfold zdV;rw[hf];rfl];refine zbq (L2:=owL 9 1 s8 c8 (yR (zdV S L id))::vlt b S L n::F) ?_;exact fun a w hE hS=>wp_ret (qX (qv (vs:=[sl s8 (zdV S L id).length c8,Bo true]) rfl hE hS ⟨s8,c8,true,rfl,rfl⟩))
-- counterfoil/counterfoiltop.TopIngest is not in this seat
end Go.Proofs.YthdjckbjjfiopadGreatDoor
