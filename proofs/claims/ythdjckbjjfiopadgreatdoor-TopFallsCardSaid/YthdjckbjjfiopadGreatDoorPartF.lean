/- Several texts in one: walks and rules used by them. No condition. -/
import Derived.Test.YthdjckbjjfiopadGreatDoorPartE
import Derived.Test.YthdjckbjjfiopadGreatDoorPartD
import Derived.Test.YthdjckbjjfiopadGreatDoorNums
import Derived.Test.YthdjckbjjfiopadGreatDoorPartB
set_option linter.unusedSimpArgs false
set_option linter.unusedVariables false
namespace Go.Proofs.YthdjckbjjfiopadGreatDoor
open Go.Sl Go.Proofs
theorem zlz (x:UInt8)(a b:Bytes):kl (x::a) (x::b)=kl a b:=by
  show (decide (x<x) || (x==x && Op.bytesLess a b))=Op.bytesLess a b;simp
theorem zpa {a b:Nat}(ha:a<10)(hb:b<10):(dgt a<dgt b) ↔ a<b:=by
  rw[UInt8.lt_iff_toNat_lt,zfi ha,zfi hb];omega
theorem zqA {a b:Nat}(ha:a<10)(hb:b<10):(dgt a=dgt b) ↔ a=b:=by
  rw[←UInt8.toNat_inj,zfi ha,zfi hb];omega
theorem zra {a b:Int}(ha:0≤a∧a≤999)(hb:0≤b∧b≤999):kl (thr a) (thr b)=true ↔ a<b:=by
  obtain ⟨u,rfl⟩:∃u:Nat,a=u:=⟨a.toNat,by omega⟩;obtain ⟨v,rfl⟩:∃v:Nat,b=v:=⟨b.toNat,by omega⟩;rw[zlm (by omega),zlm (by omega)];simp only[kl,Op.bytesLess,Bool.or_eq_true,Bool.and_eq_true,decide_eq_true_eq,beq_iff_eq];rw[zpa (by omega) (by omega),zpa (by omega) (by omega),zpa (by omega) (by omega),zqA (by omega) (by omega),zqA (by omega) (by omega),zqA (by omega) (by omega)];simp only[Bool.false_eq_true,and_false,or_false];omega
theorem kl_bn (a b:Bytes):kl (98::a) (110::b)=true:=rfl
theorem kl_bp (a b:Bytes):kl (98::a) (112::b)=true:=rfl
theorem kl_bx (a b:Bytes):kl (98::a) (120::b)=true:=rfl
theorem kl_np (a b:Bytes):kl (110::a) (112::b)=true:=rfl
theorem kl_nx (a b:Bytes):kl (110::a) (120::b)=true:=rfl
theorem kl_px (a b:Bytes):kl (112::a) (120::b)=true:=rfl
theorem zpM {ρ:Type}{m n:Nat}{B:Int→Option ρ}(hmn:m≤n)(h:sup m B):ids n B=ids m B:=by
  unfold ids;rw[show n=m+(n - m) by omega,List.range'_append_1.symm,List.filter_append];have:(List.range' (1+m) (n - m)).filter (fun k:Nat=>(B (k:Int)).isSome)=[]:=List.filter_eq_nil_iff.2 fun j hj hh=>by
    rw[List.mem_range'_1] at hj;obtain ⟨x,hx⟩:=Option.isSome_iff_exists.1 hh;have:=h _ x hx;omega
  rw[this,List.append_nil]
theorem zmD {ρ:Type}{enc:ρ→Value}{m n:Nat}{B:Int→Option ρ}(hmn:m≤n)(h:sup m B):tb enc n B=tb enc m B:=by
  unfold tb tbl;rw[show n=m+(n - m) by omega,List.range'_append_1.symm,List.filterMap_append];have:(List.range' (1+m) (n - m)).filterMap (fun k:Nat=>(B (k:Int)).map fun x=>((k:Int),enc x))=[]:=List.filterMap_eq_nil_iff.2 fun j hj=>by
    rw[List.mem_range'_1] at hj;cases hx:B (j:Int) with
    | none=>rfl
    | some x=>have:=h _ x hx;omega
  rw[this,List.append_nil]
def lstP (st:PS)(hx:Bool):List ChangeM:=zaL 999 st.B++zaS 999 st.N++st.L.map zj8++if hx then [zoR st.n] else []
structure InvP (pre:List ChangeM) (st:PS) (hx:Bool):Prop where
  e:pre=lstP st hx
  x:hx=false→st.n=0
  ok:Pok st
  srt:st.L.Pairwise fun a b=>a.id<b.id
theorem zyx {l:List Int}(h:∀q,q ∉ l):l=[]:=List.eq_nil_iff_forall_not_mem.2 h
theorem ztP {st st':PS}{c:ChangeM}(hx:c.key≠ [120])(e:zea st c=some st'):∃id y,(1≤id∧id≤999)∧c.key=y::thr id∧c.gone=false∧kFr st id c=some st':=by
  unfold zea at e;rw[if_neg hx] at e;split at e
  · cases e
  · rename_i h4;split at e
    · rename_i id hid;split at e
      · cases e
      · have h5:=(wz hid);have h6:=h5.2 id (by simp);have hk4:c.key.length=4:=(by omega);obtain ⟨y,r,hy⟩:∃y r,c.key=y::r:=by
          cases hk:c.key with
          | nil=>rw[hk] at hk4;simp at hk4
          | cons y r=>exact ⟨y,r,rfl⟩
        rw[hy] at h5 hk4;simp only[List.drop_succ_cons,List.drop_zero,List.flatMap_cons,List.flatMap_nil,List.append_nil] at h5;rw[List.drop_of_length_le (by simp at hk4;omega),List.append_nil] at h5;refine ⟨id,y,by omega,by rw[hy,←h5.1],?_,e⟩;cases hg:c.gone with
        | false=>rfl
        | true=>exact absurd (.inr hg) h4
    · cases e
theorem zpY (l:List ChangeM)(st:Nat→PS)(hs:srt l)(h:∀k c,l[k]? =some c→c.gone=false∧zea (st k) c=some (st (k+1))):zbd none (st 0) l=some (st l.length):=by
  have key:∀(m k:Nat) (pv:Option Bytes),m+k=l.length→(∀p,pv=some p→∀c,l[k]? =some c→kl p c.key=true)→zbd pv (st k) (l.drop k)=some (st l.length):=by
    intro m
    induction m with
    | zero=>intro k pv hk _;rw[List.drop_of_length_le (by omega)];simp only[zbd];rw[show k=l.length by omega]
    | succ m ih=>
      intro k pv hk hp;have hkl:k<l.length:=(by omega);have hc:l[k]? =some l[k]:=List.getElem?_eq_getElem hkl;obtain ⟨h1,h2⟩:=h k _ hc;rw[List.drop_eq_getElem_cons hkl];simp only[zbd];rw[if_neg,h2]
      · simp only;refine ih (k+1) _ (by omega) fun p hp' c hc'=>?_;injection hp' with hp';subst hp';exact List.pairwise_iff_getElem.1 hs k (k+1) hkl (List.getElem?_eq_some_iff.1 hc').1 (by omega) |> fun h9=>by rw[(List.getElem?_eq_some_iff.1 hc').2] at h9;exact h9
      · intro hh;rcases hh with hh | hh
        · cases pv with
          | none=>cases hh
          | some p=>
            have h3:=hp p rfl _ hc;have hb:(kl l[k].key p || decide (l[k].key=p))=true:=hh;rw[zdh h3,Bool.false_or,decide_eq_true_eq] at hb;rw[hb,zee] at h3;cases h3
        · rw[h1] at hh;cases hh
  exact key l.length 0 none (by omega) (fun p hp=>by cases hp)
def rst {ρ:Type}(B:Int→Option ρ)(l:List Int):Int→Option ρ:=fun q=>if q∈l then B q else none
theorem zu2 {ρ:Type}(B:Int→Option ρ):rst B []=fun _=>none:=funext fun q=>by simp[rst]
theorem zpH {ρ:Type}{n:Nat}{B:Int→Option ρ}(h:sup n B):rst B (ids n B)=B:=funext fun q=>by
  unfold rst;split
  · rfl
  · rename_i hq;cases e:B q with
    | none=>rfl
    | some x=>exact absurd (mem_ids.2 ⟨h q x e,by rw[e];rfl⟩) hq
theorem zmZ {ρ:Type}{B:Int→Option ρ}{l:List Int}{q:Int}:qD (rst B l) q (B q)=rst B (l++ [q]):=funext fun p=>by
  unfold qD rst;by_cases h:p=q
  · subst h;simp
  · simp[h]
theorem thr1 {id:Int}(h:0≤id∧id≤999)(t:Bytes):wG 1 (thr id++t)=some [id]:=by
  unfold wG;have:=yS h;rw[if_neg (by simp;omega)];have:=zgj (l:=[id]) (k:=1) t rfl (by intro v hv;simp at hv;subst hv;exact h);simpa using this
theorem zmb {st:PS}{c:ChangeM}{id:Int}{y:UInt8}(hid:1≤id∧id≤999)(hk:c.key=y::thr id)(hg:c.gone=false):zea st c=kFr st id c:=by
  have h3:=yS (n:=id) (by omega);unfold zea;rw[if_neg (by rw[hk];intro hh;injection hh with _ hh;rw[hh] at h3;simp at h3),if_neg (by rw[hk,hg];simp[h3]),hk];simp only[List.drop_succ_cons,List.drop_zero];have:=thr1 (id:=id) (by omega) [];rw[List.append_nil] at this;rw[this];simp only;rw[if_neg (by omega)]
structure Wr (S:SI) (L:List Pt) (n:Int):Prop where
  sB:sup 40 S.B
  sN:sup 24 S.N
  b:∀q x,S.B q=some x→(0<x.2∧x.2≤999)∧x.1≠ []∧x.1.length≤6
  nd:∀q m,S.N q=some m→(0<m.refs∧m.refs≤999)∧∀k∈kd m,0≤k∧k≤999
  p:∀p∈L,(1≤p.id∧p.id≤999)∧(0<p.disk∧p.disk≤999)∧(0<p.size∧p.size≤16)∧(0≤p.root∧p.root≤999)
  n1:0≤n∧n≤1000
  srt:L.Pairwise fun a b=>a.id<b.id
theorem zcM {S:SI}{L:List Pt}{n:Int}(h:Wr S L n):srt (qY S L n):=by
  unfold qY srt;have hb:∀c∈zaL 40 S.B,∃q,c.key=98::thr q:=fun c hc=>by
    unfold zaL at hc;obtain ⟨q,_,rfl⟩:=List.mem_map.1 hc;exact ⟨q,rfl⟩
  have hn:∀c∈zaS 24 S.N,∃q,c.key=110::thr q:=fun c hc=>by
    unfold zaS at hc;obtain ⟨q,_,rfl⟩:=List.mem_map.1 hc;exact ⟨q,rfl⟩
  have hp:∀c∈L.map zj8,∃q,c.key=112::thr q:=fun c hc=>by
    obtain ⟨q,_,rfl⟩:=List.mem_map.1 hc;exact ⟨q.id,rfl⟩
  rw[List.pairwise_append,List.pairwise_append,List.pairwise_append];refine ⟨⟨⟨?_,?_,fun a ha b hb'=>?_⟩,?_,fun a ha b hb'=>?_⟩,List.pairwise_singleton _ _,fun a ha b hb'=>?_⟩
  · unfold zaL;rw[List.pairwise_map];refine List.Pairwise.imp_of_mem ?_ (zfL 40 S.B);intro a b ha hb' hab;have h1:=(mem_ids.1 ha).1;have h2:=(mem_ids.1 hb').1;show kl (98::thr a) (98::thr b)=true;rw[zlz];exact (zra (by omega) (by omega)).2 hab
  · unfold zaS;rw[List.pairwise_map];refine List.Pairwise.imp_of_mem ?_ (zfL 24 S.N);intro a b ha hb' hab;have h1:=(mem_ids.1 ha).1;have h2:=(mem_ids.1 hb').1;show kl (110::thr a) (110::thr b)=true;rw[zlz];exact (zra (by omega) (by omega)).2 hab
  · obtain ⟨q,e⟩:=hb a ha;obtain ⟨r,e'⟩:=hn b hb';rw[e,e',kl_bn]
  · rw[List.pairwise_map];refine List.Pairwise.imp_of_mem ?_ h.srt;intro a b ha hb' hab;have h1:=(h.p a ha).1;have h2:=(h.p b hb').1;show kl (112::thr a.id) (112::thr b.id)=true;rw[zlz];exact (zra (by omega) (by omega)).2 hab
  · obtain ⟨r,e'⟩:=hp b hb';rcases List.mem_append.1 ha with ha | ha
    · obtain ⟨q,e⟩:=hb a ha;rw[e,e',kl_bp]
    · obtain ⟨q,e⟩:=hn a ha;rw[e,e',kl_np]
  · rw[List.mem_singleton] at hb';subst hb';rcases List.mem_append.1 ha with ha | ha
    · rcases List.mem_append.1 ha with ha | ha
      · obtain ⟨q,e⟩:=hb a ha;rw[e];exact kl_bx _ _
      · obtain ⟨q,e⟩:=hn a ha;rw[e];exact kl_nx _ _
    · obtain ⟨q,e⟩:=hp a ha;rw[e];exact kl_px _ _
def stW (S:SI)(L:List Pt)(n:Int)(k:Nat):PS:=
  ⟨rst S.B ((ids 40 S.B).take k),rst S.N ((ids 24 S.N).take (k - (ids 40 S.B).length)),L.take (k - (ids 40 S.B).length - (ids 24 S.N).length),if (ids 40 S.B).length+(ids 24 S.N).length+L.length<k then n else 0⟩
theorem zjA {α:Type}{l:List α}{k:Nat}{x:α}(h:l[k]? =some x):l.take (k+1)=l.take k++ [x]:=by
  rw[List.take_add_one,h];rfl
theorem zuA {S:SI}{L:List Pt}{n:Int}(h:Wr S L n):zbd none ps0 (qY S L n)=some ⟨S.B,S.N,L,n⟩:=by
  have hz:ps0=stW S L n 0:=by
    unfold stW ps0;simp[zu2]
  have he:stW S L n (qY S L n).length=⟨S.B,S.N,L,n⟩:=by
    unfold stW;have hl:=show (qY S L n).length=(ids 40 S.B).length+(ids 24 S.N).length+L.length+1 by rw[zht]
    rw[hl,List.take_of_length_le (by omega),List.take_of_length_le (by omega),List.take_of_length_le (by omega),if_pos (by omega),zpH h.sB,zpH h.sN]
  rw[hz,←he];refine zpY _ _ (zcM h) fun k c hc=>?_;unfold qY at hc;have hbl:(zaL 40 S.B).length=(ids 40 S.B).length:=(by simp[zaL]);have hnl:(zaS 24 S.N).length=(ids 24 S.N).length:=(by simp[zaS]);by_cases h1:k<(ids 40 S.B).length
  · rw[List.append_assoc,List.append_assoc,List.getElem?_append_left (by omega)] at hc;unfold zaL at hc;rw[List.getElem?_map] at hc;obtain ⟨q,hq,rfl⟩:=Option.map_eq_some_iff.1 hc;have hqm:=mem_ids.1 (List.mem_of_getElem? hq);obtain ⟨x,hx⟩:=Option.isSome_iff_exists.1 hqm.2;have hgx:gB S.B q=x:=(by unfold gB;rw[hx];rfl);have hbx:=h.b q x hx;refine ⟨rfl,?_⟩;rw[hgx,zmb (id:=q) (y:=98) (by omega) rfl rfl];rw[ztj rfl];unfold bF;show (match wG 1 (thr x.2++x.1) with | some [r]=>_ | _=>_)=_;rw[thr1 (by omega)];simp only;have h3:=yS (n:=x.2) (by omega);have hne:0<x.1.length:=List.length_pos_iff.2 hbx.2.1;rw[if_pos (by show 0<x.2∧3<(thr x.2++x.1).length∧(thr x.2++x.1).length≤9;rw[List.length_append];omega)];show some (PS.mk (qD (rst S.B ((ids 40 S.B).take k)) q (some ((thr x.2++x.1).drop 3,x.2))) (rst S.N ((ids 24 S.N).take (k - (ids 40 S.B).length))) (L.take (k - (ids 40 S.B).length - (ids 24 S.N).length)) (if (ids 40 S.B).length+(ids 24 S.N).length+L.length<k then n else 0))=some (stW S L n (k+1));unfold stW;rw[List.drop_append_of_le_length (by omega),List.drop_of_length_le (by omega),List.nil_append,show ((x.1,x.2):Bk)=x from rfl,←hx,zmZ,zjA hq,if_neg (by omega),if_neg (by omega),show k+1 - (ids 40 S.B).length=k - (ids 40 S.B).length by omega]
  · rw[List.append_assoc,List.append_assoc,List.getElem?_append_right (by omega),hbl] at hc;by_cases h2:k - (ids 40 S.B).length<(ids 24 S.N).length
    · rw[List.getElem?_append_left (by omega)] at hc;unfold zaS at hc;rw[List.getElem?_map] at hc;obtain ⟨q,hq,rfl⟩:=Option.map_eq_some_iff.1 hc;have hqm:=mem_ids.1 (List.mem_of_getElem? hq);obtain ⟨x,hx⟩:=Option.isSome_iff_exists.1 hqm.2;have hgx:gN S.N q=x:=(by unfold gN;rw[hx];rfl);have hbx:=h.nd q x hx;refine ⟨rfl,?_⟩;rw[hgx,zmb (id:=q) (y:=110) (by omega) rfl rfl];rw[zm1 rfl];unfold nF;have hk5:wG 5 (zrV x)=some [x.refs,x.k0,x.k1,x.k2,x.k3]∧(zrV x).length=15:=by
        have hv:∀v∈ [x.refs,x.k0,x.k1,x.k2,x.k3],0≤v∧v≤999:=by
          intro v hv;simp only[List.mem_cons,List.not_mem_nil,or_false] at hv;rcases hv with rfl | hv
          · omega
          · exact hbx.2 v (by simp only[kd,List.mem_cons,List.not_mem_nil,or_false];exact hv)
        have h5:=zgj (l:=[x.refs,x.k0,x.k1,x.k2,x.k3]) (k:=5) [] rfl hv;rw[List.append_nil] at h5;have e:zrV x=[x.refs,x.k0,x.k1,x.k2,x.k3].flatMap thr:=(by simp[zrV,kd]);have hl:(zrV x).length=15:=by
          rw[e];simp only[List.flatMap_cons,List.flatMap_nil,List.length_append,List.length_nil];rw[yS (hv _ (by simp)),yS (hv x.k0 (by simp)),yS (hv x.k1 (by simp)),yS (hv x.k2 (by simp)),yS (hv x.k3 (by simp))]
        refine ⟨?_,hl⟩;unfold wG;rw[if_neg (by omega),e];exact h5
      show (match wG 5 (zrV x) with | some [r,k0,k1,k2,k3]=>_ | _=>_)=_;rw[hk5.1];simp only;rw[if_pos (by show 0<x.refs∧(zrV x).length=15;exact ⟨by omega,hk5.2⟩)];show some (PS.mk (rst S.B ((ids 40 S.B).take k)) (qD (rst S.N ((ids 24 S.N).take (k - (ids 40 S.B).length))) q (some x)) (L.take (k - (ids 40 S.B).length - (ids 24 S.N).length)) (if (ids 40 S.B).length+(ids 24 S.N).length+L.length<k then n else 0))=some (stW S L n (k+1));unfold stW;rw[←hx,zmZ,if_neg (by omega),if_neg (by omega),show k+1 - (ids 40 S.B).length=(k - (ids 40 S.B).length)+1 by omega,zjA hq,List.take_of_length_le (l:=ids 40 S.B) (i:=k) (by omega),List.take_of_length_le (l:=ids 40 S.B) (i:=k+1) (by omega),show k - (ids 40 S.B).length+1 - (ids 24 S.N).length=k - (ids 40 S.B).length - (ids 24 S.N).length by omega]
    · rw[List.getElem?_append_right (by omega),hnl] at hc;by_cases h3:k - (ids 40 S.B).length - (ids 24 S.N).length<L.length
      · rw[List.getElem?_append_left (by simp;omega)] at hc;rw[List.getElem?_map] at hc;obtain ⟨x,hx,rfl⟩:=Option.map_eq_some_iff.1 hc;have hbx:=h.p x (List.mem_of_getElem? hx);refine ⟨rfl,?_⟩;rw[zmb (id:=x.id) (y:=112) (by omega) rfl rfl];rw[zmX rfl];unfold pF;have hk5:wG 3 (zj8 x).val=some [x.disk,x.size,x.root]∧(zj8 x).val.length=9:=by
          have hv:∀v∈ [x.disk,x.size,x.root],0≤v∧v≤999:=by
            intro v hv;simp only[List.mem_cons,List.not_mem_nil,or_false] at hv;rcases hv with rfl | rfl | rfl <;> omega
          have h5:=zgj (l:=[x.disk,x.size,x.root]) (k:=3) [] rfl hv;rw[List.append_nil] at h5;have e:(zj8 x).val=[x.disk,x.size,x.root].flatMap thr:=(by simp[zj8]);have hl:(zj8 x).val.length=9:=by
            rw[e];simp only[List.flatMap_cons,List.flatMap_nil,List.length_append,List.length_nil];rw[yS (hv x.disk (by simp)),yS (hv x.size (by simp)),yS (hv x.root (by simp))]
          refine ⟨?_,hl⟩;unfold wG;rw[if_neg (by omega),e];exact h5
        rw[hk5.1];simp only;rw[if_pos ⟨hk5.2,by omega⟩];show some (PS.mk (rst S.B ((ids 40 S.B).take k)) (rst S.N ((ids 24 S.N).take (k - (ids 40 S.B).length))) (L.take (k - (ids 40 S.B).length - (ids 24 S.N).length)++ [x]) (if (ids 40 S.B).length+(ids 24 S.N).length+L.length<k then n else 0))=some (stW S L n (k+1));unfold stW;rw[if_neg (by omega),if_neg (by omega),show k+1 - (ids 40 S.B).length - (ids 24 S.N).length=(k - (ids 40 S.B).length - (ids 24 S.N).length)+1 by omega,zjA hx,List.take_of_length_le (l:=ids 40 S.B) (i:=k) (by omega),List.take_of_length_le (l:=ids 40 S.B) (i:=k+1) (by omega),List.take_of_length_le (l:=ids 24 S.N) (i:=k - (ids 40 S.B).length) (by omega),List.take_of_length_le (l:=ids 24 S.N) (i:=k+1 - (ids 40 S.B).length) (by omega)]
      · rw[List.getElem?_append_right (by simp;omega),List.length_map] at hc;have hk0:k - (ids 40 S.B).length - (ids 24 S.N).length - L.length=0:=by
          have:=(List.getElem?_eq_some_iff.1 hc).1;simp at this;omega
        rw[hk0] at hc;injection hc with hc;subst hc;refine ⟨rfl,?_⟩;have hfin:stW S L n (k+1)={stW S L n k with n:=n}:=by
          unfold stW;rw[if_pos (by omega),List.take_of_length_le (l:=ids 40 S.B) (i:=k) (by omega),List.take_of_length_le (l:=ids 40 S.B) (i:=k+1) (by omega),List.take_of_length_le (l:=ids 24 S.N) (i:=k - (ids 40 S.B).length) (by omega),List.take_of_length_le (l:=ids 24 S.N) (i:=k+1 - (ids 40 S.B).length) (by omega),List.take_of_length_le (l:=L) (i:=k - (ids 40 S.B).length - (ids 24 S.N).length) (by omega),List.take_of_length_le (l:=L) (i:=k+1 - (ids 40 S.B).length - (ids 24 S.N).length) (by omega)]
        rw[hfin];show (if (zoR n).key=[120] then xF (stW S L n k) (zoR n) else _)=_;rw[if_pos (show (zoR n).key=[120] from rfl)];unfold xF;show (if thr n=[49,48,48,48] then _ else _)=_;by_cases hn:n=1000
        · subst hn;rw[if_pos zrX]
        · have hn1:=h.n1;have h3:=yS (n:=n) (by omega);rw[if_neg (by intro hh;rw[hh] at h3;simp at h3)];show (match wG 1 (thr n) with | some [v]=>if (thr n).length=3 then _ else _ | _=>_)=_;have:=thr1 (id:=n) (by omega) [];rw[List.append_nil] at this;rw[this];simp only;rw[if_pos h3]
def zhc (N:NdT)(F:IM)(o:Bool)(id kind:Int):Bool:=if id=0 then o else o && ((N id).isSome && (decide ((li F id).getD 0=0) || decide ((li F id).getD 0=kind)))
def zkb (F:IM)(id kind:Int):IM:=if id=0 then F else sti F id kind
theorem isR_snoc {L:List Pt}{p:Pt}{q:Int}:isR (L++ [p]) q ↔ isR L q∨(q≠0∧q=p.root):=by
  unfold isR;simp only[List.mem_append,List.mem_singleton];constructor
  · rintro ⟨h0,x,hx | hx,e⟩
    · exact .inl ⟨h0,x,hx,e⟩
    · subst hx;exact .inr ⟨h0,e.symm⟩
  · rintro (⟨h0,x,hx,e⟩ | ⟨h0,e⟩)
    · exact ⟨h0,x, .inl hx,e⟩
    · exact ⟨h0,p, .inr rfl,e.symm⟩
theorem zrc (q:Int):¬isR [] q:=fun h=>by obtain ⟨_,p,hp,_⟩:=h;cases hp
structure K1 (N:NdT) (L:List Pt) (o:Bool) (F:IM):Prop where
  o:o=true ↔ ∀q,isR L q→(N q).isSome=true
  f:∀q,li F q=if isR L q then some 1 else none
theorem zxv (N:NdT):K1 N [] true []:=⟨⟨fun _ q h=>absurd h (zrc q),fun _=>rfl⟩,fun q=>by rw[if_neg (zrc q)];rfl⟩
theorem zwI {N:NdT}{L:List Pt}{o:Bool}{F:IM}(h:K1 N L o F)(p:Pt):K1 N (L++ [p]) (zhc N F o p.root 1) (zkb F p.root 1):=by
  unfold zhc zkb;by_cases h0:p.root=0
  · rw[if_pos h0,if_pos h0];have e:∀q,isR (L++ [p]) q ↔ isR L q:=fun q=>by
      rw[isR_snoc];exact ⟨fun hh=>hh.elim (fun x=>x) fun hh=>absurd (hh.2.trans h0) hh.1, .inl⟩
    exact ⟨by rw[h.o];simp only[e],fun q=>by rw[h.f];simp only[e]⟩
  · rw[if_neg h0,if_neg h0];have h01:(li F p.root).getD 0=0∨(li F p.root).getD 0=1:=by
      rw[h.f];split
      · exact .inr rfl
      · exact .inl rfl
    have hb:(decide ((li F p.root).getD 0=0) || decide ((li F p.root).getD 0=1))=true:=by
      rcases h01 with e | e <;> simp[e]
    rw[hb,Bool.and_true];refine ⟨?_,fun q=>?_⟩
    · rw[Bool.and_eq_true,h.o];constructor
      · rintro ⟨h1,h2⟩ q hq;rcases isR_snoc.1 hq with hq | ⟨_,rfl⟩
        · exact h1 q hq
        · exact h2
      · intro h1;exact ⟨fun q hq=>h1 q (isR_snoc.2 (.inl hq)),h1 _ (isR_snoc.2 (.inr ⟨h0,rfl⟩))⟩
    · rw[ziI];by_cases hq:p.root=q
      · rw[if_pos hq,if_pos (isR_snoc.2 (.inr ⟨by rw[←hq];exact h0,hq.symm⟩))]
      · rw[if_neg hq,h.f];have e:isR (L++ [p]) q ↔ isR L q:=by
          rw[isR_snoc];exact ⟨fun hh=>hh.elim (fun x=>x) fun hh=>absurd hh.2.symm hq, .inl⟩
        simp only[e]
def dn (N:NdT)(L:List Pt)(done:List Int)(ks:List Int)(q:Int):Prop:=q≠0∧((∃r m,r∈done∧isR L r∧N r=some m∧q∈kd m)∨q∈ks)
structure KP (N:NdT) (L:List Pt):Prop where
  r:∀q,isR L q→(N q).isSome=true
  l:∀q,isL N L q→(N q).isSome=true
  dj:∀q,isR L q→¬isL N L q
structure K2 (N:NdT) (L:List Pt) (done ks:List Int) (o:Bool) (F:IM):Prop where
  no:o=false→¬KP N L
  r:o=true→∀q,isR L q→(N q).isSome=true
  l:o=true→∀q,dn N L done ks q→(N q).isSome=true∧¬isR L q
  f1:o=true→∀q,isR L q→li F q=some 1
  f2:o=true→∀q,¬isR L q→dn N L done ks q→li F q=some 2
  f0:o=true→∀q,¬isR L q→¬dn N L done ks q→li F q=none
theorem zt5 (N:NdT)(L:List Pt)(q:Int):¬dn N L [] [] q:=fun h=>by
  rcases h.2 with ⟨r,m,hr,_⟩ | h
  · cases hr
  · cases h
theorem ztl {N:NdT}{L:List Pt}{o:Bool}{F:IM}(h:K1 N L o F):K2 N L [] [] o F:=
  ⟨(fun ho hk=>by have:=h.o.2 hk.r;rw[this] at ho;cases ho),fun ho=>h.o.1 ho,fun _ q hq=>absurd hq (zt5 N L q),fun _ q hq=>by rw[h.f,if_pos hq],fun _ q _ hq=>absurd hq (zt5 N L q),fun _ q hq _=>by rw[h.f,if_neg hq]⟩
theorem zuM {N:NdT}{L:List Pt}{done:List Int}{id:Int}(h:¬isR L id)(q:Int):dn N L (id::done) [] q ↔ dn N L done [] q:=by
  unfold dn;constructor
  · rintro ⟨h0,⟨r,m,hr,h1,h2⟩ | h3⟩
    · rcases List.mem_cons.1 hr with rfl | hr
      · exact absurd h1 h
      · exact ⟨h0, .inl ⟨r,m,hr,h1,h2⟩⟩
    · exact ⟨h0, .inr h3⟩
  · rintro ⟨h0,⟨r,m,hr,h1,h2⟩ | h3⟩
    · exact ⟨h0, .inl ⟨r,m,List.mem_cons_of_mem _ hr,h1,h2⟩⟩
    · exact ⟨h0, .inr h3⟩
theorem zpb {N:NdT}{L:List Pt}{d d' k k':List Int}{o:Bool}{F:IM}(h:K2 N L d k o F)(e:∀q,dn N L d' k' q ↔ dn N L d k q):K2 N L d' k' o F:=
  ⟨h.no,h.r,fun ho q hq=>h.l ho q ((e q).1 hq),h.f1,fun ho q h1 h2=>h.f2 ho q h1 ((e q).1 h2),fun ho q h1 h2=>h.f0 ho q h1 fun h3=>h2 ((e q).2 h3)⟩
theorem zmC {N:NdT}{L:List Pt}{d d' k k':List Int}{F F':IM}(h:K2 N L d k false F):K2 N L d' k' false F':=
  ⟨h.no,(fun h=>by cases h),(fun h=>by cases h),(fun h=>by cases h),(fun h=>by cases h),(fun h=>by cases h)⟩
theorem zvG {N:NdT}{L:List Pt}{done:List Int}{id:Int}{o:Bool}{F:IM}(h:K2 N L done [] o F)(hm:(li F id).getD 0≠1):K2 N L (id::done) [] o F:=by
  cases o with
  | false=>exact zmC h
  | true=>
    refine zpb h (zuM fun hr=>hm ?_);rw[h.f1 rfl id hr];rfl
theorem zv7 {N:NdT}{L:List Pt}{done:List Int}{id:Int}{F:IM}(h:K2 N L done [] true F)(hm:(li F id).getD 0=1):isR L id:=by
  refine Decidable.byContradiction fun hr=>?_;by_cases hd:dn N L done [] id
  · rw[h.f2 rfl id hr hd] at hm;cases hm
  · rw[h.f0 rfl id hr hd] at hm;cases hm
theorem dn_ks {N:NdT}{L:List Pt}{done ks:List Int}{k q:Int}:dn N L done (ks++ [k]) q ↔ dn N L done ks q∨(q≠0∧q=k):=by
  unfold dn;simp only[List.mem_append,List.mem_singleton];constructor
  · rintro ⟨h0,h | h | h⟩
    · exact .inl ⟨h0, .inl h⟩
    · exact .inl ⟨h0, .inr h⟩
    · exact .inr ⟨h0,h⟩
  · rintro (⟨h0,h | h⟩ | ⟨h0,h⟩)
    · exact ⟨h0, .inl h⟩
    · exact ⟨h0, .inr (.inl h)⟩
    · exact ⟨h0, .inr (.inr h)⟩
theorem zwU {N:NdT}{L:List Pt}{done ks:List Int}{id k:Int}{m:Nd}{o:Bool}{F:IM}(h:K2 N L done ks o F)(hr:o=true→isR L id)(hN:N id=some m)(hk:k∈kd m):K2 N L done (ks++ [k]) (zhc N F o k 2) (zkb F k 2):=by
  cases o with
  | false=>
    have:zhc N F false k 2=false:=(by unfold zhc;split <;> simp);rw[this];exact zmC h
  | true=>
    by_cases h0:k=0
    · rw[show zhc N F true k 2=true by unfold zhc;rw[if_pos h0],show zkb F k 2=F by unfold zkb;rw[if_pos h0]];refine zpb h fun q=>?_;rw[dn_ks];exact ⟨fun hh=>hh.elim (fun x=>x) fun hh=>absurd (hh.2.trans h0) hh.1, .inl⟩
    · have hL:isL N L k:=⟨h0,id,m,hr rfl,hN,hk⟩;have e1:zkb F k 2=sti F k 2:=(by unfold zkb;rw[if_neg h0]);rw[e1];cases hs:zhc N F true k 2 with
      | false=>
        refine zmC (h:=(⟨fun _ hkp=>?_,(fun h=>by cases h),(fun h=>by cases h),(fun h=>by cases h),(fun h=>by cases h),(fun h=>by cases h)⟩:K2 N L done ks false F));unfold zhc at hs;rw[if_neg h0,Bool.true_and,hkp.l k hL,Bool.true_and,Bool.or_eq_false_iff] at hs;have hnr:=fun hh=>hkp.dj k hh hL;by_cases hd:dn N L done ks k
        · have:=h.f2 rfl k hnr hd;rw[this] at hs;simp at hs
        · have:=h.f0 rfl k hnr hd;rw[this] at hs;simp at hs
      | true=>
        unfold zhc at hs;rw[if_neg h0,Bool.true_and,Bool.and_eq_true] at hs;have hnr:¬isR L k:=fun hh=>by
          rw[h.f1 rfl k hh] at hs;simp at hs
        refine ⟨(fun h=>by cases h),fun _=>h.r rfl,fun _ q hq=>?_,fun _ q hq=>?_,fun _ q h1 hq=>?_,fun _ q h1 hq=>?_⟩
        · rcases dn_ks.1 hq with hq | ⟨_,rfl⟩
          · exact h.l rfl q hq
          · exact ⟨hs.1,hnr⟩
        · rw[ziI,if_neg (fun e=>hnr (by rw[e];exact hq))];exact h.f1 rfl q hq
        · rw[ziI];split
          · rfl
          · rename_i hne;rcases dn_ks.1 hq with hq | ⟨_,rfl⟩
            · exact h.f2 rfl q h1 hq
            · exact absurd rfl hne
        · have hq':¬dn N L done ks q∧¬(q≠0∧q=k):=⟨fun h=>hq (dn_ks.2 (.inl h)),fun h=>hq (dn_ks.2 (.inr h))⟩;rw[ziI,if_neg (fun e=>hq'.2 ⟨by rw[←e];exact h0,e.symm⟩)];exact h.f0 rfl q h1 hq'.1
theorem zu0 {N:NdT}{L:List Pt}{done:List Int}{id:Int}{m:Nd}{o:Bool}{F:IM}(h:K2 N L done (kd m) o F)(hr:o=true→isR L id)(hN:N id=some m):K2 N L (id::done) [] o F:=by
  cases o with
  | false=>exact zmC h
  | true=>
    refine zpb h fun q=>?_;unfold dn;constructor
    · rintro ⟨h0,⟨r,m',hr',h1,h2,h3⟩ | h4⟩
      · rcases List.mem_cons.1 hr' with rfl | hr'
        · rw[hN] at h2;injection h2 with h2;subst h2;exact ⟨h0, .inr h3⟩
        · exact ⟨h0, .inl ⟨r,m',hr',h1,h2,h3⟩⟩
      · cases h4
    · rintro ⟨h0,⟨r,m',hr',h1,h2,h3⟩ | h4⟩
      · exact ⟨h0, .inl ⟨r,m',List.mem_cons_of_mem _ hr',h1,h2,h3⟩⟩
      · exact ⟨h0, .inl ⟨id,m,by simp,hr rfl,hN,h4⟩⟩
theorem zx4 {N:NdT}{L:List Pt}{done:List Int}(ha:∀r,(N r).isSome=true→r∈done)(q:Int):dn N L done [] q ↔ isL N L q:=by
  unfold dn isL;constructor
  · rintro ⟨h0,⟨r,m,_,h1,h2,h3⟩ | h4⟩
    · exact ⟨h0,r,m,h1,h2,h3⟩
    · cases h4
  · rintro ⟨h0,r,m,h1,h2,h3⟩;exact ⟨h0, .inl ⟨r,m,ha r (by rw[h2];rfl),h1,h2,h3⟩⟩
theorem zyA {N:NdT}{L:List Pt}{done:List Int}{o:Bool}{F:IM}(h:K2 N L done [] o F)(ha:∀r,(N r).isSome=true→r∈done)(hs:sup 24 N)(hF:(F.map (·.1)).Nodup):((o && decide ((F.length:Int)=((ids 24 N).length:Int)))=true ↔ KindsP N L)∧(o=true→∀q,(li F q).getD 0=1 ↔ isR L q):=by
  have ha':=zx4 (L:=L) ha;cases o with
  | false=>
    refine ⟨⟨(fun hh=>by cases hh),fun hk=>absurd ⟨hk.r,hk.l,hk.dj⟩ (h.no rfl)⟩,(fun hh=>by cases hh)⟩
  | true=>
    have hkeys:∀q,q∈F.map (·.1) ↔ isR L q∨isL N L q:=fun q=>by
      rw[←zj0];by_cases hr:isR L q
      · rw[h.f1 rfl q hr];simp[hr]
      · by_cases hl:isL N L q
        · rw[h.f2 rfl q hr ((ha' q).2 hl)];simp[hl]
        · rw[h.f0 rfl q hr fun hh=>hl ((ha' q).1 hh)];simp[hr,hl]
    have hsub:∀q∈F.map (·.1),q∈ids 24 N:=fun q hq=>by
      have hs1:(N q).isSome=true:=by
        rcases (hkeys q).1 hq with hr | hl
        · exact h.r rfl q hr
        · exact (h.l rfl q ((ha' q).2 hl)).1
      obtain ⟨x,hx⟩:=Option.isSome_iff_exists.1 hs1;exact mem_ids.2 ⟨hs q x hx,hs1⟩
    have hlen:=ziB hF (ids_nodup 24 N) hsub;rw[List.length_map] at hlen;refine ⟨?_,fun _ q=>?_⟩
    · rw[Bool.true_and,decide_eq_true_eq];constructor
      · intro hl;have h2:=hlen.1 (by omega);refine ⟨h.r rfl,fun q hq=>(h.l rfl q ((ha' q).2 hq)).1,fun q hr hl=>(h.l rfl q ((ha' q).2 hl)).2 hr,fun q hq=>?_⟩;obtain ⟨x,hx⟩:=Option.isSome_iff_exists.1 hq;exact (hkeys q).1 (h2 q (mem_ids.2 ⟨hs q x hx,hq⟩))
      · intro hk;have:=hlen.2 fun q hq=>(hkeys q).2 (hk.all q (mem_ids.1 hq).2);omega
    · by_cases hr:isR L q
      · rw[h.f1 rfl q hr];simp[hr]
      · by_cases hl:isL N L q
        · rw[h.f2 rfl q hr ((ha' q).2 hl)];simp[hr]
        · rw[h.f0 rfl q hr fun hh=>hl ((ha' q).1 hh)];simp[hr]
def cm (F:IM)(c:Int→Int):Prop:=(∀q,(li F q).getD 0=c q)∧(∀q,(li F q).isSome=true ↔ c q≠0)∧∀q,0≤c q
theorem zuo:cm [] fun _=>0:=⟨fun q=>rfl,fun q=>by simp[li],fun q=>by simp⟩
theorem zrw {F:IM}{c:Int→Int}(h:cm F c)(k:Int):cm (sti F k (c k+1)) (del c k 1):=by
  obtain ⟨h1,h2,h3⟩:=h;refine ⟨fun q=>?_,fun q=>?_,fun q=>?_⟩
  · rw[ziI];by_cases hq:k=q
    · subst hq;rw[if_pos rfl,zdO];rfl
    · rw[if_neg hq,h1,zni _ _ (Ne.symm hq)]
  · rw[ziI];by_cases hq:k=q
    · subst hq;rw[if_pos rfl,zdO];have:=h3 k;simp;omega
    · rw[if_neg hq,h2,zni _ _ (Ne.symm hq)]
  · have:=h3 q;unfold del;split <;> omega
theorem zpB {F:IM}{c:Int→Int}(h:cm F c):cm (dli F 0) fun q=>if q=0 then 0 else c q:=by
  obtain ⟨h1,h2,h3⟩:=h;refine ⟨fun q=>?_,fun q=>?_,fun q=>?_⟩
  · rw[zul];by_cases hq:0=q
    · subst hq;rfl
    · rw[if_neg hq,h1];simp only;rw[if_neg (Ne.symm hq)]
  · rw[zul];by_cases hq:0=q
    · subst hq;simp
    · rw[if_neg hq,h2];simp only;rw[if_neg (Ne.symm hq)]
  · have:=h3 q;simp only;split <;> omega
def cA (l:List Int)(q:Int):Int:=(l.count q:Int)
theorem zyp (q:Int):cA [] q=0:=rfl
theorem zuZ (l:List Int)(k q:Int):cA (l++ [k]) q=del (cA l) k 1 q:=by
  unfold cA del;rw[List.count_append,List.count_cons];by_cases h:q=k
  · subst h;simp
  · simp[h,Ne.symm h]
theorem zg1 (l:List Int)(k q:Int):cA (k::l) q=cA l q+if q=k then 1 else 0:=by
  unfold cA;rw[List.count_cons];by_cases h:q=k
  · subst h;simp
  · simp[h,Ne.symm h]
theorem zxY (l:List Int)(q:Int):0≤cA l q:=by unfold cA;omega
theorem zxM (l:List Int)(q:Int):cA l q≤l.length:=by unfold cA;have:=List.count_le_length (l:=l) (a:=q);omega
theorem zw3 {l:List Int}{q:Int}(h:q≠0):cA l q=cnt l q:=by unfold cA cnt;rw[if_neg h]
theorem zxS (m:Nd)(q:Int):occ (some m) q=cA (kd m) q:=by
  unfold kd;simp only[zg1,zyp,occ]
  (repeat' split) <;> omega
def kR (m:Nd)(i:Nat)(q:Int):Int:=cA ((kd m).drop i) q
theorem kR_0 (m:Nd)(q:Int):kR m 0 q=occ (some m) q:=by rw[zxS];rfl
theorem kR_4 (m:Nd)(q:Int):kR m 4 q=0:=rfl
theorem kR_s (m:Nd)(q:Int):∀i,i<4→kR m i q=kR m (i+1) q+if q=kat m i then 1 else 0
  | 0,_=>zg1 _ _ _
  | 1,_=>zg1 _ _ _
  | 2,_=>zg1 _ _ _
  | 3,_=>zg1 _ _ _
  | i+4,h=>absurd h (by omega)
theorem kR_nn (m:Nd)(i:Nat)(q:Int):0≤kR m i q:=zxY _ _
def fR (N:NdT)(L:List Pt)(q:Int)(p:Int×Value):Int:=if isR L p.1 then occ (N p.1) q else 0
def fL (N:NdT)(L:List Pt)(q:Int)(p:Int×Value):Int:=if isR L p.1 then 0 else occ (N p.1) q
theorem fR_nn (N:NdT)(L:List Pt)(q:Int)(p:Int×Value):0≤fR N L q p:=by unfold fR;split;exact zk4 _ _;exact Int.le_refl _
theorem fL_nn (N:NdT)(L:List Pt)(q:Int)(p:Int×Value):0≤fL N L q p:=by unfold fL;split;exact Int.le_refl _;exact zk4 _ _
theorem zmg {f:Int×Value→Int}(h:∀p,0≤f p):∀M,0≤zjX f M
  | []=>Int.le_refl _
  | p::M=>by have:=zmg h M;have:=h p;simp only[zjX];omega
theorem zmh {N:NdT}{f:Int×Value→Int}{A:NdT}{q:Int}(h:∀k v,f (k,v)=if (N k).isSome then occ (A k) q else f (k,v))(hA:∀k,N k=none→A k=none):∀l:List Nat,zjX f (tbl yQ l N)=zgV A q l
  | []=>rfl
  | k::l=>by
    unfold tbl;rw[List.filterMap_cons];simp only[zgV];have ih:=zmh h hA l;unfold tbl at ih;cases hk:N (k:Int) with
    | none=>simp only[Option.map_none];rw[ih,hA _ hk];simp[occ]
    | some m=>
      simp only[Option.map_some,zjX];rw[ih,h,hk]
      rfl
theorem sum_R (N:NdT)(L:List Pt)(q:Int):zjX (fR N L q) (tb yQ 24 N)=tot (rOf N L) q:=by
  refine zmh (fun k v=>?_) (fun k hk=>?_) _
  · cases hk:N k with
    | none=>rfl
    | some m=>
      show fR N L q (k,v)=if true=true then occ (rOf N L k) q else _
      rw[if_pos rfl];unfold fR rOf;simp only;split <;> rfl
  · unfold rOf;split;exact hk;rfl
theorem sum_L (N:NdT)(L:List Pt)(q:Int):zjX (fL N L q) (tb yQ 24 N)=tot (lOf N L) q:=by
  refine zmh (fun k v=>?_) (fun k hk=>?_) _
  · cases hk:N k with
    | none=>rfl
    | some m=>
      show fL N L q (k,v)=if true=true then occ (lOf N L k) q else _
      rw[if_pos rfl];unfold fL lOf;simp only;split <;> rfl
  · unfold lOf;split;rfl;exact hk
structure Cnt (N:NdT) (L:List Pt) (rest:MM) (c1 c2:Int→Int):Prop where
  r:∀q,c1 q+zjX (fR N L q) rest=cA (L.map (·.root)) q+tot (rOf N L) q
  l:∀q,c2 q+zjX (fL N L q) rest=tot (lOf N L) q
structure Cni (N:NdT) (L:List Pt) (rest:MM) (id:Int) (m:Nd) (i:Nat) (c1 c2:Int→Int):Prop where
  r:∀q,c1 q+(if isR L id then kR m i q else 0)+zjX (fR N L q) rest=cA (L.map (·.root)) q+tot (rOf N L) q
  l:∀q,c2 q+(if isR L id then 0 else kR m i q)+zjX (fL N L q) rest=tot (lOf N L) q
theorem zp7 {N:NdT}{L:List Pt}:Cnt N L (tb yQ 24 N) (cA (L.map (·.root))) fun _=>0:=⟨fun q=>by rw[sum_R],fun q=>by rw[sum_L,Int.zero_add]⟩
theorem zyb {N:NdT}{L:List Pt}{rest rest':MM}{id:Int}{v:Value}{m:Nd}{c1 c2:Int→Int}(h:Cnt N L rest c1 c2)(hp:rest.Perm ((id,v)::rest'))(hm:N id=some m):Cni N L rest' id m 0 c1 c2:=by
  refine ⟨fun q=>?_,fun q=>?_⟩
  · have:=h.r q;rw[zlc hp] at this;simp only[zjX,fR,hm] at this;rw[kR_0];omega
  · have:=h.l q;rw[zlc hp] at this;simp only[zjX,fL,hm] at this;rw[kR_0];omega
theorem Cni_R {N:NdT}{L:List Pt}{rest:MM}{id:Int}{m:Nd}{i:Nat}{c1 c2:Int→Int}(h:Cni N L rest id m i c1 c2)(hi:i<4)(hr:isR L id):Cni N L rest id m (i+1) (del c1 (kat m i) 1) c2:=by
  refine ⟨fun q=>?_,fun q=>?_⟩
  · have:=h.r q;rw[if_pos hr,kR_s m q i hi] at this;rw[if_pos hr];unfold del;split <;> simp_all <;> omega
  · have:=h.l q;rw[if_pos hr] at this ⊢;exact this
theorem Cni_L {N:NdT}{L:List Pt}{rest:MM}{id:Int}{m:Nd}{i:Nat}{c1 c2:Int→Int}(h:Cni N L rest id m i c1 c2)(hi:i<4)(hr:¬isR L id):Cni N L rest id m (i+1) c1 (del c2 (kat m i) 1):=by
  refine ⟨fun q=>?_,fun q=>?_⟩
  · have:=h.r q;rw[if_neg hr] at this ⊢;exact this
  · have:=h.l q;rw[if_neg hr,kR_s m q i hi] at this;rw[if_neg hr];unfold del;split <;> simp_all <;> omega
theorem zvB {N:NdT}{L:List Pt}{rest:MM}{id:Int}{m:Nd}{c1 c2:Int→Int}(h:Cni N L rest id m 4 c1 c2):Cnt N L rest c1 c2:=by
  refine ⟨fun q=>?_,fun q=>?_⟩
  · have:=h.r q;rw[kR_4] at this;split at this <;> omega
  · have:=h.l q;rw[kR_4] at this;split at this <;> omega
theorem zuc {N:NdT}{L:List Pt}{rest:MM}{id:Int}{m:Nd}{i:Nat}{c1 c2:Int→Int}(h:Cni N L rest id m i c1 c2)(hl:L.length≤6)(q:Int):c1 q≤102∧c2 q≤96:=by
  have h1:=h.r q;have h2:=h.l q;have h3:=zmg (fun p=>fR_nn N L q p) rest;have h4:=zmg (fun p=>fL_nn N L q p) rest;have h5:=kR_nn m i q;have h6:=zxM (L.map (·.root)) q;have h7:=zmR (rOf N L) q;have h8:=zmR (lOf N L) q;rw[List.length_map] at h6;constructor
  · split at h1 <;> omega
  · split at h2 <;> omega
theorem zuO {N:NdT}{L:List Pt}{c1 c2:Int→Int}(h:Cnt N L [] c1 c2):(∀q,c1 q=cA (L.map (·.root)) q+tot (rOf N L) q)∧∀q,c2 q=tot (lOf N L) q:=by
  refine ⟨fun q=>?_,fun q=>?_⟩
  · have:=h.r q;simp only[zjX] at this;omega
  · have:=h.l q;simp only[zjX] at this;omega
theorem zoF {N:NdT}{L:List Pt}{c1 c2:Int→Int}(h:Cnt N L [] c1 c2){q:Int}(h0:q≠0):(fun q=>if q=0 then 0 else c1 q) q=cN N L q∧(fun q=>if q=0 then 0 else c2 q) q=tot (lOf N L) q:=by
  obtain ⟨h1,h2⟩:=zuO h;simp only;rw[if_neg h0,if_neg h0,h1,h2,zw3 h0];exact ⟨rfl,rfl⟩
theorem ze7 {B:BkT}{N:NdT}{L:List Pt}{c1 c2:Int→Int}{F:IM}(h:Cnt N L [] c1 c2)(hz:∀q m,N q=some m→¬zap m)(hn:∀q m,N q=some m→(fun q=>if q=0 then 0 else c1 q) q=m.refs)(hb:∀q x,B q=some x→(fun q=>if q=0 then 0 else c2 q) q=x.2)(hB:sup 40 B)(hN:sup 24 N)(hpos:∀q x,B q=some x→0<x.2)(hF:cm F fun q=>if q=0 then 0 else c2 q)(hd:(F.map (·.1)).Nodup):(decide ((F.length:Int)=((ids 40 B).length:Int))=true) ↔ CountP B N L:=by
  have hsub:∀q∈ids 40 B,q∈F.map (·.1):=fun q hq=>by
    have hq':=mem_ids.1 hq;obtain ⟨x,hx⟩:=Option.isSome_iff_exists.1 hq'.2;rw[←zj0,hF.2.1];have:=hb q x hx;have:=hpos q x hx;omega
  have hlen:=ziB (ids_nodup 40 B) hd hsub;rw[List.length_map] at hlen;rw[decide_eq_true_eq];constructor
  · intro e;have h2:=hlen.1 (by omega);refine ⟨hz,fun q m hm=>?_,fun q x hx=>?_,fun q h0 hq=>?_⟩
    · rw[←(zoF h (by have:=hN q m hm;omega)).1];exact hn q m hm
    · rw[←(zoF h (by have:=hB q x hx;omega)).2];exact hb q x hx
    · have h3:q∈F.map (·.1):=by
        rw[←zj0,hF.2.1,(zoF h h0).2];exact hq
      exact (mem_ids.1 (h2 q h3)).2
  · intro hc;have:=hlen.2 fun q hq=>by
      rw[←zj0,hF.2.1] at hq;by_cases h0:q=0
      · subst h0;exact absurd rfl hq
      · rw[(zoF h h0).2] at hq;have h3:=hc.all q h0 hq;obtain ⟨x,hx⟩:=Option.isSome_iff_exists.1 h3;exact mem_ids.2 ⟨hB q x hx,h3⟩
    omega
theorem zdK {B:BkT}{N:NdT}{L:List Pt}{c1 c2:Int→Int}(h:Cnt N L [] c1 c2)(hN:sup 24 N){q:Int}{m:Nd}(hm:N q=some m)(hne:(fun q=>if q=0 then 0 else c1 q) q≠m.refs):¬CountP B N L:=fun hc=>hne (by
  rw[(zoF h (by have:=hN q m hm;omega)).1];exact hc.n q m hm)
theorem zdX {B:BkT}{N:NdT}{L:List Pt}{c1 c2:Int→Int}(h:Cnt N L [] c1 c2)(hB:sup 40 B){q:Int}{x:Bk}(hx:B q=some x)(hne:(fun q=>if q=0 then 0 else c2 q) q≠x.2):¬CountP B N L:=fun hc=>hne (by
  rw[(zoF h (by have:=hB q x hx;omega)).2];exact hc.b q x hx)
open _root_.Go.Proofs.Tryz
theorem zw2 (l:List Pt)(id:Int){i:Nat}(hno:∀j,j<i→∀t,l[j]? =some t→t.id≠id){s:Pt}(hs:l[i]? =some s)(he:s.id=id):(l.take (i+1)).filter (fun x=>!decide (x.id=id))=l.take i:=by
  have hi:=(List.getElem?_eq_some_iff.1 hs).1;rw[List.take_add_one,hs,List.filter_append];have h1:(l.take i).filter (fun x=>!decide (x.id=id))=l.take i:=List.filter_eq_self.2 fun a ha=>by
    obtain ⟨j,hj,rfl⟩:=List.mem_iff_getElem.1 ha;have:=hno j (by simp at hj;omega) (l.take i)[j] (by simp at hj ⊢);simpa using this
  rw[h1];simp[he]
structure Dl (l R:List Pt) (id:Int) (w j:Nat):Prop where
  len:R.length=l.length
  lj:j≤l.length
  lw:w≤j
  pre:R.take w=(l.take j).filter fun x=>!decide (x.id=id)
  suf:R.drop j=l.drop j
theorem zxd {l R:List Pt}{id:Int}{w j:Nat}(h:Dl l R id w j){x:Pt}(hx:R[j]? =some x):l[j]? =some x:=by
  have h1:(R.drop j)[0]? =some x:=(by simpa using hx);rw[h.suf] at h1;simpa using h1
theorem zv9 {l R:List Pt}{id:Int}{w j:Nat}(h:Dl l R id w j){x:Pt}(hx:R[j]? =some x)(hid:x.id=id):Dl l R id w (j+1):=by
  have hl:=zxd h hx;have hj:=(List.getElem?_eq_some_iff.1 hl).1;refine ⟨h.len,hj,by have:=h.lw;omega,?_,?_⟩
  · rw[List.take_add_one,hl,List.filter_append,h.pre];simp[hid]
  · rw[←List.drop_drop,←List.drop_drop,h.suf]
theorem zwj {l R:List Pt}{id:Int}{w j:Nat}(h:Dl l R id w j)(hwj:w<j){x:Pt}(hx:R[j]? =some x)(hid:x.id≠id):Dl l (R.set w x) id (w+1) (j+1):=by
  have hl:=zxd h hx;have hj:=(List.getElem?_eq_some_iff.1 hl).1;have hlen:=h.len;refine ⟨by simp[hlen],hj,by omega,?_,?_⟩
  · rw[List.take_add_one (l:=l),hl,List.filter_append,←h.pre,List.take_add_one,List.take_set_of_le (Nat.le_refl _),List.getElem?_set_self (by omega)];simp[hid]
  · rw[List.drop_set_of_lt (by omega),←List.drop_drop,←List.drop_drop,h.suf]
theorem ztU {l R:List Pt}{id:Int}{w:Nat}(h:Dl l R id w l.length):R.take w=l.filter fun x=>!decide (x.id=id):=by rw[h.pre,List.take_length]
theorem zlQ {l:List Pt}{id:Int}(hno:∀j,j<l.length→∀t,l[j]? =some t→t.id≠id):l.filter (fun x=>!decide (x.id=id))=l:=List.filter_eq_self.2 fun a ha=>by
  obtain ⟨j,hj,rfl⟩:=List.mem_iff_getElem.1 ha;have:=hno j hj l[j] (List.getElem?_eq_getElem hj);simpa using this
theorem zpO {l:List Pt}{id:Int}(h:ptI l id<0):∀j,j<l.length→∀t,l[j]? =some t→t.id≠id:=fun j hj t ht he=>by
  unfold ptI at h;split at h
  · omega
  · rename_i hl;exact hl (List.findIdx_lt_length_of_exists ⟨t,List.mem_of_getElem? ht,by simpa using he⟩)
theorem ztc {l:List Pt}{id:Int}(h:ptI l id<0):ptI l id= -1:=ziR (zpO h)
theorem zsS {l:List Pt}{id:Int}{i:Nat}(hno:∀j,j<i→∀t,l[j]? =some t→t.id≠id){s:Pt}(hs:l[i]? =some s)(he:s.id=id):Dl l l id i (i+1):=
  ⟨rfl,(List.getElem?_eq_some_iff.1 hs).1,by omega,(zw2 l id hno hs he).symm,rfl⟩
theorem zvM (l:List Pt)(w:Nat)(x:Pt):(ptR l).set w (yn x)=ptR (l.set w x):=by simp[ptR,List.map_set]
theorem ztI (l:List Pt)(w:Nat):(ptR l).take w=ptR (l.take w):=by simp[ptR,List.map_take]
theorem bldV (x:Nat)(w:World):(Instr.build 68 #[(0,ptr x 0),(2,I 1)]).run Tryz.prog w= .ok (.agg #[ptr x 0,sl none 0 0,I 1]) w:=by
  simp[Instr.build,zeroValue68,runUnderlying68,sizeOf3,sizeOf65,sizeOf66,Instr.fill,qV,show (I 1).cells=#[I 1] from rfl,show (ptr x 0).cells=#[ptr x 0] from rfl,sl]
theorem bldV3 (x:Nat)(s:Option Addr)(n c:Nat)(k:Int)(w:World):(Instr.build 68 #[(0,ptr x 0),(1,sl s n c),(2,I k)]).run Tryz.prog w= .ok (.agg #[ptr x 0,sl s n c,I k]) w:=by
  simp[Instr.build,zeroValue68,runUnderlying68,sizeOf3,sizeOf65,sizeOf66,Instr.fill,qV,show (I k).cells=#[I k] from rfl,show (ptr x 0).cells=#[ptr x 0] from rfl,show (sl s n c).cells=#[sl s n c] from rfl]
theorem zxP (a b c d:Int)(w:World):(Instr.build 70 #[(0,I a),(1,I b),(2,I c),(3,I d)]).run Tryz.prog w= .ok (.agg (yn ⟨a,b,c,d⟩).toArray) w:=by
  simp[Instr.build,zeroValue70,runUnderlying70,sizeOf3,Instr.fill,qV,show ∀k:Int,(I k).cells=#[I k] from fun _=>rfl]
theorem zxN (w:World):(Instr.build 70 #[]).run Tryz.prog w= .ok (.agg (yn pt0).toArray) w:=by
  simp[Instr.build,zeroValue70,runUnderlying70,Instr.fill,qV,pt0]
theorem zeS {α:Type}{l:List α}{k:Nat}{x:α}(h:l[k]? =some x):l.drop k=x::l.drop (k+1):=by
  obtain ⟨hk,e⟩:=List.getElem?_eq_some_iff.1 h;rw[←e];exact List.drop_eq_getElem_cons hk
theorem ziy {a m:Nat}(h:a<m):List.range' a (m - a)=a::List.range' (a+1) (m - (a+1)):=by
  rw[show m - a=(m - (a+1))+1 by omega,List.range'_succ]
theorem zqJ {a m:Nat}(h:m≤a):List.range' a (m - a)=[]:=by rw[show m - a=0 by omega];rfl
theorem zid (x:Pt)(q:Nat)(id:Int)(F:List HProp):Ct Tryz.prog 72 [.agg (yn x).toArray,ptr q 0] ([pt q (.cells #[I id] 3 (0,0))]++F) (R1 (Bo (decide (x.id=id))) (pt q (.cells #[I id] 3 (0,0))::F)):=by
  show Ct Tryz.prog 72 [.agg (yn x).toArray,ptr q 0] (pt q (.cells #[I id] 3 (0,0))::F) _;refine Ct.of func72 rR 8 ntmps72 (by simp) fun w0=>?_;refine gS ?_;refine g_l (wR (yn x).toArray rR rR) rR ?_;rintro _ _ ⟨b2,rfl,rfl⟩;refine gA rR (qb (gS (g_v (qa 0 underlying70 rR rR sizeOf3 (by decide) rR) rR (g_v (qe (v:=I x.id) isAgg3 rR rR) rR (g_v (qe (v:=I id) isAgg3 rR rR) rR (g_v (wh rR rR) rR (gA rR (qb ?_))))))));refine qn rR rR ?_;exact rfl
theorem zef (x:Pt)(q:Nat)(id:Int)(F:List HProp):Ct Tryz.prog 93 [.agg (yn x).toArray,ptr q 0] ([pt q (.cells #[I id] 3 (0,0))]++F) (R1 (Bo (decide (x.id=id))) (pt q (.cells #[I id] 3 (0,0))::F)):=by
  show Ct Tryz.prog 93 [.agg (yn x).toArray,ptr q 0] (pt q (.cells #[I id] 3 (0,0))::F) _;refine Ct.of func93 rR 8 ntmps93 (by simp) fun w0=>?_;refine gS ?_;refine g_l (wR (yn x).toArray rR rR) rR ?_;rintro _ _ ⟨b2,rfl,rfl⟩;refine gA rR (qb (gS (g_v (qa 0 underlying70 rR rR sizeOf3 (by decide) rR) rR (g_v (qe (v:=I x.id) isAgg3 rR rR) rR (g_v (qe (v:=I id) isAgg3 rR rR) rR (g_v (wh rR rR) rR (gA rR (qb ?_))))))));refine qn rR rR ?_;exact rfl
theorem zeg (l:List Pt)(s:Option Addr)(c q:Nat)(id:Int)(hl:l.length≤1000000)(F:List HProp):Ct Tryz.prog 71 [sl s l.length c, .func (.func 72) #[] #[ptr q 0]] ([owL 70 4 s c (ptR (l)),pt q (.cells #[I id] 3 (0,0))]++F) (R1 (I (ptI l id)) (owL 70 4 s c (ptR (l))::pt q (.cells #[I id] 3 (0,0))::F)):=by
  show Ct Tryz.prog 71 [sl s l.length c, .func (.func 72) #[] #[ptr q 0]] (owL 70 4 s c (ptR (l))::pt q (.cells #[I id] 3 (0,0))::F) _;refine Ct.of func71 rR 19 ntmps71 (by simp) fun w0=>?_;refine gS (gA rR (qb (qf (gS (gM rR (g_v (yo underlying66 rR) rR (gM rR (qb (qj ?_)))))))));refine qE (α:=Nat) (fun k=>k≤l.length∧∀j,j<k→∀t,l[j]? =some t→t.id≠id) (fun k=>U [(0,sl s l.length c),(1, .func (.func 72) #[] #[ptr q 0]),(7,I l.length),(8,I k)]) (fun _=>owL 70 4 s c (ptR (l))::pt q (.cells #[I id] 3 (0,0))::F) (fun k=>l.length - k) 0 ⟨by simp,fun j hj=>absurd hj (by omega)⟩ [0,1,7,8] rfl rR ?_;rintro k ⟨hk,hno⟩;refine gS (g_v (qJ rR rR) rR (qb (qf ?_)));refine qg rR (fun h9=>?_) (fun h9=>?_)
  · simp at h9;have hkn:k<l.length:=(by omega);obtain ⟨x,hx⟩:∃x,l[k]? =some x:=⟨_,List.getElem?_eq_getElem hkn⟩;refine qh (qf (qj (gS (gM rR (gA rR (qb (gS (gM rR (gM rR (gM rR (g_v (qA (k) underlying66 sizeOf70 rR rR rR hkn (by rw[wq];exact hkn)) rR (g_v (ym (row:=yn x) isAgg70 sizeOf70 rR (zcU hx) rR) rR ?_))))))))))));refine g_l (zat (fi:=[]) (cap:=[ptr q 0]) (Pre:=[pt q (.cells #[I id] 3 (0,0))]) call72 rR rR (zid x q id)) rR ?_;rintro _ _ ⟨rfl,rfl⟩;refine qb ?_;refine qg rR (fun h16=>?_) (fun h16=>?_)
    · simp at h16;refine gS (gM rR (gA rR (qb ?_)));refine qn rR rR ?_;show I _=I _;rw[zo2 hno hx h16]
    · simp at h16;refine qh (qF (qo (g_v (qu rR rR (w64 (by omega))) rR (gM rR (qb ?_)))));exact qm (k+1) ⟨by omega,fun j hj t ht=>by
          rcases Nat.lt_or_ge j k with h | h
          · exact hno j h t ht
          · obtain rfl:j=k:=(by omega);rw[hx] at ht;injection ht with ht;rw[←ht];exact h16⟩ (by omega) [0,1,7,8] rfl rfl
  · simp at h9;obtain rfl:k=l.length:=(by omega);refine qz rR ?_;refine gS (gA rR (qb ?_));refine qn rR rR ?_;show I _=I _;rw[ziR hno]
theorem zel (l:List Pt)(s:Option Addr)(c q:Nat)(id:Int)(hl:l.length≤1000000)(F:List HProp):Ct Tryz.prog 71 [sl s l.length c, .func (.func 93) #[] #[ptr q 0]] ([owL 70 4 s c (ptR (l)),pt q (.cells #[I id] 3 (0,0))]++F) (R1 (I (ptI l id)) (owL 70 4 s c (ptR (l))::pt q (.cells #[I id] 3 (0,0))::F)):=by
  show Ct Tryz.prog 71 [sl s l.length c, .func (.func 93) #[] #[ptr q 0]] (owL 70 4 s c (ptR (l))::pt q (.cells #[I id] 3 (0,0))::F) _;refine Ct.of func71 rR 19 ntmps71 (by simp) fun w0=>?_;refine gS (gA rR (qb (qf (gS (gM rR (g_v (yo underlying66 rR) rR (gM rR (qb (qj ?_)))))))));refine qE (α:=Nat) (fun k=>k≤l.length∧∀j,j<k→∀t,l[j]? =some t→t.id≠id) (fun k=>U [(0,sl s l.length c),(1, .func (.func 93) #[] #[ptr q 0]),(7,I l.length),(8,I k)]) (fun _=>owL 70 4 s c (ptR (l))::pt q (.cells #[I id] 3 (0,0))::F) (fun k=>l.length - k) 0 ⟨by simp,fun j hj=>absurd hj (by omega)⟩ [0,1,7,8] rfl rR ?_;rintro k ⟨hk,hno⟩;refine gS (g_v (qJ rR rR) rR (qb (qf ?_)));refine qg rR (fun h9=>?_) (fun h9=>?_)
  · simp at h9;have hkn:k<l.length:=(by omega);obtain ⟨x,hx⟩:∃x,l[k]? =some x:=⟨_,List.getElem?_eq_getElem hkn⟩;refine qh (qf (qj (gS (gM rR (gA rR (qb (gS (gM rR (gM rR (gM rR (g_v (qA (k) underlying66 sizeOf70 rR rR rR hkn (by rw[wq];exact hkn)) rR (g_v (ym (row:=yn x) isAgg70 sizeOf70 rR (zcU hx) rR) rR ?_))))))))))));refine g_l (zat (fi:=[]) (cap:=[ptr q 0]) (Pre:=[pt q (.cells #[I id] 3 (0,0))]) call93 rR rR (zef x q id)) rR ?_;rintro _ _ ⟨rfl,rfl⟩;refine qb ?_;refine qg rR (fun h16=>?_) (fun h16=>?_)
    · simp at h16;refine gS (gM rR (gA rR (qb ?_)));refine qn rR rR ?_;show I _=I _;rw[zo2 hno hx h16]
    · simp at h16;refine qh (qF (qo (g_v (qu rR rR (w64 (by omega))) rR (gM rR (qb ?_)))));exact qm (k+1) ⟨by omega,fun j hj t ht=>by
          rcases Nat.lt_or_ge j k with h | h
          · exact hno j h t ht
          · obtain rfl:j=k:=(by omega);rw[hx] at ht;injection ht with ht;rw[←ht];exact h16⟩ (by omega) [0,1,7,8] rfl rfl
  · simp at h9;obtain rfl:k=l.length:=(by omega);refine qz rR ?_;refine gS (gA rR (qb ?_));refine qn rR rR ?_;show I _=I _;rw[ziR hno]
theorem zhS (l:List Pt)(s:Option Addr)(c:Nat)(hl:l.length≤1000000)(F:List HProp):Ct Tryz.prog 70 [sl s l.length c] ([owL 70 4 s c (ptR (l))]++F) (RSl 70 4 l.length (ptR l) (owL 70 4 s c (ptR (l))::F)):=by
  show Ct Tryz.prog 70 [sl s l.length c] (owL 70 4 s c (ptR (l))::F) _;refine Ct.of func70 rR 8 ntmps70 (by simp) fun w0=>?_;refine zqa (φ:=s=none→l=[]) (fun w hS hn=>by
    rcases yP hS with ⟨_,h,_,_⟩ | ⟨b,cs,h,_⟩
    · exact List.map_eq_nil_iff.1 h
    · rw[hn] at h;cases h) (fun hnil=>?_)
  refine gS (gA rR (qb (qf (gS (gM rR (g_v (zpP underlying66 rR) rR (qb ?_)))))));refine qg rR (fun h4=>?_) (fun h4=>?_)
  · have hl0:=hnil (by simpa using h4);subst hl0;refine yG 70 4 (ptR []) rR ?_;refine gS (gA rR (qb ?_));exact wx rfl rfl rfl rfl
  · refine qh (gS ?_);refine g_l (zju underlying66 sizeOf70) rR ?_;rintro _ _ ⟨b5,rfl,rfl⟩;refine gM rR ?_;refine g_l (yC underlying66 sizeOf70 zeroValue70 rR Tryz.typeInfo70 (by decide) rR rR rR (wq l) (by simp[ptR]) (by simp[ptR,Go.Sl.ones,Go.Sl.one]) ⟨by omega,by decide,by decide⟩) rR ?_;rintro _ _ ⟨s7,c7,rfl,rfl⟩;rw[Nat.zero_add];simp only[List.nil_append];refine gA rR (qb ?_);exact wx rfl rfl rfl rfl
theorem zks (F:List HProp):Ct Tryz.prog 87 [] ([]++F) (fun v L'=>∃b,v=ptr b 0∧L'=vlt b (mkG gZ) [] 1::F):=by
  show Ct Tryz.prog 87 [] (F) _;refine Ct.of func87 rR 4 ntmps87 (by simp) fun w0=>?_;refine gS (gA rR (qb (gS ?_)));refine g_l (qi (Pre:=[]) call108 rR (zfV)) rR ?_;rintro _ _ ⟨x,rfl,rfl⟩;rw[←gZ_mk];refine g_v (qP rR (bldV x)) rR ?_;refine g_l (wR #[ptr x 0,sl none 0 0,I 1] rfl rR) rR ?_;rintro _ _ ⟨b3,rfl,rfl⟩;refine gA rR (qb ?_);refine yG 70 4 (ptR []) rR ?_;refine yk b3 x none 0 (mkG gZ) [] 1 ?_;exact fun a w hE hS=>wp_ret (yb (qw (vs:=[ptr b3 0]) rfl hE hS ⟨b3,rfl,rfl⟩))
theorem yz (b:Nat)(S:SI)(L:List Pt)(n:Int)(id:Int)(hl:L.length≤1000000)(F:List HProp):Ct Tryz.prog 39 [ptr b 0,I id] ([vlt b S L n]++F) (R1 (.tuple #[.agg (yn ((yh L id).getD pt0)).toArray,Bo (yh L id).isSome]) (vlt b S L n::F)):=by
  show Ct Tryz.prog 39 [ptr b 0,I id] (vlt b S L n::F) _;refine Ct.of func39 rR 23 ntmps39 (by simp) fun w0=>?_;refine zaz b S L n ?_;intro x s c;refine gS ?_;refine g_l (wR #[I id] rfl rR) rR ?_;rintro _ _ ⟨b3,rfl,rfl⟩;refine g_l (qy #[I 0,I 0,I 0,I 0] zeroValue70) rR ?_;rintro _ _ ⟨b4,rfl,rfl⟩;refine gA rR (qb (gS (gM rR (g_v (qc rR) rR (g_v (qa 1 underlying68 rR rR sizeOf66 (by decide) rR) rR (g_v (qe (v:=sl s (L).length c) isAgg66 rR rR) rR (g_v (wQ rR rR) rR ?_)))))));refine g_l (qi (Pre:=[owL 70 4 s c (ptR (L)),pt b3 (.cells #[I id] 3 (0,0))]) call71 rR (zeg L s c b3 id hl)) rR ?_;rintro _ _ ⟨rfl,rfl⟩;refine gA rR (qb (qf (gS (gM rR (g_v (qJ rR rR) rR (qb ?_))))));refine qg rR (fun h14=>?_) (fun h14=>?_)
  · simp at h14;have hf:yh L id=none:=zoH h14;rw[hf];refine gS (g_v (qP rR zxN) rR ?_);refine yp (qq (cs:=#[I 0,I 0,I 0,I 0]) (vs:=yn (pt0)) (yn (pt0)).toArray sizeOf70 rR rR rR rR (by simp) (qv rR)) ?_;rintro _ _ rfl;refine gA rR (qb ?_);refine yk b x s c (S) (L) (n) ?_;exact zfy (yn pt0) rfl rfl rfl rfl isAgg70 sizeOf70 rfl qR
  · simp at h14;obtain ⟨i,p,hi,hp,hid,hil,hf,_⟩:=zrl (l:=L) (id:=id) (by omega);rw[hi,hf];refine qh (gS (gM rR (g_v (qc rR) rR (g_v (qa 1 underlying68 rR rR sizeOf66 (by decide) rR) rR (g_v (qe (v:=sl s (L).length c) isAgg66 rR rR) rR (gM rR (g_v (qA (i) underlying66 sizeOf70 rR rR rR hil (by rw[wq];exact hil)) rR (g_v (ym (row:=yn p) isAgg70 sizeOf70 rR (zcU hp) rR) rR ?_))))))));refine yp (qq (cs:=#[I 0,I 0,I 0,I 0]) (vs:=yn (p)) (yn (p)).toArray sizeOf70 rR rR rR rR (by simp) (qv rR)) ?_;rintro _ _ rfl;refine gA rR (qb ?_);refine yk b x s c (S) (L) (n) ?_;exact zfy (yn p) rfl rfl rfl rfl isAgg70 sizeOf70 rfl qR
theorem zbX (b:Nat)(S:SI)(L:List Pt)(n:Int)(disk size root:Int)(hl:L.length≤6)(hn: -9223372036854775808≤n∧n≤1000000)(F:List HProp):Ct Tryz.prog 80 [ptr b 0,I disk,I size,I root] ([vlt b S L n]++F) (R1 (.tuple #[I (zmk L n),zbV 108 (zct L n)]) (vlt b S (zjR L n disk size root) (zs3 L n)::F)):=by
  show Ct Tryz.prog 80 [ptr b 0,I disk,I size,I root] (vlt b S L n::F) _;refine Ct.of func80 rR 51 ntmps80 (by simp) fun w0=>?_;refine zaz b S L n ?_;intro x s c;refine gS (gA rR (gA rR (qb (qf (gS (gM rR (g_v (qc rR) rR (g_v (qa 1 underlying68 rR rR sizeOf66 (by decide) rR) rR (g_v (qe (v:=sl s (L).length c) isAgg66 rR rR) rR (g_v (yo underlying66 rR) rR (g_v (wh rR rR) rR (gM rR (qK rR rR (fun hg=>qp rR) rR rR (qK rR rR (fun hg=>qc rR) rR rR (qK rR rR (fun hg=>qa 2 underlying68 rR rR sizeOf3 (by decide) rR) rR rR (qK rR rR (fun hg=>qe (v:=I n) isAgg3 rR rR) rR rR (qK rR rR (fun hg=>yA rR rR) rR rR (g_v (zaH rR rR) rR (qb ?_)))))))))))))))))));refine qg rR (fun h23=>?_) (fun h23=>?_)
  · simp at h23;have ha:zct L n=8:=(by unfold zct;rw[if_pos (by omega)]);refine gS (g_v (qB underlying108 rR rR) rR (gA rR (gA rR (qb ?_))));rw[ha,show zmk L n=0 by unfold zmk;rw[if_neg (by omega)],show zjR L n disk size root=L by unfold zjR;rw[if_neg (by omega)],show zs3 L n=n by unfold zs3;rw[if_neg (by omega)]];refine yk b x s c (S) (L) (n) ?_;exact qn rfl rfl rfl
  · simp at h23;have ha:zct L n=0:=(by unfold zct;rw[if_neg (by omega)]);refine qh (gS (gM rR (g_v (qc rR) rR (g_v (qa 2 underlying68 rR rR sizeOf3 (by decide) rR) rR (g_v (qe (v:=I n) isAgg3 rR rR) rR (gA rR (qb (gS (gM rR (g_v (qc rR) rR (g_v (qa 2 underlying68 rR rR sizeOf3 (by decide) rR) rR (g_v (qe (v:=I n) isAgg3 rR rR) rR (g_v (qu rR rR (w64 (by omega))) rR (g_v (qc rR) rR (g_v (qa 2 underlying68 rR rR sizeOf3 (by decide) rR) rR ?_)))))))))))))));refine yp (qH #[ptr x 0,sl s L.length c,I (n+1)] sizeOf3 rR rR rR (by simp) rR) ?_;rintro _ _ rfl;refine qb (gS (gM rR (gM rR (g_v (qc rR) rR (g_v (qa 1 underlying68 rR rR sizeOf66 (by decide) rR) rR (g_v (qe (v:=sl s (L).length c) isAgg66 rR rR) rR (gM rR (gM rR (gM rR (gM rR (g_v (qP rR (zxP n disk size root)) rR ?_)))))))))));refine g_l (qs [yn ⟨n,disk,size,root⟩] underlying66 sizeOf70 zeroValue70 rR rR rR (by simp) (by decide) (by decide)) rR ?_;rintro _ _ ⟨b46,rfl,rfl⟩;refine g_l (yC underlying66 sizeOf70 zeroValue70 rR Tryz.typeInfo70 (by decide) rR rR (wq _) rR (by simp) (by simp[Go.Sl.ones,Go.Sl.one]) ⟨by omega,by decide,by decide⟩) rR ?_;rintro _ _ ⟨s47,c47,rfl,rfl⟩;rw[show ptR L++ [yn ⟨n,disk,size,root⟩]=ptR (L++ [⟨n,disk,size,root⟩]) by simp[ptR]];refine g_v (qc rR) rR (g_v (qa 1 underlying68 rR rR sizeOf66 (by decide) rR) rR ?_);refine yp (qH #[ptr x 0,sl s47 (L.length+1) c47,I (n+1)] sizeOf66 rR rR rR (by simp) rR) ?_;rintro _ _ rfl;refine qb (gS (gM rR (gA rR (gA rR (qb ?_)))));rw[ha,show zmk L n=n by unfold zmk;rw[if_pos ha],show zjR L n disk size root=L++ [⟨n,disk,size,root⟩] by unfold zjR;rw[if_pos ha],show zs3 L n=n+1 by unfold zs3;rw[if_pos ha],show L.length+1=(L++ [(⟨n,disk,size,root⟩:Pt)]).length by simp];refine yk b x s47 c47 (S) (L++ [⟨n,disk,size,root⟩]) (n+1) ?_;exact qn rfl rfl rfl
theorem zeq (b:Nat)(S:SI)(L:List Pt)(n:Int)(base disk size:Int)(G0:Gh)(hV:Vok S L n G0)(hsz:1≤size∧size≤16)(F:List HProp):Ct Tryz.prog 77 [ptr b 0,I base,I disk,I size] ([vlt b S L n]++F) (vR vlt (zbV 108) b F (zlD S L n base disk size)):=by
  show Ct Tryz.prog 77 [ptr b 0,I base,I disk,I size] (vlt b S L n::F) _;have hok:=zfW hV;have hll:=hV.len;have hrl:(L.map (·.root)).length≤8:=(by simp;omega);refine Ct.of func77 rR 67 ntmps77 (by simp) fun w0=>?_;refine gS (gA rR (gA rR (qb (qf (gS (gM rR (g_v (wh rR rR) rR (qb ?_))))))));refine qg rR (fun h17=>?_) (fun h17=>?_)
  · simp at h17;refine gS (gA rR (gA rR (qb ?_)));exact zjI (S:=S) (P:=L) (n:=n) rfl (by unfold zlD zdr;rw[if_pos h17]) rfl rfl
  · simp at h17;refine qh (gS (gM rR (gM rR ?_)));refine g_l (qi (Pre:=[vlt b S L n]) call39 rR (yz b S L n base (by omega))) rR ?_;rintro _ _ ⟨rfl,rfl⟩;refine gM rR (g_v (qd (v:= .agg (yn ((yh L base).getD pt0)).toArray) rR rR) rR (g_v (qd (v:=Bo (yh L base).isSome) rR rR) rR ?_));refine g_l (qy #[I 0,I 0,I 0,I 0] zeroValue70) rR ?_;rintro _ _ ⟨b10,rfl,rfl⟩;refine yp (qq (cs:=#[I 0,I 0,I 0,I 0]) (vs:=yn (((yh L base).getD pt0))) (yn (((yh L base).getD pt0))).toArray sizeOf70 rR rR rR rR (by simp) (qv rR)) ?_;rintro _ _ rfl;refine gA rR (qb (qf (gS (gM rR (g_v (wo rR) rR (qb ?_))))));refine qg rR (fun h25=>?_) (fun h25=>?_)
    · simp at h25;refine gS (g_v (qB underlying108 rR rR) rR (gA rR (gA rR (qb ?_))));exact zcd rfl (by unfold zlD zdr;rw[if_neg h17,h25]) rfl rfl
    · simp at h25;obtain ⟨p,hf⟩:=Option.isSome_iff_exists.1 h25;have hpm:=yT hf;have hps:=hV.pts p hpm.1;rw[show (yh L base).getD pt0=p by rw[hf];rfl];refine qh (qf (gS (g_v (qa 1 underlying70 rR rR sizeOf3 (by decide) rR) rR (g_v (qe (v:=I p.disk) isAgg3 rR rR) rR (gM rR (g_v (zd2 rR rR) rR (qb ?_)))))));refine qg rR (fun h30=>?_) (fun h30=>?_)
      · simp at h30;refine gS (g_v (qB underlying108 rR rR) rR (gA rR (gA rR (qb ?_))));exact zcd rfl (by unfold zlD zdr;rw[if_neg h17,hf];simp only;rw[if_pos h30]) rfl rfl
      · simp at h30;refine qh (qf ?_);refine zaz b S L n ?_;intro x s c;refine yw (Lf:=[pt b (.cells #[ptr x 0,sl s (L).length c,I (n)] 68 (0,0)),pt b10 (.cells (yn (p)).toArray 70 (0,0))]) [(0,false),(1,false),(2,false),(3,false),(4,false),(5,false),(6,true),(7,false)] (by kernel_rfl) (by kernel_rfl) rR (by kernel_rfl) ?_;refine dM rR rR rR (d_v rR (qc rR) rR (d_v rR (qa 0 underlying68 rR rR sizeOf65 (by decide) rR) rR (d_v rR (qe (v:=ptr x 0) isAgg65 rR rR) rR (d_v rR (qa 3 underlying70 rR rR sizeOf3 (by decide) rR) rR (d_v rR (qe (v:=I p.root) isAgg3 rR rR) rR ?_)))));refine d_l rR (qi (Pre:=[ixl x S]) call91 rR (zbv x S p.root 200 hok (by decide) (zqd hV.rt.V (zmx hV.rt (zaw hf))).2)) rR ?_;rintro _ _ ⟨rfl,rfl⟩;obtain ⟨G1,hs1,hR1,_⟩:=zgo hV.rt (zaw hf);have hs1:zbf S p.root=mkG G1:=(by rw[hV.e];exact hs1);rw[hs1];refine d_v rR (qx rR) rR ?_;refine yc ?_;refine qf (gS (gM rR (gA rR (qb ?_))));obtain ⟨sz,rfl⟩:∃k:Nat,size=k:=⟨size.toNat,by omega⟩;refine qj ?_;refine qE (α:=Nat×Gh×Int) (fun z=>z.1≤16∧Rt z.2.1 (z.2.2::L.map (·.root))∧zlr (mkG z.2.1,z.2.2) (List.range' z.1 (p.size.toNat - z.1))=zlr (zbf S p.root,p.root) (List.range' sz (p.size.toNat - sz))) (fun z=>U [(0,ptr b 0),(10,ptr b10 0),(12,I z.2.2),(13,I z.1)]) (fun z=>pt b10 (.cells (yn (p)).toArray 70 (0,0))::pt b (.cells #[ptr x 0,sl s (L).length c,I (n)] 68 (0,0))::ixl x (mkG z.2.1)::owL 70 4 s c (ptR (L))::F) (fun z=>16 - z.1) (sz,G1,p.root) ⟨by simp only[];omega,hR1,by rw[hs1]⟩ [0,10,12,13] rfl rR ?_;rintro ⟨a,G,root⟩ ⟨ha,hR,hcut⟩;simp only[] at ha hR hcut ⊢;refine qf (gS (gM rR (g_v (qa 2 underlying70 rR rR sizeOf3 (by decide) rR) rR (g_v (qe (v:=I p.size) isAgg3 rR rR) rR (g_v (qJ rR rR) rR (qb ?_))))));refine qg rR (fun h43=>?_) (fun h43=>?_)
        · simp at h43;refine qh (qf (qj (gS (gM rR (g_v (qc rR) rR (g_v (qa 0 underlying68 rR rR sizeOf65 (by decide) rR) rR (g_v (qe (v:=ptr x 0) isAgg65 rR rR) rR (gM rR (gM rR ?_)))))))));refine g_l (qi (Pre:=[ixl x (mkG G)]) call78 rR (zbZ x (mkG G) root a [] 200 (RtOk hR (by simp;omega)) (by decide) (by omega) (by decide) (zpZ hR.V (zmx hR (by simp))))) rR ?_;rintro _ _ ⟨rfl,rfl⟩;refine gM rR (g_v (qd (v:=I (zc7 (mkG G) root a []).1) rR rR) rR (g_v (qd (v:=zbV 108 (zc7 (mkG G) root a []).2) rR rR) rR (gA rR (gA rR (qb (qf (gS (gM rR (g_v (yf underlying37 rR) rR (qb ?_))))))))));refine qg rR (fun h57=>?_) (fun h57=>?_)
          · simp at h57;refine gS (gM rR (gA rR (gA rR (qb ?_))));exact zcd rfl (by
              unfold zlD zdr;rw[if_neg h17,hf];simp only;rw[if_neg (by omega),Int.toNat_natCast,←hcut,ziy (by omega)];simp only[zlr,put1];rw[if_neg h57]) rfl rfl
          · simp at h57;obtain ⟨G1,G2,hu1,o1,r1,v1,hu2,hR2,_,_⟩:=zhL hR hrl (by omega) h57;rw[hu1];refine qh (gS (gM rR (g_v (qc rR) rR (g_v (qa 0 underlying68 rR rR sizeOf65 (by decide) rR) rR (g_v (qe (v:=ptr x 0) isAgg65 rR rR) rR (gM rR ?_))))));refine g_l (qi (Pre:=[ixl x (mkG G1)]) call79 rR (zaB x (mkG G1) root 200 o1 (by decide))) rR ?_;rintro _ _ ⟨rfl,rfl⟩;refine qb (qo (gM rR (gA rR (qb (qF (qo (gM rR (g_v (qu rR rR (w64 (by omega))) rR (gA rR (qb ?_))))))))));rw[hu2];exact qm (a+1,G2,(zc7 (mkG G) root a []).1) ⟨by simp only[];omega,hR2,by
              rw[←hcut,ziy (a:=a) (m:=p.size.toNat) (by omega)];simp only[zlr,put1];rw[if_pos h57,hu1,hu2]⟩ (by simp only[];omega) [0,10,12,13] rfl rfl
        · simp at h43;refine qz rR ?_;refine gS (gM rR (gA rR (gA rR (qb ?_))));refine yk b x s c (mkG G) (L) (n) ?_;exact zjI (S:=mkG G) (P:=L) (n:=n) rfl (by
            unfold zlD zdr;rw[if_neg h17,hf];simp only;rw[if_neg (by omega),Int.toNat_natCast,←hcut,zqJ (by omega)];simp only[zlr]) rfl rfl
theorem zhD {l:List Pt}{k:Nat}{x:Pt}(disk:Int)(hx:l[k]? =some x):((l.take (k+1)).filter fun p=>decide (p.disk=disk)).map (·.id)=((l.take k).filter fun p=>decide (p.disk=disk)).map (·.id)++if x.disk=disk then [x.id] else []:=by
  rw[List.take_add_one,hx,List.filter_append,List.map_append];congr 1;by_cases h:x.disk=disk <;> simp[h]
theorem znF (l:List Pt)(k:Nat)(disk:Int):(((l.take k).filter fun p=>decide (p.disk=disk)).map (·.id)).length≤l.length:=by
  rw[List.length_map];exact Nat.le_trans (List.length_filter_le _ _) (by simp;omega)
theorem zd1 (b:Nat)(S:SI)(L:List Pt)(n:Int)(id:Int)(G0:Gh)(hV:Vok S L n G0)(F:List HProp):Ct Tryz.prog 53 [ptr b 0,I id] ([vlt b S L n]++F) (vR vlt (zbV 108) b F (ziJ S L n id)):=by
  show Ct Tryz.prog 53 [ptr b 0,I id] (vlt b S L n::F) _;have hok:=zfW hV;have hll:=hV.len;have hn1:=hV.n1;refine Ct.of func53 rR 41 ntmps53 (by simp) fun w0=>?_;refine gS (gA rR (gA rR (qb (gS (gM rR (gM rR ?_))))));refine g_l (qi (Pre:=[vlt b S L n]) call39 rR (yz b S L n id (by omega))) rR ?_;rintro _ _ ⟨rfl,rfl⟩;refine gM rR (g_v (qd (v:= .agg (yn ((yh L id).getD pt0)).toArray) rR rR) rR (g_v (qd (v:=Bo (yh L id).isSome) rR rR) rR ?_));refine g_l (qy #[I 0,I 0,I 0,I 0] zeroValue70) rR ?_;rintro _ _ ⟨b6,rfl,rfl⟩;refine yp (qq (cs:=#[I 0,I 0,I 0,I 0]) (vs:=yn (((yh L id).getD pt0))) (yn (((yh L id).getD pt0))).toArray sizeOf70 rR rR rR rR (by simp) (qv rR)) ?_;rintro _ _ rfl;refine gA rR (qb (qf (gS (gM rR (g_v (wo rR) rR (qb ?_))))));refine qg rR (fun h17=>?_) (fun h17=>?_)
  · simp at h17;refine gS (g_v (qB underlying108 rR rR) rR (gA rR (gA rR (qb ?_))));exact zcd rfl (by unfold ziJ;rw[h17]) rfl rfl
  · simp at h17;obtain ⟨p,hf⟩:=Option.isSome_iff_exists.1 h17;have hpm:=yT hf;have hps:=hV.pts p hpm.1;rw[show (yh L id).getD pt0=p by rw[hf];rfl];refine qh (gS (gM rR (g_v (qa 1 underlying70 rR rR sizeOf3 (by decide) rR) rR (g_v (qe (v:=I p.disk) isAgg3 rR rR) rR (g_v (qa 2 underlying70 rR rR sizeOf3 (by decide) rR) rR (g_v (qe (v:=I p.size) isAgg3 rR rR) rR (g_v (qa 3 underlying70 rR rR sizeOf3 (by decide) rR) rR (g_v (qe (v:=I p.root) isAgg3 rR rR) rR ?_))))))));refine g_l (qi (Pre:=[vlt b S L n]) call80 rR (zbX b S L n p.disk p.size p.root (by omega) (by omega))) rR ?_;rintro _ _ ⟨rfl,rfl⟩;refine gM rR (g_v (qd (v:=I (zmk L n)) rR rR) rR (g_v (qd (v:=zbV 108 (zct L n)) rR rR) rR (gA rR (gA rR (qb (qf (gS (gM rR (g_v (zab underlying37 rR) rR (qb ?_))))))))));refine qg rR (fun h31=>?_) (fun h31=>?_)
    · simp at h31;rw[show zmk L n=n by unfold zmk;rw[if_pos h31],show zjR L n p.disk p.size p.root=L++ [(⟨n,p.disk,p.size,p.root⟩:Pt)] by unfold zjR;rw[if_pos h31],show zs3 L n=n+1 by unfold zs3;rw[if_pos h31],h31];refine zaz b S (L++ [(⟨n,p.disk,p.size,p.root⟩:Pt)]) (n+1) ?_;intro x s c;refine yw (Lf:=[pt b (.cells #[ptr x 0,sl s (L++ [(⟨n,p.disk,p.size,p.root⟩:Pt)]).length c,I (n+1)] 68 (0,0)),pt b6 (.cells (yn (p)).toArray 70 (0,0))]) [(0,false),(1,false),(2,false),(3,false),(4,false),(5,false),(6,true)] (by kernel_rfl) (by kernel_rfl) rR (by kernel_rfl) ?_;refine dM rR rR rR (d_v rR (qc rR) rR (d_v rR (qa 0 underlying68 rR rR sizeOf65 (by decide) rR) rR (d_v rR (qe (v:=ptr x 0) isAgg65 rR rR) rR (d_v rR (qa 3 underlying70 rR rR sizeOf3 (by decide) rR) rR (d_v rR (qe (v:=I p.root) isAgg3 rR rR) rR ?_)))));refine d_l rR (qi (Pre:=[ixl x S]) call91 rR (zbv x S p.root 200 hok (by decide) (zqd hV.rt.V (zmx hV.rt (zaw hf))).2)) rR ?_;rintro _ _ ⟨rfl,rfl⟩;refine yc ?_;refine gS (gM rR (gM rR (gA rR (gA rR (qb ?_)))));refine yk b x s c (zbf S p.root) (L++ [(⟨n,p.disk,p.size,p.root⟩:Pt)]) (n+1) ?_;exact zjI (S:=zbf S p.root) (P:=L++ [(⟨n,p.disk,p.size,p.root⟩:Pt)]) (n:=n+1) rfl (by unfold ziJ;rw[hf];simp only;rw[if_neg (by omega)]) rfl rfl
    · simp at h31;rw[show zmk L n=0 by unfold zmk;rw[if_neg h31]];refine qh (gS (gM rR (gM rR (gA rR (gA rR (qb ?_))))));exact zcd rfl (by unfold ziJ;rw[hf];simp only;rw[if_pos h31]) rfl rfl
theorem zf9 (L:List Pt)(s:Option Addr)(c q:Nat)(id:Int)(hl:L.length≤1000000)(F:List HProp):Ct Tryz.prog 92 [sl s L.length c, .func (.func 93) #[] #[ptr q 0]] ([owL 70 4 s c (ptR (L)),pt q (.cells #[I id] 3 (0,0))]++F) (R1 (sl s (L.filter fun x=>!decide (x.id=id)).length c) (owL 70 4 s c (ptR ((L.filter fun x=>!decide (x.id=id))))::pt q (.cells #[I id] 3 (0,0))::F)):=by
  show Ct Tryz.prog 92 [sl s L.length c, .func (.func 93) #[] #[ptr q 0]] (owL 70 4 s c (ptR (L))::pt q (.cells #[I id] 3 (0,0))::F) _;refine Ct.of func92 rR 42 ntmps92 (by simp) fun w0=>?_;refine zlM s (fun hcap=>?_);rw[wq] at hcap;refine gS (gA rR (qb (gS (gM rR (gM rR ?_)))));refine g_l (qi (Pre:=[owL 70 4 s c (ptR (L)),pt q (.cells #[I id] 3 (0,0))]) call71 rR (zel L s c q id hl)) rR ?_;rintro _ _ ⟨rfl,rfl⟩;refine gA rR (qb (qf (gS (gM rR (g_v (wh rR rR) rR (qb ?_))))));refine qg rR (fun h12=>?_) (fun h12=>?_)
  · simp at h12;rw[show (L.filter fun x=>!decide (x.id=id))=L from zlQ (zpO (by omega))];refine gS (gM rR (gA rR (qb ?_)));exact qn rfl rfl rfl
  · simp at h12;obtain ⟨i,p,hi,hp,hid,hil,hf,hno⟩:=zrl (l:=L) (id:=id) (fun h=>h12 (ztc h));rw[hi];refine qh (qf (gS (gM rR (g_v (qu rR rR (w64 (by omega))) rR (gA rR (qb ?_))))));rw[show ((i:Nat):Int)+1=((i+1:Nat):Int) by omega];refine qj ?_;refine qE (α:=Nat×Nat×List Pt) (fun z=>Dl L z.2.2 id z.2.1 z.1∧z.2.1<z.1) (fun z=>U [(0,sl s L.length c),(1, .func (.func 93) #[] #[ptr q 0]),(5,I z.2.1),(6,I z.1)]) (fun z=>owL 70 4 s c (ptR z.2.2)::pt q (.cells #[I id] 3 (0,0))::F) (fun z=>L.length - z.1) (i+1,i,L) ⟨zsS hno hp hid,by simp only[];omega⟩ [0,1,5,6] rfl rR ?_;rintro ⟨j,w,R⟩ ⟨hD,hwj⟩;simp only[] at hD hwj ⊢;have hjl0:=hD.lj;refine qf (gS (gM rR (gM rR (g_v (yo underlying66 rR) rR (g_v (qJ rR rR) rR (qb ?_))))));refine qg rR (fun h19=>?_) (fun h19=>?_)
    · simp at h19;have hjl:j<L.length:=(by omega);have hwl:w<L.length:=(by omega);obtain ⟨x,hx⟩:∃x,R[j]? =some x:=⟨_,List.getElem?_eq_getElem (by rw[hD.len];exact hjl)⟩;refine qh (qf (qj (gS (gM rR (gM rR (g_v (qA (j) underlying66 sizeOf70 rR rR rR hjl (by rw[wq,hD.len];exact hjl)) rR (g_v (ym (row:=yn x) isAgg70 sizeOf70 rR (zcU hx) rR) rR ?_)))))));refine g_l (qy #[I 0,I 0,I 0,I 0] zeroValue70) rR ?_;rintro _ _ ⟨b7,rfl,rfl⟩;refine yp (qq (cs:=#[I 0,I 0,I 0,I 0]) (vs:=yn (x)) (yn (x)).toArray sizeOf70 rR rR rR rR (by simp) (qv rR)) ?_;rintro _ _ rfl;refine qb (gS (gM rR (g_v (qI (vs:=yn x) isAgg70 sizeOf70 rR rR qR) rR ?_)));refine g_l (zat (fi:=[]) (cap:=[ptr q 0]) (Pre:=[pt q (.cells #[I id] 3 (0,0))]) call93 rR rR (zef x q id)) rR ?_;rintro _ _ ⟨rfl,rfl⟩;refine g_v (wo rR) rR (qb ?_);refine qg rR (fun h29=>?_) (fun h29=>?_)
      · simp at h29;refine gS (gM rR (gM rR (g_v (qI (vs:=yn x) isAgg70 sizeOf70 rR rR qR) rR (g_v (qA (w) underlying66 sizeOf70 rR rR rR hwl (by rw[wq,hD.len];exact hwl)) rR ?_))));refine yp (zgO (j:=w) (vs:=yn x) sizeOf70 rR rR rR rR (by rw[wq,hD.len];omega) (by decide)) ?_;rintro _ _ rfl;rw[zvM];refine qb (qo (gM rR (g_v (qu rR rR (w64 (by omega))) rR (gA rR (qb (qF (qo (gM rR (g_v (qu rR rR (w64 (by omega))) rR (gA rR (qb ?_)))))))))));exact qm (j+1,w+1,R.set w x) ⟨zwj hD hwj hx h29,by simp only[];omega⟩ (by simp only[];omega) [0,1,5,6] rfl rfl
      · simp at h29;refine qh (qF (qo (gM rR (g_v (qu rR rR (w64 (by omega))) rR (gA rR (qb ?_))))));exact qm (j+1,w,R) ⟨zv9 hD hx h29,by simp only[];omega⟩ (by simp only[];omega) [0,1,5,6] rfl rfl
    · simp at h19;obtain rfl:j=L.length:=(by omega);refine qz rR ?_;refine qf ?_;refine zhJ s w ?_;rw[ztI,ztU hD];have hfl:(L.filter fun x=>!decide (x.id=id)).length=w:=(by rw[←ztU hD,List.length_take];have:=hD.len;omega);refine qo (gM rR (gM rR (g_v (zb7 (l:=w) underlying66 sizeOf70 rR rR rR (by omega)) rR ?_)));refine yp (zev (sz:=4) (l:=w) s underlying66 zeroValue70 rR rR rR (by unfold At;split;exact .inr (.inr (by omega));exact .inr (.inl rR)) (by rw[wq];omega) (by omega)) ?_;rintro _ _ ⟨rfl,rfl⟩;refine qb (gS (gM rR (gM rR (g_v (zhU (h:=w) underlying66 sizeOf70 rR rR rR (by omega)) rR (gA rR (qb ?_))))));exact qn rfl rfl (by rw[hfl];rfl)
theorem zet (b:Nat)(S:SI)(L:List Pt)(n:Int)(id:Int)(G0:Gh)(hV:Vok S L n G0)(F:List HProp):Ct Tryz.prog 55 [ptr b 0,I id] ([vlt b S L n]++F) (vR1 vlt (zbV 108) b F (zh0 S L n id)):=by
  show Ct Tryz.prog 55 [ptr b 0,I id] (vlt b S L n::F) _;have hok:=zfW hV;have hll:=hV.len;have hn1:=hV.n1;refine Ct.of func55 rR 33 ntmps55 (by simp) fun w0=>?_;refine gS ?_;refine g_l (wR #[I id] rfl rR) rR ?_;rintro _ _ ⟨b3,rfl,rfl⟩;refine gA rR (qb (gS (gM rR (g_v (qe (v:=I id) isAgg3 rR rR) rR ?_))));refine g_l (qi (Pre:=[vlt b S L n]) call39 rR (yz b S L n id (by omega))) rR ?_;rintro _ _ ⟨rfl,rfl⟩;refine gM rR (g_v (qd (v:= .agg (yn ((yh L id).getD pt0)).toArray) rR rR) rR (g_v (qd (v:=Bo (yh L id).isSome) rR rR) rR ?_));refine g_l (qy #[I 0,I 0,I 0,I 0] zeroValue70) rR ?_;rintro _ _ ⟨b5,rfl,rfl⟩;refine yp (qq (cs:=#[I 0,I 0,I 0,I 0]) (vs:=yn (((yh L id).getD pt0))) (yn (((yh L id).getD pt0))).toArray sizeOf70 rR rR rR rR (by simp) (qv rR)) ?_;rintro _ _ rfl;refine gA rR (qb (qf (gS (gM rR (g_v (wo rR) rR (qb ?_))))));refine qg rR (fun h14=>?_) (fun h14=>?_)
  · simp at h14;refine gS (g_v (qB underlying108 rR rR) rR (gA rR (qb ?_)));exact zti rfl (by unfold zh0;rw[h14]) rfl rfl
  · simp at h14;obtain ⟨p,hf⟩:=Option.isSome_iff_exists.1 h14;have hpm:=yT hf;have hps:=hV.pts p hpm.1;rw[show (yh L id).getD pt0=p by rw[hf];rfl];refine qh (qf ?_);refine zaz b S L n ?_;intro x s c;refine yw (Lf:=[pt b (.cells #[ptr x 0,sl s (L).length c,I (n)] 68 (0,0)),pt b5 (.cells (yn (p)).toArray 70 (0,0))]) [(0,false),(1,false),(2,false),(3,false),(4,false),(5,false),(6,true)] (by kernel_rfl) (by kernel_rfl) rR (by kernel_rfl) ?_;refine dM rR rR rR (d_v rR (qc rR) rR (d_v rR (qa 0 underlying68 rR rR sizeOf65 (by decide) rR) rR (d_v rR (qe (v:=ptr x 0) isAgg65 rR rR) rR (d_v rR (qa 3 underlying70 rR rR sizeOf3 (by decide) rR) rR (d_v rR (qe (v:=I p.root) isAgg3 rR rR) rR ?_)))));refine d_l rR (qi (Pre:=[ixl x S]) call79 rR (zaB x S p.root 200 hok (by decide))) rR ?_;rintro _ _ ⟨rfl,rfl⟩;refine yc ?_;refine gS (gM rR (gM rR (g_v (qc rR) rR (g_v (qa 1 underlying68 rR rR sizeOf66 (by decide) rR) rR (g_v (qe (v:=sl s (L).length c) isAgg66 rR rR) rR ?_)))));refine g_l (qi (Pre:=[owL 70 4 s c (ptR (L))]) call70 rR (zhS L s c (by omega))) rR ?_;rintro _ _ ⟨s28,c28,rfl,rfl⟩;refine g_v (wQ rR rR) rR ?_;refine g_l (qi (Pre:=[owL 70 4 s28 c28 (ptR (L)),pt b3 (.cells #[I id] 3 (0,0))]) call92 rR (zf9 L s28 c28 b3 id (by omega))) rR ?_;rintro _ _ ⟨rfl,rfl⟩;refine g_v (qc rR) rR (g_v (qa 1 underlying68 rR rR sizeOf66 (by decide) rR) rR ?_);refine yp (qH #[ptr x 0,sl s28 (L.filter fun x=>!decide (x.id=id)).length c28,I n] sizeOf66 rR rR rR (by simp) rR) ?_;rintro _ _ rfl;refine qb (gS (gA rR (qb ?_)));refine yk b x s28 c28 (unR S p.root) ((L.filter fun x=>!decide (x.id=id))) (n) ?_;exact zsQ (S:=unR S p.root) (P:=(L.filter fun x=>!decide (x.id=id))) (n:=n) (r:=0) rfl (by unfold zh0;rw[hf]) rfl rfl
theorem zaD (b:Nat)(S:SI)(L:List Pt)(n:Int)(id at_:Int)(G0:Gh)(hV:Vok S L n G0)(F:List HProp):Ct Tryz.prog 37 [ptr b 0,I id,I at_] ([vlt b S L n]++F) (R1 (.tuple #[Str (rdE S L id at_).1,zbV 108 (rdE S L id at_).2]) (vlt b S L n::F)):=by
  show Ct Tryz.prog 37 [ptr b 0,I id,I at_] (vlt b S L n::F) _;have hok:=zfW hV;have hll:=hV.len;refine Ct.of func37 rR 36 ntmps37 (by simp) fun w0=>?_;refine gS (gA rR (gA rR (qb (gS (gM rR (gM rR ?_))))));refine g_l (qi (Pre:=[vlt b S L n]) call39 rR (yz b S L n id (by omega))) rR ?_;rintro _ _ ⟨rfl,rfl⟩;refine gM rR (g_v (qd (v:= .agg (yn ((yh L id).getD pt0)).toArray) rR rR) rR (g_v (qd (v:=Bo (yh L id).isSome) rR rR) rR ?_));refine g_l (qy #[I 0,I 0,I 0,I 0] zeroValue70) rR ?_;rintro _ _ ⟨b8,rfl,rfl⟩;refine yp (qq (cs:=#[I 0,I 0,I 0,I 0]) (vs:=yn (((yh L id).getD pt0))) (yn (((yh L id).getD pt0))).toArray sizeOf70 rR rR rR rR (by simp) (qv rR)) ?_;rintro _ _ rfl;refine gA rR (qb (qf (gS (gM rR (g_v (wo rR) rR (qb ?_))))));refine qg rR (fun h17=>?_) (fun h17=>?_)
  · simp at h17;refine gS (g_v (qB underlying108 rR rR) rR (gA rR (gA rR (qb ?_))));rw[show rdE S L id at_=([],5) by unfold rdE;rw[h17]];exact qn rfl rfl rfl
  · simp at h17;obtain ⟨p,hf⟩:=Option.isSome_iff_exists.1 h17;have hpm:=yT hf;have hps:=hV.pts p hpm.1;rw[show (yh L id).getD pt0=p by rw[hf];rfl];refine qh (qf (gS (gM rR (g_v (qJ rR rR) rR (gM rR (qK rR rR (fun hg=>qp rR) rR rR (qK rR rR (fun hg=>qa 2 underlying70 rR rR sizeOf3 (by decide) rR) rR rR (qK rR rR (fun hg=>qe (v:=I p.size) isAgg3 rR rR) rR rR (qK rR rR (fun hg=>zig rR rR) rR rR (g_v (zaH rR rR) rR (qb ?_)))))))))));refine qg rR (fun h26=>?_) (fun h26=>?_)
    · simp at h26;refine gS (g_v (qB underlying108 rR rR) rR (gA rR (gA rR (qb ?_))));rw[show rdE S L id at_=([],1) by unfold rdE;rw[hf];simp only;rw[if_pos (by omega)]];exact qn rfl rfl rfl
    · simp at h26;obtain ⟨a,rfl⟩:∃a:Nat,at_=a:=⟨at_.toNat,by omega⟩;refine qh (qf ?_);refine zaz b S L n ?_;intro x s c;refine yw (Lf:=[pt b (.cells #[ptr x 0,sl s (L).length c,I (n)] 68 (0,0)),pt b8 (.cells (yn (p)).toArray 70 (0,0))]) [(0,false),(1,false),(2,false),(3,false),(4,false),(5,false),(6,false),(7,true),(8,false),(9,false)] (by kernel_rfl) (by kernel_rfl) rR (by kernel_rfl) ?_;refine dM rR rR rR (d_v rR (qc rR) rR (d_v rR (qa 0 underlying68 rR rR sizeOf65 (by decide) rR) rR (d_v rR (qe (v:=ptr x 0) isAgg65 rR rR) rR (d_v rR (qa 3 underlying70 rR rR sizeOf3 (by decide) rR) rR (d_v rR (qe (v:=I p.root) isAgg3 rR rR) rR (dM rR rR rR ?_))))));refine d_l rR (qi (Pre:=[ixl x S]) call68 rR (zaN x S p.root a 200 hok (by decide) (by omega))) rR ?_;rintro _ _ ⟨rfl,rfl⟩;refine d_v rR (qx rR) rR (d_v rR (qx rR) rR ?_);refine yc ?_;rw[show rdE S L id a=(zcj S p.root a,0) by unfold rdE;rw[hf];simp only;rw[if_neg (by omega)];rfl];refine yk b x s c (S) (L) (n) ?_;exact qn rfl rfl rfl
theorem wJ (b:Nat)(S:SI)(L:List Pt)(n:Int)(hl:L.length≤1000000)(F:List HProp):Ct Tryz.prog 38 [ptr b 0] ([vlt b S L n]++F) (fun v L'=>∃q,v=ptr q 0∧L'=vlt q S L n::vlt b S L n::F):=by
  show Ct Tryz.prog 38 [ptr b 0] (vlt b S L n::F) _;refine Ct.of func38 rR 19 ntmps38 (by simp) fun w0=>?_;refine zaz b S L n ?_;intro x s c;refine gS (gA rR (qb (qf ?_)));refine yw (Lf:=[pt b (.cells #[ptr x 0,sl s (L).length c,I (n)] 68 (0,0))]) [(0,false),(1,false),(2,false),(3,false),(5,false),(6,false),(7,false),(8,false),(10,false),(11,false),(12,false),(13,false),(4,true),(9,true),(14,false),(15,true),(16,false)] (by kernel_rfl) (by kernel_rfl) rR (by kernel_rfl) ?_;refine dM rR rR rR (d_v rR (qc rR) rR (d_v rR (qa 0 underlying68 rR rR sizeOf65 (by decide) rR) rR (d_v rR (qe (v:=ptr x 0) isAgg65 rR rR) rR (dM rR rR rR (d_v rR (qc rR) rR (d_v rR (qa 1 underlying68 rR rR sizeOf66 (by decide) rR) rR (d_v rR (qe (v:=sl s (L).length c) isAgg66 rR rR) rR (dM rR rR rR (d_v rR (qc rR) rR (d_v rR (qa 2 underlying68 rR rR sizeOf3 (by decide) rR) rR (d_v rR (qe (v:=I n) isAgg3 rR rR) rR ?_)))))))))));refine d_l rR (qi (Pre:=[ixl x S]) call69 rR (zem x S)) rR ?_;rintro _ _ ⟨q7,rfl,rfl⟩;refine d_l rR (qi (Pre:=[owL 70 4 s c (ptR (L))]) call70 rR (zhS L s c hl)) rR ?_;rintro _ _ ⟨s12,c12,rfl,rfl⟩;refine d_v rR (qP rR (bldV3 q7 s12 L.length c12 n)) rR ?_;refine d_l rR (wR #[ptr q7 0,sl s12 L.length c12,I n] rfl rR) rR ?_;rintro _ _ ⟨b18,rfl,rfl⟩;refine d_v rR (qx rR) rR ?_;refine yc ?_;refine yk b18 q7 s12 c12 S L n ?_;refine yk b x s c (S) (L) (n) ?_;refine zbI (L2:=vlt b18 S L n::vlt b S L n::F) ?_;exact fun a w hE hS=>wp_ret (yb (qw (vs:=[ptr b18 0]) rfl hE hS ⟨b18,rfl,rfl⟩))
theorem zdw (b:Nat)(S:SI)(L:List Pt)(n:Int)(disk keep:Int)(hl:L.length≤1000000)(hk:keep≤9223372036854775807)(F:List HProp):Ct Tryz.prog 56 [ptr b 0,I disk,I keep] ([vlt b S L n]++F) (RSl 3 1 (zeH L disk keep).length (yY (zeH L disk keep)) (vlt b S L n::F)):=by
  show Ct Tryz.prog 56 [ptr b 0,I disk,I keep] (vlt b S L n::F) _;refine Ct.of func56 rR 37 ntmps56 (by simp) fun w0=>?_;refine zaz b S L n ?_;intro x s c;refine yG 3 1 (yY (((L.take 0).filter fun p=>decide (p.disk=disk)).map (·.id))) rR ?_;refine gS (gA rR (qb (gS (gA rR (qb (qf (gS (gM rR (g_v (qc rR) rR (g_v (qa 1 underlying68 rR rR sizeOf66 (by decide) rR) rR (g_v (qe (v:=sl s (L).length c) isAgg66 rR rR) rR (g_v (yo underlying66 rR) rR (gM rR (qb (qj ?_)))))))))))))));refine qE (α:=Nat×Option Addr×Nat) (fun z=>z.1≤L.length) (fun z=>U [(1,I disk),(2,I keep),(7,sl z.2.1 (((L.take z.1).filter fun p=>decide (p.disk=disk)).map (·.id)).length z.2.2),(13,sl s L.length c),(14,I L.length),(15,I z.1)]) (fun z=>owL 3 1 z.2.1 z.2.2 (yY (((L.take z.1).filter fun p=>decide (p.disk=disk)).map (·.id)))::pt b (.cells #[ptr x 0,sl s (L).length c,I (n)] 68 (0,0))::ixl x S::owL 70 4 s c (ptR (L))::F) (fun z=>L.length - z.1) (0,none,0) (by simp) [1,2,7,13,14,15] rfl rR ?_;rintro ⟨k,s7,c7⟩ hk7;simp only[] at hk7 ⊢;refine gS (g_v (qJ rR rR) rR (qb (qf ?_)));refine qg rR (fun h16=>?_) (fun h16=>?_)
  · simp at h16;have hkn:k<L.length:=(by omega);obtain ⟨p,hp⟩:∃p,L[k]? =some p:=⟨_,List.getElem?_eq_getElem hkn⟩;refine qh (qf (qj (gS (g_v (qA (k) underlying66 sizeOf70 rR rR rR hkn (by rw[wq];exact hkn)) rR (g_v (ym (row:=yn p) isAgg70 sizeOf70 rR (zcU hp) rR) rR ?_)))));refine g_l (qy #[I 0,I 0,I 0,I 0] zeroValue70) rR ?_;rintro _ _ ⟨b9,rfl,rfl⟩;refine yp (qq (cs:=#[I 0,I 0,I 0,I 0]) (vs:=yn (p)) (yn (p)).toArray sizeOf70 rR rR rR rR (by simp) (qv rR)) ?_;rintro _ _ rfl;refine qb (gS (g_v (qa 1 underlying70 rR rR sizeOf3 (by decide) rR) rR (g_v (qe (v:=I p.disk) isAgg3 rR rR) rR (gM rR (g_v (wh rR rR) rR (qb ?_))))));refine qg rR (fun h22=>?_) (fun h22=>?_)
    · simp at h22;refine qo (gM rR (g_v (qa 0 underlying70 rR rR sizeOf3 (by decide) rR) rR (g_v (qe (v:=I p.id) isAgg3 rR rR) rR ?_)));refine g_l (qs [[I p.id]] underlying61 sizeOf3 zeroValue3 rR rR rR (by simp) (by decide) (by decide)) rR ?_;rintro _ _ ⟨b26,rfl,rfl⟩;refine g_l (yC underlying61 sizeOf3 zeroValue3 rfl Tryz.typeInfo3 (by decide) rfl rfl (wu _) rfl (by simp) (by intro r hr;simp at hr;subst hr;rfl) ⟨by have:=znF L k disk;omega,by decide,by decide⟩) rfl ?_;rintro _ _ ⟨s27,c27,rfl,rfl⟩;refine gA rR (qb (qF (qo (g_v (qu rR rR (w64 (by omega))) rR (gM rR (qb ?_))))));rw[show yY (((L.take k).filter fun p=>decide (p.disk=disk)).map (·.id))++ [[I p.id]]=yY (((L.take (k+1)).filter fun p=>decide (p.disk=disk)).map (·.id)) by rw[zhD disk hp,if_pos h22];simp[yY],show (((L.take k).filter fun p=>decide (p.disk=disk)).map (·.id)).length+1=(((L.take (k+1)).filter fun p=>decide (p.disk=disk)).map (·.id)).length by rw[zhD disk hp,if_pos h22];simp];exact qm (k+1,s27,c27) (by simp only[];omega) (by simp only[];omega) [1,2,7,13,14,15] rfl rfl
    · simp at h22;refine qh (qF (qo (g_v (qu rR rR (w64 (by omega))) rR (gM rR (qb ?_)))));rw[show ((L.take k).filter fun p=>decide (p.disk=disk)).map (·.id)=((L.take (k+1)).filter fun p=>decide (p.disk=disk)).map (·.id) by rw[zhD disk hp,if_neg h22,List.append_nil]];exact qm (k+1,s7,c7) (by simp only[];omega) (by simp only[];omega) [1,2,7,13,14,15] rfl rfl
  · simp at h16;obtain rfl:k=L.length:=(by omega);refine zlM s7 (fun hcap=>?_);rw[wu] at hcap;refine qz rR ?_;refine gS (gM rfl (gM rfl (g_v (yo underlying61 rfl) rfl (gM rfl (g_v (zp2 rfl rfl) rfl (g_v (zce (r:=((((L.take L.length).filter fun p=>decide (p.disk=disk)).map (·.id)).length:Int) - (keep.toNat:Int)) rfl rfl (by rw[show (if (0:Int)<keep then keep else 0)=(keep.toNat:Int) by split <;> omega];exact w64 (by have:=znF L L.length disk;omega))) rfl (g_v (zp2 rfl rfl) rfl (g_v (zhU (h:=(((L.take L.length).filter fun p=>decide (p.disk=disk)).map (·.id)).length - keep.toNat) underlying61 sizeOf3 rfl rfl (by split <;> omega) (by omega)) rfl (gA rfl (qb ?_))))))))));refine zhJ s7 ((((L.take L.length).filter fun p=>decide (p.disk=disk)).map (·.id)).length - keep.toNat) ?_;have he:zeH L disk keep=(((L.take L.length).filter fun p=>decide (p.disk=disk)).map (·.id)).take ((((L.take L.length).filter fun p=>decide (p.disk=disk)).map (·.id)).length - keep.toNat):=(by unfold zeH;rw[List.take_length]);rw[show (yY (((L.take L.length).filter fun p=>decide (p.disk=disk)).map (·.id))).take ((((L.take L.length).filter fun p=>decide (p.disk=disk)).map (·.id)).length - keep.toNat)=yY (zeH L disk keep) by rw[he];simp[yY,List.map_take]];refine yk b x s c (S) (L) (n) ?_;exact wx rfl rfl rfl (by rw[he,List.length_take];omega)
theorem zpD {l:List Bytes}{k:Nat}{x:Bytes}(h:l[k]? =some x):(yN l)[k]? =some [Str x]:=by simp[yN,h]
theorem zsJ {S:SI}{L:List Pt}{n id e:Int}(h:ziJ S L n id= .error e):0<e:=by
  unfold ziJ at h;split at h
  · injection h with h;omega
  · split at h
    · injection h with h;have:=zqD L n;omega
    · cases h
def blk (S:SI)(p:Pt):List Bytes:=(List.range p.size.toNat).map (zcj S p.root)
theorem ztq {G G':Gh}{p:Pt}(hs:p.size≤16)(h:∀i,i<16→zcj (mkG G') p.root i=zcj (mkG G) p.root i):blk (mkG G') p=blk (mkG G) p:=by
  unfold blk;refine List.map_congr_left fun i hi=>h i ?_;rw[List.mem_range] at hi;omega
def zr8 (b:Nat)(S:SI)(L:List Pt)(n id:Int)(F:List HProp):Value→List HProp→Prop:=fun v L'=>match yh L id with
  | none=>v= .tuple #[sl none 0 0,Bo false]∧L'=vlt b S L n::F
  | some p=>∃s c,v= .tuple #[sl s (blk S p).length c,Bo true]∧L'=owL 9 1 s c (yN (blk S p))::vlt b S L n::F
section
variable {c:Cx}{E:Env}{L:List HProp}{K:List KI}
end
theorem zec (a b:List Bytes)(s s':Option Addr)(cap cap':Nat)(ha:a.length≤9223372036854775807)(F:List HProp):Ct Tryz.prog 18 [sl s a.length cap,sl s' b.length cap'] ([roL 1 s (yN a),roL 1 s' (yN b)]++F) (R1 (Bo (decide (a=b))) (roL 1 s (yN a)::roL 1 s' (yN b)::F)):=by
  show Ct Tryz.prog 18 [sl s a.length cap,sl s' b.length cap'] (roL 1 s (yN a)::roL 1 s' (yN b)::F) _;refine Ct.of func18 rR 26 ntmps18 (by simp) fun w0=>?_;refine gS (gA rR (qb (qf (gS (gM rR (g_v (yo underlying31 rR) rR (gM rR (g_v (yo underlying31 rR) rR (g_v (zd2 rR rR) rR (qb ?_))))))))));refine qg rR (fun h10=>?_) (fun h10=>?_)
  · simp at h10;refine gS (gA rR (qb ?_));refine qn rR rR ?_;show Bo false=_;rw[decide_eq_false (fun e=>h10 (by rw[e]))]
  · simp at h10;refine qh (qf (gS (gA rR (qb (qj ?_)))));refine qE (α:=Nat) (fun k=>k≤a.length∧a.take k=b.take k) (fun k=>U [(0,sl s a.length cap),(1,sl s' b.length cap'),(5,I k)]) (fun _=>roL 1 s (yN a)::roL 1 s' (yN b)::F) (fun k=>a.length - k) 0 ⟨by simp,by simp⟩ [0,1,5] rfl rR ?_;rintro k ⟨hk,hab⟩;refine qf (gS (gM rR (gM rR (g_v (yo underlying31 rR) rR (g_v (qJ rR rR) rR (qb ?_))))));refine qg rR (fun h14=>?_) (fun h14=>?_)
    · simp at h14;have h11:k<a.length:=(by omega);obtain ⟨x,hx⟩:∃x,a[k]? =some x:=⟨a[k],by simp⟩;obtain ⟨y,hy⟩:∃y,b[k]? =some y:=⟨b[k]'(by omega),by simp⟩;refine qh (qf (qj (qf ?_)));refine wS [(0,false),(1,false),(2,false),(3,false),(4,false),(5,false),(6,false),(7,false),(8,false)] (by kernel_rfl) (by kernel_rfl) rR (by kernel_rfl) ?_;refine dM rR rR rR (dM rR rR rR (d_v rR (qA k underlying31 sizeOf9 rR rR rR (by omega) (by rw[zb6];omega)) rR (d_v rR (yd isAgg9 rR (zpD hx) rR) rR (dM rR rR rR (dM rR rR rR (d_v rR (qA k underlying31 sizeOf9 rR rR rR (by omega) (by rw[zb6];omega)) rR (d_v rR (yd isAgg9 rR (zpD hy) rR) rR (d_v rR (zhj rR rR) rR ?_))))))));refine yc ?_;refine qg rR (fun h25=>?_) (fun h25=>?_)
      · simp at h25;refine gS (gA rR (qb ?_));refine qn rR rR ?_;show Bo false=_;rw[decide_eq_false (fun e=>h25 (by subst e;rw[hx] at hy;injection hy))]
      · simp at h25;refine qh (qF (qo (gM rR (g_v (qu rR rR (w64 (by omega))) rR (gA rR (qb ?_))))));exact qm (k+1) ⟨by omega,zvV hab hx hy h25⟩ (by omega) [0,1,5] rfl rfl
    · simp at h14;obtain rfl:k=a.length:=(by omega);refine qz rR ?_;refine gS (gA rR (qb ?_));refine qn rR rR ?_;show Bo true=_;rw[List.take_length,show a.length=b.length by omega,List.take_length] at hab;rw[decide_eq_true hab]
-- counterfoil/counterfoiltop.fill is not in this seat
-- counterfoil/counterfoiltop.filled is not in this seat
theorem zcL (b:Nat)(S:SI)(L:List Pt)(n id:Int)(G0:Gh)(hV:Vok S L n G0)(F:List HProp):Ct Tryz.prog 10 [ptr b 0,I id] ([vlt b S L n]++F) (zr8 b S L n id F):=by
  show Ct Tryz.prog 10 [ptr b 0,I id] (vlt b S L n::F) _;have hll:=hV.len;refine Ct.of func10 rR 40 ntmps10 (by simp) fun w0=>?_;refine gS (gA rR (gA rR (qb (gS (gM rR (gM rR ?_))))));refine g_l (qi (Pre:=[vlt b S L n]) call39 rR (yz b S L n id (by omega))) rR ?_;rintro _ _ ⟨rfl,rfl⟩;refine gM rR (g_v (qd (v:= .agg (yn ((yh L id).getD pt0)).toArray) rR rR) rR (g_v (qd (v:=Bo (yh L id).isSome) rR rR) rR ?_));refine g_l (qy #[I 0,I 0,I 0,I 0] zeroValue70) rR ?_;rintro _ _ ⟨b6,rfl,rfl⟩;refine yp (qq (cs:=#[I 0,I 0,I 0,I 0]) (vs:=yn (((yh L id).getD pt0))) (yn (((yh L id).getD pt0))).toArray sizeOf70 rR rR rR rR (by simp) (qv rR)) ?_;rintro _ _ rfl;refine gA rR (qb (qf (gS (gM rR (g_v (wo rR) rR (qb ?_))))));refine qg rR (fun h19=>?_) (fun h19=>?_)
  · simp at h19;refine gS (gA rR (gA rR (qb ?_)));refine zbI (L2:=vlt b S L n::F) ?_;exact fun a w hE hS=>wp_ret (yb (qw (vs:=[sl none 0 0,Bo false]) rfl hE hS (by show zr8 _ _ _ _ _ _ _ _;unfold zr8;rw[h19];exact ⟨rfl,rfl⟩)))
  · simp at h19;obtain ⟨p,hf⟩:=Option.isSome_iff_exists.1 h19;have hpm:=yT hf;have hps:=hV.pts p hpm.1;rw[show (yh L id).getD pt0=p by rw[hf];rfl];refine qh (qf ?_);refine yG 9 1 (yN ((List.range 0).map (zcj S p.root))) rR ?_;refine qo (gA rR (qb (qf (gS (gA rR (qb (qj ?_)))))));refine qE (α:=Nat×Option Addr×Nat) (fun z=>(z.1:Int)≤p.size) (fun z=>U [(0,ptr b 0),(1,I id),(6,ptr b6 0),(8,sl z.2.1 ((List.range z.1).map (zcj S p.root)).length z.2.2),(9,I z.1)]) (fun z=>owL 9 1 z.2.1 z.2.2 (yN ((List.range z.1).map (zcj S p.root)))::pt b6 (.cells (yn (p)).toArray 70 (0,0))::vlt b S L n::F) (fun z=>p.size.toNat - z.1) (0,none,0) (by simp;omega) [0,1,6,8,9] rfl rR ?_;rintro ⟨a,s8,c8⟩ ha;simp only[] at ha ⊢;refine qf (gS (gM rR (g_v (qa 2 underlying70 rR rR sizeOf3 (by decide) rR) rR (g_v (qe (v:=I p.size) isAgg3 rR rR) rR (g_v (qJ rR rR) rR (qb ?_))))));refine qg rR (fun h23=>?_) (fun h23=>?_)
    · simp at h23;refine qh (qf (qj (gS (gM rR (gM rR (gM rR ?_))))));refine g_l (qi (Pre:=[vlt b S L n]) call37 rR (zaD b S L n id a G0 hV)) rR ?_;rintro _ _ ⟨rfl,rfl⟩;rw[show rdE S L id a=(zcj S p.root a,0) by unfold rdE;rw[hf];simp only;rw[if_neg (by omega)];rfl];refine gM rR (g_v (qd (v:=Str (zcj S p.root a)) rR rR) rR (g_v (qd (v:=zbV 108 0) rR rR) rR (gA rR (gA rR (qb (qf (gS (gM rR (g_v (yf underlying37 rR) rR (qb ?_))))))))));refine qg rR (fun h34=>?_) (fun h34=>?_)
      · simp at h34
      · refine qh (qo (gM rR (gM rR ?_)));refine g_l (qs [[Str (zcj S p.root a)]] underlying31 sizeOf9 zeroValue9 rR rR rR (by simp) (by decide) (by decide)) rR ?_;rintro _ _ ⟨b37,rfl,rfl⟩;refine g_l (yC underlying31 sizeOf9 zeroValue9 rfl Tryz.typeInfo9 (by decide) rfl rfl (zb6 _) rfl (by simp) (by intro r hr;simp at hr;subst hr;rfl) ⟨by simp;omega,by decide,by decide⟩) rfl ?_;rintro _ _ ⟨s38,c38,rfl,rfl⟩;refine gA rR (qb (qF (qo (gM rR (g_v (qu rR rR (w64 (by omega))) rR (gA rR (qb ?_)))))));rw[show yN ((List.range a).map (zcj S p.root))++ [[Str (zcj S p.root a)]]=yN ((List.range (a+1)).map (zcj S p.root)) by rw[List.range_succ];simp[yN],show ((List.range a).map (zcj S p.root)).length+1=((List.range (a+1)).map (zcj S p.root)).length by simp];exact qm (a+1,s38,c38) (by simp only[];omega) (by simp only[];omega) [0,1,6,8,9] rfl rfl
    · simp at h23;obtain rfl:a=p.size.toNat:=(by omega);refine qz rR ?_;refine gS (gM rR (gA rR (gA rR (qb ?_))));rw[show (List.range p.size.toNat).map (zcj S p.root)=blk S p from rfl];refine zbI (L2:=owL 9 1 s8 c8 (yN (blk S p))::vlt b S L n::F) ?_;exact fun a w hE hS=>wp_ret (yb (qw (vs:=[sl s8 (blk S p).length c8,Bo true]) rfl hE hS (by show zr8 _ _ _ _ _ _ _ _;unfold zr8;rw[hf];exact ⟨s8,c8,rfl,rfl⟩)))
-- counterfoil/counterfoiltop.vaulted is not in this seat
def Nz (S:SI):Prop:=(∀q m,S.N q=some m→¬zap m)∧∀q x,S.B q=some x→x.1≠ []∧x.1.length≤6
theorem zqX (m:Nd)(r:Int):zap (rf m r) ↔ zap m:=Iff.rfl
theorem Nz_z:Nz (mkG gZ):=⟨(fun q m h=>by cases h),fun q x h=>by cases h⟩
theorem zlU {S:SI}(h:Nz S)(q n:Int):Nz ⟨zc5 S.B q n,S.N⟩:=by
  refine ⟨h.1,fun p x e=>?_⟩;change zc5 S.B q n p=some x at e;unfold zc5 at e;cases hq:S.B q with
  | none=>rw[hq] at e;exact h.2 p x e
  | some y=>
    rw[hq] at e;unfold qD at e;simp only at e;split at e
    · split at e
      · cases e
      · injection e with e;subst e;exact h.2 q y hq
    · exact h.2 p x e
theorem zj1 {S:SI}(h:Nz S){q:Int}{x:Option Nd}(hx:∀m,x=some m→¬zap m):Nz ⟨S.B,qD S.N q x⟩:=⟨fun p m e=>by
  change qD S.N q x p=some m at e;unfold qD at e;split at e
  · exact hx m e
  · exact h.1 p m e,h.2⟩
theorem zsw {S:SI}(h:Nz S)(d:Bytes):Nz (qk S d):=by
  unfold qk;split
  · exact h
  · refine ⟨h.1,fun p x e=>?_⟩;change zkQ S.B d p=some x at e;unfold zkQ at e;by_cases hd:6<d.length∨d=[]
    · rw[if_pos hd] at e;exact h.2 p x e
    · rw[if_neg hd] at e;cases hf:zbi 40 S.B with
      | none=>rw[hf] at e;exact h.2 p x e
      | some k=>
        rw[hf] at e;simp only at e;unfold qD at e;split at e
        · injection e with e;subst e;exact ⟨fun hh=>hd (.inr hh),by simp only;omega⟩
        · exact h.2 p x e
theorem zss {S:SI}(h:Nz S)(k:Int):Nz (zcA true S k):=by
  unfold zcA;split
  · exact h
  · rw[if_pos rfl];exact zlU h k 1
theorem ztb {S:SI}(h:Nz S)(n:Nd):Nz (yq true S n):=by
  unfold yq;split
  · exact h
  · rename_i hn;split
    · exact h
    · exact ze3 (P:=Nz) (fun a b ha=>zss ha b) _ _ (zj1 h fun m e=>by injection e with e;subst e;exact hn)
theorem ztF {S:SI}(h:Nz S)(k:Int):Nz (zbe S k):=by
  unfold zbe;split
  · exact h
  · exact zlU h k (-1)
theorem zxb {S:SI}(h:Nz S)(k:Int):Nz (unB S k):=by
  unfold unB;split
  · exact zlU h k (-1)
  · exact h
theorem zud {S:SI}{f:SI→Int→SI}(hf:∀S k,Nz S→Nz (f S k))(h:Nz S)(q:Int):Nz (unX f S q):=by
  unfold unX;split
  · exact h
  · split
    · rename_i hr;refine zj1 h fun m e=>?_;injection e with e;subst e;cases hq:S.N q with
      | none=>unfold gN at hr;rw[hq] at hr;simp[nd0] at hr
      | some y=>rw[show gN S.N q=y by unfold gN;rw[hq];rfl];exact h.1 q y hq
    · exact ze3 (P:=Nz) (fun a b ha=>hf a b ha) _ _ (zj1 h fun m e=>by cases e)
theorem zuj {S:SI}(h:Nz S)(q:Int):Nz (unL S q):=zud (fun S k h=>ztF h k) h q
theorem zuf {S:SI}(h:Nz S)(q:Int):Nz (unR S q):=zud (fun S k h=>zuj h k) h q
theorem zs6 {S:SI}(h:Nz S){q:Int}(hq:∃x,S.N q=some x):Nz ⟨S.B,zif S.N q⟩:=by
  obtain ⟨x,hx⟩:=hq;refine zj1 h fun m e=>?_;injection e with e;subst e;rw[show gN S.N q=x by unfold gN;rw[hx];rfl];exact h.1 q x hx
theorem znH {G:Gh}(V:Val G)(h:Nz (mkG G)){q:Int}(hq:rt G q):Nz (zbf (mkG G) q):=by
  unfold zbf;split
  · refine zs6 h ?_;obtain ⟨m,hm⟩:=hq.resolve_left (by omega);exact ⟨_,zg5 hm⟩
  · exact h
theorem zvd {G:Gh}(V:Val G){q:Int}(h:lf G q):q=0∨∃x,(mkG G).N q=some x:=h.imp (fun h=>h) fun ⟨m,hm⟩=>⟨_,zh6 V hm⟩
theorem zwK (S:SI)(k:Int):(zcA true S k).N=S.N:=by
  unfold zcA;split
  · rfl
  · rw[if_pos rfl]
theorem zlT:∀(l:List Int) (S:SI),(l.foldl (zcA true) S).N=S.N
  | [],S=>rfl
  | k::l,S=>by rw[List.foldl_cons,zlT l,zwK]
theorem zjZ (S:SI)(d:Bytes):(qk S d).N=S.N:=by unfold qk;split <;> rfl
theorem unB_N (S:SI)(b:Int):(unB S b).N=S.N:=by unfold unB;split <;> rfl
theorem zx5 {G:Gh}(V:Val G){root:Int}{at_:Nat}{d:Bytes}{out:Int}(hr:rt G root)(ha:at_<16)(hz:Nz (mkG G))(h:zc7 (mkG G) root at_ d=(out,0)):Nz (zjd (mkG G) root at_ d):=by
  obtain ⟨b,k,hb,hl,ho,hS⟩:=znQ h;rw[hS];refine zuj ?_ k;have hz3:Nz (unB (yq true (qk (mkG G) d) (wn (qk (mkG G) d) root at_ b)) b):=zxb (ztb (zsw hz d) _) b;have hN3:(unB (yq true (qk (mkG G) d) (wn (qk (mkG G) d) root at_ b)) b).N=(yq true (qk (mkG G) d) (wn (qk (mkG G) d) root at_ b)).N:=unB_N _ _
  -- what was there is there still,and so is the new leaf
  have hold:∀q x,(mkG G).N q=some x→∃y,(yq true (qk (mkG G) d) (wn (qk (mkG G) d) root at_ b)).N q=some y:=fun q x hx=>by
    rcases zdq hl with ⟨_,_,e⟩ | ⟨j,_,_,_,_,e⟩
    · rw[e true,zjZ];exact ⟨x,hx⟩
    · rw[e true,zlT];show ∃y,qD (qk (mkG G) d).N k _ q=some y;unfold qD;split
      · exact ⟨_,rfl⟩
      · rw[zjZ];exact ⟨x,hx⟩
  have hnew:k=0∨∃y,(yq true (qk (mkG G) d) (wn (qk (mkG G) d) root at_ b)).N k=some y:=by
    rcases zdq hl with ⟨e0,_,_⟩ | ⟨j,_,_,_,_,e⟩
    · exact .inl e0
    · refine .inr ?_;rw[e true,zlT];exact ⟨_,by show qD _ k _ k=_;unfold qD;rw[if_pos rfl]⟩
  rcases zdq ho with ⟨_,_,e⟩ | ⟨j,hk,hjr,hnone,hnk,e⟩
  · rw[e false];exact hz3
  · rw[e false,zdU]
    · refine ⟨fun q m hm=>?_,hz3.2⟩;change (qD _ out _ q).map _=some m at hm;obtain ⟨m0,hm0,rfl⟩:=Option.map_eq_some_iff.1 hm;rw[zqX];unfold qD at hm0;split at hm0
      · injection hm0 with hm0;subst hm0;exact hnk
      · exact hz3.1 q m0 hm0
    · intro q hq;obtain ⟨i,hi,rfl⟩:=zkE hq;have key:kat (zc6 (qk (mkG G) d) root at_ k) i=0∨∃y,(unB (yq true (qk (mkG G) d) (wn (qk (mkG G) d) root at_ b)) b).N (kat (zc6 (qk (mkG G) d) root at_ k) i)=some y:=by
        unfold zc6;rw[zgr _ _ _ _ (by omega) hi,hN3];split
        · exact hnew
        · rw[zjZ];rcases zvd V (zhY V hr hi) with h0 | ⟨x,hx⟩
          · exact .inl h0
          · exact .inr (hold _ x hx)
      refine key.imp (fun h=>h) fun ⟨y,hy⟩=>?_;show ∃x,qD _ out _ _=some x;unfold qD;split
      · exact ⟨_,rfl⟩
      · exact ⟨y,hy⟩
theorem zqy {G:Gh}{root:Int}{rs:List Int}{at_:Nat}{d:Bytes}{z:SI×Int}(h:Rt G (root::rs))(ha:at_<16)(hz:Nz (mkG G))(e:put1 (mkG G,root) at_ d= .ok z):Nz z.1:=by
  unfold put1 at e;split at e
  · rename_i hE;injection e with e;subst e;exact zuf (zx5 h.V (zmx h (List.mem_cons_self ..)) ha hz (Prod.ext rfl hE)) root
  · cases e
theorem zrG {G:Gh}{root:Int}{rs:List Int}{at_:Nat}{d:Bytes}{z:SI×Int}(h:Rt G (root::rs))(hl:rs.length≤8)(ha:at_<16)(e:put1 (mkG G,root) at_ d= .ok z):∃G',z.1=mkG G'∧Rt G' (z.2::rs):=by
  unfold put1 at e;split at e
  · rename_i hE;injection e with e;obtain ⟨G1,G2,e1,o1,r1,v1,e2,h2,_⟩:=zhL h hl ha hE;simp only at e e1;rw[e1,e2] at e;subst e;exact ⟨G2,rfl,h2⟩
  · cases e
theorem zqx {rs:List Int}(hl:rs.length≤8):∀(l:List Nat) {G:Gh} {root:Int} {z:SI×Int},Rt G (root::rs)→(∀a∈l,a<16)→Nz (mkG G)→zlr (mkG G,root) l= .ok z→Nz z.1
  | [],G,root,z,h,_,hz,e=>by simp only[zlr] at e;injection e with e;subst e;exact hz
  | a::l,G,root,z,h,ha,hz,e=>by
    unfold zlr at e;cases hp:put1 (mkG G,root) a [] with
    | error e'=>rw[hp] at e;cases e
    | ok z'=>
      rw[hp] at e;simp only at e;obtain ⟨z1,z2⟩:=z';obtain ⟨G',e1,h'⟩:=zrG h hl (ha a (by simp)) hp;have hz':=zqy h (ha a (by simp)) hz hp;simp only at e1 hz' h';subst e1;exact zqx hl l h' (fun b hb=>ha b (List.mem_cons_of_mem _ hb)) hz' e
theorem zjn {size:Int}(hs:size≤16){rs:List Int}(hl:rs.length≤8):∀(l:List PutM) {G:Gh} {root:Int} {z:SI×Int},Rt G (root::rs)→Nz (mkG G)→zbQ size (mkG G,root) l= .ok z→Nz z.1
  | [],G,root,z,h,hz,e=>by simp only[zbQ] at e;injection e with e;subst e;exact hz
  | p::l,G,root,z,h,hz,e=>by
    unfold zbQ at e;split at e
    · cases e
    · rename_i hb;split at e
      · exact zjn hs hl l h hz e
      · cases hp:put1 (mkG G,root) p.at_.toNat p.data with
        | error e'=>rw[hp] at e;cases e
        | ok z'=>
          rw[hp] at e;simp only at e;obtain ⟨z1,z2⟩:=z';obtain ⟨G',e1,h'⟩:=zrG h hl (by omega) hp;have hz':=zqy h (by omega) hz hp;simp only at e1 hz' h';subst e1;exact zjn hs hl l h' hz' e
theorem ztd {S:SI}{L:List Pt}{n base disk size:Int}{G:Gh}{z:SI×Int}(h:Vok S L n G)(hs:1≤size∧size≤16)(hz:Nz S)(e:zdr S L base disk size= .ok z):Nz z.1:=by
  have hlen:(L.map (·.root)).length≤8:=(by have:=h.len;simp;omega);have hS:=h.e;subst hS;unfold zdr at e;split at e
  · injection e with e;subst e;exact hz
  · split at e
    · cases e
    · rename_i p hf;split at e
      · cases e
      · have hps:=(h.pts p (yT hf).1).2.2;obtain ⟨G1,e1,h1,_⟩:=zgo h.rt (zaw hf);have hz1:=znH h.rt.V hz (zmx h.rt (zaw hf));rw[e1] at e hz1;exact zqx hlen _ h1 (fun a ha=>by rw[List.mem_range'_1] at ha;omega) hz1 e
theorem zvh {S:SI}{L:List Pt}{n base disk size:Int}{puts:List PutM}{G:Gh}{S':SI}{L':List Pt}{n' r:Int}(h:Vok S L n G)(hz:Nz S)(e:zgn S L n base disk size puts= .ok (S',L',n',r)):Nz S':=by
  unfold zgn at e;split at e
  · cases e
  · rename_i hbd;have hlen:(L.map (·.root)).length≤8:=(by have:=h.len;simp;omega);cases hb:zdr S L base disk size with
    | error e'=>rw[hb] at e;cases e
    | ok z=>
      rw[hb] at e;simp only at e;have hz1:=ztd h (by omega) hz hb;obtain ⟨G1,hz2,h1,_⟩:=zi9 h (by omega) hb;obtain ⟨z1,z2⟩:=z;simp only at hz1 hz2 h1;subst hz2;cases hp:zbQ size (mkG G1,z2) puts with
      | error e'=>rw[hp] at e;cases e
      | ok z'=>
        rw[hp] at e;simp only at e;have hz3:=zjn (by omega) hlen puts h1 hz1 hp;split at e
        · cases e
        · injection e with e;injection e with e1 e;subst e1;exact hz3
theorem zwk {S:SI}{L:List Pt}{n id:Int}{G:Gh}{S':SI}{L':List Pt}{n' r:Int}(h:Vok S L n G)(hz:Nz S)(e:ziJ S L n id= .ok (S',L',n',r)):Nz S':=by
  unfold ziJ at e;split at e
  · cases e
  · rename_i p hf;split at e
    · cases e
    · injection e with e;injection e with e1 e;have hS:=h.e;subst hS;subst e1;exact znH h.rt.V hz (zmx h.rt (zaw hf))
theorem zv1 {S:SI}{L:List Pt}{n id:Int}{S':SI}{L':List Pt}{n' r:Int}(hz:Nz S)(e:zh0 S L n id= .ok (S',L',n',r)):Nz S':=by
  unfold zh0 at e;split at e
  · cases e
  · injection e with e;injection e with e1 e;subst e1;exact zuf hz _
structure Con (S:SI) (L:List Pt) (n:Int) (G:Gh):Prop where
  v:Vok S L n G
  z:Nz S
  t:Top S L
theorem Con_z:Con (mkG gZ) [] 1 gZ:=⟨Vok_z,Nz_z,Top_z⟩
theorem ze1 {S:SI}{L:List Pt}{n base disk size:Int}{puts:List PutM}{G:Gh}{S':SI}{L':List Pt}{n' r:Int}(h:Con S L n G)(e:zgn S L n base disk size puts= .ok (S',L',n',r)):∃G',Con S' L' n' G':=
  let ⟨G',_,hv,_⟩:=zjg h.v e
  ⟨G',hv,zvh h.v h.z e,zsh h.v h.t e⟩
theorem zeF {S:SI}{L:List Pt}{n id:Int}{G:Gh}{S':SI}{L':List Pt}{n' r:Int}(h:Con S L n G)(e:ziJ S L n id= .ok (S',L',n',r)):∃G',Con S' L' n' G':=
  let ⟨G',_,hv,_⟩:=zjf h.v e
  ⟨G',hv,zwk h.v h.z e,zty h.v h.t e⟩
theorem zjM {S:SI}{L:List Pt}{n id:Int}{G:Gh}{S':SI}{L':List Pt}{n' r:Int}(h:Con S L n G)(e:zh0 S L n id= .ok (S',L',n',r)):∃G',Con S' L' n' G':=
  let ⟨G',_,hv,_⟩:=zmu h.v e
  ⟨G',hv,zv1 h.z e,zsE h.v h.t e⟩
theorem zsK {G:Gh}(V:Val G){q:Int}{m:Nd}(h:(mkG G).N q=some m){i:Nat}(hi:i<4):0≤kat m i∧kat m i≤40:=by
  simp only[mkG,mkN] at h;cases e:G.R q with
  | some n=>
    rw[e] at h;injection h with h;subst h;rcases V.kidR e hi with h0 | ⟨y,hy⟩
    · have:kat (rf n (G.eR q)) i=kat n i:=(by unfold kat rf;split <;> rfl);rw[this];omega
    · have h1:=V.sL _ y hy;have:kat (rf n (G.eR q)) i=kat n i:=(by unfold kat rf;split <;> rfl);rw[this];omega
  | none=>
    rw[e] at h;simp only at h;obtain ⟨n,hn,rfl⟩:=Option.map_eq_some_iff.1 h;have ek:kat (rf n (G.eL q+tot G.R q)) i=kat n i:=(by unfold kat rf;split <;> rfl);rw[ek];rcases V.kidL hn hi with h0 | ⟨y,hy⟩
    · omega
    · have h1:=V.sD _ y hy;omega
theorem Con.wr {S:SI}{L:List Pt}{n:Int}{G:Gh}(h:Con S L n G):Wr S L n:=by
  have hok:=zfW h.v;refine ⟨hok.1,hok.2.2.1,fun q x e=>?_,fun q m e=>?_,fun p hp=>?_,?_,h.v.srt⟩
  · have:=hok.2.1 q x e;exact ⟨by omega,h.z.2 q x e⟩
  · have:=hok.2.2.2 q m e;refine ⟨by omega,fun k hk=>?_⟩;obtain ⟨i,hi,rfl⟩:=zkE hk;have hS:=h.v.e;subst hS;have:=zsK h.v.rt.V e hi;omega
  · have h1:=h.v.pts p hp;have h2:=h.v.n1;have h3:=zqd h.v.rt.V (zmx h.v.rt (List.mem_map.2 ⟨p,hp,rfl⟩));omega
  · have:=h.v.n1;omega
theorem Con.sm {S:SI}{L:List Pt}{n:Int}{G:Gh}(h:Con S L n G):Sm S L n:=by
  have w:=h.wr;exact ⟨zcF (zfW h.v) (by decide),fun q x e=>(w.b q x e).2.2,fun q m e=>(w.nd q m e).2,fun p hp=>by have:=w.p p hp;omega,h.v.len,w.n1⟩
theorem zu3 {L:List Pt}{q:Int}(h0:q≠0):isR L q ↔ 0<cnt (L.map (·.root)) q:=by
  unfold isR cnt;rw[if_neg h0];have:(0:Int)<((L.map (·.root)).count q:Int) ↔ 0<(L.map (·.root)).count q:=(by omega);rw[this,List.count_pos_iff,List.mem_map];exact ⟨fun h=>h.2,fun h=>⟨h0,h⟩⟩
theorem zvO {N:NdT}{q:Int}(h:0<tot N q):∃r m,N r=some m∧q∈kd m:=by
  refine Classical.byContradiction fun hn=>?_;have:tot N q=0:=zgZ fun k _=>by
    cases e:N (k:Int) with
    | none=>rfl
    | some m=>
      have h1:=zk4 (some m) q;rcases Int.lt_or_eq_of_le h1 with h2 | h2
      · obtain ⟨i,hi,rfl⟩:=zmr h2;exact absurd ⟨_,m,e,zkL hi⟩ hn
      · exact h2.symm
  omega
theorem ziz {A B:NdT}{q:Int}:∀{l:List Nat},(∀k∈l,occ (A (k:Int)) q=occ (B (k:Int)) q)→zgV A q l=zgV B q l
  | [],_=>rfl
  | k::l,h=>by simp only[zgV];rw[h k (by simp),ziz fun j hj=>h j (List.mem_cons_of_mem _ hj)]
theorem zgI {A B:NdT}{q:Int}(h:∀k,occ (A k) q=occ (B k) q):tot A q=tot B q:=ziz fun k _=>h k
theorem Con.whole {S:SI}{L:List Pt}{n:Int}{G:Gh}(h:Con S L n G):WholeP ⟨S.B,S.N,L,n⟩:=by
  have hS:=h.v.e;subst hS;have V:=h.v.rt.V;have hok:=zfW h.v;have hR:∀q,isR L q ↔ q≠0∧∃m,G.R q=some m:=fun q=>by
    by_cases h0:q=0
    · subst h0;exact ⟨fun hh=>absurd rfl hh.1,fun hh=>absurd rfl hh.1⟩
    · rw[zu3 h0,←h.v.rt.eR,←V.pR q h0];exact ⟨fun hh=>⟨h0,Option.isSome_iff_exists.1 hh⟩,fun hh=>Option.isSome_iff_exists.2 hh.2⟩
  have hLf:∀q,isL (mkG G).N L q ↔ q≠0∧∃m,G.L q=some m:=fun q=>by
    constructor
    · rintro ⟨h0,r,m,hr,hm,hq⟩;obtain ⟨_,m',hm'⟩:=(hR r).1 hr;rw[zg5 hm'] at hm;injection hm with hm;subst hm;obtain ⟨i,hi,rfl⟩:=zkE hq;have ek:kat (rf m' (G.eR r)) i=kat m' i:=(by unfold kat rf;split <;> rfl);rw[ek] at h0 ⊢;exact ⟨h0,(V.kidR hm' hi).resolve_left h0⟩
    · rintro ⟨h0,m,hm⟩;have h1:=(V.pL q h0).1 (by rw[hm];rfl);rw[h.v.rt.eL,Int.zero_add] at h1;obtain ⟨r,m',hr,hq⟩:=zvO h1;refine ⟨h0,r,_,(hR r).2 ⟨zcy V.sR hr,m',hr⟩,zg5 hr,hq⟩
  have dj:∀q m m',G.R q=some m→G.L q=some m'→False:=fun q m m' h1 h2=>by
    rcases V.dj q with h3 | h3
    · rw[h1] at h3;cases h3
    · rw[h2] at h3;cases h3
  have hk:KindsP (mkG G).N L:=by
    refine ⟨fun q hq=>?_,fun q hq=>?_,fun q hr hl=>?_,fun q hq=>?_⟩
    · obtain ⟨_,m,hm⟩:=(hR q).1 hq;rw[zg5 hm];rfl
    · obtain ⟨_,m,hm⟩:=(hLf q).1 hq;rw[zh6 V hm];rfl
    · obtain ⟨_,m,hm⟩:=(hR q).1 hr;obtain ⟨_,m',hm'⟩:=(hLf q).1 hl;exact dj q m m' hm hm'
    · obtain ⟨x,hx⟩:=Option.isSome_iff_exists.1 hq;have h0:=zcy hok.2.2.1 hx;cases e:G.R q with
      | some m=>exact .inl ((hR q).2 ⟨h0,m,e⟩)
      | none=>cases e2:G.L q with
        | some m=>exact .inr ((hLf q).2 ⟨h0,m,e2⟩)
        | none=>rw[zcE e e2] at hx;cases hx
  have hrO:∀q p,occ (rOf (mkG G).N L q) p=occ (G.R q) p:=fun q p=>by
    unfold rOf;split
    · rename_i hr;obtain ⟨_,m,hm⟩:=(hR q).1 hr;rw[zg5 hm,hm];rfl
    · rename_i hr;cases e:G.R q with
      | none=>rfl
      | some m=>exact absurd ((hR q).2 ⟨zcy V.sR e,m,e⟩) hr
  have hlO:∀q p,occ (lOf (mkG G).N L q) p=occ (G.L q) p:=fun q p=>by
    unfold lOf;split
    · rename_i hr;obtain ⟨_,m,hm⟩:=(hR q).1 hr;cases e:G.L q with
      | none=>rfl
      | some m'=>exact (dj q m m' hm e).elim
    · rename_i hr;cases e:G.L q with
      | some m=>rw[zh6 V e];rfl
      | none=>cases e2:G.R q with
        | none=>rw[zcE e2 e]
        | some m=>exact absurd ((hR q).2 ⟨zcy V.sR e2,m,e2⟩) hr
  refine ⟨h.v.len,h.v.n1.1,fun p hp=>(h.v.pts p (List.mem_of_getLast? hp)).1.2,hok.2.2.1,hok.1,hk,⟨h.z.1,fun q m hm=>?_,fun q x hx=>?_,fun q h0 hq=>?_⟩,h.t⟩
  · change (mkG G).N q=some m at hm;show cN (mkG G).N L q=m.refs;unfold cN;rw[zgI fun k=>hrO k q,←h.v.rt.eR];have h0:=zcy hok.2.2.1 hm;cases e:G.R q with
    | some m'=>
      rw[zg5 e] at hm;injection hm with hm;subst hm;have:tot G.R q=0:=by
        have h1:=zdy G.R q;rcases Int.lt_or_eq_of_le h1 with h2 | h2
        · obtain ⟨x,hx⟩:=Option.isSome_iff_exists.1 ((V.pL q h0).2 (by have:=V.nL q;omega));exact (dj q m' x e hx).elim
        · exact h2.symm
      rw[this];simp[rf]
    | none=>cases e2:G.L q with
      | none=>rw[zcE e e2] at hm;cases hm
      | some m'=>
        rw[zh6 V e2] at hm;injection hm with hm;subst hm;have:G.eR q=0:=by
          have h1:=V.nR q;rcases Int.lt_or_eq_of_le h1 with h2 | h2
          · have:=(V.pR q h0).2 h2;rw[e] at this;cases this
          · exact h2.symm
        rw[this,h.v.rt.eL];simp[rf]
  · change (mkG G).B q=some x at hx;show tot (lOf (mkG G).N L) q=x.2;rw[zgI fun k=>hlO k q];cases e:G.D q with
    | none=>rw[zeE e] at hx;cases hx
    | some d=>
      rw[zb5 e,h.v.rt.eB] at hx;injection hx with hx;subst hx;simp
  · change tot (lOf (mkG G).N L) q≠0 at hq;rw[zgI fun k=>hlO k q] at hq;have h1:=zdy G.L q;have h2:=(V.pD q h0).2 (by have:=V.nB q;omega);obtain ⟨d,hd⟩:=Option.isSome_iff_exists.1 h2;show ((mkG G).B q).isSome=true;rw[zb5 hd];rfl
theorem ze6 {S:SI}{L:List Pt}{n:Int}{G:Gh}(h:Con S L n G):zbd none ps0 (qY S L n)=some ⟨S.B,S.N,L,n⟩∧WholeP ⟨S.B,S.N,L,n⟩:=⟨zuA h.wr,h.whole⟩
section
variable {c:Cx}{g:Option (Nat×Bool)}{E:Env}{L L':List HProp}{d:Option Tmp}{ty:TypeId}{pos:String}{af:Array Edge}{gu:Option (Nat×Bool)}{K:List KI}
variable {x y:Operand}
theorem zw1 {k:IntKind}{p q r:Int}{ats:Array TypeId}(hx:ev g E x=some (.int k p))(hy:ev g E y=some (.int k q))(hr:(if p<q then q else p)=r):OpV c g E L ⟨d, .call {callee:= .builtin .max,args:=#[x,y],argTypes:=ats},ty,pos,af,gu⟩ (.int k r):=hr ▸ zp2 hx hy
end
def zij (k:Nat)(s:Bytes)(F:List HProp):Value→List HProp→Prop:=fun v L'=>match wG k s with
  | none=>v= .tuple #[sl none 0 0,Bo false]∧L'=F
  | some l=>∃s' c',v= .tuple #[sl s' k c',Bo true]∧L'=owL 3 1 s' c' (yY l)::F
section
variable {c:Cx}{E:Env}{L:List HProp}{K:List KI}
theorem zjr {F:List HProp}{k:Nat}{s:Bytes}{vs:List Value}(hR:c.R=zij k s F)(he:wG k s=none)(hr:zbn E c.fn.results.toList=some vs)(hv:tup vs= .tuple #[sl none 0 0,Bo false])[S:Sub L F](hds:c.n.ds=[]:=by rfl):G c (.code .ret::K) E L:=
  fun a w hE hS=>wp_ret (yb (qw (hds:=hds) hr hE (S.sat hS) (by rw[hR];unfold zij;rw[he];exact ⟨hv,rfl⟩)))
theorem zre {F:List HProp}{k cc:Nat}{s:Bytes}{l:List Int}{sa:Option Addr}{vs:List Value}(hR:c.R=zij k s F)(he:wG k s=some l)(hr:zbn E c.fn.results.toList=some vs)(hv:tup vs= .tuple #[sl sa k cc,Bo true])[S:Sub L (owL 3 1 sa cc (yY l)::F)](hds:c.n.ds=[]:=by rfl):G c (.code .ret::K) E L:=
  fun a w hE hS=>wp_ret (yb (qw (hds:=hds) hr hE (S.sat hS) (by rw[hR];unfold zij;rw[he];exact ⟨sa,cc,hv,rfl⟩)))
end
theorem zpz (m:Nat)(B:BkT):(zaL m B).length=(ids m B).length:=by simp[zaL]
theorem zpW (m:Nat)(N:NdT):(zaS m N).length=(ids m N).length:=by simp[zaS]
theorem zts {m k:Nat}{B:BkT}{q:Int}(h:(ids m B)[k]? =some q):(zaL m B)[k]? =some (zwQ q (gB B q)):=by simp[zaL,h]
theorem zsN {m k:Nat}{N:NdT}{q:Int}(h:(ids m N)[k]? =some q):(zaS m N)[k]? =some (zwO q (gN N q)):=by simp[zaS,h]
theorem zcS (l:List ChangeM)(c:ChangeM):chR l++ [yu c]=chR (l++ [c]):=by simp[chR]
theorem zaC {α:Type}{l:List α}{k:Nat}{x:α}(h:l[k]? =some x):l.take k++ [x]=l.take (k+1):=by
  rw[List.take_add_one,h];rfl
theorem lkBv {B:BkT}(h:sup 40 B)(q:Int):(lk (tb encB 40 B) q).getD (.agg #[Str [],I 0])=encB (gB B q):=by
  rw[lkB h];unfold gB;cases B q <;> rfl
def zoS (n:Nd)(i:Nat):Bytes:=thr n.refs++((kd n).take i).flatMap thr
theorem ztY (n:Nd):∀i,i<4→zoS n i++thr (kat n i)=zoS n (i+1)
  | 0,_=>by simp[zoS,kd,kat]
  | 1,_=>by simp[zoS,kd,kat]
  | 2,_=>by simp[zoS,kd,kat]
  | 3,_=>by simp[zoS,kd,kat]
  | i+4,h=>absurd h (by omega)
theorem zrI (n:Nd):zoS n 4=zrV n:=by simp[zoS,zrV,kd]
theorem zuv (n:Nd):zoS n 0=thr n.refs:=by simp[zoS]
theorem zgm {n:Nd}(h: -999≤n.refs∧n.refs≤1000)(hk:∀k∈kd n, -999≤k∧k≤1000):∀i,i≤4→(zoS n i).length≤4+4*i
  | 0,_=>by rw[zuv];exact wa h
  | i+1,hi=>by
    rw[←ztY n i (by omega),List.length_append];have h1:=zgm h hk i (by omega);have h2:=wa (hk _ (zkL (n:=n) (i:=i) (by omega)));omega
theorem gB_sm {S:SI}{L:List Pt}{n:Int}(h:Sm S L n)(q:Int):(0≤(gB S.B q).2∧(gB S.B q).2≤999)∧(gB S.B q).1.length≤6:=by
  unfold gB;cases e:S.B q with
  | none=>simp
  | some x=>have h1:=h.ok.2.1 q x e;have h2:=h.dat q x e;simp only[Option.getD_some];omega
theorem zu1 {S:SI}{L:List Pt}{n:Int}(h:Sm S L n)(q:Int):(0≤(gN S.N q).refs∧(gN S.N q).refs≤999)∧∀k∈kd (gN S.N q),0≤k∧k≤999:=by
  unfold gN;cases e:S.N q with
  | none=>simp[nd0,kd]
  | some x=>have h1:=h.ok.2.2.2 q x e;have h2:=h.kid q x e;simp only[Option.getD_some];exact ⟨by omega,h2⟩
theorem yI {ee:Bool}(n:Int)(hn: -999≤n∧n≤1000)(F:List HProp):Ct Tryz.prog 41 [I n] ([qG ee]++F) (R1 (Str (thr n)) (qG ee::F)):=by
  show Ct Tryz.prog 41 [I n] (qG ee::F) _;have h4:=znz hn;refine Ct.of func41 rR 13 ntmps41 (by simp) fun w0=>?_;refine gS (gA rR (qb (gS (gM rR ?_))));refine g_l (qi (Pre:=[qG ee]) call74 rR (zuG n (by omega) (by omega))) rR ?_;rintro _ _ ⟨rfl,rfl⟩;refine gA rR (qb (gS (gM rR (g_v (wi underlying9 rR) rR (g_v (zce rR rR (w64 (by omega))) rR (g_v (zw1 (r:=((3 - (Lib.itoa n).length:Nat):Int)) rR rR (by split <;> omega)) rR ?_))))));refine g_l (qi (Pre:=[]) call75 rR (zpq (3 - (Lib.itoa n).length) (by omega))) rR ?_;rintro _ _ ⟨rfl,rfl⟩;refine gM rR (g_v (wN rR rR (by rw[Lib.repeatL_length];simp;omega)) rR (gA rR (qb ?_)));refine qn rR rR ?_;exact rfl
theorem wL (s:Bytes)(k:Nat)(hk:k≤5)(hs:s.length≤9223372036854775807)(F:List HProp):Ct Tryz.prog 152 [Str s,I k] ([za5]++F) (zij k s (za5::F)):=by
  show Ct Tryz.prog 152 [Str s,I k] (za5::F) _;refine Ct.of func152 rR 50 ntmps152 (by simp) fun w0=>?_;refine gS (gA rR (gA rR (qb (qf (gS (gM rR (g_v (wi underlying9 rR) rR (gM rR (g_v (zdk rR rR (w64 (by omega))) rR (g_v (qJ rR rR) rR (qb ?_)))))))))));refine qg rR (fun h14=>?_) (fun h14=>?_)
  · simp at h14;refine gS (gA rR (gA rR (qb ?_)));exact zjr rfl (by unfold wG;rw[if_pos (by omega)]) rfl rfl
  · simp at h14;refine qh (gS (gA rR (qb (qf (qf ?_)))));refine yG 3 1 (yY []) rR ?_;refine qo (gM rR (gM rR (qb (qj ?_))));refine qE (α:=Nat×List Int×Option Addr×Nat) (fun z=>z.1≤k∧zbD z.1 s=some z.2.1) (fun z=>U [(0,Str s),(6,sl z.2.2.1 z.1 z.2.2.2),(15,I k),(16,I z.1)]) (fun z=>owL 3 1 z.2.2.1 z.2.2.2 (yY z.2.1)::za5::F) (fun z=>k - z.1) (0,[],none,0) ⟨by simp,rfl⟩ [0,6,15,16] rfl rR ?_;rintro ⟨i,l,s6,c6⟩ ⟨hi,hl⟩;simp only[] at hi hl ⊢;have hll:=zff hl;refine gS (g_v (qJ rR rR) rR (qb (qf ?_)));refine qg rR (fun h17=>?_) (fun h17=>?_)
    · simp at h17;have hik:i<k:=(by omega);refine qh (qf (qj (gS (gM rR (gA rR (qb (qf ?_)))))));have hq3l:((s.take (3*i+3)).drop (3*i)).length=3:=(by simp;omega);have hq3:((s.take (3*i+3)).drop (3*i))=(s.drop (3*i)).take 3:=(by rw[List.drop_take];congr 1;omega);refine qo (gM rR (gM rR (g_v (zdk rR rR (w64 (by omega))) rR (gM rR (g_v (zdk rR rR (w64 (by omega))) rR (g_v (qu rR rR (w64 (by omega))) rR (g_v (zag (l:=3*i) (h:=3*i+3) underlying9 rR rR (by omega) rR (by omega) (by omega) (by omega)) rR ?_)))))));refine g_l (qi (Pre:=[za5]) call188 rR (zv5 ((s.take (3*i+3)).drop (3*i)) hq3l)) rR ?_;rintro _ _ ⟨rfl,⟨v,hv,rfl⟩ | ⟨hv,t0,p0,rfl⟩⟩
      · have hvr:=zq7 hq3l hv;refine gM rR (g_v (qd (v:=I v) rR rR) rR (g_v (qd (v:=zbV 0 0) rR rR) rR (gA rR (gA rR (qb (qf (qf ?_)))))));refine wS [(0,false),(1,false),(2,false),(3,false),(5,false),(6,false),(7,false),(8,false),(9,false),(10,false),(11,false),(4,true),(12,false),(13,false)] (by kernel_rfl) (by kernel_rfl) rR (by kernel_rfl) ?_;refine dM rR rR rR (d_v rR (yf (T:=0) (f:=0) underlying37 rR) rR (dM rR rR rR (qQ rR rR rR rR (qp rR) rR (qQ rR rR rR rR (qp rR) rR (qQ rR rR rR rR (qp rR) rR (qQ rR rR rR rR (zdk rR rR (w64 (by omega))) rR (qQ rR rR rR rR (qp rR) rR (qQ rR rR rR rR (zdk rR rR (w64 (by omega))) rR (qQ rR rR rR rR (qu rR rR (w64 (by omega))) rR (qQ rR rR rR rR (zag (l:=3*i) (h:=3*i+3) underlying9 rR rR (by omega) rR (by omega) (by omega) (by omega)) rR ?_))))))))));refine d_gl rR rR rR rR (qi (Pre:=[za5]) call41 rR (yI (v) (by omega))) rR ?_;rintro _ _ ⟨rfl,rfl⟩;refine qQ rR rR rR rR (zhj rR rR) rR (d_v rR (zaH rR rR) rR ?_);refine yc ?_;refine qg rR (fun h43=>?_) (fun h43=>?_)
        · have hv3:¬thr v=((s.take (3*i+3)).drop (3*i)):=(by simpa using h43);refine gS (gA rR (gA rR (qb ?_)));exact zjr rfl (by
            unfold wG;rw[if_neg (by omega)];have hn1:zbD (i+1) s=none:=(by rw[zfs hl,←hq3];unfold zri;rw[hv];simp only;rw[if_neg hv3];rfl);have:=ziw (k:=k - (i+1)) hn1
            rwa [show i+1+(k - (i+1))=k by omega] at this) rfl rfl
        · have hv3:thr v=((s.take (3*i+3)).drop (3*i)):=(by simpa using h43);refine qh (qo (gM rR (gM rR ?_)));refine g_l (qs [[I v]] underlying61 sizeOf3 zeroValue3 rR rR rR (by simp) (by decide) (by decide)) rR ?_;rintro _ _ ⟨b46,rfl,rfl⟩;refine g_l (yC underlying61 sizeOf3 zeroValue3 rfl Tryz.typeInfo3 (by decide) rfl rfl (by rw[wu];exact zff hl) rfl (by simp) (by intro r hr;simp at hr;subst hr;rfl) ⟨by omega,by decide,by decide⟩) rfl ?_;rintro _ _ ⟨s47,c47,rfl,rfl⟩;rw[show yY l++ [[I v]]=yY (l++ [v]) by simp[yY]];refine gA rR (qb (qF (qo (g_v (qu rR rR (w64 (by omega))) rR (gM rR (qb ?_))))));exact qm (i+1,l++ [v],s47,c47) ⟨by simp only[];omega,by simp only[];rw[zfs hl,←hq3];unfold zri;rw[hv];simp only;rw[if_pos hv3];rfl⟩ (by simp only[];omega) [0,6,15,16] rfl rfl
      · refine gM rR (g_v (qd (v:=I 0) rR rR) rR (g_v (qd (v:= .iface t0 (ptr p0 0)) rR rR) rR (gA rR (gA rR (qb (qf (qf ?_)))))));refine wS [(0,false),(1,false),(2,false),(3,false),(4,false),(5,false),(6,false),(7,false),(8,false),(9,false),(10,false),(11,false),(12,false),(13,false)] (by kernel_rfl) (by kernel_rfl) rR (by kernel_rfl) ?_;refine dM rR rR rR (d_v rR (v_iNe underlying37 rR) rR (dM rR rR rR (qT rR rR rR rR rR (qT rR rR rR rR rR (qT rR rR rR rR rR (qT rR rR rR rR rR (qT rR rR rR rR rR (qT rR rR rR rR rR (qT rR rR rR rR rR (qT rR rR rR rR rR (qT rR rR rR rR rR (qT rR rR rR rR rR (d_v rR (zbp rR rR rR) rR ?_)))))))))))));refine yc ?_;refine qg rR (fun h43=>?_) (fun h43=>?_)
        · refine gS (gA rR (gA rR (qb ?_)));exact zjr rfl (by
            unfold wG;rw[if_neg (by omega)];have hn1:zbD (i+1) s=none:=(by rw[zfs hl,←hq3];unfold zri;rw[hv];rfl);have:=ziw (k:=k - (i+1)) hn1
            rwa [show i+1+(k - (i+1))=k by omega] at this) rfl rfl
        · cases h43
    · simp at h17;obtain rfl:i=k:=(by omega);refine qz rR ?_;refine gS (gM rR (gA rR (gA rR (qb ?_))));exact zre rfl (by unfold wG;rw[if_neg (by omega)];exact hl) rfl rfl
theorem zcG {ee:Bool}(b:Nat)(S:SI)(L:List Pt)(n:Int)(h:Sm S L n)(F:List HProp):Ct Tryz.prog 11 [ptr b 0] ([qG ee,vlt b S L n]++F) (RSl 104 3 (qY S L n).length (chR (qY S L n)) (qG ee::vlt b S L n::F)):=by
  show Ct Tryz.prog 11 [ptr b 0] (qG ee::vlt b S L n::F) _;have hok:=h.ok;have hll:=h.len;have hib:=zaI 40 S.B;have hin:=zaI 24 S.N;refine Ct.of func11 rR 133 ntmps11 (by simp) fun w0=>?_;refine zaz b S L n ?_;intro x s c;refine zai x S ?_;intro p r;refine yG 104 3 (chR ((zaL 40 S.B).take 0)) rR ?_;refine gS (gA rR (qb (gS (gA rR (qb (qf (gS (gM rR (g_v (qc rR) rR (g_v (qa 0 underlying68 rR rR sizeOf65 (by decide) rR) rR (g_v (qe (v:=ptr x 0) isAgg65 rR rR) rR (g_v (qc rR) rR (g_v (qa 0 underlying95 rR rR sizeOf92 (by decide) rR) rR (g_v (qe (v:=ptr p 0) isAgg92 rR rR) rR ?_))))))))))))));refine g_l (qi (Pre:=[plb p S.B]) call40 rR (zhq p S.B)) rR ?_;rintro _ _ ⟨s22,c22,rfl,rfl⟩;refine yB s22 ?_;refine zcc p S.B ?_;intro r2;refine g_v (yo underlying61 rR) rR (gM rR (qb (qj ?_)));refine qE (α:=Nat×Option Addr×Nat) (fun z=>z.1≤(ids 40 S.B).length) (fun z=>U [(0,ptr b 0),(3,sl z.2.1 z.1 z.2.2),(22,sl s22 (ids 40 S.B).length c22),(23,I (ids 40 S.B).length),(24,I z.1)]) (fun z=>owL 104 3 z.2.1 z.2.2 (chR ((zaL 40 S.B).take z.1))::roL 1 s22 (yY (ids 40 S.B))::qG ee::pt b (.cells #[ptr x 0,sl s (L).length c,I (n)] 68 (0,0))::pt x (.cells #[ptr p 0, .map (some r)] 95 (0,0))::pt p (.cells #[.map (some r2)] 101 (0,0))::mp r2 (tb encB 40 S.B)::mp r (tb yQ 24 S.N)::owL 70 4 s c (ptR (L))::F) (fun z=>(ids 40 S.B).length - z.1) (0,none,0) (by simp) [0,3,22,23,24] rfl rR ?_;rintro ⟨k,s3,c3⟩ hk;simp only[] at hk ⊢;refine gS (g_v (qJ rR rR) rR (qb (qf ?_)));refine qg rR (fun h25=>?_) (fun h25=>?_)
  · simp at h25;have hki:k<(ids 40 S.B).length:=(by omega);obtain ⟨q,hq⟩:∃q,(ids 40 S.B)[k]? =some q:=⟨_,List.getElem?_eq_getElem hki⟩;obtain ⟨hqr,hqs⟩:=mem_ids.1 (List.mem_of_getElem? hq);have hgb:=gB_sm h q;refine qh (qf (qj (gS (g_v (qA k underlying61 sizeOf3 rR rR rR hki (by rw[wu];exact hki)) rR (g_v (yd (v:=I q) isAgg3 rR (zcK hq) rR) rR (gA rR (qb (gS (gM rR (g_v (qc rR) rR (g_v (qa 0 underlying68 rR rR sizeOf65 (by decide) rR) rR (g_v (qe (v:=ptr x 0) isAgg65 rR rR) rR (g_v (qc rR) rR (g_v (qa 0 underlying95 rR rR sizeOf92 (by decide) rR) rR (g_v (qe (v:=ptr p 0) isAgg92 rR rR) rR (g_v (qc rR) rR (g_v (qa 0 underlying101 rR rR sizeOf99 (by decide) rR) rR (g_v (qe (v:= .map (some r2)) isAgg99 rR rR) rR (gM rR (g_v (yF (v:=encB (gB S.B q)) underlying99 underlying3 zeroValue98 rR rR (lkBv hok.1 q)) rR ?_))))))))))))))))))));refine g_l (qy #[Str [],I 0] zeroValue98) rR ?_;rintro _ _ ⟨b6,rfl,rfl⟩;refine yp (qq (cs:=#[Str [],I 0]) (vs:=[Str (gB S.B q).1,I (gB S.B q).2]) #[Str (gB S.B q).1,I (gB S.B q).2] sizeOf98 rR rR rR rR (by simp) (qv rR)) ?_;rintro _ _ rfl;refine qb ?_;refine yw (Lf:=[pt b6 (.cells #[Str (gB S.B q).1,I (gB S.B q).2] 98 (0,0))]) [(0,false),(1,false),(4,false),(5,false),(7,false),(8,false),(2,true),(3,false),(6,true),(9,false),(10,false),(11,true),(12,true),(13,false)] (by kernel_rfl) (by kernel_rfl) rR (by kernel_rfl) ?_;refine dM rR rR rR (dM rR rR rR (d_v rR (qa 1 underlying98 rR rR sizeOf3 (by decide) rR) rR (d_v rR (qe (v:=I (gB S.B q).2) isAgg3 rR rR) rR (d_v rR (qa 0 underlying98 rR rR sizeOf9 (by decide) rR) rR (d_v rR (qe (v:=Str (gB S.B q).1) isAgg9 rR rR) rR ?_)))));refine d_l rR (qi (Pre:=[qG ee]) call41 rR (yI (q) (by omega))) rR ?_;rintro _ _ ⟨rfl,rfl⟩;refine d_v rR (wN rR rR (by have:=wa (n:=q) (by omega);simp;omega)) rR ?_;refine d_l rR (qi (Pre:=[qG ee]) call41 rR (yI ((gB S.B q).2) (by omega))) rR ?_;rintro _ _ ⟨rfl,rfl⟩;refine d_v rR (wN rR rR (by have:=wa (n:=(gB S.B q).2) (by omega);omega)) rR (d_v rR (qP rR (zdV _ rR _ rR)) rR ?_);refine d_l rfl (qs [yu (zwQ q (gB S.B q))] underlying34 sizeOf104 zeroValue104 rfl rfl rfl (by intro r hr;simp at hr;subst hr;rfl) (by decide) (by decide)) rfl ?_;rintro _ _ ⟨b51,rfl,rfl⟩;refine d_l rfl (yC underlying34 sizeOf104 zeroValue104 rfl Tryz.typeInfo104 (by decide) rfl rfl (by rw[qO];simp[zaL,zaS];omega) rfl (by intro r hr;simp at hr;subst hr;rfl) (by intro r hr;simp at hr;subst hr;rfl) ⟨by omega,by decide,by decide⟩) rfl ?_;rintro _ _ ⟨s52,c52,rfl,rfl⟩;rw[zcS,zaC (zts hq)];refine d_v rR (qx rR) rR ?_;refine yc ?_;refine qF (qo (g_v (qu rR rR (w64 (by omega))) rR (gM rR (qb ?_))))
    exact qm (k+1,s52,c52) (by simp only[];omega) (by simp only[];omega) [0,3,22,23,24] rfl rfl
  · simp at h25;obtain rfl:k=(ids 40 S.B).length:=(by omega);rw[List.take_of_length_le (by rw[zpz];omega)];refine qz rR ?_;refine qf (qf ?_);refine wj r2 p S.B (.refl _) ?_;refine yr p r x S (.refl _) ?_;refine qo (gM rR (g_v (qc rR) rR (g_v (qa 0 underlying68 rR rR sizeOf65 (by decide) rR) rR (g_v (qe (v:=ptr x 0) isAgg65 rR rR) rR ?_))));refine g_l (qi (Pre:=[ixl x S]) call42 rR (zfZ x S)) rR ?_;rintro _ _ ⟨s58,c58,rfl,rfl⟩;refine yB s58 ?_;refine zai x S ?_;intro p r;refine g_v (yo underlying61 rR) rR (gM rR (qb ?_));refine zcX s3 (chR (zaL 40 S.B++(zaS 24 S.N).take 0)) (by simp) ?_;refine qj ?_;refine qE (α:=Nat×Option Addr×Nat) (fun z=>z.1≤(ids 24 S.N).length) (fun z=>U [(0,ptr b 0),(3,sl z.2.1 ((ids 40 S.B).length+z.1) z.2.2),(58,sl s58 (ids 24 S.N).length c58),(59,I (ids 24 S.N).length),(60,I z.1)]) (fun z=>owL 104 3 z.2.1 z.2.2 (chR (zaL 40 S.B++(zaS 24 S.N).take z.1))::roL 1 s58 (yY (ids 24 S.N))::qG ee::pt b (.cells #[ptr x 0,sl s (L).length c,I (n)] 68 (0,0))::pt x (.cells #[ptr p 0, .map (some r)] 95 (0,0))::plb p S.B::mp r (tb yQ 24 S.N)::owL 70 4 s c (ptR (L))::F) (fun z=>(ids 24 S.N).length - z.1) (0,s3,c3) (by simp) [0,3,58,59,60] rfl rR ?_;rintro ⟨k,s3,c3⟩ hk;simp only[] at hk ⊢;refine gS (g_v (qJ rR rR) rR (qb (qf ?_)));refine qg rR (fun h61=>?_) (fun h61=>?_)
    · simp at h61;have hki:k<(ids 24 S.N).length:=(by omega);obtain ⟨q,hq⟩:∃q,(ids 24 S.N)[k]? =some q:=⟨_,List.getElem?_eq_getElem hki⟩;obtain ⟨hqr,hqs⟩:=mem_ids.1 (List.mem_of_getElem? hq);have hgn:=zu1 h q;refine qh (qf (qj (gS (g_v (qA k underlying61 sizeOf3 rR rR rR hki (by rw[wu];exact hki)) rR (g_v (yd (v:=I q) isAgg3 rR (zcK hq) rR) rR (gA rR (qb (gS (gM rR (g_v (qc rR) rR (g_v (qa 0 underlying68 rR rR sizeOf65 (by decide) rR) rR (g_v (qe (v:=ptr x 0) isAgg65 rR rR) rR (g_v (qc rR) rR (g_v (qa 1 underlying95 rR rR sizeOf93 (by decide) rR) rR (g_v (qe (v:= .map (some r)) isAgg93 rR rR) rR (gM rR (g_v (yF (v:=yQ (gN S.N q)) underlying93 underlying3 zeroValue107 rR rR (lkN hok.2.2.1 _)) rR ?_)))))))))))))))));refine g_l (qy #[I 0,I 0,I 0,I 0,I 0] zeroValue107) rR ?_;rintro _ _ ⟨b9,rfl,rfl⟩;refine yp (qq (cs:=#[I 0,I 0,I 0,I 0,I 0]) (vs:=ndC (gN S.N q)) (ndC (gN S.N q)).toArray sizeOf107 rR rR rR rR (by simp) (qv rR)) ?_;rintro _ _ rfl;refine qb (gS (g_v (qa 4 underlying107 rR rR sizeOf3 (by decide) rR) rR (g_v (qe (v:=I (gN S.N q).refs) isAgg3 rR rR) rR ?_)));refine g_l (qi (Pre:=[qG ee]) call41 rR (yI ((gN S.N q).refs) (by omega))) rR ?_;rintro _ _ ⟨rfl,rfl⟩;refine gA rR (qb (qf (gS (g_v (qa 0 underlying107 rR rR sizeOf105 (by decide) rR) rR (g_v (qI (vs:=kdC (gN S.N q)) isAgg105 sizeOf105 rR rR ziE) rR (gM rR (qb (qj ?_))))))));refine qE (α:=Nat) (fun i=>i≤4) (fun i=>U [(0,ptr b 0),(3,sl s3 ((ids 40 S.B).length+k) c3),(58,sl s58 (ids 24 S.N).length c58),(59,I (ids 24 S.N).length),(60,I k),(8,I q),(10,Str (zoS (gN S.N q) i)),(77, .agg (kdC (gN S.N q)).toArray),(78,I i)]) (fun i=>owL 104 3 s3 c3 (chR (zaL 40 S.B++(zaS 24 S.N).take k))::roL 1 s58 (yY (ids 24 S.N))::qG ee::pt b (.cells #[ptr x 0,sl s (L).length c,I (n)] 68 (0,0))::pt x (.cells #[ptr p 0, .map (some r)] 95 (0,0))::plb p S.B::mp r (tb yQ 24 S.N)::owL 70 4 s c (ptR (L))::F) (fun i=>4 - i) 0 (by omega) [0,3,58,59,60,8,10,77,78] rfl (by rw[zuv];rfl) ?_;intro i hi;refine gS (g_v (qJ rR rR) rR (qb (qf ?_)));refine qg rR (fun h79=>?_) (fun h79=>?_)
      · simp at h79;have hi4:i<4:=(by omega);refine qh (qf (qj (gS (g_v (zch (v:=I (kat (gN S.N q) i)) i underlying105 sizeOf3 isAgg3 rR rR rR hi4 (by simpa using ze2 (gN S.N q) i hi4)) rR (gA rR (qb (qo (gM rR (gM rR ?_)))))))));refine g_l (qi (Pre:=[qG ee]) call41 rR (yI (kat (gN S.N q) i) (by have:=hgn.2 _ (zkL (n:=gN S.N q) hi4);omega))) rR ?_;rintro _ _ ⟨rfl,rfl⟩;refine g_v (wN rR rR (by have h1:=zgm (n:=gN S.N q) (by omega) (fun k hk=>by have:=hgn.2 k hk;omega) i hi;have:=wa (n:=kat (gN S.N q) i) (by have:=hgn.2 _ (zkL (n:=gN S.N q) hi4);omega);omega)) rR (gA rR (qb (qF (qo (g_v (qu rR rR (w64 (by omega))) rR (gM rR (qb ?_)))))));refine qm (i+1) (by omega) (by omega) [0,3,58,59,60,8,10,77,78] rfl ?_;rw[←ztY _ i hi4]
        rfl
      · simp at h79;obtain rfl:i=4:=(by omega);rw[zrI];refine qz rR ?_;refine qo (gM rR (gM rR ?_));refine g_l (qi (Pre:=[qG ee]) call41 rR (yI (q) (by omega))) rR ?_;rintro _ _ ⟨rfl,rfl⟩;refine g_v (wN rR rR (by have:=wa (n:=q) (by omega);simp;omega)) rR (gM rR (g_v (qP rR (zdV _ rR _ rR)) rR ?_));refine g_l (qs [yu (zwO q (gN S.N q))] underlying34 sizeOf104 zeroValue104 rfl rfl rfl (by intro r hr;simp at hr;subst hr;rfl) (by decide) (by decide)) rfl ?_;rintro _ _ ⟨b92,rfl,rfl⟩;refine g_l (yC underlying34 sizeOf104 zeroValue104 rfl Tryz.typeInfo104 (by decide) rfl rfl (by rw[qO];simp[zaL,zaS];omega) rfl (by intro r hr;simp at hr;subst hr;rfl) (by intro r hr;simp at hr;subst hr;rfl) ⟨by omega,by decide,by decide⟩) rfl ?_;rintro _ _ ⟨s93,c93,rfl,rfl⟩;rw[zcS,List.append_assoc,zaC (zsN hq)];refine gA rR (qb (qF (qo (g_v (qu rR rR (w64 (by omega))) rR (gM rR (qb ?_))))));exact qm (k+1,s93,c93) (by simp only[];omega) (by simp only[];omega) [0,3,58,59,60] rfl rfl
    · simp at h61;obtain rfl:k=(ids 24 S.N).length:=(by omega);rw[List.take_of_length_le (l:=zaS 24 S.N) (by rw[zpW];omega)];refine qz rR ?_;refine qf (gS (gM rR (g_v (qc rR) rR (g_v (qa 1 underlying68 rR rR sizeOf66 (by decide) rR) rR (g_v (qe (v:=sl s (L).length c) isAgg66 rR rR) rR (g_v (yo underlying66 rR) rR (gM rR (qb ?_))))))));refine zcX s3 (chR (zaL 40 S.B++zaS 24 S.N++(L.map zj8).take 0)) (by simp) ?_;refine qj ?_;refine qE (α:=Nat×Option Addr×Nat) (fun z=>z.1≤L.length) (fun z=>U [(0,ptr b 0),(3,sl z.2.1 ((ids 40 S.B).length+(ids 24 S.N).length+z.1) z.2.2),(98,sl s L.length c),(99,I L.length),(100,I z.1)]) (fun z=>owL 104 3 z.2.1 z.2.2 (chR (zaL 40 S.B++zaS 24 S.N++(L.map zj8).take z.1))::qG ee::pt b (.cells #[ptr x 0,sl s (L).length c,I (n)] 68 (0,0))::pt x (.cells #[ptr p 0, .map (some r)] 95 (0,0))::plb p S.B::mp r (tb yQ 24 S.N)::owL 70 4 s c (ptR (L))::F) (fun z=>L.length - z.1) (0,s3,c3) (by simp) [0,3,98,99,100] rfl rR ?_;rintro ⟨k,s3,c3⟩ hk;simp only[] at hk ⊢;refine gS (g_v (qJ rR rR) rR (qb (qf ?_)));refine qg rR (fun h101=>?_) (fun h101=>?_)
      · simp at h101;have hkn:k<L.length:=(by omega);obtain ⟨p0,hp⟩:∃p0,L[k]? =some p0:=⟨_,List.getElem?_eq_getElem hkn⟩;have hps:=h.pts p0 (List.mem_of_getElem? hp);refine qh (qf (qj (gS (g_v (qA (k) underlying66 sizeOf70 rR rR rR hkn (by rw[wq];exact hkn)) rR (g_v (ym (row:=yn p0) isAgg70 sizeOf70 rR (zcU hp) rR) rR ?_)))));refine g_l (qy #[I 0,I 0,I 0,I 0] zeroValue70) rR ?_;rintro _ _ ⟨b14,rfl,rfl⟩;refine yp (qq (cs:=#[I 0,I 0,I 0,I 0]) (vs:=yn (p0)) (yn (p0)).toArray sizeOf70 rR rR rR rR (by simp) (qv rR)) ?_;rintro _ _ rfl;refine qb ?_;refine yw (Lf:=[pt b14 (.cells (yn p0).toArray 70 (0,0))]) [(0,false),(1,false),(2,false),(5,false),(6,false),(8,false),(9,false),(12,false),(13,false),(3,true),(4,false),(7,true),(10,true),(11,false),(14,true),(15,false),(16,false),(17,true),(18,true),(19,false)] (by kernel_rfl) (by kernel_rfl) rR (by kernel_rfl) ?_;refine dM rR rR rR (d_v rR (qa 0 underlying70 rR rR sizeOf3 (by decide) rR) rR (d_v rR (qe (v:=I p0.id) isAgg3 rR rR) rR (d_v rR (qa 1 underlying70 rR rR sizeOf3 (by decide) rR) rR (d_v rR (qe (v:=I p0.disk) isAgg3 rR rR) rR (d_v rR (qa 2 underlying70 rR rR sizeOf3 (by decide) rR) rR (d_v rR (qe (v:=I p0.size) isAgg3 rR rR) rR (d_v rR (qa 3 underlying70 rR rR sizeOf3 (by decide) rR) rR (d_v rR (qe (v:=I p0.root) isAgg3 rR rR) rR ?_))))))));refine d_l rR (qi (Pre:=[qG ee]) call41 rR (yI (p0.id) (by omega))) rR ?_;rintro _ _ ⟨rfl,rfl⟩;refine d_v rR (wN rR rR (by have:=wa (n:=p0.id) (by omega);simp;omega)) rR ?_;refine d_l rR (qi (Pre:=[qG ee]) call41 rR (yI (p0.disk) (by omega))) rR ?_;rintro _ _ ⟨rfl,rfl⟩;refine d_l rR (qi (Pre:=[qG ee]) call41 rR (yI (p0.size) (by omega))) rR ?_;rintro _ _ ⟨rfl,rfl⟩;refine d_v rR (wN rR rR (by have:=wa (n:=p0.disk) (by omega);have:=wa (n:=p0.size) (by omega);omega)) rR ?_;refine d_l rR (qi (Pre:=[qG ee]) call41 rR (yI (p0.root) (by omega))) rR ?_;rintro _ _ ⟨rfl,rfl⟩;refine d_v rR (wN rR rR (by have:=wa (n:=p0.disk) (by omega);have:=wa (n:=p0.size) (by omega);have:=wa (n:=p0.root) (by omega);simp;omega)) rR (d_v rR (qP rR (zdV _ rR _ rR)) rR ?_);refine d_l rfl (qs [yu (zj8 p0)] underlying34 sizeOf104 zeroValue104 rfl rfl rfl (by intro r hr;simp at hr;subst hr;rfl) (by decide) (by decide)) rfl ?_;rintro _ _ ⟨b121,rfl,rfl⟩;refine d_l rfl (yC underlying34 sizeOf104 zeroValue104 rfl Tryz.typeInfo104 (by decide) rfl rfl (by rw[qO];simp[zaL,zaS];omega) rfl (by intro r hr;simp at hr;subst hr;rfl) (by intro r hr;simp at hr;subst hr;rfl) ⟨by omega,by decide,by decide⟩) rfl ?_;rintro _ _ ⟨s122,c122,rfl,rfl⟩;rw[zcS,List.append_assoc (zaL 40 S.B++zaS 24 S.N),zaC (show (L.map zj8)[k]? =some (zj8 p0) by simp[hp])]
        refine d_v rR (qx rR) rR ?_;refine yc ?_;refine qF (qo (g_v (qu rR rR (w64 (by omega))) rR (gM rR (qb ?_))));exact qm (k+1,s122,c122) (by simp only[];omega) (by simp only[];omega) [0,3,98,99,100] rfl rfl
      · simp at h101;obtain rfl:k=L.length:=(by omega);rw[List.take_of_length_le (l:=L.map zj8) (by simp)];refine qz rR ?_;refine gS (gM rR (gM rR (g_v (qc rR) rR (g_v (qa 2 underlying68 rR rR sizeOf3 (by decide) rR) rR (g_v (qe (v:=I n) isAgg3 rR rR) rR ?_)))));refine g_l (qi (Pre:=[qG ee]) call41 rR (yI (n) (by have:=h.n1;omega))) rR ?_;rintro _ _ ⟨rfl,rfl⟩;refine g_v (qP rR (zdV _ rR _ rR)) rR ?_;refine g_l (qs [yu (zoR n)] underlying34 sizeOf104 zeroValue104 rfl rfl rfl (by intro r hr;simp at hr;subst hr;rfl) (by decide) (by decide)) rfl ?_;rintro _ _ ⟨b131,rfl,rfl⟩;refine g_l (yC underlying34 sizeOf104 zeroValue104 rfl Tryz.typeInfo104 (by decide) rfl rfl (by rw[qO];simp[zaL,zaS];omega) rfl (by intro r hr;simp at hr;subst hr;rfl) (by intro r hr;simp at hr;subst hr;rfl) ⟨by omega,by decide,by decide⟩) rfl ?_;rintro _ _ ⟨s132,c132,rfl,rfl⟩;rw[zcS,show zaL 40 S.B++zaS 24 S.N++L.map zj8++ [zoR n]=qY S L n from rfl];refine gA rR (qb ?_);refine yr p r x S (.refl _) ?_;refine yk b x s c (S) (L) (n) ?_;exact wx rfl rfl rfl (by rw[zht])
def pvP (b:Nat)(st:PS)(z:Nat×Nat×Nat×Nat×Option Addr×Nat):List HProp:=[pt b (.cells #[ptr z.1 0,sl z.2.2.2.2.1 st.L.length z.2.2.2.2.2,I st.n] 68 (0,0)),pt z.1 (.cells #[ptr z.2.1 0, .map (some z.2.2.1)] 95 (0,0)),pt z.2.1 (.cells #[.map (some z.2.2.2.1)] 101 (0,0)),mp z.2.2.1 (tb yQ 999 st.N),mp z.2.2.2.1 (tb encB 999 st.B),owL 70 4 z.2.2.2.2.1 z.2.2.2.2.2 (ptR st.L)]
def pvl (b:Nat)(st:PS):HProp:=hx (pvP b st)
def zxZ (b:Nat)(st':Option PS)(F:List HProp):Value→List HProp→Prop:=fun v L'=>match st' with
  | none=>v=Bo false∧L'=F
  | some st=>v=Bo true∧L'=pvl b st::F
section
variable {c:Cx}{E:Env}{L:List HProp}{K:List KI}
theorem zep {F:List HProp}(b:Nat)(st:PS)[R:Rem L (pvl b st) F](k:∀x p r r2 s cc,G c K E (pt b (.cells #[ptr x 0,sl s st.L.length cc,I st.n] 68 (0,0))::pt x (.cells #[ptr p 0, .map (some r)] 95 (0,0))::pt p (.cells #[.map (some r2)] 101 (0,0))::mp r (tb yQ 999 st.N)::mp r2 (tb encB 999 st.B)::owL 70 4 s cc (ptR st.L)::F)):G c K E L:=zb1 (pvl b st) rfl fun z=>k z.1 z.2.1 z.2.2.1 z.2.2.2.1 z.2.2.2.2.1 z.2.2.2.2.2
theorem zeu {F:List HProp}(b x p r r2:Nat)(s:Option Addr)(cc:Nat)(st:PS)[Sp:Split L [pt b (.cells #[ptr x 0,sl s st.L.length cc,I st.n] 68 (0,0)),pt x (.cells #[ptr p 0, .map (some r)] 95 (0,0)),pt p (.cells #[.map (some r2)] 101 (0,0)),mp r (tb yQ 999 st.N),mp r2 (tb encB 999 st.B),owL 70 4 s cc (ptR st.L)] F](k:G c K E (pvl b st::F)):G c K E L:=
  zaY (A:=pvP b st) [pt b (.cells #[ptr x 0,sl s st.L.length cc,I st.n] 68 (0,0)),pt x (.cells #[ptr p 0, .map (some r)] 95 (0,0)),pt p (.cells #[.map (some r2)] 101 (0,0)),mp r (tb yQ 999 st.N),mp r2 (tb encB 999 st.B),owL 70 4 s cc (ptR st.L)] (pvl b st) (x,p,r,r2,s,cc) rfl rfl k
theorem zbr {F:List HProp}{b:Nat}{R:Option PS}{vs:List Value}(hR:c.R=zxZ b R F)(he:R=none)(hr:zbn E c.fn.results.toList=some vs)(hv:tup vs=Bo false)[S:Sub L F](hds:c.n.ds=[]:=by rfl):G c (.code .ret::K) E L:=
  fun a w hE hS=>wp_ret (yb (qw (hds:=hds) hr hE (S.sat hS) (by rw[hR,he];exact ⟨hv,rfl⟩)))
theorem zdW {F:List HProp}{b:Nat}{R:Option PS}{st:PS}{vs:List Value}(hR:c.R=zxZ b R F)(he:R=some st)(hr:zbn E c.fn.results.toList=some vs)(hv:tup vs=Bo true)[S:Sub L (pvl b st::F)](hds:c.n.ds=[]:=by rfl):G c (.code .ret::K) E L:=
  fun a w hE hS=>wp_ret (yb (qw (hds:=hds) hr hE (S.sat hS) (by rw[hR,he];exact ⟨hv,rfl⟩)))
end
theorem zrZ (n:Nd)(r:Int)(w:World):(Instr.build 107 #[(0, .agg (kdC n).toArray),(1,I r)]).run Tryz.prog w= .ok (yQ (rf n r)) w:=by
  simp[Instr.build,zeroValue107,runUnderlying107,sizeOf105,sizeOf3,Instr.fill,qV,show (I r).cells=#[I r] from rfl,rf]
theorem rows5 {r k0 k1 k2 k3:Int}:∀k v,(kdC ⟨k0,k1,k2,k3,r⟩)[k]? =some v→(yY [r,k0,k1,k2,k3])[1+k]? =some [v]
  | 0,v,h=>by simpa [yY] using h
  | 1,v,h=>by simpa [yY] using h
  | 2,v,h=>by simpa [yY] using h
  | 3,v,h=>by simpa [yY] using h
  | k+4,v,h=>by simp at h
theorem y_of {y:UInt8}{n:Nat}(hn:n<256)(h:(y.toNat:Int)=n):y=UInt8.ofNat n:=by
  rw[←UInt8.toNat_inj,UInt8.toNat_ofNat'];omega
theorem znG {b:Bool}{P:Prop}(h:b=true ↔ P)(hp:P):tup [Bo b]=Bo true:=by rw[h.2 hp];rfl
theorem ztz {b:Bool}{P:Prop}(h:b=true ↔ P)(hp:¬P):tup [Bo b]=Bo false:=by
  cases b with
  | true=>exact absurd (h.1 rfl) hp
  | false=>rfl
theorem zfM (b:Nat)(st:PS)(c:ChangeM)(hL:st.L.length≤1000000)(hkl:c.key.length≤9223372036854775807)(hvl:c.val.length≤9223372036854775807)(F:List HProp):Ct Tryz.prog 109 [ptr b 0, .agg (yu c).toArray] ([za5,pvl b st]++F) (zxZ b (zea st c) (za5::F)):=by
  show Ct Tryz.prog 109 [ptr b 0, .agg (yu c).toArray] (za5::pvl b st::F) _;refine Ct.of func109 rR 214 ntmps109 (by simp) fun w0=>?_;refine gS ?_;refine g_l (wR (yu c).toArray rR rR) rR ?_;rintro _ _ ⟨b3,rfl,rfl⟩;refine gA rR (qb (qf (gS (g_v (qa 0 underlying104 rR rR sizeOf9 (by decide) rR) rR (g_v (qe (v:=Str c.key) isAgg9 rR rR) rR (g_v (zaF rR rR) rR (qb ?_)))))));refine qg rR (fun h17=>?_) (fun h17=>?_)
  · have hX:c.key=[120]:=(by simpa using h17);refine gS (g_v (qa 1 underlying104 rR rR sizeOf9 (by decide) rR) rR (g_v (qe (v:=Str c.val) isAgg9 rR rR) rR ?_));refine g_l (qi (Pre:=[za5]) call152 rR (wL (c.val) 1 (by decide) hvl)) rR ?_;rintro _ _ hnv;unfold zij at hnv;rcases hn1:wG 1 (c.val) with _ | l1 <;> rw[hn1] at hnv
    · obtain ⟨rfl,rfl⟩:=hnv;refine gM rR (g_v (qd (v:=sl none 0 0) rR rR) rR (g_v (qd (v:=Bo false) rR rR) rR (gA rR (gA rR (qb (qf (gS (g_v (qa 1 underlying104 rR rR sizeOf9 (by decide) rR) rR (g_v (qe (v:=Str c.val) isAgg9 rR rR) rR (g_v (zaF rR rR) rR (qb ?_)))))))))));refine qg rR (fun h26=>?_) (fun h26=>?_)
      · have h26:c.val=[49,48,48,48]:=(by simpa using h26);refine qf ?_;refine zep b st ?_;intro x p r r2 s cc;refine qo (gM rR (g_v (qc rR) rR (g_v (qa 2 underlying68 rR rR sizeOf3 (by decide) rR) rR ?_)));refine yp (qH #[ptr x 0,sl s st.L.length cc,I 1000] sizeOf3 rR rR rR (by simp) rR) ?_;rintro _ _ rfl;refine qb (gS (gA rR (qb ?_)));refine zeu b x p r r2 s cc ({st with n:=1000}) ?_;exact zdW (st:={st with n:=1000}) rfl (by unfold zea;rw[if_pos hX];unfold xF;rw[if_pos h26]) rfl rfl
      · have h26:¬c.val=[49,48,48,48]:=(by simpa using h26);refine qh (qf (gS (gM rR (qb ?_))));refine yR rR ?_;refine qh (gS (gM rR (gM rR (yH rR rR rR rR (yH rR rR rR rR (yH rR rR rR rR (yH rR rR rR rR (g_v (zau rR rR rR) rR (gA rR (qb ?_))))))))));exact zbr rfl (by unfold zea;rw[if_pos hX];unfold xF;rw[if_neg h26,hn1]) rfl rfl
    · obtain ⟨sa1,ca1,rfl,rfl⟩:=hnv;obtain ⟨v,rfl⟩:=len1 (zaf hn1).1;have hvr1:=(wz hn1).2;have hln1:=(zaf hn1).2;refine gM rR (g_v (qd (v:=sl sa1 1 ca1) rR rR) rR (g_v (qd (v:=Bo true) rR rR) rR (gA rR (gA rR (qb (qf (gS (g_v (qa 1 underlying104 rR rR sizeOf9 (by decide) rR) rR (g_v (qe (v:=Str c.val) isAgg9 rR rR) rR (g_v (zaF rR rR) rR (qb ?_)))))))))));refine qg rR (fun h26=>?_) (fun h26=>?_)
      · have h26:c.val=[49,48,48,48]:=(by simpa using h26);refine qf ?_;refine zep b st ?_;intro x p r r2 s cc;refine qo (gM rR (g_v (qc rR) rR (g_v (qa 2 underlying68 rR rR sizeOf3 (by decide) rR) rR ?_)));refine yp (qH #[ptr x 0,sl s st.L.length cc,I 1000] sizeOf3 rR rR rR (by simp) rR) ?_;rintro _ _ rfl;refine qb (gS (gA rR (qb ?_)));refine zeu b x p r r2 s cc ({st with n:=1000}) ?_;exact zdW (st:={st with n:=1000}) rfl (by unfold zea;rw[if_pos hX];unfold xF;rw[if_pos h26]) rfl rfl
      · have h26:¬c.val=[49,48,48,48]:=(by simpa using h26);refine qh (qf (gS (gM rR (qb ?_))));refine wV rR ?_;refine zep b st ?_;intro x p r r2 s cc;refine qo (gM rR (gM rR (g_v (qA 0 underlying61 sizeOf3 rR rR rR (by decide) (by simp[yY])) rR (g_v (yd (v:=I v) isAgg3 rR rR rR) rR (g_v (qc rR) rR (g_v (qa 2 underlying68 rR rR sizeOf3 (by decide) rR) rR ?_))))));refine yp (qH #[ptr x 0,sl s st.L.length cc,I v] sizeOf3 rR rR rR (by simp) rR) ?_;rintro _ _ rfl;refine qb (gS (gM rR (gM rR (qU rR rR rR (qa 1 underlying104 rR rR sizeOf9 (by decide) rR) rR (qU rR rR rR (qe (v:=Str c.val) isAgg9 rR rR) rR (qU rR rR rR (wi underlying9 rR) rR (qU rR rR rR (wh rR rR) rR (g_v (zas rR rR) rR (gA rR (qb ?_))))))))));by_cases h3:c.val.length=3
        · refine zeu b x p r r2 s cc ({st with n:=v}) ?_;exact zdW (st:={st with n:=v}) rfl (by unfold zea;rw[if_pos hX];unfold xF;rw[if_neg h26,hn1];simp only;rw[if_pos h3]) rfl (znG (by simp;omega) h3)
        · exact zbr rfl (by unfold zea;rw[if_pos hX];unfold xF;rw[if_neg h26,hn1];simp only;rw[if_neg h3]) rfl (ztz (P:=c.val.length=3) (by simp;omega) h3)
  · have hX:¬c.key=[120]:=(by simpa using h17);refine qh (qf (gS (g_v (qa 0 underlying104 rR rR sizeOf9 (by decide) rR) rR (g_v (qe (v:=Str c.key) isAgg9 rR rR) rR (g_v (wi underlying9 rR) rR (g_v (zd2 rR rR) rR (gM rR (qK rR rR (fun hg=>qa 2 underlying104 rR rR sizeOf4 (by decide) rR) rR rR (qK rR rR (fun hg=>qe (v:=Bo c.gone) isAgg4 rR rR) rR rR (g_v (zaH rR rR) rR (qb ?_)))))))))));refine qg rR (fun h51=>?_) (fun h51=>?_)
    · have hk4:c.key.length≠4∨c.gone=true:=(by simp at h51;rcases h51 with h | h;exact .inl (by omega);exact .inr h);refine gS (gA rR (qb ?_));exact zbr rfl (by unfold zea;rw[if_neg hX,if_pos hk4]) rfl rfl
    · have hk4:¬(c.key.length≠4∨c.gone=true):=(by simp at h51;rintro (h | h);exact h (by omega);rw[h51.2] at h;cases h);have hk44:c.key.length=4:=(by omega);refine qh (gS (g_v (qa 0 underlying104 rR rR sizeOf9 (by decide) rR) rR (g_v (qe (v:=Str c.key) isAgg9 rR rR) rR (g_v (zjY (l:=1) underlying9 rR rR rR (by omega)) rR ?_))));refine g_l (qi (Pre:=[za5]) call152 rR (wL (c.key.drop 1) 1 (by decide) (by simp;omega))) rR ?_;rintro _ _ hnv;unfold zij at hnv;rcases hn0:wG 1 (c.key.drop 1) with _ | l0 <;> rw[hn0] at hnv
      · obtain ⟨rfl,rfl⟩:=hnv;refine gM rR (g_v (qd (v:=sl none 0 0) rR rR) rR (g_v (qd (v:=Bo false) rR rR) rR (gA rR (gA rR (qb (qf (gS (gM rR (g_v (wo rR) rR (gM rR (yH rR rR rR rR (yH rR rR rR rR (yH rR rR rR rR (yH rR rR rR rR (g_v (zbp rR rR rR) rR (qb ?_))))))))))))))));refine qg rR (fun h66=>?_) (fun h66=>?_)
        · refine gS (gA rR (qb ?_));exact zbr rfl (by unfold zea;rw[if_neg hX,if_neg hk4,hn0]) rfl rfl
        · cases h66
      · obtain ⟨sa0,ca0,rfl,rfl⟩:=hnv;obtain ⟨id,rfl⟩:=len1 (zaf hn0).1;have hvr0:=(wz hn0).2;have hln0:=(zaf hn0).2;refine gM rR (g_v (qd (v:=sl sa0 1 ca0) rR rR) rR (g_v (qd (v:=Bo true) rR rR) rR (gA rR (gA rR (qb (qf (gS (gM rR (g_v (wo rR) rR (gM rR (qU rR rR rR (qp rR) rR (qU rR rR rR (qA 0 underlying61 sizeOf3 rR rR rR (by decide) (by simp[yY])) rR (qU rR rR rR (yd (v:=I id) isAgg3 rR rR rR) rR (qU rR rR rR (qJ rR rR) rR (g_v (zaH rR rR) rR (qb ?_))))))))))))))));refine qg rR (fun h66=>?_) (fun h66=>?_)
        · have hid0:id<1:=(by simpa using h66);refine gS (gA rR (qb ?_));exact zbr rfl (by unfold zea;rw[if_neg hX,if_neg hk4,hn0];simp only;rw[if_pos hid0]) rfl rfl
        · have hid1:¬id<1:=(by simpa using h66);have hidr:=hvr0 id (by simp);obtain ⟨y,hy⟩:∃y,c.key[0]? =some y:=⟨_,List.getElem?_eq_getElem (by omega)⟩;have hyh:c.key.head? =some y:=(by rw[List.head?_eq_getElem?];exact hy);refine qh (qf (gS (g_v (qa 0 underlying104 rR rR sizeOf9 (by decide) rR) rR (g_v (qe (v:=Str c.key) isAgg9 rR rR) rR (g_v (qW 0 underlying9 rR rR rR hy) rR (qb (qj (gS (g_v (wh rR rR) rR (gA rR (qb ?_)))))))))));refine qg rR (fun h70=>?_) (fun h70=>?_)
          · have h98:y=98:=y_of (n:=98) (by decide) (by simpa using h70);subst h98;refine gS (g_v (qa 1 underlying104 rR rR sizeOf9 (by decide) rR) rR (g_v (qe (v:=Str c.val) isAgg9 rR rR) rR ?_));refine g_l (qi (Pre:=[za5]) call152 rR (wL (c.val) 1 (by decide) hvl)) rR ?_;rintro _ _ hnv;unfold zij at hnv;rcases hn2:wG 1 (c.val) with _ | l2 <;> rw[hn2] at hnv
            · obtain ⟨rfl,rfl⟩:=hnv;refine gM rR (g_v (qd (v:=sl none 0 0) rR rR) rR (g_v (qd (v:=Bo false) rR rR) rR (gA rR (gA rR (qb (qf (gS (gM rR (qb ?_)))))))));refine yR rR ?_;refine qh (gS (gM rR (gM rR (yH rR rR rR rR (yH rR rR rR rR (yH rR rR rR rR (yH rR rR rR rR (g_v (zau rR rR rR) rR (gM rR (yH rR rR rR rR (yH rR rR rR rR (yH rR rR rR rR (yH rR rR rR rR (g_v (zau rR rR rR) rR (gM rR (yH rR rR rR rR (yH rR rR rR rR (yH rR rR rR rR (yH rR rR rR rR (g_v (zau rR rR rR) rR (gA rR (qb ?_))))))))))))))))))))));exact zbr rfl (by unfold zea;rw[if_neg hX,if_neg hk4,hn0];simp only;rw[if_neg hid1,ztj hyh];unfold bF;rw[show wG 1 c.val=none from hn2]) rfl rfl
            · obtain ⟨sa2,ca2,rfl,rfl⟩:=hnv;obtain ⟨rr,rfl⟩:=len1 (zaf hn2).1;have hvr2:=(wz hn2).2;have hln2:=(zaf hn2).2;refine gM rR (g_v (qd (v:=sl sa2 1 ca2) rR rR) rR (g_v (qd (v:=Bo true) rR rR) rR (gA rR (gA rR (qb (qf (gS (gM rR (qb ?_)))))))));refine wV rR ?_;refine zep b st ?_;intro x p r r2 s cc;refine zcJ (Lf:=[pt b (.cells #[ptr x 0,sl s st.L.length cc,I st.n] 68 (0,0)),pt x (.cells #[ptr p 0, .map (some r)] 95 (0,0)),pt p (.cells #[.map (some r2)] 101 (0,0)),pt b3 (.cells (yu c).toArray 104 (0,0)),owL 3 1 sa0 ca0 (yY [id]),owL 3 1 sa2 ca2 (yY [rr]),mp r2 (tb encB 999 st.B)]) [(0,false),(1,false),(2,false),(3,false),(4,false),(5,false),(6,false),(7,false),(8,false),(9,false),(10,false),(11,false),(12,false),(13,false),(14,false),(15,false),(16,false),(17,false),(18,false),(19,false)] 20 rR (by kernel_rfl) (by kernel_rfl) rR (by kernel_rfl) (by kernel_rfl) ?_;refine dM rR rR rR (d_v rR (qc rR) rR (d_v rR (qa 0 underlying68 rR rR sizeOf65 (by decide) rR) rR (d_v rR (qe (v:=ptr x 0) isAgg65 rR rR) rR (d_v rR (qc rR) rR (d_v rR (qa 0 underlying95 rR rR sizeOf92 (by decide) rR) rR (d_v rR (qe (v:=ptr p 0) isAgg92 rR rR) rR (d_v rR (qc rR) rR (d_v rR (qa 0 underlying101 rR rR sizeOf99 (by decide) rR) rR (d_v rR (qe (v:= .map (some r2)) isAgg99 rR rR) rR (dM rR rR rR (d_v rR (qA 0 underlying61 sizeOf3 rR rR rR (by decide) (by simp[yY])) rR (d_v rR (yd (v:=I id) isAgg3 rR rR rR) rR (d_v rR (qa 1 underlying104 rR rR sizeOf9 (by decide) rR) rR (d_v rR (qe (v:=Str c.val) isAgg9 rR rR) rR (d_v rR (zjY (l:=3) underlying9 rR rR rR (by omega)) rR (dM rR rR rR (d_v rR (qA 0 underlying61 sizeOf3 rR rR rR (by decide) (by simp[yY])) rR (d_v rR (yd (v:=I rr) isAgg3 rR rR rR) rR (d_v rR (qP rR (zkU _ rR _ rR)) rR ?_)))))))))))))))))));refine yc ?_;refine yp (yg underlying99 underlying3 rR rR rR) ?_;rintro _ _ rfl;refine qb ?_;refine zga r2 (tb encB 999 (qD st.B id (some (c.val.drop 3,rr)))) (zed encB (x:=(c.val.drop 3,rr)) ⟨by omega,by omega⟩) ?_;refine zeu b x p r r2 s cc ({st with B:=qD st.B id (some (c.val.drop 3,rr))}) ?_;refine gS (gM rR (gM rR (qU rR rR rR (qp rR) rR (qU rR rR rR (qA 0 underlying61 sizeOf3 rR rR rR (by decide) (by simp[yY])) rR (qU rR rR rR (yd (v:=I rr) isAgg3 rR rR rR) rR (qU rR rR rR (yA rR rR) rR (g_v (zas rR rR) rR (gM rR (qK rR rR (fun hg=>qa 1 underlying104 rR rR sizeOf9 (by decide) rR) rR rR (qK rR rR (fun hg=>qe (v:=Str c.val) isAgg9 rR rR) rR rR (qK rR rR (fun hg=>wi underlying9 rR) rR rR (qK rR rR (fun hg=>yA rR rR) rR rR (g_v (zas rR rR) rR (gM rR (qK rR rR (fun hg=>qa 1 underlying104 rR rR sizeOf9 (by decide) rR) rR rR (qK rR rR (fun hg=>qe (v:=Str c.val) isAgg9 rR rR) rR rR (qK rR rR (fun hg=>wi underlying9 rR) rR rR (qK rR rR (fun hg=>zxC rR rR) rR rR (g_v (zas rR rR) rR (gA rR (qb ?_)))))))))))))))))))))
              by_cases hcnd:0<rr∧3<c.val.length∧c.val.length≤9
              · exact zdW (st:={st with B:=qD st.B id (some (c.val.drop 3,rr))}) rfl (by unfold zea;rw[if_neg hX,if_neg hk4,hn0];simp only;rw[if_neg hid1,ztj hyh];unfold bF;rw[show wG 1 c.val=some [rr] from hn2];simp only;rw[if_pos hcnd]) rfl (znG (by simp;omega) hcnd)
              · exact zbr rfl (by unfold zea;rw[if_neg hX,if_neg hk4,hn0];simp only;rw[if_neg hid1,ztj hyh];unfold bF;rw[show wG 1 c.val=some [rr] from hn2];simp only;rw[if_neg hcnd]) rfl (ztz (P:=0<rr∧3<c.val.length∧c.val.length≤9) (by simp;omega) hcnd)
          · have h70:¬((y.toNat:Int)=98):=(by simpa using h70);refine gS (g_v (wh rR rR) rR (gA rR (qb ?_)));refine qg rR (fun h118=>?_) (fun h118=>?_)
            · have h110:y=110:=y_of (n:=110) (by decide) (by simpa using h118);subst h110;refine gS (g_v (qa 1 underlying104 rR rR sizeOf9 (by decide) rR) rR (g_v (qe (v:=Str c.val) isAgg9 rR rR) rR ?_));refine g_l (qi (Pre:=[za5]) call152 rR (wL (c.val) 5 (by decide) hvl)) rR ?_;rintro _ _ hnv;unfold zij at hnv;rcases hn2:wG 5 (c.val) with _ | l2 <;> rw[hn2] at hnv
              · obtain ⟨rfl,rfl⟩:=hnv;refine gM rR (g_v (qd (v:=sl none 0 0) rR rR) rR (g_v (qd (v:=Bo false) rR rR) rR (gA rR (gA rR (qb (qf (gS (gM rR (qb ?_)))))))));refine yR rR ?_;refine qh (gS (gM rR (gM rR (yH rR rR rR rR (yH rR rR rR rR (yH rR rR rR rR (yH rR rR rR rR (g_v (zau rR rR rR) rR (gM rR (yH rR rR rR rR (yH rR rR rR rR (yH rR rR rR rR (yH rR rR rR rR (g_v (zau rR rR rR) rR (gA rR (qb ?_))))))))))))))));exact zbr rfl (by unfold zea;rw[if_neg hX,if_neg hk4,hn0];simp only;rw[if_neg hid1,zm1 hyh];unfold nF;rw[show wG 5 c.val=none from hn2]) rfl rfl
              · obtain ⟨sa2,ca2,rfl,rfl⟩:=hnv;obtain ⟨rr,k0,k1,k2,k3,rfl⟩:=len5 (zaf hn2).1;have hvr2:=(wz hn2).2;have hln2:=(zaf hn2).2;refine zlM sa2 fun hcap=>?_;have hcap2:1<ca2:=(by simp[yY] at hcap;omega);refine gM rR (g_v (qd (v:=sl sa2 5 ca2) rR rR) rR (g_v (qd (v:=Bo true) rR rR) rR (gA rR (gA rR (qb (qf (gS (gM rR (qb ?_)))))))));refine wV rR ?_;refine zep b st ?_;intro x p r r2 s cc;refine zcJ (Lf:=[pt b (.cells #[ptr x 0,sl s st.L.length cc,I st.n] 68 (0,0)),pt x (.cells #[ptr p 0, .map (some r)] 95 (0,0)),owL 3 1 sa0 ca0 (yY [id]),owL 3 1 sa2 ca2 (yY [rr,k0,k1,k2,k3]),mp r (tb yQ 999 st.N)]) [(0,false),(1,false),(2,false),(3,false),(4,false),(5,false),(6,false),(7,false),(8,false),(9,false),(10,false),(11,false),(12,false),(13,false),(14,false),(15,false),(16,false),(17,false)] 18 rR (by kernel_rfl) (by kernel_rfl) rR (by kernel_rfl) (by kernel_rfl) ?_;refine dM rR rR rR (d_v rR (qc rR) rR (d_v rR (qa 0 underlying68 rR rR sizeOf65 (by decide) rR) rR (d_v rR (qe (v:=ptr x 0) isAgg65 rR rR) rR (d_v rR (qc rR) rR (d_v rR (qa 1 underlying95 rR rR sizeOf93 (by decide) rR) rR (d_v rR (qe (v:= .map (some r)) isAgg93 rR rR) rR (dM rR rR rR (d_v rR (qA 0 underlying61 sizeOf3 rR rR rR (by decide) (by simp[yY])) rR (d_v rR (yd (v:=I id) isAgg3 rR rR rR) rR (dM rR rR rR (d_v rR (zvi (l:=1) underlying61 sizeOf3 rR rR rR (by decide) hcap2) rR (d_v rR (zxO underlying105 rR (by decide)) rR (d_v rR (zn5 (s:=sa2) (vs:=kdC ⟨k0,k1,k2,k3,rr⟩) 1 isAgg105 sizeOf105 rR rR (by decide) rows5) rR (dM rR rR rR (d_v rR (qA 0 underlying61 sizeOf3 rR rR rR (by decide) (by simp[yY])) rR (d_v rR (yd (v:=I rr) isAgg3 rR rR rR) rR (d_v rR (qP rR (zrZ ⟨k0,k1,k2,k3,rr⟩ rr)) rR ?_)))))))))))))))));refine yc ?_;refine yp (yg underlying93 underlying3 rR rR rR) ?_;rintro _ _ rfl;refine qb ?_;refine zga r (tb yQ 999 (qD st.N id (some ⟨k0,k1,k2,k3,rr⟩))) (zed yQ (x:=⟨k0,k1,k2,k3,rr⟩) ⟨by omega,by omega⟩) ?_;refine zeu b x p r r2 s cc ({st with N:=qD st.N id (some ⟨k0,k1,k2,k3,rr⟩)}) ?_;refine gS (gM rR (gM rR (qU rR rR rR (qp rR) rR (qU rR rR rR (qA 0 underlying61 sizeOf3 rR rR rR (by decide) (by simp[yY])) rR (qU rR rR rR (yd (v:=I rr) isAgg3 rR rR rR) rR (qU rR rR rR (yA rR rR) rR (g_v (zas rR rR) rR (gM rR (qK rR rR (fun hg=>qa 1 underlying104 rR rR sizeOf9 (by decide) rR) rR rR (qK rR rR (fun hg=>qe (v:=Str c.val) isAgg9 rR rR) rR rR (qK rR rR (fun hg=>wi underlying9 rR) rR rR (qK rR rR (fun hg=>wh rR rR) rR rR (g_v (zas rR rR) rR (gA rR (qb ?_)))))))))))))));by_cases hcnd:0<rr∧c.val.length=15
                · exact zdW (st:={st with N:=qD st.N id (some ⟨k0,k1,k2,k3,rr⟩)}) rfl (by unfold zea;rw[if_neg hX,if_neg hk4,hn0];simp only;rw[if_neg hid1,zm1 hyh];unfold nF;rw[show wG 5 c.val=some [rr,k0,k1,k2,k3] from hn2];simp only;rw[if_pos hcnd]) rfl (znG (by simp;omega) hcnd)
                · exact zbr rfl (by unfold zea;rw[if_neg hX,if_neg hk4,hn0];simp only;rw[if_neg hid1,zm1 hyh];unfold nF;rw[show wG 5 c.val=some [rr,k0,k1,k2,k3] from hn2];simp only;rw[if_neg hcnd]) rfl (ztz (P:=0<rr∧c.val.length=15) (by simp;omega) hcnd)
            · have h118:¬((y.toNat:Int)=110):=(by simpa using h118);refine gS (g_v (wh rR rR) rR (gA rR (qb ?_)));refine qg rR (fun h158=>?_) (fun h158=>?_)
              · have h112:y=112:=y_of (n:=112) (by decide) (by simpa using h158);subst h112;refine gS (g_v (qa 1 underlying104 rR rR sizeOf9 (by decide) rR) rR (g_v (qe (v:=Str c.val) isAgg9 rR rR) rR ?_));refine g_l (qi (Pre:=[za5]) call152 rR (wL (c.val) 3 (by decide) hvl)) rR ?_;rintro _ _ hnv;unfold zij at hnv;rcases hn2:wG 3 (c.val) with _ | l2 <;> rw[hn2] at hnv
                · obtain ⟨rfl,rfl⟩:=hnv;refine gM rR (g_v (qd (v:=sl none 0 0) rR rR) rR (g_v (qd (v:=Bo false) rR rR) rR (gA rR (gA rR (qb (qf (gS (gM rR (qb ?_)))))))));refine yR rR ?_;refine qh (gS (gM rR (gM rR (yH rR rR rR rR (yH rR rR rR rR (yH rR rR rR rR (yH rR rR rR rR (g_v (zau rR rR rR) rR (gM rR (yH rR rR rR rR (yH rR rR rR rR (yH rR rR rR rR (yH rR rR rR rR (g_v (zau rR rR rR) rR (gM rR (yH rR rR rR rR (yH rR rR rR rR (yH rR rR rR rR (yH rR rR rR rR (g_v (zau rR rR rR) rR (gM rR (yH rR rR rR rR (yH rR rR rR rR (yH rR rR rR rR (yH rR rR rR rR (g_v (zau rR rR rR) rR (gA rR (qb ?_))))))))))))))))))))))))))));exact zbr rfl (by unfold zea;rw[if_neg hX,if_neg hk4,hn0];simp only;rw[if_neg hid1,zmX hyh];unfold pF;rw[show wG 3 c.val=none from hn2]) rfl rfl
                · obtain ⟨sa2,ca2,rfl,rfl⟩:=hnv;obtain ⟨d0,z0,r0,rfl⟩:=len3 (zaf hn2).1;have hvr2:=(wz hn2).2;have hln2:=(zaf hn2).2;refine gM rR (g_v (qd (v:=sl sa2 3 ca2) rR rR) rR (g_v (qd (v:=Bo true) rR rR) rR (gA rR (gA rR (qb (qf (gS (gM rR (qb ?_)))))))));refine wV rR ?_;refine zep b st ?_;intro x p r r2 s cc;refine zcJ (Lf:=[pt b (.cells #[ptr x 0,sl s st.L.length cc,I st.n] 68 (0,0)),owL 3 1 sa0 ca0 (yY [id]),owL 3 1 sa2 ca2 (yY [d0,z0,r0])]) [(0,false),(1,false),(2,false),(3,false),(4,false),(5,false),(6,false),(7,false),(8,false),(9,false),(10,false),(11,false),(12,false),(13,false),(14,false),(15,false),(16,false),(17,false),(18,true),(19,true),(20,false),(21,false)] 22 rR (by kernel_rfl) (by kernel_rfl) rR (by kernel_rfl) (by kernel_rfl) ?_;refine dM rR rR rR (dM rR rR rR (d_v rR (qc rR) rR (d_v rR (qa 1 underlying68 rR rR sizeOf66 (by decide) rR) rR (d_v rR (qe (v:=sl s st.L.length cc) isAgg66 rR rR) rR (dM rR rR rR (d_v rR (qA 0 underlying61 sizeOf3 rR rR rR (by decide) (by simp[yY])) rR (d_v rR (yd (v:=I id) isAgg3 rR rR rR) rR (dM rR rR rR (d_v rR (qA 0 underlying61 sizeOf3 rR rR rR (by decide) (by simp[yY])) rR (d_v rR (yd (v:=I d0) isAgg3 rR rR rR) rR (dM rR rR rR (d_v rR (qA 1 underlying61 sizeOf3 rR rR rR (by decide) (by simp[yY])) rR (d_v rR (yd (v:=I z0) isAgg3 rR rR rR) rR (dM rR rR rR (d_v rR (qA 2 underlying61 sizeOf3 rR rR rR (by decide) (by simp[yY])) rR (d_v rR (yd (v:=I r0) isAgg3 rR rR rR) rR (d_v rR (qP rR (zxP id d0 z0 r0)) rR ?_)))))))))))))))));refine d_l rR (qs [yn ⟨id,d0,z0,r0⟩] underlying66 sizeOf70 zeroValue70 rR rR rR (by simp) (by decide) (by decide)) rR ?_;rintro _ _ ⟨b185,rfl,rfl⟩;refine d_l rR (yC underlying66 sizeOf70 zeroValue70 rR Tryz.typeInfo70 (by decide) rR rR (wq _) rR (by simp) (by simp[Go.Sl.ones,Go.Sl.one]) ⟨by omega,by decide,by decide⟩) rR ?_;rintro _ _ ⟨s186,c186,rfl,rfl⟩;rw[show ptR st.L++ [yn ⟨id,d0,z0,r0⟩]=ptR (st.L++ [⟨id,d0,z0,r0⟩]) by simp[ptR]];refine d_v rR (qc rR) rR (d_v rR (qa 1 underlying68 rR rR sizeOf66 (by decide) rR) rR ?_);refine yc ?_;refine yp (qH #[ptr x 0,sl s186 (st.L.length+1) c186,I st.n] sizeOf66 rR rR rR (by simp) rR) ?_;rintro _ _ rfl;refine qb ?_;rw[show st.L.length+1=(st.L++ [(⟨id,d0,z0,r0⟩:Pt)]).length by simp];refine zeu b x p r r2 s186 c186 ({st with L:=st.L++ [⟨id,d0,z0,r0⟩]}) ?_;refine gS (gM rR (gM rR (qU rR rR rR (qa 1 underlying104 rR rR sizeOf9 (by decide) rR) rR (qU rR rR rR (qe (v:=Str c.val) isAgg9 rR rR) rR (qU rR rR rR (wi underlying9 rR) rR (qU rR rR rR (wh rR rR) rR (g_v (zas rR rR) rR (gM rR (qK rR rR (fun hg=>qp rR) rR rR (qK rR rR (fun hg=>qA 0 underlying61 sizeOf3 rR rR rR (by decide) (by simp[yY])) rR rR (qK rR rR (fun hg=>yd (v:=I d0) isAgg3 rR rR rR) rR rR (qK rR rR (fun hg=>yA rR rR) rR rR (g_v (zas rR rR) rR (gM rR (qK rR rR (fun hg=>qp rR) rR rR (qK rR rR (fun hg=>qA 1 underlying61 sizeOf3 rR rR rR (by decide) (by simp[yY])) rR rR (qK rR rR (fun hg=>yd (v:=I z0) isAgg3 rR rR rR) rR rR (qK rR rR (fun hg=>yA rR rR) rR rR (g_v (zas rR rR) rR (gM rR (qK rR rR (fun hg=>qp rR) rR rR (qK rR rR (fun hg=>qA 1 underlying61 sizeOf3 rR rR rR (by decide) (by simp[yY])) rR rR (qK rR rR (fun hg=>yd (v:=I z0) isAgg3 rR rR rR) rR rR (qK rR rR (fun hg=>zxC rR rR) rR rR (g_v (zas rR rR) rR (gA rR (qb ?_)))))))))))))))))))))))))))
                  by_cases hcnd:c.val.length=9∧0<d0∧0<z0∧z0≤16
                  · exact zdW (st:={st with L:=st.L++ [⟨id,d0,z0,r0⟩]}) rfl (by unfold zea;rw[if_neg hX,if_neg hk4,hn0];simp only;rw[if_neg hid1,zmX hyh];unfold pF;rw[show wG 3 c.val=some [d0,z0,r0] from hn2];simp only;rw[if_pos hcnd]) rfl (znG (by simp;omega) hcnd)
                  · exact zbr rfl (by unfold zea;rw[if_neg hX,if_neg hk4,hn0];simp only;rw[if_neg hid1,zmX hyh];unfold pF;rw[show wG 3 c.val=some [d0,z0,r0] from hn2];simp only;rw[if_neg hcnd]) rfl (ztz (P:=c.val.length=9∧0<d0∧0<z0∧z0≤16) (by simp;omega) hcnd)
              · have h158:¬((y.toNat:Int)=112):=(by simpa using h158);refine qh (qF (gS (gA rR (qb ?_))));exact zbr rfl (by unfold zea;rw[if_neg hX,if_neg hk4,hn0];simp only;rw[if_neg hid1];unfold kFr;rw[hyh,if_neg (fun hh=>h70 (by injection hh with hh;rw[hh];rfl)),if_neg (fun hh=>h118 (by injection hh with hh;rw[hh];rfl)),if_neg (fun hh=>h158 (by injection hh with hh;rw[hh];rfl))]) rfl rfl
end Go.Proofs.YthdjckbjjfiopadGreatDoor
