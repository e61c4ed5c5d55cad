/- Repos: what is kept, in plain words. No condition. -/
import Derived.Test.YthdjckbjjfiopacGreatDoorPartB
import Derived.Test.YthdjckbjjfiopacGreatDoorPartD
import Derived.Test.YthdjckbjjfiopacGreatDoorPartF
import Derived.Test.YthdjckbjjfiopacGreatDoorIm5
import Derived.Test.YthdjckbjjfiopacGreatDoorIm6
set_option linter.unusedSimpArgs false
set_option linter.unusedVariables false
namespace Go.Proofs.YthdjckbjjfiopacGreatDoor
open Go.Sl Go.Proofs
theorem keyle {S:SI}{L:List Pt}{n:Int}{G:Gh}(h:Con S L n G):∀c∈yz S L n,c.key.length≤9223372036854775807∧c.val.length≤9223372036854775807:=fun c hc=>by
  have w:=h.wr;unfold yz at hc;rcases List.mem_append.1 hc with hc | hc
  · rcases List.mem_append.1 hc with hc | hc
    · rcases List.mem_append.1 hc with hc | hc
      · unfold zaG at hc;obtain ⟨q,hq,rfl⟩:=List.mem_map.1 hc;obtain ⟨hq1,hq2⟩:=mem_ids.1 hq;obtain ⟨x,hx⟩:=Option.isSome_iff_exists.1 hq2;have hb:=w.b q x hx;have h1:=yQ (n:=q) (by omega);have h2:=yQ (n:=x.2) (by omega);rw[show gB S.B q=x by unfold gB;rw[hx];rfl];simp only[zvI,List.length_cons,List.length_append];omega
      · unfold zaK at hc;obtain ⟨q,hq,rfl⟩:=List.mem_map.1 hc;obtain ⟨hq1,hq2⟩:=mem_ids.1 hq;have hb:=zt7 h.sm q;have h1:=yQ (n:=q) (by omega);have h2:=zge (n:=gN S.N q) (by omega) (fun k hk=>by have:=hb.2 k hk;omega) 4 (by omega);rw[zqV] at h2;simp only[zvH,List.length_cons];omega
    · obtain ⟨p,hp,rfl⟩:=List.mem_map.1 hc;have hb:=w.p p hp;have h1:=yQ (n:=p.id) (by omega);have h2:=yQ (n:=p.disk) (by omega);have h3:=yQ (n:=p.size) (by omega);have h4:=yQ (n:=p.root) (by omega);simp only[zjI,List.length_cons,List.length_append];omega
  · rw[List.mem_singleton] at hc;subst hc;have h1:=yY (n:=n) (by have:=w.n1;omega);simp only[zoj,List.length_cons,List.length_nil];omega
theorem zmR:∀(a b:List ChangeM),(mg a b).length≤a.length+b.length
  | [],b=>by rw[zmd];simp
  | x::a,[]=>by rw[zl8];simp
  | x::a,y::b=>by
    by_cases h1:kl x.key y.key=true
    · rw[ztR h1];have:=zmR a (y::b);simp only[List.length_cons] at this ⊢;omega
    · by_cases h2:kl y.key x.key=true
      · rw[zvs h1 h2];have:=zmR (x::a) b;simp only[List.length_cons] at this ⊢;omega
      · rw[zvw h1 h2];have:=zmR a b;split <;> simp only[List.nil_append,List.cons_append,List.length_cons] <;> omega
termination_by a b=>a.length+b.length
structure SeE where
  key:Int
  a:Nat
  so:Option Addr
  co:Nat
  base:Int
  disk:Int
  size:Int
  puts:List PutM
structure MoE where
  key:Int
  a:Nat
  r:Nat
  point:Int
  over:List (Int×Bytes)
def ovM (l:List (Int×Bytes)):MM:=l.map fun p=>(p.1,Str p.2)
def ovL:List (Int×Bytes)→Int→Option Bytes
  | [],_=>none
  | p::l,q=>if p.1=q then some p.2 else ovL l q
def ovS (l:List (Int×Bytes))(q:Int)(d:Bytes):List (Int×Bytes):=if (ovL l q).isSome then l.map fun p=>if p.1=q then (q,d) else p else l++ [(q,d)]
theorem zry:∀(l:List (Int×Bytes)) (q:Int),lk (ovM l) q=(ovL l q).map Str
  | [],q=>rfl
  | p::l,q=>by
    have ih:=zry l q;simp only[ovM,List.map_cons,lk,ovL] at ih ⊢;split
    · rfl
    · exact ih
theorem zu9 (l:List (Int×Bytes))(q:Int)(d:Bytes):zgC (ovM l) q (Str d)=ovM (ovS l q d):=by
  unfold zgC ovS;rw[zry,Option.isSome_map];split
  · unfold ovM;rw[List.map_map,List.map_map];refine List.map_congr_left fun p _=>?_;simp only[Function.comp];split <;> rfl
  · simp[ovM]
def zdx (l:List SeE):MM:=l.map fun e=>(e.key,ptr e.a 0)
def zdD (l:List MoE):MM:=l.map fun e=>(e.key,ptr e.a 0)
def fSe (l:List SeE)(id:Int):Option SeE:=l.find? fun e=>decide (e.key=id)
def fMo (l:List MoE)(id:Int):Option MoE:=l.find? fun e=>decide (e.key=id)
theorem zme:∀(l:List SeE) (q:Int),lk (zdx l) q=(fSe l q).map fun e=>ptr e.a 0
  | [],q=>rfl
  | e::l,q=>by
    have ih:=zme l q;unfold fSe at ih ⊢;by_cases h:e.key=q
    · rw[List.find?_cons_of_pos (by simpa using h)];simp only[zdx,List.map_cons,lk,if_pos h,Option.map_some]
    · rw[List.find?_cons_of_neg (by simpa using h),←ih];simp only[zdx,List.map_cons,lk,if_neg h]
theorem zms:∀(l:List MoE) (q:Int),lk (zdD l) q=(fMo l q).map fun e=>ptr e.a 0
  | [],q=>rfl
  | e::l,q=>by
    have ih:=zms l q;unfold fMo at ih ⊢;by_cases h:e.key=q
    · rw[List.find?_cons_of_pos (by simpa using h)];simp only[zdD,List.map_cons,lk,if_pos h,Option.map_some]
    · rw[List.find?_cons_of_neg (by simpa using h),←ih];simp only[zdD,List.map_cons,lk,if_neg h]
theorem zrx {l:List SeE}{e:SeE}(h:∀x∈l,x.key≠e.key):zgC (zdx l) e.key (ptr e.a 0)=zdx (l++ [e]):=by
  unfold zgC;rw[lk_none.2 (fun p hp=>by unfold zdx at hp;obtain ⟨x,hx,rfl⟩:=List.mem_map.1 hp;exact h x hx),if_neg (by simp)];simp[zdx]
theorem zsH {l:List MoE}{e:MoE}(h:∀x∈l,x.key≠e.key):zgC (zdD l) e.key (ptr e.a 0)=zdD (l++ [e]):=by
  unfold zgC;rw[lk_none.2 (fun p hp=>by unfold zdD at hp;obtain ⟨x,hx,rfl⟩:=List.mem_map.1 hp;exact h x hx),if_neg (by simp)];simp[zdD]
def dSe (l:List SeE)(id:Int):List SeE:=l.filter fun e=>!decide (e.key=id)
def dMo (l:List MoE)(id:Int):List MoE:=l.filter fun e=>!decide (e.key=id)
theorem znr (l:List SeE)(id:Int):zjK (zdx l) id=zdx (dSe l id):=by
  unfold zjK zdx dSe;rw[List.filter_map]
  rfl
theorem zru (l:List MoE)(id:Int):zjK (zdD l) id=zdD (dMo l id):=by
  unfold zjK zdD dMo;rw[List.filter_map]
  rfl
theorem zrP {l:List SeE}{i:Nat}{e e':SeE}(h:l[i]? =some e)(hk:e'.key=e.key)(ha:e'.a=e.a):zdx (l.set i e')=zdx l:=by
  unfold zdx;rw[List.map_set];refine List.ext_getElem? fun j=>?_;rw[List.getElem?_set];split
  · rename_i hj;subst hj;obtain ⟨hi,he⟩:=List.getElem?_eq_some_iff.1 h;rw[if_pos (by simpa using hi),List.getElem?_map,h,hk,ha]
    rfl
  · rfl
theorem zr0 {l:List MoE}{i:Nat}{e e':MoE}(h:l[i]? =some e)(hk:e'.key=e.key)(ha:e'.a=e.a):zdD (l.set i e')=zdD l:=by
  unfold zdD;rw[List.map_set];refine List.ext_getElem? fun j=>?_;rw[List.getElem?_set];split
  · rename_i hj;subst hj;obtain ⟨hi,he⟩:=List.getElem?_eq_some_iff.1 h;rw[if_pos (by simpa using hi),List.getElem?_map,h,hk,ha]
    rfl
  · rfl
theorem zbw {α:Type}{l:List α}{i:Nat}{e:α}(h:l[i]? =some e):l.set i e=l:=by
  refine List.ext_getElem? fun j=>?_;rw[List.getElem?_set];split
  · rename_i hj;subst hj;obtain ⟨hi,he⟩:=List.getElem?_eq_some_iff.1 h;rw[if_pos hi,h]
  · rfl
structure RpM where
  h:HdM
  used:Nat
  rows:List ChangeM
  S:SI
  L:List Pt
  n:Int
  ses:List SeE
  mou:List MoE
  next:Int
def seA (e:SeE):List HProp:=[pt e.a (.cells #[I e.base,I e.disk,I e.size,sl e.so e.puts.length e.co] 139 (0,0)),owL 81 2 e.so e.co (zbr e.puts)]
def moA (e:MoE):List HProp:=[pt e.a (.cells #[I e.point, .map (some e.r)] 130 (0,0)),mp e.r (ovM e.over)]
structure RpA where
  bs:Nat
  bl:Nat
  so:Option Addr
  co:Nat
  bv:Nat
  rs:Nat
  rm:Nat
def rpP (b bd:Nat)(z:RpM)(q:RpA):List HProp:=
  [pt b (.cells #[ptr q.bs 0,ptr q.bv 0, .map (some q.rs), .map (some q.rm),I z.next] 125 (0,0)),pt q.bs (.cells (stC bd z.h q.bl q.so z.rows.length q.co) 179 (0,0)),pt q.bl (.cells (lgC bd 122 (200 - 122) z.h.first z.used) 228 (0,0)),roL 3 q.so (chR z.rows),vlt q.bv z.S z.L z.n,mp q.rs (zdx z.ses),big seA z.ses,mp q.rm (zdD z.mou),big moA z.mou]
def rpl (b bd:Nat)(z:RpM):HProp:=hx (rpP b bd z)
section
variable {c:Cx}{E:Env}{L:List HProp}{K:List KI}
theorem wY {F:List HProp}(b bd:Nat)(z:RpM)[R:Rem L (rpl b bd z) F](k:∀bs bl so co bv rs rm,G c K E (pt b (.cells #[ptr bs 0,ptr bv 0, .map (some rs), .map (some rm),I z.next] 125 (0,0))::pt bs (.cells (stC bd z.h bl so z.rows.length co) 179 (0,0))::pt bl (.cells (lgC bd 122 (200 - 122) z.h.first z.used) 228 (0,0))::roL 3 so (chR z.rows)::vlt bv z.S z.L z.n::mp rs (zdx z.ses)::big seA z.ses::mp rm (zdD z.mou)::big moA z.mou::F)):G c K E L:=zcM (rpl b bd z) rfl fun q=>k q.bs q.bl q.so q.co q.bv q.rs q.rm
theorem zuQ {F:List HProp}(l:List SeE)(i:Nat){e:SeE}(he:l[i]? =some e)[R:Rem L (big seA l) F](k:G c K E (pt e.a (.cells #[I e.base,I e.disk,I e.size,sl e.so e.puts.length e.co] 139 (0,0))::owL 81 2 e.so e.co (zbr e.puts)::big seA (l.eraseIdx i)::F)):G c K E L:=zjU (f:=seA) l i he _ rfl k
theorem zuu {F:List HProp}(l:List MoE)(i:Nat){e:MoE}(he:l[i]? =some e)[R:Rem L (big moA l) F](k:G c K E (pt e.a (.cells #[I e.point, .map (some e.r)] 130 (0,0))::mp e.r (ovM e.over)::big moA (l.eraseIdx i)::F)):G c K E L:=zjU (f:=moA) l i he _ rfl k
theorem yk {F:List HProp}(b bd:Nat)(z:RpM)(bs bl:Nat)(so:Option Addr)(co bv rs rm:Nat)[Sp:Split L [pt b (.cells #[ptr bs 0,ptr bv 0, .map (some rs), .map (some rm),I z.next] 125 (0,0)),pt bs (.cells (stC bd z.h bl so z.rows.length co) 179 (0,0)),pt bl (.cells (lgC bd 122 (200 - 122) z.h.first z.used) 228 (0,0)),roL 3 so (chR z.rows),vlt bv z.S z.L z.n,mp rs (zdx z.ses),big seA z.ses,mp rm (zdD z.mou),big moA z.mou] F](k:G c K E (rpl b bd z::F)):G c K E L:=
  zbs (A:=rpP b bd z) [pt b (.cells #[ptr bs 0,ptr bv 0, .map (some rs), .map (some rm),I z.next] 125 (0,0)),pt bs (.cells (stC bd z.h bl so z.rows.length co) 179 (0,0)),pt bl (.cells (lgC bd 122 (200 - 122) z.h.first z.used) 228 (0,0)),roL 3 so (chR z.rows),vlt bv z.S z.L z.n,mp rs (zdx z.ses),big seA z.ses,mp rm (zdD z.mou),big moA z.mou] (rpl b bd z) ⟨bs,bl,so,co,bv,rs,rm⟩ rfl rfl k
end
structure SOk (e:SeE):Prop where
  size:1≤e.size∧e.size≤16
  nodup:(e.puts.map (·.at_)).Nodup
  rng:∀p∈e.puts,(0≤p.at_∧p.at_<e.size)∧p.data.length≤6
structure Rok (z:RpM):Prop where
  con:∃G,Con z.S z.L z.n G
  next:1≤z.next∧z.next≤1000000
  keyS:∀e∈z.ses,1≤e.key∧e.key<z.next
  keyM:∀e∈z.mou,1≤e.key∧e.key<z.next
  sesS:∀e∈z.ses,SOk e
theorem SOk.len {e:SeE}(h:SOk e):e.puts.length≤16:=by
  have h1:=zgN h.nodup (m:=(List.range 16).map fun k:Nat=>(k:Int)) fun q hq=>by
    obtain ⟨p,hp,rfl⟩:=List.mem_map.1 hq;have h2:=(h.rng p hp).1;have h3:=h.size;exact List.mem_map.2 ⟨p.at_.toNat,by rw[List.mem_range];omega,by omega⟩
  simpa using h1
theorem Rok.putS {z:RpM}(R:Rok z):∀e∈z.ses,e.puts.length≤16∧∀p∈e.puts,p.data.length≤6:=fun e he=>⟨(R.sesS e he).len,fun p hp=>((R.sesS e he).rng p hp).2⟩
end Go.Proofs.YthdjckbjjfiopacGreatDoor
