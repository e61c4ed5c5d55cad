/- Several texts in one: walks and rules used by them. No condition. -/
import Derived.Test.YthdjckbjjfiopadGreatDoorPartC
import Derived.Test.YthdjckbjjfiopadGreatDoorPartB
import Derived.Test.YthdjckbjjfiopadGreatDoorPartA
import Derived.Test.YthdjckbjjfiopadGreatDoorProg
import Derived.KernelRfl
import GoSem.Extern.AbiNoEscape
set_option linter.unusedSimpArgs false
set_option linter.unusedVariables false
namespace Go.Proofs.YthdjckbjjfiopadGreatDoor
open Go Go.Sl Go.Proofs
section
variable {c:Cx}{E:Env}{L:List HProp}{K:List KI}
end
theorem ziZ {l:List ChangeM}(h:srt l):∀cs:List ChangeM,srt (zaF l cs)∧(zaF l cs).length≤l.length+cs.length:=by
  intro cs
  induction cs generalizing l with
  | nil=>exact ⟨h,by simp[zaF]⟩
  | cons c cs ih=>
    have:=ih (zw9 h c);have h2:=zwB l c h;refine ⟨this.1,?_⟩;have h3:=this.2;simp only[zaF,List.foldl_cons,List.length_cons] at h3 ⊢;omega
theorem zxc {l:List ChangeM}(h:srt l){k:Bytes}(hi:isS l k=true):lbS l k<l.length:=by
  rw[zlW h] at hi;split at hi
  · rename_i r hr;exact (List.getElem?_eq_some_iff.1 hr).1
  · cases hi
section
variable {c r:ChangeM}{z:Bool×List ChangeM}
end
open _root_.Go.Proofs.Tryz
theorem zdq (l cs:List ChangeM)(s s':Option Addr)(cap cap':Nat)(hs:srt l)(hl:l.length≤400)(hc:cs.length≤100)(F:List HProp):Ct Tryz.prog 107 [sl s l.length cap,sl s' cs.length cap'] ([roL 3 s (chR l),roL 3 s' (chR cs)]++F) (RSl 104 3 (zaF l cs).length (chR (zaF l cs)) (roL 3 s (chR l)::roL 3 s' (chR cs)::F)):=by
  show Ct Tryz.prog 107 [sl s l.length cap,sl s' cs.length cap'] (roL 3 s (chR l)::roL 3 s' (chR cs)::F) _;refine Ct.of func107 rR 52 ntmps107 (by simp) fun w0=>?_;refine gS (gA rR (qb (gS (gM rR ?_))));refine g_l (qi (Pre:=[roL 3 s (chR l)]) call111 rR (zcW l s cap (by omega))) rR ?_;rintro _ _ ⟨s10,c10,rfl,rfl⟩;show G _ _ _ (owL 104 3 s10 c10 (chR (zaF l (cs.take 0)))::roL 3 s (chR l)::roL 3 s' (chR cs)::F);refine gA rR (qb (qf (gS (gM rR (g_v (yi underlying34 rR) rR (gM rR (qb (qj ?_))))))));refine qD (α:=Nat×Option Addr×Nat) (fun z=>z.1≤cs.length) (fun z=>U [(0,sl z.2.1 (zaF l (cs.take z.1)).length z.2.2),(11,sl s' cs.length cap'),(12,I cs.length),(13,I z.1)]) (fun z=>owL 104 3 z.2.1 z.2.2 (chR (zaF l (cs.take z.1)))::roL 3 s (chR l)::roL 3 s' (chR cs)::F) (fun z=>cs.length - z.1) (0,s10,c10) (by simp) [0,11,12,13] rfl rR ?_;rintro ⟨k,sA,cA⟩ hk;simp only[] at hk ⊢;refine gS (g_v (qK rR rR) rR (qb (qf ?_)));refine qg rR (fun h14=>?_) (fun h14=>?_)
  · simp at h14;have hin:k<cs.length:=(by omega);obtain ⟨x,hx⟩:∃x,cs[k]? =some x:=⟨_,List.getElem?_eq_getElem hin⟩;have hir:k<(chR cs).length:=(by rw[qN];exact hin);have hnx:=zrM (l:=l) hx;have hRs:=(ziZ hs (cs.take k)).1;have hRl:=(ziZ hs (cs.take k)).2;rw[List.length_take] at hRl;generalize hRd:zaF l (cs.take k)=R at*;refine qh (qf (qj (gS (g_v (qA k underlying34 sizeOf104 rR rR rR hin hir) rR (g_v (yj (row:=yw x) isAgg104 sizeOf104 rR (zaW hx) rR) rR ?_)))));refine g_l (qy #[Str [],Str [],Bo false] zeroValue104) rR ?_;rintro _ _ ⟨b6,rfl,rfl⟩;refine yu (qr (cs:=#[Str [],Str [],Bo false]) (vs:=yw x) (yw x).toArray sizeOf104 rR rR rR rR (by decide) (qC rR)) ?_;rintro _ _ rfl;refine qb (gS (gM rR (g_v (qa 0 underlying104 rR rR sizeOf9 (by decide) rR) rR (g_v (qe (v:=Str x.key) isAgg9 rR rR) rR ?_))));refine g_l (qi (Pre:=[owL 104 3 sA cA (chR (R))]) call133 rR (zcS R sA cA x.key hRs (by omega))) rR ?_;rintro _ _ ⟨rfl,rfl⟩;refine gM rR (g_v (qd (v:=I (lbS R x.key)) rR rR) rR (g_v (qd (v:=Bo (isS R x.key)) rR rR) rR (gA rR (gA rR (qb (qj (gS (gM rR (gM rR (qH rR rR (fun hg=>qa 2 underlying104 rR rR sizeOf4 (by decide) rR) rR rR (qH rR rR (fun hg=>qe (v:=Bo x.gone) isAgg4 rR rR) rR rR (g_v (zao rR rR) rR (gA rR (qb ?_))))))))))))));refine qg rR (fun h24=>?_) (fun h24=>?_)
    · simp at h24;have hlt:=zxc hRs h24.1;refine qp (gM rR (gM rR (gM rR (g_v (qu rR rR (w64 (by omega))) rR ?_))));refine g_l (qi (Pre:=[owL 104 3 sA cA (chR (R))]) call149 rR (zfO R sA cA (lbS R x.key) hlt (by omega))) rR ?_;rintro _ _ ⟨rfl,rfl⟩;refine gA rR (qb (qG (qG (qp (g_v (qu rR rR (w64 (by omega))) rR (gM rR (qb ?_)))))));rw[show R.length - 1=(zaF l (cs.take (k+1))).length by rw[hnx,zc4 hRs,if_pos h24.1,if_pos h24.2];rw[List.length_eraseIdx,if_pos hlt],show R.eraseIdx (lbS R x.key)=zaF l (cs.take (k+1)) by rw[hnx,zc4 hRs,if_pos h24.1,if_pos h24.2]];exact qo (k+1,sA,cA) (by simp only[];omega) (by simp only[];omega) [0,11,12,13] rfl rfl
    · simp at h24;refine gS (gM rR (gA rR (qb ?_)));refine qg rR (fun h35=>?_) (fun h35=>?_)
      · have hlt:=zxc hRs h35;have hng:¬x.gone=true:=(by simp[h24 h35]);refine qp (gM rR (gM rR (g_v (qJ (vs:=yw x) isAgg104 sizeOf104 rR rR qR) rR (g_v (qA (lbS R x.key) underlying34 sizeOf104 rR rR rR hlt (by rw[qN];exact hlt)) rR ?_))));refine yu (zgM (vs:=yw x) sizeOf104 rR rR rR rR (by rw[qN];exact hlt) (by decide)) ?_;rintro _ _ rfl;rw[show (chR R).set (lbS R x.key) (yw x)=chR (R.set (lbS R x.key) x) by simp[chR,List.map_set]];refine qb (qG (qG (qp (g_v (qu rR rR (w64 (by omega))) rR (gM rR (qb ?_))))));rw[show R.length=(zaF l (cs.take (k+1))).length by rw[hnx,zc4 hRs,if_pos h35,if_neg hng];rw[List.length_set],show R.set (lbS R x.key) x=zaF l (cs.take (k+1)) by rw[hnx,zc4 hRs,if_pos h35,if_neg hng]];exact qo (k+1,sA,cA) (by simp only[];omega) (by simp only[];omega) [0,11,12,13] rfl rfl
      · have hni:¬isS R x.key=true:=(by rw[h35];simp);refine gS (g_v (qa 2 underlying104 rR rR sizeOf4 (by decide) rR) rR (g_v (qe (v:=Bo x.gone) isAgg4 rR rR) rR (g_v (wq rR) rR (gA rR (qb ?_)))));refine qg rR (fun h41=>?_) (fun h41=>?_)
        · have hng:¬x.gone=true:=(by simpa using h41);have hlb:=zpV R x.key;refine qp (gM rR (gM rR (g_v (qJ (vs:=yw x) isAgg104 sizeOf104 rR rR qR) rR ?_)));refine g_l (qq [yw x] underlying34 sizeOf104 zeroValue104 rR rR rR (by simp[yw]) (by decide) (by decide)) rR ?_;rintro _ _ ⟨b48,rfl,rfl⟩;refine g_l (qi (Pre:=[owL 104 3 sA cA (chR (R)),owL 104 3 (some ⟨b48,0,none⟩) 1 [yw x]]) call150 rR (zfX R x sA cA b48 (lbS R x.key) (zpV _ _) (by omega))) rR ?_;rintro _ _ ⟨s49,c49,rfl,rfl⟩;refine gA rR (qb (qG (qG (qp (g_v (qu rR rR (w64 (by omega))) rR (gM rR (qb ?_)))))));rw[show R.length+1=(zaF l (cs.take (k+1))).length by rw[hnx,zc4 hRs,if_neg hni,if_neg hng];simp[zqC];omega,show zqC R (lbS R x.key) x=zaF l (cs.take (k+1)) by rw[hnx,zc4 hRs,if_neg hni,if_neg hng];rfl];exact qo (k+1,s49,c49) (by simp only[];omega) (by simp only[];omega) [0,11,12,13] rfl rfl
        · simp at h41;refine qh (qG (qG (qp (g_v (qu rR rR (w64 (by omega))) rR (gM rR (qb ?_))))));rw[show R=zaF l (cs.take (k+1)) by rw[hnx,zc4 hRs,if_neg hni,if_pos h41]];exact qo (k+1,sA,cA) (by simp only[];omega) (by simp only[];omega) [0,11,12,13] rfl rfl
  · simp at h14;obtain rfl:k=cs.length:=(by omega);rw[List.take_length];refine qz rR ?_;refine gS (gM rR (gA rR (qb ?_)));exact wA rfl rfl rfl rfl
-- counterfoil/counterfoilref.Applied is not in this seat
open Go.Sl Go.Proofs
structure HdM where
  ep:Nat
  side:Nat
  size:Nat
  first:Nat
deriving DecidableEq
def HdM.no:HdM:=⟨0,0,0,0⟩
def ws (h:HdM):List Value:=[I h.ep,I h.side,I h.size,I h.first]
def we (h:HdM):Bytes:=[72]++qO h.ep++qO h.side++qO h.size++qO h.first
def unN (s:Bytes):Nat:=(sk s 0).toNat+2 ^ 8*(sk s 1).toNat+2 ^ 16*(sk s 2).toNat+2 ^ 24*(sk s 3).toNat
def za0 (s:Bytes):HdM:=⟨unN ((s.take 5).drop 1),unN ((s.take 9).drop 5),unN ((s.take 13).drop 9),unN ((s.take 17).drop 13)⟩
def zf4 (s:Bytes):Prop:=sk s 0≠72∨1<(za0 s).side∨4800<(za0 s).size∨(za0 s).first<1
instance (s:Bytes):Decidable (zf4 s):=by unfold zf4;infer_instance
def wE (s:Bytes):HdM:=if zf4 s then HdM.no else za0 s
theorem zsV (x:UInt8):x.toNat<256:=x.toNat_lt
theorem zdG {n:Nat}(h:n<4294967296):unN (qO n)=n:=by
  unfold unN qO;simp only[sk,List.getElem?_cons_zero,List.getElem?_cons_succ,Option.getD_some,UInt8.toNat_ofNat'];omega
theorem zhy (h:HdM):(we h).length=17:=by simp[we,qO]
theorem zqj {h:HdM}(h1:h.ep<4294967296)(h2:h.side<4294967296)(h3:h.size<4294967296)(h4:h.first<4294967296):za0 (yl (we h))=h∧sk (yl (we h)) 0=72:=by
  have e:yl (we h)=72::(qO h.ep++(qO h.side++(qO h.size++(qO h.first++zbR (80 - (we h).length))))):=by
    unfold yl we;simp
  rw[e];generalize zbR (80 - (we h).length)=z;have l:∀n,(qO n).length=4:=fun n=>rfl;refine ⟨?_,rfl⟩;unfold za0;have f1:(List.drop 1 (List.take 5 (72::(qO h.ep++(qO h.side++(qO h.size++(qO h.first++z)))))))=qO h.ep:=(by simp[qO]);have f2:(List.drop 5 (List.take 9 (72::(qO h.ep++(qO h.side++(qO h.size++(qO h.first++z)))))))=qO h.side:=(by simp[qO]);have f3:(List.drop 9 (List.take 13 (72::(qO h.ep++(qO h.side++(qO h.size++(qO h.first++z)))))))=qO h.size:=(by simp[qO]);have f4:(List.drop 13 (List.take 17 (72::(qO h.ep++(qO h.side++(qO h.size++(qO h.first++z)))))))=qO h.first:=(by simp[qO]);rw[f1,f2,f3,f4,zdG h1,zdG h2,zdG h3,zdG h4]
theorem zis {h:HdM}(h1:h.ep<4294967296)(h2:h.side≤1)(h3:h.size≤4800)(h4:1≤h.first∧h.first<4294967296):wE (yl (we h))=h:=by
  obtain ⟨e1,e2⟩:=zqj (h:=h) h1 (by omega) (by omega) h4.2;unfold wE;rw[if_neg,e1];unfold zf4;rw[e1,e2];rintro (h | h | h | h)
  · exact h rfl
  · omega
  · omega
  · omega
def zp1 (r:ChangeM):Bytes:=[UInt8.ofNat r.key.length,UInt8.ofNat r.val.length,UInt8.ofNat (r.val.length / 256)]++r.key++r.val
def yx (l:List ChangeM):Bytes:=l.flatMap zp1
def okR (r:ChangeM):Prop:=zbI r=0∧r.gone=false
theorem zjJ {r:ChangeM}(h:okR r):(zp1 r).length≤59∧4≤(zp1 r).length:=by
  obtain ⟨hk,_,h1,h2⟩:=zfo h.1;unfold zp1;have:r.key.length≠0:=fun e=>hk (List.length_eq_zero_iff.1 e);simp;omega
theorem zcH:∀{l:List ChangeM},(∀r∈l,okR r)→(yx l).length≤59*l.length
  | [],_=>by simp[yx]
  | r::l,h=>by
    have h1:=zjJ (h r (by simp));have h2:=zcH (l:=l) fun x hx=>h x (List.mem_cons_of_mem _ hx);simp only[yx,List.flatMap_cons,List.length_append,List.length_cons] at h2 ⊢;omega
theorem zqD (r:ChangeM)(l:List ChangeM):yx (r::l)=zp1 r++yx l:=rfl
theorem zpw (l:List ChangeM)(r:ChangeM):yx (l++ [r])=yx l++zp1 r:=by simp[yx]
theorem zrJ {l:List ChangeM}{r:ChangeM}(h:srt (l++ [r]))(hr:r.gone=false):apS l r=l++ [r]:=by
  have h1:=List.pairwise_append.1 h;unfold apS;rw[znh (fun x hx=>h1.2.2 x hx r (by simp)),zs7 (fun x hx=>zc7 (h1.2.2 x hx r (by simp))),hr];simp
theorem zmn {l:List ChangeM}(h:srt l)(k:Nat):srt (l.take k):=h.sublist (List.take_sublist k l)
def wB (t:Bytes)(k:Nat):Bytes:=(t.drop (80*k)).take 80
def ye (t:Bytes):Nat:=(t.length+79) / 80
def ckW (side:Nat)(t:Bytes):Nat→Nat→List Stp
  | k,0=>[]
  | k,f+1=>some (2+side*60+k,wB t k)::ckW side t (k+1) f
theorem ziI (side:Nat)(t:Bytes):∀f k,(ckW side t k f).length=f
  | 0,_=>rfl
  | f+1,k=>by simp[ckW,ziI side t f]
def ckL (h:HdM)(t:Bytes):List Stp:=ckW h.side t 0 (ye t)++ [none,some (h.ep % 2,we h),none]
def nxH (h:HdM)(rows:List ChangeM)(many:Nat):HdM:=⟨h.ep+1,1 - h.side,(yx rows).length,h.first+many⟩
theorem zkx (t:Bytes)(k:Nat):(wB t k).length≤80:=by unfold wB;rw[List.length_take];omega
def hdK (L:List Bytes):Nat→HdM
  | 0=>HdM.no
  | k+1=>if (hdK L k).ep<(wE (L.getD k [])).ep then wE (L.getD k []) else hdK L k
def zfg (L:List Bytes):HdM:=hdK L 2
def txt (L:List Bytes)(side:Nat):Bytes:=((L.drop (2+side*60)).take 60).flatten
structure Good (L:List Bytes) (h:HdM) (r0:List ChangeM) (ds:Deeds) (used:Nat):Prop where
  best:zfg L=h
  ep:1≤h.ep
  side:h.side≤1
  first:1≤h.first∧h.first≤1000000000
  size:h.size=(yx r0).length
  text:(txt L h.side).take h.size=yx r0
  hsrt:srt r0
  hok:∀r∈r0,okR r
  len:r0.length≤80
  log:wa h.first (fun i=>L.getD (122+i) []) (L.length - 122) 0 [] [] 0=(ds,used)
  lens:∀d∈ds,d.length≤72
  chk:∀d∈ds,∀x∈d,zbI x=0
  fits:∀k,((ds.take k).foldl zaF r0).length≤80
def cur (r0:List ChangeM)(ds:Deeds):List ChangeM:=ds.foldl zaF r0
def cmV (many:Nat)(rows c:List ChangeM):Int:=if 72<c.length then 2 else if zg0 c≠0 then zg0 c else if 80<(zaF rows c).length∨many<c.length+1 then 8 else 0
theorem zho (w:World):(Instr.build 177 #[]).run Tryz.prog w= .ok (.agg #[I 0,I 0,I 0,I 0]) w:=by
  simp[Instr.build,zeroValue177,runUnderlying177,Instr.fill,qV,sl]
theorem shlN (q x:Nat)(hq:q≤24)(hx:x<256):IntKind.i64.wrap ((x:Int)*2 ^ (min ((q:Nat):Int).toNat IntKind.i64.bits))=((2 ^ q*x:Nat):Int):=by
  rw[show ((q:Nat):Int).toNat=q from rfl,show min q IntKind.i64.bits=q from Nat.min_eq_left (by show q≤64;omega)];have h2:2 ^ q*x<2 ^ 24*256:=Nat.lt_of_le_of_lt (Nat.mul_le_mul_right x (Nat.pow_le_pow_right (by decide) hq)) (Nat.mul_lt_mul_of_pos_left hx (by decide));rw[show (x:Int)*2 ^ q=((2 ^ q*x:Nat):Int) by rw[Nat.mul_comm];push_cast;rfl];exact w64 (by omega)
abbrev stC (bd:Nat)(h:HdM)(bl:Nat)(s:Option Addr)(n cap:Nat):Array Value:=#[ptr bd 0,I h.ep,I h.side,I h.size,I h.first,ptr bl 0,sl s n cap]
theorem zbH (n:Nat)(F:List HProp):Ct Tryz.prog 185 [I n] ([]++F) (R1 (Str (qO n)) F):=by
  show Ct Tryz.prog 185 [I n] (F) _;refine Ct.of func185 rR 16 ntmps185 (by simp) fun w0=>?_;refine gS (gA rR (qb (gS (gM rR (g_v (yU (r:=((n % 256:Nat):Int)) underlying3 underlying5 rR (wu8 _)) rR (gM rR (g_v (zd7 (r:=((n / 256:Nat):Int)) rR rR (by decide) (zjX n 256)) rR (g_v (yU (r:=((n / 256 % 256:Nat):Int)) underlying3 underlying5 rR (wu8 _)) rR (gM rR (g_v (zd7 (r:=((n / 65536:Nat):Int)) rR rR (by decide) (zjX n 65536)) rR (g_v (yU (r:=((n / 65536 % 256:Nat):Int)) underlying3 underlying5 rR (wu8 _)) rR (gM rR (g_v (zd7 (r:=((n / 16777216:Nat):Int)) rR rR (by decide) (zjX n 16777216)) rR (g_v (yU (r:=((n / 16777216 % 256:Nat):Int)) underlying3 underlying5 rR (wu8 _)) rR ?_))))))))))))));refine g_l (qq (qs (qO n)) underlying199 sizeOf5 zeroValue5 rR rR (zh7 n) (by simp[qs]) (by decide) (by decide)) rR ?_;rintro _ _ ⟨b14,rfl,rfl⟩;refine g_v (yK (l:=qO n) underlying199 underlying5 underlying9 rR rR rR) rR (gA rR (qb ?_));refine qm rR rR ?_;exact rfl
theorem qY (s:Bytes)(hs:s.length=4)(F:List HProp):Ct Tryz.prog 144 [Str s] ([]++F) (R1 (I (unN s)) F):=by
  show Ct Tryz.prog 144 [Str s] (F) _;refine Ct.of func144 rR 21 ntmps144 (by simp) fun w0=>?_;have h0:=zsV (sk s 0);have h1:=zsV (sk s 1);have h2:=zsV (sk s 2);have h3:=zsV (sk s 3);refine gS (gA rR (qb (qf ?_)));refine wN [(0,false),(1,false),(2,false),(3,false),(4,false),(5,false),(6,false),(7,false),(8,false),(9,false),(10,false),(11,false),(12,false),(13,false),(14,false),(15,false),(16,false),(17,false),(18,false)] (by kernel_rfl) (by kernel_rfl) rR (by kernel_rfl) ?_;refine dM rR rR rR (d_v rR (qW (r:=sk s 0) 0 underlying9 rR rR rR (zeK (by omega))) rR (d_v rR (yU (r:=(((sk s 0).toNat:Nat):Int)) underlying5 underlying3 rR (w64 (by omega))) rR (dM rR rR rR (d_v rR (qW (r:=sk s 1) 1 underlying9 rR rR rR (zeK (by omega))) rR (d_v rR (yU (r:=(((sk s 1).toNat:Nat):Int)) underlying5 underlying3 rR (w64 (by omega))) rR (d_v rR (zvc (r:=((2 ^ 8*(sk s 1).toNat:Nat):Int)) rR rR (by decide) (shlN 8 _ (by decide) (by omega))) rR (d_v rR (zvh (sk s 0).toNat 8 _ rR rR (by omega) (by omega)) rR (dM rR rR rR (d_v rR (qW (r:=sk s 2) 2 underlying9 rR rR rR (zeK (by omega))) rR (d_v rR (yU (r:=(((sk s 2).toNat:Nat):Int)) underlying5 underlying3 rR (w64 (by omega))) rR (d_v rR (zvc (r:=((2 ^ 16*(sk s 2).toNat:Nat):Int)) rR rR (by decide) (shlN 16 _ (by decide) (by omega))) rR (d_v rR (zvh ((sk s 0).toNat+2 ^ 8*(sk s 1).toNat) 16 _ rR rR (by omega) (by omega)) rR (dM rR rR rR (d_v rR (qW (r:=sk s 3) 3 underlying9 rR rR rR (zeK (by omega))) rR (d_v rR (yU (r:=(((sk s 3).toNat:Nat):Int)) underlying5 underlying3 rR (w64 (by omega))) rR (d_v rR (zvc (r:=((2 ^ 24*(sk s 3).toNat:Nat):Int)) rR rR (by decide) (shlN 24 _ (by decide) (by omega))) rR (d_v rR (zvh ((sk s 0).toNat+2 ^ 8*(sk s 1).toNat+2 ^ 16*(sk s 2).toNat) 24 _ rR rR (by omega) (by omega)) rR (d_v rR (qx rR) rR ?_))))))))))))))))));refine yc ?_;refine qm rR rR ?_;exact rfl
theorem zeG (h:HdM)(F:List HProp):Ct Tryz.prog 138 [.agg (ws h).toArray] ([]++F) (R1 (Str (we h)) F):=by
  show Ct Tryz.prog 138 [.agg (ws h).toArray] (F) _;refine Ct.of func138 rR 19 ntmps138 (by simp) fun w0=>?_;refine gS ?_;refine g_l (wX (ws h).toArray rR rR) rR ?_;rintro _ _ ⟨b1,rfl,rfl⟩;refine gA rR (qb (qf ?_));refine wN [(0,false),(1,false),(4,false),(5,false),(8,false),(9,false),(12,false),(13,false),(2,true),(3,false),(6,true),(7,false),(10,true),(11,false),(14,true),(15,false),(16,false)] (by kernel_rfl) (by kernel_rfl) rR (by kernel_rfl) ?_;refine d_v rfl (qa 0 underlying177 rfl rfl sizeOf3 (by decide) rfl) rfl (d_v rfl (qe (v:=I h.ep) isAgg3 rfl rfl) rfl (d_v rfl (qa 1 underlying177 rfl rfl sizeOf3 (by decide) rfl) rfl (d_v rfl (qe (v:=I h.side) isAgg3 rfl rfl) rfl (d_v rfl (qa 2 underlying177 rfl rfl sizeOf3 (by decide) rfl) rfl (d_v rfl (qe (v:=I h.size) isAgg3 rfl rfl) rfl (d_v rfl (qa 3 underlying177 rfl rfl sizeOf3 (by decide) rfl) rfl (d_v rfl (qe (v:=I h.first) isAgg3 rfl rfl) rfl ?_)))))));refine d_l rR (qi (Pre:=[]) call185 rR (zbH h.ep)) rR ?_;rintro _ _ ⟨rfl,rfl⟩;refine d_v rR (wQ rR rR (by simp[qO])) rR ?_;refine d_l rR (qi (Pre:=[]) call185 rR (zbH h.side)) rR ?_;rintro _ _ ⟨rfl,rfl⟩;refine d_v rR (wQ rR rR (by simp[qO])) rR ?_;refine d_l rR (qi (Pre:=[]) call185 rR (zbH h.size)) rR ?_;rintro _ _ ⟨rfl,rfl⟩;refine d_v rR (wQ rR rR (by simp[qO])) rR ?_;refine d_l rfl (qi (Pre:=[]) call185 rfl (zbH h.first)) rfl ?_;rintro _ _ ⟨rfl,rfl⟩;refine d_v rR (wQ rR rR (by simp[qO])) rR (d_v rR (qx rR) rR ?_);refine yc ?_;refine qm rR rR ?_;exact rfl
theorem zgS (s:Bytes)(hs:s.length=80)(F:List HProp):Ct Tryz.prog 104 [Str s] ([]++F) (R1 (.agg (ws (wE s)).toArray) F):=by
  show Ct Tryz.prog 104 [Str s] (F) _;refine Ct.of func104 rR 37 ntmps104 (by simp) fun w0=>?_;refine gS ?_;refine g_l (qy #[I 0,I 0,I 0,I 0] zeroValue177) rR ?_;rintro _ _ ⟨b2,rfl,rfl⟩;refine qb (qf ?_);refine zlm (Lf:=[]) (.q 0 (.q 1 (.q 3 (.q 4 (.q 6 (.q 7 (.q 9 (.q 10 (.alt (.l 2 (.alt (.l 5 (.alt (.l 8 (.alt (.l 11 (.q 12 (.l 13 (.l 14 (.nil))))) (.l 13 (.l 11 (.q 12 (.l 14 (.nil))))))) (.l 13 (.l 8 (.l 11 (.q 12 (.l 14 (.nil)))))))) (.l 13 (.l 5 (.l 8 (.l 11 (.q 12 (.l 14 (.nil))))))))) (.l 13 (.l 2 (.l 5 (.l 8 (.l 11 (.q 12 (.l 14 (.nil))))))))))))))))) (by kernel_rfl) (by kernel_rfl) (by kernel_rfl) ?_;refine t_v rR (qn rR) rR ?_;refine t_v rR (zam (l:=1) (h:=5) underlying9 rR rR rR rR rR (by decide) (by omega)) rR ?_;refine t_v rR (qn rR) rR ?_;refine t_v rR (zam (l:=5) (h:=9) underlying9 rR rR rR rR rR (by decide) (by omega)) rR ?_;refine t_v rR (qn rR) rR ?_;refine t_v rR (zam (l:=9) (h:=13) underlying9 rR rR rR rR rR (by decide) (by omega)) rR ?_;refine t_v rR (qn rR) rR ?_;refine t_v rR (zam (l:=13) (h:=17) underlying9 rR rR rR rR rR (by decide) (by omega)) rR ?_;refine zhU ?_ ?_
  · refine t_l rR (qi (Pre:=[]) call144 rR (qY ((s.take 5).drop 1) (by simp only[List.length_drop,List.length_take];omega))) rR ?_;rintro _ _ ⟨rfl,rfl⟩;refine zhU ?_ ?_
    · refine t_l rR (qi (Pre:=[]) call144 rR (qY ((s.take 9).drop 5) (by simp only[List.length_drop,List.length_take];omega))) rR ?_;rintro _ _ ⟨rfl,rfl⟩;refine zhU ?_ ?_
      · refine t_l rR (qi (Pre:=[]) call144 rR (qY ((s.take 13).drop 9) (by simp only[List.length_drop,List.length_take];omega))) rR ?_;rintro _ _ ⟨rfl,rfl⟩;refine zhU ?_ ?_
        · refine t_l rR (qi (Pre:=[]) call144 rR (qY ((s.take 17).drop 13) (by simp only[List.length_drop,List.length_take];omega))) rR ?_;rintro _ _ ⟨rfl,rfl⟩;refine t_v rR (qP rR (wn _ rR _ rR _ rR _ rR)) rR ?_;refine t_l rR (qy #[I 0,I 0,I 0,I 0] zeroValue177) rR ?_;rintro _ _ ⟨b3,rfl,rfl⟩;refine zvL rR (qr (cs:=#[I 0,I 0,I 0,I 0]) (vs:=ws (za0 s)) (ws (za0 s)).toArray sizeOf177 rR rR rR rR (by decide) (qC rR)) ?_;rintro _ _ rfl;refine zfy ?_;refine qf (gS (gM rfl (g_v (qW (r:=sk s 0) 0 underlying9 rfl rfl rfl (zeK (by omega))) rfl (g_v (zdY rfl rfl) rfl (gM rfl (qH rfl rfl (fun hg=>qa 1 underlying177 rfl rfl sizeOf3 (by decide) rfl) rfl rfl (qH rfl rfl (fun hg=>qe (v:=I (za0 s).side) isAgg3 rfl rfl) rfl rfl (qH rfl rfl (fun hg=>yz rfl rfl) rfl rfl (g_v (zav rfl rfl) rfl (gM rfl (qH rfl rfl (fun hg=>qa 2 underlying177 rfl rfl sizeOf3 (by decide) rfl) rfl rfl (qH rfl rfl (fun hg=>qe (v:=I (za0 s).size) isAgg3 rfl rfl) rfl rfl (qH rfl rfl (fun hg=>yz rfl rfl) rfl rfl (g_v (zav rfl rfl) rfl (gM rfl (qH rfl rfl (fun hg=>qa 3 underlying177 rfl rfl sizeOf3 (by decide) rfl) rfl rfl (qH rfl rfl (fun hg=>qe (v:=I (za0 s).first) isAgg3 rfl rfl) rfl rfl (qH rfl rfl (fun hg=>qK rfl rfl) rfl rfl (g_v (zav rfl rfl) rfl (qb ?_))))))))))))))))))));refine qg rR (fun h34=>?_) (fun h34=>?_)
          · have hoff:zf4 s:=by
              unfold zf4;simp at h34;rcases h34 with ((h | h) | h) | h
              · exact .inl (fun e=>h (by rw[e];rfl))
              · exact .inr (.inl (by omega))
              · exact .inr (.inr (.inl (by omega)))
              · exact .inr (.inr (.inr (by omega)))
            refine gS (g_v (qP rR (zho)) rR ?_);refine yu (qr (cs:=#[I 0,I 0,I 0,I 0]) (vs:=ws HdM.no) (ws HdM.no).toArray sizeOf177 rR rR rR rR (by decide) (qC rR)) ?_;rintro _ _ rfl;refine qb ?_
            first
            | exact wz (ws HdM.no) (by unfold wE;rw[if_pos hoff]) rfl rfl isAgg177 sizeOf177 rfl qR
            | exact wz (ws (za0 s)) (by unfold wE;rw[if_neg hoff]) rfl rfl isAgg177 sizeOf177 rfl qR
          · have hoff:¬zf4 s:=by
              unfold zf4;simp at h34;rintro (h | h | h | h)
              · exact h (UInt8.toNat_inj.1 (by rw[show (72:UInt8).toNat=72 from rfl];omega))
              · omega
              · omega
              · omega
            refine qh (gS (g_v (qJ (vs:=ws (za0 s)) isAgg177 sizeOf177 rR rR qR) rR ?_));refine yu (qr (cs:=#[I 0,I 0,I 0,I 0]) (vs:=ws (za0 s)) (ws (za0 s)).toArray sizeOf177 rR rR rR rR (by decide) (qC rR)) ?_;rintro _ _ rfl;refine qb ?_
            first
            | exact wz (ws HdM.no) (by unfold wE;rw[if_pos hoff]) rfl rfl isAgg177 sizeOf177 rfl qR
            | exact wz (ws (za0 s)) (by unfold wE;rw[if_neg hoff]) rfl rfl isAgg177 sizeOf177 rfl qR
        · refine t_l rR (qy #[I 0,I 0,I 0,I 0] zeroValue177) rR ?_;rintro _ _ ⟨b3,rfl,rfl⟩;refine t_l rR (qi (Pre:=[]) call144 rR (qY ((s.take 17).drop 13) (by simp only[List.length_drop,List.length_take];omega))) rR ?_;rintro _ _ ⟨rfl,rfl⟩;refine t_v rR (qP rR (wn _ rR _ rR _ rR _ rR)) rR ?_;refine zvL rR (qr (cs:=#[I 0,I 0,I 0,I 0]) (vs:=ws (za0 s)) (ws (za0 s)).toArray sizeOf177 rR rR rR rR (by decide) (qC rR)) ?_;rintro _ _ rfl;refine zfy ?_;refine qf (gS (gM rfl (g_v (qW (r:=sk s 0) 0 underlying9 rfl rfl rfl (zeK (by omega))) rfl (g_v (zdY rfl rfl) rfl (gM rfl (qH rfl rfl (fun hg=>qa 1 underlying177 rfl rfl sizeOf3 (by decide) rfl) rfl rfl (qH rfl rfl (fun hg=>qe (v:=I (za0 s).side) isAgg3 rfl rfl) rfl rfl (qH rfl rfl (fun hg=>yz rfl rfl) rfl rfl (g_v (zav rfl rfl) rfl (gM rfl (qH rfl rfl (fun hg=>qa 2 underlying177 rfl rfl sizeOf3 (by decide) rfl) rfl rfl (qH rfl rfl (fun hg=>qe (v:=I (za0 s).size) isAgg3 rfl rfl) rfl rfl (qH rfl rfl (fun hg=>yz rfl rfl) rfl rfl (g_v (zav rfl rfl) rfl (gM rfl (qH rfl rfl (fun hg=>qa 3 underlying177 rfl rfl sizeOf3 (by decide) rfl) rfl rfl (qH rfl rfl (fun hg=>qe (v:=I (za0 s).first) isAgg3 rfl rfl) rfl rfl (qH rfl rfl (fun hg=>qK rfl rfl) rfl rfl (g_v (zav rfl rfl) rfl (qb ?_))))))))))))))))))));refine qg rR (fun h34=>?_) (fun h34=>?_)
          · have hoff:zf4 s:=by
              unfold zf4;simp at h34;rcases h34 with ((h | h) | h) | h
              · exact .inl (fun e=>h (by rw[e];rfl))
              · exact .inr (.inl (by omega))
              · exact .inr (.inr (.inl (by omega)))
              · exact .inr (.inr (.inr (by omega)))
            refine gS (g_v (qP rR (zho)) rR ?_);refine yu (qr (cs:=#[I 0,I 0,I 0,I 0]) (vs:=ws HdM.no) (ws HdM.no).toArray sizeOf177 rR rR rR rR (by decide) (qC rR)) ?_;rintro _ _ rfl;refine qb ?_
            first
            | exact wz (ws HdM.no) (by unfold wE;rw[if_pos hoff]) rfl rfl isAgg177 sizeOf177 rfl qR
            | exact wz (ws (za0 s)) (by unfold wE;rw[if_neg hoff]) rfl rfl isAgg177 sizeOf177 rfl qR
          · have hoff:¬zf4 s:=by
              unfold zf4;simp at h34;rintro (h | h | h | h)
              · exact h (UInt8.toNat_inj.1 (by rw[show (72:UInt8).toNat=72 from rfl];omega))
              · omega
              · omega
              · omega
            refine qh (gS (g_v (qJ (vs:=ws (za0 s)) isAgg177 sizeOf177 rR rR qR) rR ?_));refine yu (qr (cs:=#[I 0,I 0,I 0,I 0]) (vs:=ws (za0 s)) (ws (za0 s)).toArray sizeOf177 rR rR rR rR (by decide) (qC rR)) ?_;rintro _ _ rfl;refine qb ?_
            first
            | exact wz (ws HdM.no) (by unfold wE;rw[if_pos hoff]) rfl rfl isAgg177 sizeOf177 rfl qR
            | exact wz (ws (za0 s)) (by unfold wE;rw[if_neg hoff]) rfl rfl isAgg177 sizeOf177 rfl qR
      · refine t_l rR (qy #[I 0,I 0,I 0,I 0] zeroValue177) rR ?_;rintro _ _ ⟨b3,rfl,rfl⟩;refine t_l rR (qi (Pre:=[]) call144 rR (qY ((s.take 13).drop 9) (by simp only[List.length_drop,List.length_take];omega))) rR ?_;rintro _ _ ⟨rfl,rfl⟩;refine t_l rR (qi (Pre:=[]) call144 rR (qY ((s.take 17).drop 13) (by simp only[List.length_drop,List.length_take];omega))) rR ?_;rintro _ _ ⟨rfl,rfl⟩;refine t_v rR (qP rR (wn _ rR _ rR _ rR _ rR)) rR ?_;refine zvL rR (qr (cs:=#[I 0,I 0,I 0,I 0]) (vs:=ws (za0 s)) (ws (za0 s)).toArray sizeOf177 rR rR rR rR (by decide) (qC rR)) ?_;rintro _ _ rfl;refine zfy ?_;refine qf (gS (gM rfl (g_v (qW (r:=sk s 0) 0 underlying9 rfl rfl rfl (zeK (by omega))) rfl (g_v (zdY rfl rfl) rfl (gM rfl (qH rfl rfl (fun hg=>qa 1 underlying177 rfl rfl sizeOf3 (by decide) rfl) rfl rfl (qH rfl rfl (fun hg=>qe (v:=I (za0 s).side) isAgg3 rfl rfl) rfl rfl (qH rfl rfl (fun hg=>yz rfl rfl) rfl rfl (g_v (zav rfl rfl) rfl (gM rfl (qH rfl rfl (fun hg=>qa 2 underlying177 rfl rfl sizeOf3 (by decide) rfl) rfl rfl (qH rfl rfl (fun hg=>qe (v:=I (za0 s).size) isAgg3 rfl rfl) rfl rfl (qH rfl rfl (fun hg=>yz rfl rfl) rfl rfl (g_v (zav rfl rfl) rfl (gM rfl (qH rfl rfl (fun hg=>qa 3 underlying177 rfl rfl sizeOf3 (by decide) rfl) rfl rfl (qH rfl rfl (fun hg=>qe (v:=I (za0 s).first) isAgg3 rfl rfl) rfl rfl (qH rfl rfl (fun hg=>qK rfl rfl) rfl rfl (g_v (zav rfl rfl) rfl (qb ?_))))))))))))))))))));refine qg rR (fun h34=>?_) (fun h34=>?_)
        · have hoff:zf4 s:=by
            unfold zf4;simp at h34;rcases h34 with ((h | h) | h) | h
            · exact .inl (fun e=>h (by rw[e];rfl))
            · exact .inr (.inl (by omega))
            · exact .inr (.inr (.inl (by omega)))
            · exact .inr (.inr (.inr (by omega)))
          refine gS (g_v (qP rR (zho)) rR ?_);refine yu (qr (cs:=#[I 0,I 0,I 0,I 0]) (vs:=ws HdM.no) (ws HdM.no).toArray sizeOf177 rR rR rR rR (by decide) (qC rR)) ?_;rintro _ _ rfl;refine qb ?_
          first
          | exact wz (ws HdM.no) (by unfold wE;rw[if_pos hoff]) rfl rfl isAgg177 sizeOf177 rfl qR
          | exact wz (ws (za0 s)) (by unfold wE;rw[if_neg hoff]) rfl rfl isAgg177 sizeOf177 rfl qR
        · have hoff:¬zf4 s:=by
            unfold zf4;simp at h34;rintro (h | h | h | h)
            · exact h (UInt8.toNat_inj.1 (by rw[show (72:UInt8).toNat=72 from rfl];omega))
            · omega
            · omega
            · omega
          refine qh (gS (g_v (qJ (vs:=ws (za0 s)) isAgg177 sizeOf177 rR rR qR) rR ?_));refine yu (qr (cs:=#[I 0,I 0,I 0,I 0]) (vs:=ws (za0 s)) (ws (za0 s)).toArray sizeOf177 rR rR rR rR (by decide) (qC rR)) ?_;rintro _ _ rfl;refine qb ?_
          first
          | exact wz (ws HdM.no) (by unfold wE;rw[if_pos hoff]) rfl rfl isAgg177 sizeOf177 rfl qR
          | exact wz (ws (za0 s)) (by unfold wE;rw[if_neg hoff]) rfl rfl isAgg177 sizeOf177 rfl qR
    · refine t_l rR (qy #[I 0,I 0,I 0,I 0] zeroValue177) rR ?_;rintro _ _ ⟨b3,rfl,rfl⟩;refine t_l rR (qi (Pre:=[]) call144 rR (qY ((s.take 9).drop 5) (by simp only[List.length_drop,List.length_take];omega))) rR ?_;rintro _ _ ⟨rfl,rfl⟩;refine t_l rR (qi (Pre:=[]) call144 rR (qY ((s.take 13).drop 9) (by simp only[List.length_drop,List.length_take];omega))) rR ?_;rintro _ _ ⟨rfl,rfl⟩;refine t_l rR (qi (Pre:=[]) call144 rR (qY ((s.take 17).drop 13) (by simp only[List.length_drop,List.length_take];omega))) rR ?_;rintro _ _ ⟨rfl,rfl⟩;refine t_v rR (qP rR (wn _ rR _ rR _ rR _ rR)) rR ?_;refine zvL rR (qr (cs:=#[I 0,I 0,I 0,I 0]) (vs:=ws (za0 s)) (ws (za0 s)).toArray sizeOf177 rR rR rR rR (by decide) (qC rR)) ?_;rintro _ _ rfl;refine zfy ?_;refine qf (gS (gM rfl (g_v (qW (r:=sk s 0) 0 underlying9 rfl rfl rfl (zeK (by omega))) rfl (g_v (zdY rfl rfl) rfl (gM rfl (qH rfl rfl (fun hg=>qa 1 underlying177 rfl rfl sizeOf3 (by decide) rfl) rfl rfl (qH rfl rfl (fun hg=>qe (v:=I (za0 s).side) isAgg3 rfl rfl) rfl rfl (qH rfl rfl (fun hg=>yz rfl rfl) rfl rfl (g_v (zav rfl rfl) rfl (gM rfl (qH rfl rfl (fun hg=>qa 2 underlying177 rfl rfl sizeOf3 (by decide) rfl) rfl rfl (qH rfl rfl (fun hg=>qe (v:=I (za0 s).size) isAgg3 rfl rfl) rfl rfl (qH rfl rfl (fun hg=>yz rfl rfl) rfl rfl (g_v (zav rfl rfl) rfl (gM rfl (qH rfl rfl (fun hg=>qa 3 underlying177 rfl rfl sizeOf3 (by decide) rfl) rfl rfl (qH rfl rfl (fun hg=>qe (v:=I (za0 s).first) isAgg3 rfl rfl) rfl rfl (qH rfl rfl (fun hg=>qK rfl rfl) rfl rfl (g_v (zav rfl rfl) rfl (qb ?_))))))))))))))))))));refine qg rR (fun h34=>?_) (fun h34=>?_)
      · have hoff:zf4 s:=by
          unfold zf4;simp at h34;rcases h34 with ((h | h) | h) | h
          · exact .inl (fun e=>h (by rw[e];rfl))
          · exact .inr (.inl (by omega))
          · exact .inr (.inr (.inl (by omega)))
          · exact .inr (.inr (.inr (by omega)))
        refine gS (g_v (qP rR (zho)) rR ?_);refine yu (qr (cs:=#[I 0,I 0,I 0,I 0]) (vs:=ws HdM.no) (ws HdM.no).toArray sizeOf177 rR rR rR rR (by decide) (qC rR)) ?_;rintro _ _ rfl;refine qb ?_
        first
        | exact wz (ws HdM.no) (by unfold wE;rw[if_pos hoff]) rfl rfl isAgg177 sizeOf177 rfl qR
        | exact wz (ws (za0 s)) (by unfold wE;rw[if_neg hoff]) rfl rfl isAgg177 sizeOf177 rfl qR
      · have hoff:¬zf4 s:=by
          unfold zf4;simp at h34;rintro (h | h | h | h)
          · exact h (UInt8.toNat_inj.1 (by rw[show (72:UInt8).toNat=72 from rfl];omega))
          · omega
          · omega
          · omega
        refine qh (gS (g_v (qJ (vs:=ws (za0 s)) isAgg177 sizeOf177 rR rR qR) rR ?_));refine yu (qr (cs:=#[I 0,I 0,I 0,I 0]) (vs:=ws (za0 s)) (ws (za0 s)).toArray sizeOf177 rR rR rR rR (by decide) (qC rR)) ?_;rintro _ _ rfl;refine qb ?_
        first
        | exact wz (ws HdM.no) (by unfold wE;rw[if_pos hoff]) rfl rfl isAgg177 sizeOf177 rfl qR
        | exact wz (ws (za0 s)) (by unfold wE;rw[if_neg hoff]) rfl rfl isAgg177 sizeOf177 rfl qR
  · refine t_l rR (qy #[I 0,I 0,I 0,I 0] zeroValue177) rR ?_;rintro _ _ ⟨b3,rfl,rfl⟩;refine t_l rR (qi (Pre:=[]) call144 rR (qY ((s.take 5).drop 1) (by simp only[List.length_drop,List.length_take];omega))) rR ?_;rintro _ _ ⟨rfl,rfl⟩;refine t_l rR (qi (Pre:=[]) call144 rR (qY ((s.take 9).drop 5) (by simp only[List.length_drop,List.length_take];omega))) rR ?_;rintro _ _ ⟨rfl,rfl⟩;refine t_l rR (qi (Pre:=[]) call144 rR (qY ((s.take 13).drop 9) (by simp only[List.length_drop,List.length_take];omega))) rR ?_;rintro _ _ ⟨rfl,rfl⟩;refine t_l rR (qi (Pre:=[]) call144 rR (qY ((s.take 17).drop 13) (by simp only[List.length_drop,List.length_take];omega))) rR ?_;rintro _ _ ⟨rfl,rfl⟩;refine t_v rR (qP rR (wn _ rR _ rR _ rR _ rR)) rR ?_;refine zvL rR (qr (cs:=#[I 0,I 0,I 0,I 0]) (vs:=ws (za0 s)) (ws (za0 s)).toArray sizeOf177 rR rR rR rR (by decide) (qC rR)) ?_;rintro _ _ rfl;refine zfy ?_;refine qf (gS (gM rfl (g_v (qW (r:=sk s 0) 0 underlying9 rfl rfl rfl (zeK (by omega))) rfl (g_v (zdY rfl rfl) rfl (gM rfl (qH rfl rfl (fun hg=>qa 1 underlying177 rfl rfl sizeOf3 (by decide) rfl) rfl rfl (qH rfl rfl (fun hg=>qe (v:=I (za0 s).side) isAgg3 rfl rfl) rfl rfl (qH rfl rfl (fun hg=>yz rfl rfl) rfl rfl (g_v (zav rfl rfl) rfl (gM rfl (qH rfl rfl (fun hg=>qa 2 underlying177 rfl rfl sizeOf3 (by decide) rfl) rfl rfl (qH rfl rfl (fun hg=>qe (v:=I (za0 s).size) isAgg3 rfl rfl) rfl rfl (qH rfl rfl (fun hg=>yz rfl rfl) rfl rfl (g_v (zav rfl rfl) rfl (gM rfl (qH rfl rfl (fun hg=>qa 3 underlying177 rfl rfl sizeOf3 (by decide) rfl) rfl rfl (qH rfl rfl (fun hg=>qe (v:=I (za0 s).first) isAgg3 rfl rfl) rfl rfl (qH rfl rfl (fun hg=>qK rfl rfl) rfl rfl (g_v (zav rfl rfl) rfl (qb ?_))))))))))))))))))));refine qg rR (fun h34=>?_) (fun h34=>?_)
    · have hoff:zf4 s:=by
        unfold zf4;simp at h34;rcases h34 with ((h | h) | h) | h
        · exact .inl (fun e=>h (by rw[e];rfl))
        · exact .inr (.inl (by omega))
        · exact .inr (.inr (.inl (by omega)))
        · exact .inr (.inr (.inr (by omega)))
      refine gS (g_v (qP rR (zho)) rR ?_);refine yu (qr (cs:=#[I 0,I 0,I 0,I 0]) (vs:=ws HdM.no) (ws HdM.no).toArray sizeOf177 rR rR rR rR (by decide) (qC rR)) ?_;rintro _ _ rfl;refine qb ?_
      first
      | exact wz (ws HdM.no) (by unfold wE;rw[if_pos hoff]) rfl rfl isAgg177 sizeOf177 rfl qR
      | exact wz (ws (za0 s)) (by unfold wE;rw[if_neg hoff]) rfl rfl isAgg177 sizeOf177 rfl qR
    · have hoff:¬zf4 s:=by
        unfold zf4;simp at h34;rintro (h | h | h | h)
        · exact h (UInt8.toNat_inj.1 (by rw[show (72:UInt8).toNat=72 from rfl];omega))
        · omega
        · omega
        · omega
      refine qh (gS (g_v (qJ (vs:=ws (za0 s)) isAgg177 sizeOf177 rR rR qR) rR ?_));refine yu (qr (cs:=#[I 0,I 0,I 0,I 0]) (vs:=ws (za0 s)) (ws (za0 s)).toArray sizeOf177 rR rR rR rR (by decide) (qC rR)) ?_;rintro _ _ rfl;refine qb ?_
      first
      | exact wz (ws HdM.no) (by unfold wE;rw[if_pos hoff]) rfl rfl isAgg177 sizeOf177 rfl qR
      | exact wz (ws (za0 s)) (by unfold wE;rw[if_neg hoff]) rfl rfl isAgg177 sizeOf177 rfl qR
-- (*counterfoil/store.Store).Room is not in this seat
theorem zjl (bs bd:Nat)(h:HdM)(bl:Nat)(s:Option Addr)(cap:Nat)(rows:List ChangeM)(hr:rows.length≤400)(F:List HProp):Ct Tryz.prog 65 [ptr bs 0] ([pt bs (.cells (stC bd h bl s (rows.length) cap) 180 (0,0)),roL 3 s (chR rows)]++F) (RSl 104 3 rows.length (chR rows) (pt bs (.cells (stC bd h bl s (rows.length) cap) 180 (0,0))::roL 3 s (chR rows)::F)):=by
  show Ct Tryz.prog 65 [ptr bs 0] (pt bs (.cells (stC bd h bl s (rows.length) cap) 180 (0,0))::roL 3 s (chR rows)::F) _;refine Ct.of func65 rR 8 ntmps65 (by simp) fun w0=>?_;refine gS (gA rR (qb (gS (gM rR (g_v (qc rR) rR (g_v (qa 6 underlying180 rR rR sizeOf34 (by decide) rR) rR (g_v (qe (v:=sl s rows.length cap) isAgg34 rR rR) rR ?_)))))));refine g_l (qi (Pre:=[roL 3 s (chR rows)]) call111 rR (zcW rows s cap (by omega))) rR ?_;rintro _ _ ⟨s7,c7,rfl,rfl⟩;refine gA rR (qb ?_);exact wA rfl rfl rfl rfl
theorem zvd:∃fn,Tryz.prog.funcs[200]? =some fn∧(fn.name== "runtime.NumGoroutine")=false∧fn.body.isNone=true∧Extern.findNext fn=none∧Extern.find fn=some Extern.AbiNoEscape.same:=
  ⟨(Tryz.prog.funcs[200]?).get (by kernel_rfl),(Option.some_get _).symm,by kernel_rfl,by kernel_rfl,by kernel_rfl,by kernel_rfl⟩
theorem zlQ (v:Value)(w:World):(callFunc 200 [v].toArray).run Tryz.prog w= .ok (.value v) w:=by
  obtain ⟨fn,h1,h2,h3,h4,h5⟩:=zvd;rw[run_callFunc_extern h1 h2 h3 h4 h5]
  rfl
theorem znX (a b:Nat):[[By ((a % 256:Nat):Int)],[By ((b % 256:Nat):Int)],[By ((b / 256 % 256:Nat):Int)]]=qs [UInt8.ofNat a,UInt8.ofNat b,UInt8.ofNat (b / 256)]:=by
  simp only[qs,List.map_cons,List.map_nil,UInt8.toNat_ofNat']
theorem bldKV (k v:Bytes)(w:World):(Instr.build 104 #[(0,Str k),(1,Str v)]).run Tryz.prog w= .ok (.agg (yw ⟨k,v,false⟩).toArray) w:=by
  simp[Instr.build,zeroValue104,runUnderlying104,sizeOf9,sizeOf4,Instr.fill,qV,yw,show ∀s:Bytes,(Str s).cells=#[Str s] from fun _=>rfl]
theorem zkP {l:List ChangeM}{k:Nat}{x:ChangeM}(h:l[k]? =some x):yx (l.take (k+1))=yx (l.take k)++zp1 x:=by rw[zdg h,zpw]
theorem zkr {l:List ChangeM}{k:Nat}{x:ChangeM}(h:l[k]? =some x):yx (l.drop k)=zp1 x++yx (l.drop (k+1)):=by
  obtain ⟨hk,rfl⟩:=List.getElem?_eq_some_iff.1 h;rw[List.drop_eq_getElem_cons hk,zqD]
theorem zks {l:List ChangeM}(h:∀r∈l,okR r)(k:Nat):(yx (l.take k)).length≤59*l.length:=by
  have:=zcH (l:=l.take k) fun r hr=>h r (List.mem_of_mem_take hr);rw[List.length_take] at this;omega
theorem zqY {l:List ChangeM}{k:Nat}{x:ChangeM}(hs:srt l)(hx:l[k]? =some x)(hg:x.gone=false):zaF (l.take k) [x]=l.take (k+1):=by
  have h:=zmn hs (k+1);rw[zdg hx] at h ⊢;exact zrJ h hg
theorem zdX (bb:Nat)(p s:Option Addr)(n cap:Nat)(hp:p=none∨p=some ⟨bb,0,none⟩)(F:List HProp):Ct Tryz.prog 171 [ptr bb 0] ([pt bb (.cells #[(.pointer p),sl s n cap] 201 (0,0))]++F) (R1 (.tuple #[]) (pt bb (.cells #[ptr bb 0,sl s n cap] 201 (0,0))::F)):=by
  show Ct Tryz.prog 171 [ptr bb 0] (pt bb (.cells #[(.pointer p),sl s n cap] 201 (0,0))::F) _;refine Ct.of func171 rR 20 ntmps171 (by simp) fun w0=>?_;refine gS (gM rR (g_v (qc rR) rR (g_v (qa 0 underlying201 rR rR sizeOf198 (by decide) rR) rR (g_v (qe (v:=(.pointer p)) isAgg198 rR rR) rR (g_v (zgC underlying198 rR) rR (qb ?_))))));refine qg rR (fun h6=>?_) (fun h6=>?_)
  · refine qp (gM rR (gM rR (g_v (zvg underlying198 underlying271 sizeOf201 (by decide) rR (by simp)) rR ?_)));refine g_l (zpH (fun w=>zlQ _ w) rR) rR ?_;rintro _ _ ⟨rfl,rfl⟩;refine g_v (zur underlying271 underlying198 sizeOf201 (by decide) rR rR) rR (g_v (qc rR) rR (g_v (qa 0 underlying201 rR rR sizeOf198 (by decide) rR) rR ?_));refine yu (qI #[ptr bb 0,sl s n cap] sizeOf198 rR rR rR (by simp) rR) ?_;rintro _ _ rfl;refine qb ?_;refine zcZ rR rR ?_;exact rfl
  · have hps:p=some ⟨bb,0,none⟩:=by
      rcases hp with h | h
      · rw[h] at h6;cases h6
      · exact h
    rw[hps];refine gS (gM rR (g_v (qc rR) rR (g_v (qa 0 underlying201 rR rR sizeOf198 (by decide) rR) rR (g_v (qe (v:=ptr bb 0) isAgg198 rR rR) rR (gM rR (g_v (znP underlying198 sizeOf201 rR rR) rR (qb ?_)))))));refine qg rR (fun h19=>?_) (fun h19=>?_)
    · cases h19
    · refine qh ?_;refine zcZ rR rR ?_;exact rfl
theorem zcO (bb:Nat)(p s:Option Addr)(cap:Nat)(l t:Bytes)(hp:p=none∨p=some ⟨bb,0,none⟩)(hb:l.length+t.length≤1000000)(F:List HProp):Ct Tryz.prog 120 [ptr bb 0,Str t] ([pt bb (.cells #[(.pointer p),sl s l.length cap] 201 (0,0)),owL 5 1 s cap (qs (l))]++F) (fun v L'=>∃s' cap',v= .tuple #[I t.length, .nilIface]∧L'=pt bb (.cells #[ptr bb 0,sl s' (l++t).length cap'] 201 (0,0))::owL 5 1 s' cap' (qs (l++t))::F):=by
  show Ct Tryz.prog 120 [ptr bb 0,Str t] (pt bb (.cells #[(.pointer p),sl s l.length cap] 201 (0,0))::owL 5 1 s cap (qs (l))::F) _;refine Ct.of func120 rR 19 ntmps120 (by simp) fun w0=>?_;refine gS (gA rR (gA rR (qb (gS (gM rR ?_)))));refine g_l (qi (Pre:=[pt bb (.cells #[(.pointer p),sl s l.length cap] 201 (0,0))]) call171 rR (zdX bb p s l.length cap hp)) rR ?_;rintro _ _ ⟨rfl,rfl⟩;refine qb (gS (gM rR (gM rR (g_v (qc rR) rR (g_v (qa 1 underlying201 rR rR sizeOf199 (by decide) rR) rR (g_v (qe (v:=sl s l.length cap) isAgg199 rR rR) rR (gM rR ?_)))))));refine g_l (zr8 underlying199 underlying9 sizeOf5 zeroValue5 rR Tryz.typeInfo5 rR rR rR ⟨by omega,by decide,by decide⟩) rR ?_;rintro _ _ ⟨s14,c14,rfl,_,rfl⟩;refine g_v (qc rR) rR (g_v (qa 1 underlying201 rR rR sizeOf199 (by decide) rR) rR ?_);refine yu (qI #[ptr bb 0,sl s14 (l++t).length c14] sizeOf199 rR rR rR (by simp) rR) ?_;rintro _ _ rfl;refine qb (gS (gM rR (g_v (wh underlying9 rR) rR (gA rR (gA rR (qb ?_))))));exact ql (pt bb (.cells #[ptr bb 0,sl s14 (l++t).length c14] 201 (0,0))::owL 5 1 s14 c14 (qs (l++t))::F) rfl ⟨s14,c14,rfl,rfl⟩
theorem zfj (bb:Nat)(p s:Option Addr)(cap:Nat)(l:Bytes)(h0:l≠ []∨s=none)(hb:l.length≤1000000)(F:List HProp):Ct Tryz.prog 122 [ptr bb 0] ([pt bb (.cells #[(.pointer p),sl s l.length cap] 201 (0,0)),owL 5 1 s cap (qs (l))]++F) (R1 (Str l) (pt bb (.cells #[(.pointer p),sl s l.length cap] 201 (0,0))::F)):=by
  show Ct Tryz.prog 122 [ptr bb 0] (pt bb (.cells #[(.pointer p),sl s l.length cap] 201 (0,0))::owL 5 1 s cap (qs (l))::F) _;refine Ct.of func122 rR 14 ntmps122 (by simp) fun w0=>?_;refine gS (gA rR (qb (qf ?_)));refine yy (Lf:=[pt bb (.cells #[(.pointer p),sl s l.length cap] 201 (0,0))]) [(0,false),(1,false),(2,false),(3,false),(5,false),(6,false),(7,false),(8,false),(9,false),(4,true),(10,true),(11,false)] (by kernel_rfl) (by kernel_rfl) rR (by kernel_rfl) ?_;refine dM rR rR rR (d_v rR (qc rR) rR (d_v rR (qa 1 underlying201 rR rR sizeOf199 (by decide) rR) rR (d_v rR (qe (v:=sl s l.length cap) isAgg199 rR rR) rR (dM rR rR rR (d_v rR (qc rR) rR (d_v rR (qa 1 underlying201 rR rR sizeOf199 (by decide) rR) rR (d_v rR (qe (v:=sl s l.length cap) isAgg199 rR rR) rR (d_v rR (yi underlying199 rR) rR ?_))))))));refine d_l rR (l_usd (l:=l) rR h0) rR ?_;rintro _ _ ⟨rfl,rfl⟩;refine d_l rR (zxa (l:=l) underlying251 (zhD (sizeOf5 default)) rR rR rR h0 (by omega)) rR ?_;rintro _ _ ⟨rfl,rfl⟩;refine d_v rR (qx rR) rR ?_;refine yc ?_;refine qm rR rR ?_;exact rfl
theorem zkR (rows:List ChangeM)(s:Option Addr)(cap:Nat)(hl:rows.length≤400)(hok:∀r∈rows,okR r)(F:List HProp):Ct Tryz.prog 175 [sl s rows.length cap] ([roL 3 s (chR rows)]++F) (R1 (Str (yx rows)) (roL 3 s (chR rows)::F)):=by
  show Ct Tryz.prog 175 [sl s rows.length cap] (roL 3 s (chR rows)::F) _;refine Ct.of func175 rR 36 ntmps175 (by simp) fun w0=>?_;have hlen:=zks hok;refine gS (gA rR (qb (gS ?_)));refine g_l (qy #[.pointer none,sl none 0 0] zeroValue201) rR ?_;rintro _ _ ⟨b3,rfl,rfl⟩;refine qb (qf (qf ?_));rw[show sl none 0 0=sl none (yx (rows.take 0)).length 0 from rfl];refine yD 5 1 (qs (yx (rows.take 0))) rR ?_;refine qp (gM rR (g_v (yi underlying34 rR) rR (gM rR (qb (qj ?_)))));refine qD (α:=Nat×Option Addr×Option Addr×Nat) (fun z=>z.1≤rows.length∧(z.2.1=none∨z.2.1=some ⟨b3,0,none⟩)∧(yx (rows.take z.1)≠ []∨z.2.2.1=none)) (fun z=>U [(3,ptr b3 0),(6,sl s rows.length cap),(7,I rows.length),(8,I z.1)]) (fun z=>pt b3 (.cells #[(.pointer z.2.1),sl z.2.2.1 (yx (rows.take z.1)).length z.2.2.2] 201 (0,0))::owL 5 1 z.2.2.1 z.2.2.2 (qs (yx (rows.take z.1)))::roL 3 s (chR rows)::F) (fun z=>rows.length - z.1) (0,none,none,0) ⟨by simp, .inl rfl, .inr rfl⟩ [3,6,7,8] rfl rR ?_;rintro ⟨k,p,sB,cB⟩ ⟨hk,hp,hne⟩;simp only[] at hk hp hne ⊢;refine gS (g_v (qK rR rR) rR (qb (qf ?_)));refine qg rR (fun h9=>?_) (fun h9=>?_)
  · simp at h9;have hkn:k<rows.length:=(by omega);obtain ⟨x,hx⟩:∃x,rows[k]? =some x:=⟨_,List.getElem?_eq_getElem hkn⟩;have hkr:k<(chR rows).length:=(by rw[qN];exact hkn);have hxl:=zjJ (hok x (List.mem_of_getElem? hx));obtain ⟨_,_,hxk,hxv⟩:=zfo (hok x (List.mem_of_getElem? hx)).1;refine qh (qf (qj (gS (g_v (qA k underlying34 sizeOf104 rR rR rR hkn hkr) rR (g_v (yj (row:=yw x) isAgg104 sizeOf104 rR (zaW hx) rR) rR ?_)))));refine g_l (qy #[Str [],Str [],Bo false] zeroValue104) rR ?_;rintro _ _ ⟨b5,rfl,rfl⟩;refine yu (qr (cs:=#[Str [],Str [],Bo false]) (vs:=yw x) (yw x).toArray sizeOf104 rR rR rR rR (by decide) (qC rR)) ?_;rintro _ _ rfl;refine qb (qp (g_v (qa 0 underlying104 rR rR sizeOf9 (by decide) rR) rR (g_v (qe (v:=Str x.key) isAgg9 rR rR) rR (g_v (wh underlying9 rR) rR (g_v (yU (r:=((x.key.length % 256:Nat):Int)) underlying3 underlying5 rR (wu8 _)) rR (g_v (qa 1 underlying104 rR rR sizeOf9 (by decide) rR) rR (g_v (qe (v:=Str x.val) isAgg9 rR rR) rR (g_v (wh underlying9 rR) rR (g_v (yU (r:=((x.val.length % 256:Nat):Int)) underlying3 underlying5 rR (wu8 _)) rR (g_v (qa 1 underlying104 rR rR sizeOf9 (by decide) rR) rR (g_v (qe (v:=Str x.val) isAgg9 rR rR) rR (g_v (wh underlying9 rR) rR (g_v (zd7 (r:=((x.val.length / 256:Nat):Int)) rR rR (by decide) (zjX x.val.length 256)) rR (g_v (yU (r:=((x.val.length / 256 % 256:Nat):Int)) underlying3 underlying5 rR (wu8 _)) rR ?_))))))))))))));refine g_l (qq (qs ([UInt8.ofNat x.key.length,UInt8.ofNat x.val.length,UInt8.ofNat (x.val.length / 256)])) underlying199 sizeOf5 zeroValue5 rR rR (znX x.key.length x.val.length) (by simp[qs]) (by decide) (by decide)) rR ?_;rintro _ _ ⟨b25,rfl,rfl⟩;refine g_v (yK (l:=[UInt8.ofNat x.key.length,UInt8.ofNat x.val.length,UInt8.ofNat (x.val.length / 256)]) underlying199 underlying5 underlying9 rR rR rR) rR (g_v (qa 0 underlying104 rR rR sizeOf9 (by decide) rR) rR (g_v (qe (v:=Str x.key) isAgg9 rR rR) rR (g_v (wQ rR rR (by simp <;> omega)) rR (g_v (qa 1 underlying104 rR rR sizeOf9 (by decide) rR) rR (g_v (qe (v:=Str x.val) isAgg9 rR rR) rR (g_v (wQ rR rR (by simp <;> omega)) rR ?_))))));refine g_l (qi (Pre:=[pt b3 (.cells #[(.pointer p),sl sB (yx (rows.take k)).length cB] 201 (0,0)),owL 5 1 sB cB (qs (yx (rows.take k)))]) call120 rR (zcO b3 p sB cB (yx (rows.take k)) (zp1 x) hp (by have:=hlen k;have:=zjJ (hok x (List.mem_of_getElem? hx));omega))) rR ?_;rintro _ _ ⟨s33,c33,rfl,rfl⟩;rw[←zkP hx];refine qb (qG (qp (g_v (qu (r:=((k+1:Nat):Int)) rfl rfl (by rw[show (k:Int)+1=((k+1:Nat):Int) by omega];exact w64 (by omega))) rfl (gM rfl (qb ?_)))));refine qo (k+1,some ⟨b3,0,none⟩,s33,c33) ⟨by simp only[];omega, .inr rfl, .inl ?_⟩ (by simp only[];omega) [3,6,7,8] rfl rfl
    simp only[];rw[zkP hx];intro e;have:=congrArg List.length e;rw[List.length_append,List.length_nil] at this;omega
  · simp at h9;obtain rfl:k=rows.length:=(by omega);rw[List.take_length] at hne ⊢;refine qz rR ?_;refine gS ?_;refine g_l (qi (Pre:=[pt b3 (.cells #[(.pointer p),sl sB (yx rows).length cB] 201 (0,0)),owL 5 1 sB cB (qs (yx rows))]) call122 rR (zfj b3 p sB cB (yx rows) hne (by have:=hlen rows.length;rw[List.take_length] at this;omega))) rR ?_;rintro _ _ ⟨rfl,rfl⟩;refine gA rR (qb ?_);refine qm rR rR ?_;exact rfl
theorem zhN (rows:List ChangeM)(hl:rows.length≤400)(hs:srt rows)(hok:∀r∈rows,okR r)(F:List HProp):Ct Tryz.prog 105 [Str (yx rows)] ([]++F) (fun v L'=>∃s cap,v= .tuple #[sl s rows.length cap,Bo true]∧L'=roL 3 s (chR rows)::F):=by
  show Ct Tryz.prog 105 [Str (yx rows)] (F) _;refine Ct.of func105 rR 64 ntmps105 (by simp) fun w0=>?_;have hlen:∀k,(yx (rows.drop k)).length≤59*400:=fun k=>by
    have:=zcH (l:=rows.drop k) fun r hr=>hok r (List.mem_of_mem_drop hr);rw[List.length_drop] at this;omega
  refine zlh 3 (chR (rows.take 0)) rR ?_;refine gS (gA rR (gA rR (qb (gS (gA rR (qb (qf (qj ?_))))))));refine qD (α:=Nat×Option Addr×Nat) (fun z=>z.1≤rows.length) (fun z=>U [(0,Str (yx (rows.drop z.1))),(4,sl z.2.1 (rows.take z.1).length z.2.2)]) (fun z=>roL 3 z.2.1 (chR (rows.take z.1))::F) (fun z=>rows.length - z.1) (0,none,0) (by simp) [0,4] rfl rR ?_;rintro ⟨k,sA,cA⟩ hk;simp only[] at hk ⊢;refine qf (gS (gM rR (g_v (zgR rR rR) rR (qb ?_))));refine qg rR (fun h9=>?_) (fun h9=>?_)
  · simp at h9;have hkn:k<rows.length:=by
      rcases Nat.lt_or_ge k rows.length with h | h
      · exact h
      · rw[List.drop_eq_nil_of_le h] at h9;exact absurd rfl h9
    obtain ⟨x,hx⟩:∃x,rows[k]? =some x:=⟨_,List.getElem?_eq_getElem hkn⟩;have hxo:=hok x (List.mem_of_getElem? hx);obtain ⟨hk0,hg1,hxk,hxv⟩:=zfo hxo.1;have hc0:=hxo.1;have hg0:=hxo.2;have hd:=zkr hx;have hdl:=hlen k;obtain ⟨x0,hx0,hx0e⟩:∃y:UInt8,y.toNat=x.key.length∧UInt8.ofNat x.key.length=y:=⟨_,zbL (by omega),rfl⟩;obtain ⟨x1,hx1,hx1e⟩:∃y:UInt8,y.toNat=x.val.length∧UInt8.ofNat x.val.length=y:=⟨_,zbL (by omega),rfl⟩;obtain ⟨x2,hx2,hx2e⟩:∃y:UInt8,y.toNat=0∧UInt8.ofNat (x.val.length / 256)=y:=⟨_,by rw[show x.val.length / 256=0 by omega];rfl,rfl⟩;rw[show zp1 x++yx (rows.drop (k+1))=(x0::x1::x2::(x.key++(x.val++yx (rows.drop (k+1))))) by unfold zp1;rw[hx0e,hx1e,hx2e];simp] at hd;rw[hd] at hdl h9 ⊢;simp only[List.length_cons,List.length_append] at hdl;have hrest:(x0::x1::x2::(x.key++(x.val++yx (rows.drop (k+1))))).drop (x0.toNat+3+x1.toNat)=yx (rows.drop (k+1)):=by
      rw[hx0,hx1,show x.key.length+3+x.val.length=(x.key.length+x.val.length)+3 by omega];simp only[List.drop_succ_cons];rw[show x.key.length+x.val.length=(x.key++x.val).length by simp,←List.append_assoc,List.drop_left]
    have hkey:((x0::x1::x2::(x.key++(x.val++yx (rows.drop (k+1))))).take (x0.toNat+3)).drop 3=x.key:=by
      rw[hx0];simp only[List.take_succ_cons,List.drop_succ_cons,List.drop_zero];rw[List.take_left]
    have hval:((x0::x1::x2::(x.key++(x.val++yx (rows.drop (k+1))))).take (x0.toNat+3+x1.toNat)).drop (x0.toNat+3)=x.val:=by
      rw[hx0,hx1,show x.key.length+3+x.val.length=(x.key.length+x.val.length)+3 by omega];simp only[List.take_succ_cons,List.drop_succ_cons];rw[show x.key.length+x.val.length=(x.key++x.val).length by simp,←List.append_assoc,List.take_left,List.drop_left]
    have hbld:∀w,(Instr.build 104 #[(0,Str (((x0::x1::x2::(x.key++(x.val++yx (rows.drop (k+1))))).take (x0.toNat+3)).drop 3)),(1,Str (((x0::x1::x2::(x.key++(x.val++yx (rows.drop (k+1))))).take (x0.toNat+3+x1.toNat)).drop (x0.toNat+3)))]).run Tryz.prog w= .ok (.agg (yw x).toArray) w:=fun w=>by
      rw[hkey,hval,bldKV x.key x.val w];obtain ⟨xk,xv,xg⟩:=x;simp only at hg0;subst hg0
      rfl
    refine qh (qj (qf (qf ?_)));refine wN [(0,false),(1,false),(2,false),(3,false),(4,false),(5,false),(6,false),(7,false),(8,false),(9,false),(10,false),(11,false),(12,false),(13,false),(14,false),(15,false),(16,false),(17,false),(18,false),(19,false),(20,false)] (by kernel_rfl) (by kernel_rfl) rR (by kernel_rfl) ?_;refine dM rR rR rR (d_v rR (wh underlying9 rR) rR (d_v rR (qK rR rR) rR (dM rR rR rR (qQ rR rR rR (decide_eq_false (by simp only[List.length_cons];omega)) (qn rR) rR (qQ rR rR rR (decide_eq_false (by simp only[List.length_cons];omega)) (qW (r:=x0) 0 underlying9 rR rR rR rR) rR (qQ rR rR rR (decide_eq_false (by simp only[List.length_cons];omega)) (yU (r:=((x0.toNat:Nat):Int)) underlying5 underlying3 rR (w64 (by omega))) rR (qQ rR rR rR (decide_eq_false (by simp only[List.length_cons];omega)) (qu rR rR (w64 (by omega))) rR (qQ rR rR rR (decide_eq_false (by simp only[List.length_cons];omega)) (qn rR) rR (qQ rR rR rR (decide_eq_false (by simp only[List.length_cons];omega)) (qW (r:=x1) 1 underlying9 rR rR rR rR) rR (qQ rR rR rR (decide_eq_false (by simp only[List.length_cons];omega)) (yU (r:=((x1.toNat:Nat):Int)) underlying5 underlying3 rR (w64 (by omega))) rR (qQ rR rR rR (decide_eq_false (by simp only[List.length_cons];omega)) (qu rR rR (w64 (by omega))) rR (qQ rR rR rR (decide_eq_false (by simp only[List.length_cons];omega)) (qn rR) rR (qQ rR rR rR (decide_eq_false (by simp only[List.length_cons];omega)) (qW (r:=x2) 2 underlying9 rR rR rR rR) rR (qQ rR rR rR (decide_eq_false (by simp only[List.length_cons];omega)) (yU (r:=((x2.toNat:Nat):Int)) underlying5 underlying3 rR (w64 (by omega))) rR (qQ rR rR rR (decide_eq_false (by simp only[List.length_cons];omega)) (zdd rR rR (w64 (by omega))) rR (qQ rR rR rR (decide_eq_false (by simp only[List.length_cons];omega)) (qu rR rR (w64 (by omega))) rR (qQ rR rR rR (decide_eq_false (by simp only[List.length_cons];omega)) (qn rR) rR (qQ rR rR rR (decide_eq_false (by simp only[List.length_cons];omega)) (wh underlying9 rR) rR (qQ rR rR rR (decide_eq_false (by simp only[List.length_cons];omega)) (yz rR rR) rR (d_v rR (zav rR rR) rR ?_))))))))))))))))))));refine yc ?_;refine qg rR (fun h30=>?_) (fun h30=>?_)
    · exfalso;simp at h30;omega
    · refine qh (gS (gM rR (g_v (qW (r:=x0) 0 underlying9 rR rR rR rR) rR (g_v (yU (r:=((x0.toNat:Nat):Int)) underlying5 underlying3 rR (w64 (by omega))) rR (g_v (qu rR rR (w64 (by omega))) rR (gA rR (qb (qf ?_))))))));refine wN [(0,false),(1,false),(2,false),(3,false),(4,false),(5,false),(6,false),(7,false),(8,false),(9,false),(10,false)] (by kernel_rfl) (by kernel_rfl) rR (by kernel_rfl) ?_;refine dM rR rR rR (dM rR rR rR (d_v rR (qW (r:=x1) 1 underlying9 rR rR rR rR) rR (d_v rR (yU (r:=((x1.toNat:Nat):Int)) underlying5 underlying3 rR (w64 (by omega))) rR (d_v rR (qu rR rR (w64 (by omega))) rR (dM rR rR rR (d_v rR (qW (r:=x2) 2 underlying9 rR rR rR rR) rR (d_v rR (yU (r:=((x2.toNat:Nat):Int)) underlying5 underlying3 rR (w64 (by omega))) rR (d_v rR (zdd rR rR (w64 (by omega))) rR (d_v rR (qu rR rR (w64 (by omega))) rR (d_v rR (qx rR) rR ?_))))))))));refine yc ?_;refine qf ?_;refine wN [(0,false),(1,false),(2,false),(3,false),(4,false),(5,false),(6,false),(7,false),(8,true),(9,true)] (by kernel_rfl) (by kernel_rfl) rR (by kernel_rfl) ?_;refine dM rR rR rR (dM rR rR rR (d_v rR (zam (l:=3) (h:=x0.toNat+3) underlying9 rR rR rR rR (by omega) (by omega) (by simp;omega)) rR (dM rR rR rR (dM rR rR rR (dM rR rR rR (d_v rR (zam (l:=x0.toNat+3) (h:=x0.toNat+3+x1.toNat) underlying9 rR rR (by omega) rR (by omega) (by omega) (by simp;omega)) rR (d_v rR (qP rR hbld) rR ?_)))))));refine d_l rR (qy #[Str [],Str [],Bo false] zeroValue104) rR ?_;rintro _ _ ⟨b7,rfl,rfl⟩;refine zn8 rR (qr (cs:=#[Str [],Str [],Bo false]) (vs:=yw x) (yw x).toArray sizeOf104 rR rR rR rR (by decide) (qC rR)) ?_;rintro _ _ rfl;refine yc ?_;refine qf (gS (g_v (qJ (vs:=yw x) isAgg104 sizeOf104 rR rR qR) rR ?_));refine g_l (qi (Pre:=[]) call127 rR (zbj x)) rR ?_;rintro _ _ ⟨rfl,rfl⟩;rw[hc0];refine g_v (qZ underlying37 rR) rR (qb ?_);refine qg rR (fun h55=>?_) (fun h55=>?_)
      · simp at h55
      · refine qh (gS (gM rR (g_v (qJ (vs:=yw x) isAgg104 sizeOf104 rR rR qR) rR ?_)));refine g_l (qq [yw x] underlying34 sizeOf104 zeroValue104 rR rR rR (by simp[yw]) (by decide) (by decide)) rR ?_;rintro _ _ ⟨b58,rfl,rfl⟩;refine yp (T:=104) (cap:=1) (some ⟨b58,0,none⟩) ?_;rw[show [yw x]=chR [x] from rfl];refine g_l (qi (Pre:=[roL 3 sA (chR (rows.take k)),roL 3 (some ⟨b58,0,none⟩) (chR [x])]) call107 rR (zdq (rows.take k) [x] sA (some ⟨b58,0,none⟩) cA 1 (zmn hs k) (by rw[List.length_take];omega) (by simp))) rR ?_;rintro _ _ ⟨s59,c59,rfl,rfl⟩;rw[zqY hs hx hg0];refine yp (T:=104) (cap:=c59) s59 ?_;refine gA rR (qb (qp (gM rR (gM rR (g_v (zjb (l:=x0.toNat+3+x1.toNat) underlying9 rR rR (by omega) (by simp;omega)) rR (gA rR (qb (qG ?_))))))));rw[show (x0::x1::x2::(x.key++(x.val++yx (rows.drop (k+1))))).drop (x0.toNat+3+x1.toNat)=yx (rows.drop (k+1)) from hrest];exact qo (k+1,s59,c59) (by simp only[];omega) (by simp only[];omega) [0,4] rfl rfl
  · simp at h9;obtain rfl:k=rows.length:=by
      rcases Nat.lt_or_ge k rows.length with h | h
      · exfalso;obtain ⟨x,hx⟩:∃x,rows[k]? =some x:=⟨_,List.getElem?_eq_getElem h⟩;have:=zkr hx;rw[h9] at this;have h2:=zjJ (hok x (List.mem_of_getElem? hx));have h3:=congrArg List.length this;rw[List.length_append,List.length_nil] at h3;omega
      · omega
    rw[List.take_length];refine qz rR ?_;refine gS (gM rR (gA rR (gA rR (qb ?_))));exact ql (roL 3 sA (chR rows)::F) rfl ⟨sA,cA,rfl,rfl⟩
def S80 (D:DiskM):Prop:=(∀x∈D.kept,x.length=80)∧(∀x∈D.now,x.length=80)∧∀t∈D.wait,t.2.length=80
theorem zxK {L:List Bytes}{n:Nat}{s:Bytes}(h:∀x∈L,x.length=80)(hs:s.length=80):∀x∈L.set n s,x.length=80:=fun x hx=>by
  rcases List.mem_or_eq_of_mem_set hx with h' | h'
  · exact h x h'
  · rw[h'];exact hs
theorem zgh {D:DiskM}(h:S80 D):S80 (wd D):=⟨by rw[yY];exact h.1,by rw[wC];exact h.2.1,by rw[wt];exact h.2.2⟩
theorem zxp {N:Nat}{D:DiskM}{x:Stp}(h:S80 D)(ho:zch N x):S80 (stD D x):=by
  cases x with
  | none=>
    show S80 (yB D);unfold yB;split
    · have:=zgh h;exact ⟨this.2.1,this.2.1,fun t ht=>by cases ht⟩
    · exact zgh h
  | some y=>
    show S80 (yC D y.1 y.2);unfold yC;split
    · exact h
    · split
      · have:=zgh h;refine ⟨this.1,zxK this.2.1 (zi7 ho.2),fun t ht=>?_⟩;simp only[wv,List.mem_append,List.mem_singleton] at ht;rcases ht with ht | rfl
        · exact this.2.2 t ht
        · exact zi7 ho.2
      · exact zgh h
theorem zel {N:Nat}:∀(l:List Stp) (D:DiskM),S80 D→(∀x∈l,zch N x)→S80 (wi D l).2
  | [],D,h,_=>h
  | x::l,D,h,ho=>by
    have h1:=zxp h (ho x (List.mem_cons_self ..));by_cases h0:stE D x=0
    · rw[zcJ h0];exact zel l _ h1 (fun y hy=>ho y (List.mem_cons_of_mem _ hy))
    · rw[zbU h0];exact h1
theorem zo7 {from_ many first used N:Nat}{c:List ChangeM}{D:DiskM}(h:S80 D)(hN:from_+many≤N):S80 (zdD from_ many first used c D):=by
  unfold zdD;split
  · rename_i hv;exact zel _ _ h (ziP hN hv)
  · exact h
theorem znF (side:Nat)(t:Bytes):∀(f k:Nat),ckW side t k (f+1)=ckW side t k f++ [some (2+side*60+(k+f),wB t (k+f))]
  | 0,k=>rfl
  | f+1,k=>by
    rw[ckW,znF side t f (k+1),ckW,List.cons_append,show k+1+f=k+(f+1) by omega]
theorem zrl (side:Nat)(t:Bytes):∀(f g k:Nat),ckW side t k (f+g)=ckW side t k f++ckW side t (k+f) g
  | 0,g,k=>by rw[Nat.zero_add];rfl
  | f+1,g,k=>by
    rw[show f+1+g=(f+g)+1 by omega,ckW,zrl side t f g (k+1),ckW,List.cons_append,show k+1+f=k+(f+1) by omega]
theorem zb7 {t:Bytes}{k:Nat}:(wB t k).length=Nat.min 80 (t.length - 80*k):=by unfold wB;simp[List.length_take,List.length_drop]
theorem chunks_lt {t:Bytes}{k:Nat}:k<ye t ↔ 80*k<t.length:=by unfold ye;omega
theorem ztu {side N:Nat}{t:Bytes}(hN:2+side*60+ye t≤N):∀(f k:Nat),k+f≤ye t→∀x∈ckW side t k f,zch N x
  | 0,k,_,x,h=>by simp[ckW] at h
  | f+1,k,hk,x,h=>by
    rw[ckW] at h;rcases List.mem_cons.1 h with rfl | h
    · exact ⟨by simp only;omega,zkx t k⟩
    · exact ztu hN f (k+1) (by omega) x h
theorem ztH {h:HdM}{t:Bytes}{N:Nat}(hN:2+h.side*60+ye t≤N):∀x∈ckL h t,zch N x:=by
  intro x hx;unfold ckL at hx;simp only[List.mem_append,List.mem_cons,List.not_mem_nil,or_false] at hx;rcases hx with hx | rfl | rfl | rfl
  · exact ztu hN _ 0 (by omega) x hx
  · trivial
  · exact ⟨by simp only;omega,by rw[zhy];decide⟩
  · trivial
theorem zbD {l:List Stp}{x:Stp}{D D1:DiskM}(h:wi D l=(0,D1)):wi D (l++ [x])=(stE D1 x,stD D1 x):=by
  rw[zed,h];simp only[if_true];by_cases h0:stE D1 x=0
  · rw[zcJ h0,zfr,h0]
  · rw[zbU h0]
theorem zbA {l r:List Stp}{D D1:DiskM}{e:Int}(h:wi D l=(e,D1))(he:e≠0):wi D (l++r)=(e,D1):=by
  rw[zed,h];simp only;rw[if_neg he]
theorem ztf {l r:List Stp}{D D1:DiskM}(h:wi D l=(0,D1)):wi D (l++r)=wi D1 r:=by rw[zed,h];rfl
theorem zxt:∀(l:List Stp) (D:DiskM),(∀x∈l,zch D.now.length x)→(wi D l).1=0∨(wi D l).1=9
  | [],D,_=> .inl rfl
  | x::l,D,h=>by
    have hx:=h x (List.mem_cons_self ..);have hst:stE D x=0∨stE D x=9:=by
      cases x with
      | none=>exact zah D
      | some y=>
        show yP D y.1 y.2=0∨yP D y.1 y.2=9;unfold yP;rw[if_neg (by unfold zie;have h1:=hx.1;have h2:=hx.2;omega)];exact zah D
    rcases hst with h0 | h0
    · rw[zcJ h0];refine zxt l _ fun y hy=>?_;have:=h y (List.mem_cons_of_mem _ hy);have hl:(stD D x).now.length=D.now.length:=by
        cases x with
        | none=>
          show (yB D).now.length=_;unfold yB;split <;> simp[zaS,wC]
        | some z=>
          show (yC D z.1 z.2).now.length=_;unfold yC;split
          · rfl
          · split <;> simp[wv,wC]
      rw[hl];exact this
    · rw[zbU (by rw[h0];decide)];exact .inr h0
def fmW:Nat→List Stp
  | 0=>[some (0,[])]
  | k+1=>fmW k++ [some (122+k,[])]
def hd1:HdM:=⟨1,0,0,1⟩
def fmT:List Stp:=[none,some (1,we hd1),none]
def fmL (N:Nat):List Stp:=fmW (N - 122)++fmT
theorem zqU:∀(g k:Nat),∃r,fmW (k+g)=fmW k++r
  | 0,k=>⟨[],by simp⟩
  | g+1,k=>by
    obtain ⟨r,hr⟩:=zqU g k;exact ⟨r++ [some (122+(k+g),[])],by rw[show k+(g+1)=(k+g)+1 by omega,fmW,hr,List.append_assoc]⟩
theorem zr7 {k m:Nat}{D X:DiskM}{e:Int}(h:wi D (fmW k)=(e,X))(he:k=m∨e≠0)(hk:k≤m):wi D (fmW m)=(e,X):=by
  rcases he with rfl | he
  · exact h
  · obtain ⟨r,hr⟩:=zqU (m - k) k;rw[show m=k+(m - k) by omega,hr];exact zbA h he
theorem zhE:∀k,(fmW k).length=k+1
  | 0=>rfl
  | k+1=>by rw[fmW,List.length_append,zhE k];rfl
def CkR (D:DiskM)(h:HdM)(rows:List ChangeM)(many used:Nat)(e:Int)(D1:DiskM)(h1:HdM)(used1:Nat):Prop:=
  wi D (ckL (nxH h rows many) (yx rows))=(e,D1)∧((e≠0∧h1=h∧used1=used)∨(e=0∧h1=nxH h rows many∧used1≤many∧∃ds,wa (h.first+many) (ziB D1 122) many 0 [] [] 0=(ds,used1)))
def MidR (D:DiskM)(h:HdM)(rows:List ChangeM)(many used:Nat)(c:List ChangeM)(e:Int)(D1:DiskM)(h1:HdM)(used1:Nat):Prop:=
  (many - used<c.length+1∧CkR D h rows many used e D1 h1 used1)∨(¬many - used<c.length+1∧e=0∧D1=D∧h1=h∧used1=used)
def ztl (D:DiskM)(h:HdM)(rows:List ChangeM)(many used:Nat)(c:List ChangeM)(e:Int)(D2:DiskM)(h2:HdM)(used2:Nat)(rows2:List ChangeM):Prop:=
  (cmV many rows c≠0∧e=cmV many rows c∧D2=D∧h2=h∧used2=used∧rows2=rows)∨
  (cmV many rows c=0∧∃e1 D1 h1 used1,MidR D h rows many used c e1 D1 h1 used1∧((e1≠0∧e=e1∧D2=D1∧h2=h1∧used2=used1∧rows2=rows)∨
    (e1=0∧e=zhG 122 many h1.first used1 c D1∧D2=zdD 122 many h1.first used1 c D1∧h2=h1∧used2=zhp 122 many h1.first used1 c D1∧rows2=if e=0 then zaF rows c else rows)))
theorem zpY (h:HdM)(t:Bytes):(ckL h t).length=ye t+3:=by simp[ckL,ziI]
theorem zbV {rows:List ChangeM}(hl:rows.length≤80)(hr:∀r∈rows,okR r):ye (yx rows)≤60:=by
  have:=zcH hr;unfold ye;omega
theorem zpe {h:HdM}{rows:List ChangeM}{N:Nat}(hl:rows.length≤80)(hr:∀r∈rows,okR r)(hN:196≤N):∀x∈ckL (nxH h rows (N - 122)) (yx rows),zch N x:=by
  have:=zbV hl hr;exact ztH (by show 2+(1 - h.side)*60+ye (yx rows)≤N;omega)
theorem zo1 {D:DiskM}{h:HdM}{rows:List ChangeM}{N used i:Nat}{c:List ChangeM}{e:Int}{D1:DiskM}{h1:HdM}{used1:Nat}(hm:MidR D h rows (N - 122) used c e D1 h1 used1)(hok:okW N i D)(hS:S80 D)(hl:rows.length≤80)(hr:∀r∈rows,okR r)(hN:196≤N)(hu:used≤N - 122):
    okW N (i+63) D1∧S80 D1∧used1≤N - 122∧h1.first≤h.first+N∧h1.ep≤h.ep+1∧(h.side≤1→h1.side≤1)∧h.first≤h1.first:=by
  rcases hm with ⟨_,hrun,hc⟩ | ⟨_,_,rfl,rfl,rfl⟩
  · have h1':=za3 (ckL (nxH h rows (N - 122)) (yx rows)) i D hok;rw[hrun,zpY] at h1';have h2':=zel _ D hS (zpe (h:=h) hl hr hN);rw[hrun] at h2';have:=zbV hl hr;refine ⟨zbv h1' (by omega),h2',?_⟩;rcases hc with ⟨_,rfl,rfl⟩ | ⟨_,rfl,hu1,_⟩
    · exact ⟨hu,by omega,by omega,id,Nat.le_refl _⟩
    · exact ⟨hu1,by simp only[nxH];omega,by simp only[nxH];omega,fun _=>by simp only[nxH];omega,by simp only[nxH];omega⟩
  · exact ⟨zbv hok (by omega),hS,hu,by omega,by omega,id,Nat.le_refl _⟩
abbrev ckV (b:Nat)(t:Bytes)(k:Nat):Value:=sl (some ⟨b,80*k,none⟩) (wB t k).length (wB t k).length
def ckP (b2 b3 b cap:Nat)(t:Bytes):List HProp:=[pt b2 (.cells #[sl (some ⟨b,0,none⟩) t.length cap] 199 (0,0)),pt b3 (.cells #[I 80] 3 (0,0)),roL 1 (some ⟨b,0,none⟩) (qs t)]
theorem zra {t:Bytes}{k:Nat}:(if (((t.length - 80*k:Nat):Nat):Int)<80 then ((t.length - 80*k:Nat):Int) else 80)=(((wB t k).length:Nat):Int):=by
  rw[zb7];by_cases h:t.length - 80*k<80
  · rw[if_pos (by omega),show Nat.min 80 (t.length - 80*k)=t.length - 80*k from Nat.min_eq_right (by omega)]
  · rw[if_neg (by omega),show Nat.min 80 (t.length - 80*k)=80 from Nat.min_eq_left (by omega)];rfl
theorem zwU {t:Bytes}{k b:Nat}(hk:80*k<t.length):sl (if 80*k+(wB t k).length=80*k then (some ⟨b,0,none⟩:Option Addr) else (some ⟨b,0,none⟩:Option Addr).map (·.add (80*k*1))) (80*k+(wB t k).length - 80*k) (80*k+(wB t k).length - 80*k)=ckV b t k:=by
  have hc:(wB t k).length≠0:=by
    rw[zb7];have h1:1≤Nat.min 80 (t.length - 80*k):=Nat.le_min.2 ⟨by decide,by omega⟩;omega
  rw[if_neg (by omega),Nat.add_sub_cancel_left,Option.map_some,zaR,Nat.zero_add,Nat.mul_one]
theorem zsE (s:Option Addr)(n cap:Nat)(F:List HProp):Ct Tryz.prog 177 [sl s n cap,I 80] ([]++F) (fun v L'=>∃b2 b3,v= .func (.func 202) #[] #[ptr b2 0,ptr b3 0]∧L'=pt b2 (.cells #[sl s n cap] 199 (0,0))::pt b3 (.cells #[I 80] 3 (0,0))::F):=by
  show Ct Tryz.prog 177 [sl s n cap,I 80] (F) _;refine Ct.of func177 rR 9 ntmps177 (by simp) fun w0=>?_;refine gS ?_;refine g_l (wX #[sl s n cap] rfl rR) rR ?_;rintro _ _ ⟨b2,rfl,rfl⟩;refine g_l (wX #[I 80] rfl rR) rR ?_;rintro _ _ ⟨b3,rfl,rfl⟩;refine gA rR (qb (qf (gS (g_v (qe (v:=I 80) isAgg3 rR rR) rR (g_v (qK rR rR) rR (qb ?_))))));refine qg rR (fun h6=>?_) (fun h6=>?_)
  · simp at h6
  · refine qh (gS (g_v (wV rR rR) rR (gA rR (qb ?_))));exact ql (pt b2 (.cells #[sl s n cap] 199 (0,0))::pt b3 (.cells #[I 80] 3 (0,0))::F) rfl ⟨b2,b3,rfl,rfl⟩
theorem zo0 (b2 b3 b cap l:Nat)(t:Bytes)(w0:World)(A:Nat→List HProp)(B:List HProp)(hcap:t.length≤cap)(hlen:t.length≤1000000)
    (hr:∀k,k<ye t→zlH Tryz.prog l (ckV b t k) w0 (ckP b2 b3 b cap t++A k) (ckP b2 b3 b cap t++A (k+1)) (ckP b2 b3 b cap t++B)):
    ∀w,Sat w0 w (ckP b2 b3 b cap t++A 0)→Calls Tryz.prog 202 (.func (.yield l) #[] #[]:: [ptr b2 0,ptr b3 0]).toArray w fun e w'=>match e with
      | .returned _=>Sat w0 w' (ckP b2 b3 b cap t++A (ye t))∨Sat w0 w' (ckP b2 b3 b cap t++B)
      | _=>False:=fun w hw=>by
  refine Calls.mono (zrL func202 rR 31 ntmps202 (by simp) (L:=pt b2 (.cells #[sl (some ⟨b,0,none⟩) t.length cap] 199 (0,0))::pt b3 (.cells #[I 80] 3 (0,0))::roL 1 (some ⟨b,0,none⟩) (qs t)::A 0) (R:=fun v L'=>L'=ckP b2 b3 b cap t++A (ye t)∨L'=ckP b2 b3 b cap t++B) ?_ w hw) fun e w' he=>?_;rotate_left
  · cases e with
    | returned v=>
        obtain ⟨L',h1,h2 | h2⟩:=he <;> subst h2
        · exact .inl h1
        · exact .inr h1
    | panicked ch=>exact he
    | outgrown=>exact he
  refine gS (gA rR (qb (qj ?_)));refine qD (α:=Nat) (fun k=>k≤ye t) (fun k=>U [(0, .func (.yield l) #[] #[]),(1,ptr b2 0),(2,ptr b3 0),(4,I ((80*k:Nat):Int))]) (fun k=>pt b2 (.cells #[sl (some ⟨b,0,none⟩) t.length cap] 199 (0,0))::pt b3 (.cells #[I 80] 3 (0,0))::roL 1 (some ⟨b,0,none⟩) (qs t)::A k) (fun k=>ye t - k) 0 (Nat.zero_le _) [0,1,2,4] rfl rR ?_;intro k hk;refine qf (gS (gM rR (g_v (qe (v:=sl (some ⟨b,0,none⟩) t.length cap) isAgg199 rR rR) rR (g_v (yi underlying199 rR) rR (g_v (qK rR rR) rR (qb ?_))))));refine qg rR (fun h9=>?_) (fun h9=>?_)
  · simp at h9;have hkt:80*k<t.length:=(by omega);have hcl:=zb7 (t:=t) (k:=k);have hcl1:(wB t k).length≤80∧80*k+(wB t k).length≤t.length:=by
      have h1:Nat.min 80 (t.length - 80*k)≤80:=Nat.min_le_left ..;have h2:Nat.min 80 (t.length - 80*k)≤t.length - 80*k:=Nat.min_le_right ..;omega
    refine qh (qf (qj (qf ?_)));refine wN [(0,false),(1,false),(2,false),(3,false),(4,false),(5,false),(6,false)] (by kernel_rfl) (by kernel_rfl) rR (by kernel_rfl) ?_;refine d_v rR (qe (v:=I 80) isAgg3 rR rR) rR (d_v rR (qe (v:=sl (some ⟨b,0,none⟩) t.length cap) isAgg199 rR rR) rR (dM rR rR rR (d_v rR (zb8 (l:=80*k) underlying199 sizeOf5 rR rR rR (by omega)) rR (d_v rR (yi underlying199 rR) rR (d_v rR (v_min rR rR) rR (d_v rR (qx rR) rR ?_))))));refine yc ?_;rw[zra];refine qf ?_;refine zwl ?_;refine y_v (qn rR) rR ?_;refine y_v (qe (v:=sl (some ⟨b,0,none⟩) t.length cap) isAgg199 rR rR) rR ?_;refine y_v (qn rR) rR ?_;refine y_v (qn rR) rR ?_;refine y_v (qn rR) rR ?_;refine y_v (qu (r:=((80*k+(wB t k).length:Nat):Int)) rfl rfl (by rw[show ((80*k:Nat):Int)+(((wB t k).length:Nat):Int)=((80*k+(wB t k).length:Nat):Int) by omega];exact w64 (by omega))) rfl ?_;refine y_v (qn rR) rR ?_;refine y_v (qn rR) rR ?_;refine y_v (qu (r:=((80*k+(wB t k).length:Nat):Int)) rfl rfl (by rw[show ((80*k:Nat):Int)+(((wB t k).length:Nat):Int)=((80*k+(wB t k).length:Nat):Int) by omega];exact w64 (by omega))) rfl ?_;refine y_v (zwq (l:=80*k) (h:=80*k+(wB t k).length) (q:=80*k+(wB t k).length) underlying199 sizeOf5 rR rR rR rR rR rR rR (by omega) (by omega) (by omega)) rR ?_;rw[zwU hkt];refine zul (l:=l) (v:=ckV b t k) rR rR (hr k (chunks_lt.2 hkt)) rR ?_ ?_;rotate_left
    · refine y_v (wq rR) rR ?_;refine zxD ?_;refine zab rR ?_;exact ql (ckP b2 b3 b cap t++B) rfl (.inr rfl)
    show G _ _ _ (pt b2 (.cells #[sl (some ⟨b,0,none⟩) t.length cap] 199 (0,0))::pt b3 (.cells #[I 80] 3 (0,0))::roL 1 (some ⟨b,0,none⟩) (qs t)::A (k+1));refine y_v (wq rR) rR ?_;refine zxD ?_;refine wj rR ?_;refine qh (qG (qp (gM rfl (g_v (qe (v:=I 80) isAgg3 rfl rfl) rfl (g_v (qu (r:=((80*(k+1):Nat):Int)) rfl rfl (by rw[show ((80*k:Nat):Int)+80=((80*(k+1):Nat):Int) by omega];exact w64 (by omega))) rfl (gA rfl (qb ?_)))))));exact qo (k+1) (chunks_lt.2 hkt) (by have:=chunks_lt.2 hkt;omega) [0,1,2,4] rfl rfl
  · simp at h9;obtain rfl:k=ye t:=by
      rcases Nat.lt_or_ge k (ye t) with h | h
      · have:=chunks_lt.1 h;omega
      · omega
    refine qz rR ?_;exact g_end (vs:=[]) rfl (.inl rfl)
def zrt (T TT b:Nat)(φ:DiskM→Prop):HProp:=fun m=>∃D,φ D∧dsk T TT b D m
section
variable {c:Cx}{E:Env}{L F:List HProp}{K:List KI}{T TT b l:Nat}{Q:Post}{φ:DiskM→Prop}
theorem zkZ {w0 w:World}(h:Sat w0 w (zrt T TT b φ::F)):∃D,φ D∧Sat w0 w (dsk T TT b D::F):=by
  have h1:Sat w0 w (hex (fun D=>zpo (zcN (φ D)) (dsk T TT b D))::F):=h.weak fun m ⟨D,h1,h2⟩=>⟨D,fun _=>none,m,(fun _ _ _ h=>nomatch h),(fun _ _ h=>nomatch h),Res.sub.refl m,h1,h2⟩;obtain ⟨D,h2⟩:=h1.ex;exact ⟨D,h2.star.pure_.1,h2.star.pure_.2⟩
theorem zxl [R:Rem L (zrt T TT b φ) F](h:∀D,φ D→H c l Q K E (dsk T TT b D::F)):H c l Q K E L:=fun a w hE hS=>by
  obtain ⟨D,h1,h2⟩:=zkZ (R.sat hS);exact h D h1 a w hE h2
theorem zwP [R:Rem L (zrt T TT b φ) F](h:∀D,φ D→G c K E (dsk T TT b D::F)):G c K E L:=fun a w hE hS=>by
  obtain ⟨D,h1,h2⟩:=zkZ (R.sat hS);exact h D h1 a w hE h2
theorem zuj (D:DiskM)(hD:φ D)[R:Rem L (dsk T TT b D) F](h:H c l Q K E (zrt T TT b φ::F)):H c l Q K E L:=fun a w hE hS=>h a w hE ((R.sat hS).weak fun m hm=>⟨D,hD,hm⟩)
theorem zuR (D:DiskM)(hD:φ D)[R:Rem L (dsk T TT b D) F](h:G c K E (zrt T TT b φ::F)):G c K E L:=fun a w hE hS=>h a w hE ((R.sat hS).weak fun m hm=>⟨D,hD,hm⟩)
end
theorem zjD (h:HdM):(ws h).length=4:=rfl
theorem zqN (e:Int):one (yH e)=true:=by unfold yH zbG;split <;> rfl
theorem zbM (bs bd:Nat)(h:HdM)(bl:Nat)(s:Option Addr)(cap:Nat)(rows:List ChangeM)(N i used:Nat)(D:DiskM)(hok:okW N i D)(hi:i≤100000)(hS:S80 D)(hN0:196≤N∧N≤260)(hh:h.ep≤1000000∧h.side≤1∧1≤h.first∧h.first≤1000000000)(hl:rows.length≤80)(hrw:∀r∈rows,okR r)(F:List HProp):Ct Tryz.prog 129 [ptr bs 0] ([pt bs (.cells (stC bd h bl s (rows.length) cap) 180 (0,0)),pt bl (.cells (lgC bd 122 (N - 122) h.first (used)) 222 (0,0)),dsk 140 142 bd (D),roL 3 s (chR rows)]++F) (fun v L'=>∃e D1,wi D (ckL (nxH h rows (N - 122)) (yx rows))=(e,D1)∧((e≠0∧v=yH e∧L'=pt bs (.cells (stC bd h bl s (rows.length) cap) 180 (0,0))::pt bl (.cells (lgC bd 122 (N - 122) h.first (used)) 222 (0,0))::dsk 140 142 bd (D1)::roL 3 s (chR rows)::F)∨(e=0∧∃bl' ds used',used'≤N - 122∧wa (h.first+(N - 122)) (ziB D1 122) (N - 122) 0 [] [] 0=(ds,used')∧v=yH 0∧L'=pt bs (.cells (stC bd (nxH h rows (N - 122)) bl' s (rows.length) cap) 180 (0,0))::pt bl' (.cells (lgC bd 122 (N - 122) (h.first+(N - 122)) (used')) 222 (0,0))::dsk 140 142 bd (D1)::roL 3 s (chR rows)::F))):=by
  show Ct Tryz.prog 129 [ptr bs 0] (pt bs (.cells (stC bd h bl s (rows.length) cap) 180 (0,0))::pt bl (.cells (lgC bd 122 (N - 122) h.first (used)) 222 (0,0))::dsk 140 142 bd (D)::roL 3 s (chR rows)::F) _;refine Ct.of func129 rR 113 ntmps129 (by simp) fun w0=>?_;have hal:=zcH hrw;have hcs:ye (yx rows)≤60:=(by unfold ye;omega);have hckl:∀x∈ckL (nxH h rows (N - 122)) (yx rows),zch N x:=ztH (by show 2+(1 - h.side)*60+ye (yx rows)≤N;omega);refine gS ?_;refine g_l (wX #[ptr bs 0] rfl rR) rR ?_;rintro _ _ ⟨b1,rfl,rfl⟩;refine g_l (zeE (.nilIface) zeroValue37 rR) rR ?_;rintro _ _ ⟨b2,rfl,rfl⟩;refine qb (gS (g_v (qe (v:=ptr bs 0) isAgg85 rR rR) rR (g_v (qc rR) rR (g_v (qa 6 underlying180 rR rR sizeOf34 (by decide) rR) rR (g_v (qe (v:=sl s rows.length cap) isAgg34 rR rR) rR ?_)))));refine g_l (qi (Pre:=[roL 3 s (chR rows)]) call175 rR (zkR rows s cap (by omega) hrw)) rR ?_;rintro _ _ ⟨rfl,rfl⟩;refine gA rR (qb (qf ?_));refine zku (fun _:Nat=>True) (fun b4=>U [(1,ptr b1 0),(2,ptr b2 0),(3,Str (yx rows)),(4,ptr b4 0)]) (fun b4=>pt b4 (.cells (ws (nxH h rows (N - 122))).toArray 177 (0,0))::pt b2 (.cells #[.nilIface] 37 (0,0))::pt b1 (.cells #[ptr bs 0] 85 (0,0))::pt bs (.cells (stC bd h bl s (rows.length) cap) 180 (0,0))::pt bl (.cells (lgC bd 122 (N - 122) h.first (used)) 222 (0,0))::dsk 140 142 bd (D)::roL 3 s (chR rows)::F) ?_ ?_
  · refine zlm (Lf:=[pt b1 (.cells #[ptr bs 0] 85 (0,0)),pt bs (.cells (stC bd h bl s (rows.length) cap) 180 (0,0))]) (.q 0 (.q 1 (.q 2 (.q 3 (.q 4 (.q 5 (.q 6 (.q 7 (.q 8 (.q 9 (.q 10 (.q 11 (.q 12 (.q 13 (.q 14 (.q 15 (.q 16 (.q 17 (.alt (.l 18 (.q 19 (.l 20 (.l 21 (.nil))))) (.l 20 (.l 18 (.q 19 (.l 21 (.nil)))))))))))))))))))))))) (by kernel_rfl) (by kernel_rfl) (by kernel_rfl) ?_;refine t_v rR (qe (v:=ptr bs 0) isAgg85 rR rR) rR ?_;refine t_v rR (qc rR) rR ?_;refine t_v rR (qa 1 underlying180 rR rR sizeOf177 (by decide) rR) rR ?_;refine t_v rR (qa 0 underlying177 rR rR sizeOf3 (by decide) rR) rR ?_;refine t_v rR (qe (v:=I h.ep) isAgg3 rR rR) rR ?_;refine t_v rfl (qu (r:=((h.ep+1:Nat):Int)) rfl rfl (by rw[show (h.ep:Int)+(1:Int)=((h.ep+1:Nat):Int) by omega];exact w64 (by omega))) rfl ?_;refine t_v rR (qe (v:=ptr bs 0) isAgg85 rR rR) rR ?_;refine t_v rR (qc rR) rR ?_;refine t_v rR (qa 1 underlying180 rR rR sizeOf177 (by decide) rR) rR ?_;refine t_v rR (qa 1 underlying177 rR rR sizeOf3 (by decide) rR) rR ?_;refine t_v rR (qe (v:=I h.side) isAgg3 rR rR) rR ?_;refine t_v rfl (zb9 (r:=((1 - h.side:Nat):Int)) rfl rfl (by rw[show (1:Int) - (h.side:Int)=((1 - h.side:Nat):Int) by omega];exact w64 (by omega))) rfl ?_;refine t_v rR (qn rR) rR ?_;refine t_v rR (wh underlying9 rR) rR ?_;refine t_v rR (qe (v:=ptr bs 0) isAgg85 rR rR) rR ?_;refine t_v rR (qc rR) rR ?_;refine t_v rR (qa 5 underlying180 rR rR sizeOf178 (by decide) rR) rR ?_;refine t_v rR (qe (v:=ptr bl 0) isAgg178 rR rR) rR ?_;refine zhU ?_ ?_
    · refine t_l rfl (qi (Pre:=[pt bl (.cells (lgC bd 122 (N - 122) h.first (used)) 222 (0,0))]) call176 rfl (zgO bl bd 122 (N - 122) h.first used ⟨by omega,by omega⟩)) rfl ?_;rintro _ _ ⟨rfl,rfl⟩;refine t_v rR (qP rR (wn _ rR _ rR _ rR _ rR)) rR ?_;refine t_l rR (qy #[I 0,I 0,I 0,I 0] zeroValue177) rR ?_;rintro _ _ ⟨b4,rfl,rfl⟩;refine zvL rR (qr (cs:=#[I 0,I 0,I 0,I 0]) (vs:=ws (nxH h rows (N - 122))) (ws (nxH h rows (N - 122))).toArray sizeOf177 rR rR rR rR (by decide) (qC (zjD _))) ?_;rintro _ _ rfl;refine zfy ?_;exact zaJ b4 trivial [1,2,3,4] rfl rfl
    · refine t_l rR (qy #[I 0,I 0,I 0,I 0] zeroValue177) rR ?_;rintro _ _ ⟨b4,rfl,rfl⟩;refine t_l rfl (qi (Pre:=[pt bl (.cells (lgC bd 122 (N - 122) h.first (used)) 222 (0,0))]) call176 rfl (zgO bl bd 122 (N - 122) h.first used ⟨by omega,by omega⟩)) rfl ?_;rintro _ _ ⟨rfl,rfl⟩;refine t_v rR (qP rR (wn _ rR _ rR _ rR _ rR)) rR ?_;refine zvL rR (qr (cs:=#[I 0,I 0,I 0,I 0]) (vs:=ws (nxH h rows (N - 122))) (ws (nxH h rows (N - 122))).toArray sizeOf177 rR rR rR rR (by decide) (qC (zjD _))) ?_;rintro _ _ rfl;refine zfy ?_;exact zaJ b4 trivial [1,2,3,4] rfl rfl
  intro b4 _;refine gS ?_;refine g_l (zeE (I 0) zeroValue3 rR) rR ?_;rintro _ _ ⟨b5,rfl,rfl⟩;refine yu (qI #[I ((0:Nat):Int)] sizeOf3 rR rR rR (by decide) rR) ?_;rintro _ _ rfl;refine qb (qf (gS (gM rR ?_)));refine g_l (zn4 underlying9 underlying199 underlying5 rR) rR ?_;rintro _ _ ⟨b37,c37,rfl,hc37,rfl⟩;refine g_l (qi (Pre:=[]) call177 rR (zsE (some ⟨b37,0,none⟩) (yx rows).length c37)) rR ?_;rintro _ _ ⟨b38,d38,rfl,rfl⟩;refine qb (qj ?_);obtain ⟨eN,DN,hN⟩:∃e X,wi D (ckW (1 - h.side) (yx rows) 0 ((ye (yx rows))))=(e,X):=⟨_,_,rfl⟩;refine zuR (T:=140) (TT:=142) (b:=bd) (φ:=fun X=>wi D (ckW (1 - h.side) (yx rows) 0 (0))=(0,X)) D rR ?_;refine zbq (L2:=pt b38 (.cells #[sl (some ⟨b37,0,none⟩) (yx rows).length c37] 199 (0,0))::pt d38 (.cells #[I 80] 3 (0,0))::roL 1 (some ⟨b37,0,none⟩) (qs (yx rows))::zrt 140 142 bd (fun X=>wi D (ckW (1 - h.side) (yx rows) 0 (0))=(0,X))::pt b5 (.cells #[I ((0:Nat):Int)] 3 (0,0))::pt b2 (.cells #[.nilIface] 37 (0,0))::pt b1 (.cells #[ptr bs 0] 85 (0,0))::pt b4 (.cells (ws (nxH h rows (N - 122))).toArray 177 (0,0))::pt bs (.cells (stC bd h bl s (rows.length) cap) 180 (0,0))::pt bl (.cells (lgC bd 122 (N - 122) h.first (used)) 222 (0,0))::roL 3 s (chR rows)::F) ?_;refine zlZ (Pre:=[pt b38 (.cells #[sl (some ⟨b37,0,none⟩) (yx rows).length c37] 199 (0,0)),pt d38 (.cells #[I 80] 3 (0,0)),roL 1 (some ⟨b37,0,none⟩) (qs (yx rows))]) (A:=fun k=>zrt 140 142 bd (fun X=>wi D (ckW (1 - h.side) (yx rows) 0 (k))=(0,X))::pt b5 (.cells #[I ((k:Nat):Int)] 3 (0,0))::pt b2 (.cells #[.nilIface] 37 (0,0))::pt b1 (.cells #[ptr bs 0] 85 (0,0))::pt b4 (.cells (ws (nxH h rows (N - 122))).toArray 177 (0,0))::pt bs (.cells (stC bd h bl s (rows.length) cap) 180 (0,0))::pt bl (.cells (lgC bd 122 (N - 122) h.first (used)) 222 (0,0))::roL 3 s (chR rows)::F) (B:=zcN (eN≠0)::dsk 140 142 bd (DN)::pt b2 (.cells #[yH eN] 37 (0,0))::pt b1 (.cells #[ptr bs 0] 85 (0,0))::pt b4 (.cells (ws (nxH h rows (N - 122))).toArray 177 (0,0))::pt bs (.cells (stC bd h bl s (rows.length) cap) 180 (0,0))::pt bl (.cells (lgC bd 122 (N - 122) h.first (used)) 222 (0,0))::roL 3 s (chR rows)::F) (N:=(ye (yx rows))) (v:=ckV b37 (yx rows)) (cap:=[ptr b38 0,ptr d38 0]) rfl rfl rfl call202 (fun l A' B' hr w hw=>zo0 b38 d38 b37 c37 l (yx rows) _ A' B' hc37 (by omega) hr w hw) rfl (fun l k a w hE=>has1 hE rfl) ?_ ?_ ?_
  · intro l D' O k hk;show H _ _ (zrU _ (pt b38 (.cells #[sl (some ⟨b37,0,none⟩) (yx rows).length c37] 199 (0,0))::pt d38 (.cells #[I 80] 3 (0,0))::roL 1 (some ⟨b37,0,none⟩) (qs (yx rows))::pt l O::pt D' dO::zrt 140 142 bd (fun X=>wi D (ckW (1 - h.side) (yx rows) 0 ((k+1)))=(0,X))::pt b5 (.cells #[I (((k+1):Nat):Int)] 3 (0,0))::pt b2 (.cells #[.nilIface] 37 (0,0))::pt b1 (.cells #[ptr bs 0] 85 (0,0))::pt b4 (.cells (ws (nxH h rows (N - 122))).toArray 177 (0,0))::pt bs (.cells (stC bd h bl s (rows.length) cap) 180 (0,0))::pt bl (.cells (lgC bd 122 (N - 122) h.first (used)) 222 (0,0))::roL 3 s (chR rows)::F) (pt b38 (.cells #[sl (some ⟨b37,0,none⟩) (yx rows).length c37] 199 (0,0))::pt d38 (.cells #[I 80] 3 (0,0))::roL 1 (some ⟨b37,0,none⟩) (qs (yx rows))::pt l O::pt D' dO::zcN (eN≠0)::dsk 140 142 bd (DN)::pt b2 (.cells #[yH eN] 37 (0,0))::pt b1 (.cells #[ptr bs 0] 85 (0,0))::pt b4 (.cells (ws (nxH h rows (N - 122))).toArray 177 (0,0))::pt bs (.cells (stC bd h bl s (rows.length) cap) 180 (0,0))::pt bl (.cells (lgC bd 122 (N - 122) h.first (used)) 222 (0,0))::roL 3 s (chR rows)::F)) _ _ (pt b38 (.cells #[sl (some ⟨b37,0,none⟩) (yx rows).length c37] 199 (0,0))::pt d38 (.cells #[I 80] 3 (0,0))::roL 1 (some ⟨b37,0,none⟩) (qs (yx rows))::pt l O::pt D' dO::zrt 140 142 bd (fun X=>wi D (ckW (1 - h.side) (yx rows) 0 (k))=(0,X))::pt b5 (.cells #[I ((k:Nat):Int)] 3 (0,0))::pt b2 (.cells #[.nilIface] 37 (0,0))::pt b1 (.cells #[ptr bs 0] 85 (0,0))::pt b4 (.cells (ws (nxH h rows (N - 122))).toArray 177 (0,0))::pt bs (.cells (stC bd h bl s (rows.length) cap) 180 (0,0))::pt bl (.cells (lgC bd 122 (N - 122) h.first (used)) 222 (0,0))::roL 3 s (chR rows)::F);refine zxl (T:=140) (TT:=142) (b:=bd) (φ:=fun X=>wi D (ckW (1 - h.side) (yx rows) 0 (k))=(0,X)) ?_;intro Dk hDk;have hokk:=za3 (ckW (1 - h.side) (yx rows) 0 (k)) i D hok;rw[hDk,ziI] at hokk;simp only at hokk;have hckl1:=zkx (yx rows) k;refine zwf (m:=80*k) (n:=80) (t:=(yx rows)) (b:=b37) ?_;rw[show (List.drop (80*k) (yx rows)).take 80=wB (yx rows) k from rfl];refine zvi ?_;refine zsC ?_;refine zwu (Lf:=[pt b1 (.cells #[ptr bs 0] 85 (0,0)),pt b4 (.cells (ws (nxH h rows (N - 122))).toArray 177 (0,0)),pt b5 (.cells #[I ((k:Nat):Int)] 3 (0,0)),pt bs (.cells (stC bd h bl s (rows.length) cap) 180 (0,0)),roL 1 (some ⟨b37,80*k,none⟩) (qs (wB (yx rows) k))]) [(0,false),(1,false),(2,false),(3,false),(4,false),(5,false),(6,false),(7,false),(8,false),(9,false),(10,false),(11,false),(12,true),(13,false)] (α:=Unit) (fun _=>True) (fun _=>U [(2,ptr b2 0),(5,ptr b5 0),(7,yH (yP Dk ((2+(1 - h.side)*60+k:Nat):Int) (wB (yx rows) k)))]) (fun _=>pt b38 (.cells #[sl (some ⟨b37,0,none⟩) (yx rows).length c37] 199 (0,0))::pt d38 (.cells #[I 80] 3 (0,0))::roL 1 (some ⟨b37,0,none⟩) (qs (yx rows))::pt l O::pt D' dO::dsk 140 142 bd ((yC Dk ((2+(1 - h.side)*60+k:Nat):Int) (wB (yx rows) k)))::pt b5 (.cells #[I ((k:Nat):Int)] 3 (0,0))::pt b2 (.cells #[.nilIface] 37 (0,0))::pt b1 (.cells #[ptr bs 0] 85 (0,0))::pt b4 (.cells (ws (nxH h rows (N - 122))).toArray 177 (0,0))::pt bs (.cells (stC bd h bl s (rows.length) cap) 180 (0,0))::pt bl (.cells (lgC bd 122 (N - 122) h.first (used)) 222 (0,0))::roL 3 s (chR rows)::F) (by kernel_rfl) (by kernel_rfl) rfl (by kernel_rfl) (by kernel_rfl) ?_ ?_
    · refine d_v rfl (qe (v:=ptr bs 0) isAgg85 rfl rfl) rfl (d_v rfl (qc rfl) rfl (d_v rfl (qa 0 underlying180 rfl rfl sizeOf25 (by decide) rfl) rfl (d_v rfl (qe (v:=ptr bd 0) isAgg25 rfl rfl) rfl (d_v rfl (qa 1 underlying177 rfl rfl sizeOf3 (by decide) rfl) rfl (d_v rfl (qe (v:=I (((1 - h.side):Nat):Int)) isAgg3 rfl rfl) rfl (d_v rfl (zdd (r:=(((1 - h.side)*60:Nat):Int)) rfl rfl (by rw[show ((((1 - h.side):Nat):Int):Int)*(60:Int)=(((1 - h.side)*60:Nat):Int) by omega];exact w64 (by omega))) rfl (d_v rfl (qu (r:=((2+(1 - h.side)*60:Nat):Int)) rfl rfl (by rw[show (2:Int)+((((1 - h.side)*60:Nat):Int):Int)=((2+(1 - h.side)*60:Nat):Int) by omega];exact w64 (by omega))) rfl (d_v rfl (qe (v:=I (k:Int)) isAgg3 rfl rfl) rfl (d_v rfl (qu (r:=((2+(1 - h.side)*60+k:Nat):Int)) rfl rfl (by rw[show (((2+(1 - h.side)*60:Nat):Int):Int)+(k:Int)=((2+(1 - h.side)*60+k:Nat):Int) by omega];exact w64 (by omega))) rfl (dM rfl rfl rfl (d_v rfl (yK (l:=wB (yx rows) k) underlying199 underlying5 underlying9 rfl rfl rfl) rfl ?_)))))))))));refine d_l rR (qi (Pre:=[dsk 140 142 bd (Dk)]) call136 rR (wu bd Dk ((2+(1 - h.side)*60+k:Nat):Int) (wB (yx rows) k) hokk.2.2.1 (by have:=hokk.2.2.2.2;omega))) rR ?_;rintro _ _ ⟨rfl,rfl⟩;refine d_v rR (qx rR) rR ?_;refine yc ?_;exact zaJ () trivial [2,5,7] rfl rfl
    intro _ _;obtain ⟨e1,he1⟩:∃e,yP Dk ((2+(1 - h.side)*60+k:Nat):Int) (wB (yx rows) k)=e:=⟨_,rfl⟩;obtain ⟨D1,hD1⟩:∃X,yC Dk ((2+(1 - h.side)*60+k:Nat):Int) (wB (yx rows) k)=X:=⟨_,rfl⟩;rw[he1,hD1];have hsn:wi D (ckW (1 - h.side) (yx rows) 0 (k+1))=(e1,D1):=by
      rw[znF,Nat.zero_add,zbD hDk,←he1,←hD1]
      rfl
    refine zsC ?_;refine zsC ?_;refine zub (α:=Unit) (fun _=>True) (fun _=>U [(2,ptr b2 0),(5,ptr b5 0),(7,yH e1),(54,Bo (!decide (e1=0)))]) (fun _=>pt b38 (.cells #[sl (some ⟨b37,0,none⟩) (yx rows).length c37] 199 (0,0))::pt d38 (.cells #[I 80] 3 (0,0))::roL 1 (some ⟨b37,0,none⟩) (qs (yx rows))::pt l O::pt D' dO::dsk 140 142 bd (D1)::pt b5 (.cells #[I ((k:Nat):Int)] 3 (0,0))::pt b2 (.cells #[.nilIface] 37 (0,0))::pt b1 (.cells #[ptr bs 0] 85 (0,0))::pt b4 (.cells (ws (nxH h rows (N - 122))).toArray 177 (0,0))::pt bs (.cells (stC bd h bl s (rows.length) cap) 180 (0,0))::pt bl (.cells (lgC bd 122 (N - 122) h.first (used)) 222 (0,0))::roL 3 s (chR rows)::F) (by kernel_rfl) ?_ ?_
    · refine gM rR (g_v (qZ underlying37 rR) rR (qb ?_));exact zaJ () trivial [2,5,7,54] rfl rfl
    intro _ _;refine zwJ rR (fun h54=>?_) (fun h54=>?_)
    · have h54':e1≠0:=(by simpa using h54);have hNe:wi D (ckW (1 - h.side) (yx rows) 0 ((ye (yx rows))))=(e1,D1):=by
        rw[show ye (yx rows)=(k+1)+(ye (yx rows) - (k+1)) by omega,zrl];exact zbA hsn h54'
      rw[hN] at hNe;injection hNe with hq1 hq2;obtain rfl:eN=e1:=hq1;obtain rfl:DN=D1:=hq2;refine zsC ?_;refine zub (α:=Unit) (fun _=>True) (fun _=>U []) (fun _=>pt b38 (.cells #[sl (some ⟨b37,0,none⟩) (yx rows).length c37] 199 (0,0))::pt d38 (.cells #[I 80] 3 (0,0))::roL 1 (some ⟨b37,0,none⟩) (qs (yx rows))::pt l O::pt D' dO::dsk 140 142 bd (DN)::pt b5 (.cells #[I ((k:Nat):Int)] 3 (0,0))::pt b2 (.cells #[yH eN] 37 (0,0))::pt b1 (.cells #[ptr bs 0] 85 (0,0))::pt b4 (.cells (ws (nxH h rows (N - 122))).toArray 177 (0,0))::pt bs (.cells (stC bd h bl s (rows.length) cap) 180 (0,0))::pt bl (.cells (lgC bd 122 (N - 122) h.first (used)) 222 (0,0))::roL 3 s (chR rows)::F) (by kernel_rfl) ?_ ?_
      · refine gM rR ?_;refine yu (qI #[yH eN] sizeOf37 rR rR (zqN _) (by simp) rR) ?_;rintro _ _ rfl;refine qb ?_;exact zaJ () trivial [] rfl rfl
      intro _ _;refine zpn (φ:=eN≠0) h54' ?_;exact h_ret
    · have h54':e1=0:=(by simpa using h54);refine zxJ ?_;refine zub (α:=Unit) (fun _=>True) (fun _=>U []) (fun _=>pt b38 (.cells #[sl (some ⟨b37,0,none⟩) (yx rows).length c37] 199 (0,0))::pt d38 (.cells #[I 80] 3 (0,0))::roL 1 (some ⟨b37,0,none⟩) (qs (yx rows))::pt l O::pt D' dO::dsk 140 142 bd (D1)::pt b5 (.cells #[I (((k+1):Nat):Int)] 3 (0,0))::pt b2 (.cells #[.nilIface] 37 (0,0))::pt b1 (.cells #[ptr bs 0] 85 (0,0))::pt b4 (.cells (ws (nxH h rows (N - 122))).toArray 177 (0,0))::pt bs (.cells (stC bd h bl s (rows.length) cap) 180 (0,0))::pt bl (.cells (lgC bd 122 (N - 122) h.first (used)) 222 (0,0))::roL 3 s (chR rows)::F) (by kernel_rfl) ?_ ?_
      · refine g_v (qe (v:=I (k:Int)) isAgg3 rfl rfl) rfl (g_v (qu (r:=((k+1:Nat):Int)) rfl rfl (by rw[show (k:Int)+(1:Int)=((k+1:Nat):Int) by omega];exact w64 (by omega))) rfl ?_);refine yu (qI #[I ((k+1:Nat):Int)] sizeOf3 rR rR rR (by simp) rR) ?_;rintro _ _ rfl;refine qb ?_;exact zaJ () trivial [] rfl rfl
      intro _ _;refine h_blk ?_;refine zuj (T:=140) (TT:=142) (b:=bd) (φ:=fun X=>wi D (ckW (1 - h.side) (yx rows) 0 ((k+1)))=(0,X)) D1 (by rw[hsn,h54']) ?_;exact h_end
  rotate_left
  · intro D';show G _ _ _ (pt D' dO::pt b38 (.cells #[sl (some ⟨b37,0,none⟩) (yx rows).length c37] 199 (0,0))::pt d38 (.cells #[I 80] 3 (0,0))::roL 1 (some ⟨b37,0,none⟩) (qs (yx rows))::zcN (eN≠0)::dsk 140 142 bd (DN)::pt b2 (.cells #[yH eN] 37 (0,0))::pt b1 (.cells #[ptr bs 0] 85 (0,0))::pt b4 (.cells (ws (nxH h rows (N - 122))).toArray 177 (0,0))::pt bs (.cells (stC bd h bl s (rows.length) cap) 180 (0,0))::pt bl (.cells (lgC bd 122 (N - 122) h.first (used)) 222 (0,0))::roL 3 s (chR rows)::F);refine zvI (φ:=eN≠0) ?_;intro hne;exact zqa (b:=b2) (o:=0) (v:=yH eN) (Lf:=pt bs (.cells (stC bd h bl s (rows.length) cap) 180 (0,0))::pt bl (.cells (lgC bd 122 (N - 122) h.first (used)) 222 (0,0))::dsk 140 142 bd (DN)::roL 3 s (chR rows)::F) rfl rfl rfl isAgg37 rfl ⟨eN,DN,zbA hN hne, .inl ⟨hne,rfl,rfl⟩⟩
  intro D';show G _ _ _ (pt D' dO::pt b38 (.cells #[sl (some ⟨b37,0,none⟩) (yx rows).length c37] 199 (0,0))::pt d38 (.cells #[I 80] 3 (0,0))::roL 1 (some ⟨b37,0,none⟩) (qs (yx rows))::zrt 140 142 bd (fun X=>wi D (ckW (1 - h.side) (yx rows) 0 ((ye (yx rows))))=(0,X))::pt b5 (.cells #[I (((ye (yx rows)):Nat):Int)] 3 (0,0))::pt b2 (.cells #[.nilIface] 37 (0,0))::pt b1 (.cells #[ptr bs 0] 85 (0,0))::pt b4 (.cells (ws (nxH h rows (N - 122))).toArray 177 (0,0))::pt bs (.cells (stC bd h bl s (rows.length) cap) 180 (0,0))::pt bl (.cells (lgC bd 122 (N - 122) h.first (used)) 222 (0,0))::roL 3 s (chR rows)::F);refine zwP (T:=140) (TT:=142) (b:=bd) (φ:=fun X=>wi D (ckW (1 - h.side) (yx rows) 0 ((ye (yx rows))))=(0,X)) ?_;intro D1 hD1;rw[hN] at hD1;injection hD1 with hq1 hq2;subst hq1;obtain rfl:DN=D1:=hq2;have hokN:=za3 (ckW (1 - h.side) (yx rows) 0 ((ye (yx rows)))) i D hok;rw[hN,ziI] at hokN;simp only at hokN;refine qG (gS (g_v (qe (v:=ptr bs 0) isAgg85 rR rR) rR (g_v (qc rR) rR (g_v (qa 0 underlying180 rR rR sizeOf25 (by decide) rR) rR (g_v (qe (v:=ptr bd 0) isAgg25 rR rR) rR ?_)))));refine g_l (qi (Pre:=[dsk 140 142 bd (DN)]) call137 rR (zap bd DN hokN.2.2.1 (by rw[hokN.1,hokN.2.1]) (by rw[hokN.2.1];omega))) rR ?_;rintro _ _ ⟨rfl,rfl⟩;refine gA rR (qb (qf (gS (gM rR (g_v (wD underlying37 rR) rR (qb ?_))))));refine zku (α:=Int×DiskM) (fun z=>wi DN [none,some ((h.ep+1) % 2,we (nxH h rows (N - 122)))]=z) (fun z=>U [(1,ptr b1 0),(2,ptr b2 0),(4,ptr b4 0),(8,yH z.1)]) (fun z=>pt D' dO::dsk 140 142 bd (z.2)::pt b2 (.cells #[.nilIface] 37 (0,0))::pt b1 (.cells #[ptr bs 0] 85 (0,0))::pt b4 (.cells (ws (nxH h rows (N - 122))).toArray 177 (0,0))::pt bs (.cells (stC bd h bl s (rows.length) cap) 180 (0,0))::pt bl (.cells (lgC bd 122 (N - 122) h.first (used)) 222 (0,0))::roL 3 s (chR rows)::F) ?_ ?_
  · refine qg rR (fun h64=>?_) (fun h64=>?_)
    · have hs0:wb DN=0:=(by simpa using h64);have hokF:okW N (i+ye (yx rows)+1) (yB DN):=ze2 hokN;refine yy (Lf:=[pt b1 (.cells #[ptr bs 0] 85 (0,0)),pt b4 (.cells (ws (nxH h rows (N - 122))).toArray 177 (0,0)),pt bs (.cells (stC bd h bl s (rows.length) cap) 180 (0,0))]) [(0,false),(1,false),(2,false),(3,false),(4,false),(5,false),(6,false),(7,false),(8,true),(9,true),(10,false)] (by kernel_rfl) (by kernel_rfl) rR (by kernel_rfl) ?_;refine d_v rR (qe (v:=ptr bs 0) isAgg85 rR rR) rR (d_v rR (qc rR) rR (d_v rR (qa 0 underlying180 rR rR sizeOf25 (by decide) rR) rR (d_v rR (qe (v:=ptr bd 0) isAgg25 rR rR) rR (d_v rR (qa 0 underlying177 rR rR sizeOf3 (by decide) rR) rR (d_v rR (qe (v:=I ((h.ep+1:Nat):Int)) isAgg3 rR rR) rR (d_v rR (zuS (r:=(((h.ep+1) % 2:Nat):Int)) rR rR (by decide) rR) rR (d_v rR (qJ (vs:=ws (nxH h rows (N - 122))) isAgg177 sizeOf177 rR rR qR) rR ?_)))))));refine d_l rR (qi (Pre:=[]) call138 rR (zeG (nxH h rows (N - 122)))) rR ?_;rintro _ _ ⟨rfl,rfl⟩;refine d_l rR (qi (Pre:=[dsk 140 142 bd (yB DN)]) call136 rR (wu bd (yB DN) (((h.ep+1) % 2:Nat):Int) (we (nxH h rows (N - 122))) hokF.2.2.1 (by have:=hokF.2.2.2.2;omega))) rR ?_;rintro _ _ ⟨rfl,rfl⟩;refine d_v rR (qx rR) rR ?_;refine yc ?_;exact zaJ (yP (yB DN) (((h.ep+1) % 2:Nat):Int) (we (nxH h rows (N - 122))),yC (yB DN) (((h.ep+1) % 2:Nat):Int) (we (nxH h rows (N - 122)))) (by rw[zda hs0];exact zbD (l:=[]) rfl) [1,2,4,8] rfl rfl
    · have hs0:¬wb DN=0:=(by simpa using h64);refine qh ?_;exact zaJ (wb DN,yB DN) (zcD hs0) [1,2,4,8] rfl rfl
  rintro ⟨e2,D2⟩ h2;simp only at h2 ⊢;have hok2:=za3 [none,some ((h.ep+1) % 2,we (nxH h rows (N - 122)))] _ DN hokN;rw[h2] at hok2;simp only[List.length_cons,List.length_nil] at hok2;refine qf (gS (gM rR (g_v (wD underlying37 rR) rR (qb ?_))));refine zku (α:=Int×DiskM) (fun z=>wi DN [none,some ((h.ep+1) % 2,we (nxH h rows (N - 122))),none]=z∧(z.1=0→z.2.down=false)) (fun z=>U [(1,ptr b1 0),(2,ptr b2 0),(4,ptr b4 0),(8,yH z.1)]) (fun z=>pt D' dO::dsk 140 142 bd (z.2)::pt b2 (.cells #[.nilIface] 37 (0,0))::pt b1 (.cells #[ptr bs 0] 85 (0,0))::pt b4 (.cells (ws (nxH h rows (N - 122))).toArray 177 (0,0))::pt bs (.cells (stC bd h bl s (rows.length) cap) 180 (0,0))::pt bl (.cells (lgC bd 122 (N - 122) h.first (used)) 222 (0,0))::roL 3 s (chR rows)::F) ?_ ?_
  · refine qg rR (fun h76=>?_) (fun h76=>?_)
    · have h76':e2=0:=(by simpa using h76);refine qp (g_v (qe (v:=ptr bs 0) isAgg85 rR rR) rR (g_v (qc rR) rR (g_v (qa 0 underlying180 rR rR sizeOf25 (by decide) rR) rR (g_v (qe (v:=ptr bd 0) isAgg25 rR rR) rR ?_))));refine g_l (qi (Pre:=[dsk 140 142 bd (D2)]) call137 rR (zap bd D2 hok2.2.2.1 (by rw[hok2.1,hok2.2.1]) (by rw[hok2.2.1];omega))) rR ?_;rintro _ _ ⟨rfl,rfl⟩;refine gA rR (qb ?_);exact zaJ (wb D2,yB D2) ⟨zbD (l:=[none,some ((h.ep+1) % 2,we (nxH h rows (N - 122)))]) (x:=none) (by rw[h2,h76']),fun h=>(zbK h).1.2.2⟩ [1,2,4,8] rfl rfl
    · have h76':¬e2=0:=(by simpa using h76);refine qh ?_;exact zaJ (e2,D2) ⟨zbA (l:=[none,some ((h.ep+1) % 2,we (nxH h rows (N - 122)))]) (r:=[none]) h2 h76',fun h=>absurd h h76'⟩ [1,2,4,8] rfl rfl
  rintro ⟨e3,D3⟩ ⟨h3,hdn3⟩;simp only at h3 hdn3 ⊢;have hall:wi D (ckL (nxH h rows (N - 122)) (yx rows))=(e3,D3):=(ztf hN).trans h3;have hok3:=za3 (ckL (nxH h rows (N - 122)) (yx rows)) i D hok;rw[hall] at hok3;simp only at hok3;have hS3:=zel (ckL (nxH h rows (N - 122)) (yx rows)) D hS hckl;rw[hall] at hS3;simp only at hS3;refine qf (gS (gM rR (g_v (qZ underlying37 rR) rR (qb ?_))));refine qg rR (fun h83=>?_) (fun h83=>?_)
  · have h83':e3≠0:=(by simpa using h83);refine gS (gM rR ?_);refine yu (qI #[yH e3] sizeOf37 rR rR (zqN _) (by decide) rR) ?_;rintro _ _ rfl;refine qb ?_;exact zqa (b:=b2) (o:=0) (v:=yH e3) (Lf:=pt bs (.cells (stC bd h bl s (rows.length) cap) 180 (0,0))::pt bl (.cells (lgC bd 122 (N - 122) h.first (used)) 222 (0,0))::dsk 140 142 bd (D3)::roL 3 s (chR rows)::F) rfl rfl rfl isAgg37 rfl ⟨e3,D3,hall, .inl ⟨h83',rfl,rfl⟩⟩
  · have h83':e3=0:=(by simpa using h83);subst h83'
    replace hdn3:=hdn3 rfl
    refine qh (qf ?_);refine yy (Lf:=[pt b1 (.cells #[ptr bs 0] 85 (0,0)),pt b4 (.cells (ws (nxH h rows (N - 122))).toArray 177 (0,0)),pt bs (.cells (stC bd h bl s (rows.length) cap) 180 (0,0))]) [(0,false),(1,false),(2,false),(3,false),(4,false),(5,false),(6,false),(7,false),(10,false),(11,false),(8,true),(9,false),(12,true),(13,false),(14,false),(15,false),(16,false),(17,false),(18,false),(19,false)] (by kernel_rfl) (by kernel_rfl) rR (by kernel_rfl) ?_;refine d_v rfl (qe (v:=ptr bs 0) isAgg85 rfl rfl) rfl (d_v rfl (qc rfl) rfl (d_v rfl (qa 0 underlying180 rfl rfl sizeOf25 (by decide) rfl) rfl (d_v rfl (qe (v:=ptr bd 0) isAgg25 rfl rfl) rfl (d_v rfl (qe (v:=ptr bs 0) isAgg85 rfl rfl) rfl (d_v rfl (qc rfl) rfl (d_v rfl (qa 0 underlying180 rfl rfl sizeOf25 (by decide) rfl) rfl (d_v rfl (qe (v:=ptr bd 0) isAgg25 rfl rfl) rfl (d_v rfl (qa 3 underlying177 rfl rfl sizeOf3 (by decide) rfl) rfl (d_v rfl (qe (v:=I ((h.first+(N - 122):Nat):Int)) isAgg3 rfl rfl) rfl ?_)))))))));refine d_l rR (qi (Pre:=[dsk 140 142 bd (D3)]) (R:=fun F=>R1 (I (D3.now.length:Int)) (dsk 140 142 bd (D3)::F)) call102 rR (yW bd D3)) rR ?_;rintro _ _ ⟨rfl,rfl⟩;refine d_v rfl (zb9 (r:=((N - 122:Nat):Int)) rfl rfl (by rw[hok3.2.1,show (N:Int) - 122=((N - 122:Nat):Int) by omega];exact w64 (by omega))) rfl ?_;refine d_l rfl (qi (Pre:=[dsk 140 142 bd (D3)]) call106 rfl (zg3 bd D3 122 ((N - 122:Nat):Int) ((h.first+(N - 122):Nat):Int) hS3.2.1 ⟨by rw[hok3.2.1];omega,by omega⟩)) rfl ?_;rintro _ _ (⟨hbad,_,_⟩ | ⟨_,hdn,_,_⟩ | ⟨_,_,bl',gl,so,co,used',rfl,hul,_,hsc,rfl⟩)
    · exfalso;unfold zqy at hbad;rw[hok3.2.1] at hbad;omega
    · rw[hdn3] at hdn;cases hdn
    rw[show lgC bd ((122:Int)).toNat ((N - 122:Nat):Int).toNat ((h.first+(N - 122):Nat):Int).toNat used'=lgC bd 122 (N - 122) (h.first+(N - 122)) used' from rfl]
    replace hul:used'≤N - 122:=hul
    replace hsc:wa (h.first+(N - 122)) (ziB D3 122) (N - 122) 0 [] [] 0=(gl.map (·.1),used'):=hsc
    refine dM rR rR rR (d_v rR (qd (v:=ptr bl' 0) rR rR) rR (d_v rR (qd (v:=sl so gl.length co) rR rR) rR (d_v rR (qd (v:=yH 0) rR rR) rR (d_v rR (qx rR) rR (d_v rR (qx rR) rR (d_v rR (qx rR) rR ?_))))));refine yc ?_;refine qf (gS (gM rR (g_v (wD underlying37 rR) rR (qb ?_))));refine zab rR ?_;refine yy (Lf:=[pt b1 (.cells #[ptr bs 0] 85 (0,0)),pt b4 (.cells (ws (nxH h rows (N - 122))).toArray 177 (0,0))]) [(0,false),(1,false),(2,false),(3,false),(4,false),(5,false),(6,true),(7,false),(8,false),(9,true)] (by kernel_rfl) (by kernel_rfl) rR (by kernel_rfl) ?_;refine d_v rR (qe (v:=ptr bs 0) isAgg85 rR rR) rR (d_v rR (qe (v:=ptr bs 0) isAgg85 rR rR) rR (d_v rR (qJ (vs:=ws (nxH h rows (N - 122))) isAgg177 sizeOf177 rR rR qR) rR (dM rR rR rR (d_v rR (qc rR) rR (d_v rR (qa 1 underlying180 rR rR sizeOf177 (by decide) rR) rR ?_)))));refine zn8 rR (qr (cs:=stC bd h bl s rows.length cap) (vs:=ws (nxH h rows (N - 122))) (stC bd (nxH h rows (N - 122)) bl s rows.length cap) sizeOf177 rR rR rR rR (by simp) rR) ?_;rintro _ _ rfl;refine d_v rR (qc rR) rR (d_v rR (qa 5 underlying180 rR rR sizeOf178 (by decide) rR) rR ?_);refine zn8 rR (qI (stC bd (nxH h rows (N - 122)) bl' s rows.length cap) sizeOf178 rR rR rR (by simp) rR) ?_;rintro _ _ rfl;refine yc ?_;refine gS (gM rR ?_);refine yu (qI #[yH 0] sizeOf37 rR rR rR (by decide) rR) ?_;rintro _ _ rfl;refine qb ?_;exact zqa (b:=b2) (o:=0) (v:=yH 0) (Lf:=pt bs (.cells (stC bd (nxH h rows (N - 122)) bl' s (rows.length) cap) 180 (0,0))::pt bl' (.cells (lgC bd 122 (N - 122) (h.first+(N - 122)) (used')) 222 (0,0))::dsk 140 142 bd (D3)::roL 3 s (chR rows)::F) rfl rfl rfl isAgg37 rfl ⟨0,D3,hall, .inr ⟨rfl,bl',gl.map (·.1),used',hul,hsc,rfl,rfl⟩⟩
theorem zmL {many:Nat}{rows c:List ChangeM}(h:72<c.length):cmV many rows c=2:=by unfold cmV;rw[if_pos h]
theorem zo2 {many:Nat}{rows c:List ChangeM}(h:c.length≤72)(hf:zg0 c≠0):cmV many rows c=zg0 c:=by unfold cmV;rw[if_neg (by omega),if_pos hf]
theorem zmu {many:Nat}{rows c:List ChangeM}(h:c.length≤72)(hf:zg0 c=0)(hb:80<(zaF rows c).length∨many<c.length+1):cmV many rows c=8:=by unfold cmV;rw[if_neg (by omega),if_neg (by simpa using hf),if_pos hb]
theorem zv9 {many:Nat}{rows c:List ChangeM}(h:c.length≤72)(hf:zg0 c=0)(hb:¬(80<(zaF rows c).length∨many<c.length+1)):cmV many rows c=0:=by unfold cmV;rw[if_neg (by omega),if_neg (by simpa using hf),if_neg hb]
theorem zc8 (bs bd:Nat)(h:HdM)(bl:Nat)(s:Option Addr)(cap:Nat)(rows:List ChangeM)(N i used:Nat)(D:DiskM)(hok:okW N i D)(hi:i≤100000)(hS:S80 D)(hN0:196≤N∧N≤260)(hh:h.ep≤1000000∧h.side≤1∧1≤h.first∧h.first≤1000000000)(hl:rows.length≤80)(hrw:∀r∈rows,okR r)(hu:used≤N - 122)(hs:srt rows)(c:List ChangeM)(s':Option Addr)(cap':Nat)(hcl:c.length≤9223372036854775807)(F:List HProp):Ct Tryz.prog 81 [ptr bs 0,sl s' c.length cap'] ([pt bs (.cells (stC bd h bl s (rows.length) cap) 180 (0,0)),pt bl (.cells (lgC bd 122 (N - 122) h.first (used)) 222 (0,0)),dsk 140 142 bd (D),roL 3 s (chR rows),roL 3 s' (chR c)]++F) (fun v L'=>∃e D2 h2 used2 rows2 bl2 s2 cap2,ztl D h rows (N - 122) used c e D2 h2 used2 rows2∧v=yH e∧L'=pt bs (.cells (stC bd h2 bl2 s2 rows2.length cap2) 180 (0,0))::pt bl2 (.cells (lgC bd 122 (N - 122) h2.first used2) 222 (0,0))::dsk 140 142 bd (D2)::roL 3 s2 (chR rows2)::roL 3 s' (chR c)::F):=by
  show Ct Tryz.prog 81 [ptr bs 0,sl s' c.length cap'] (pt bs (.cells (stC bd h bl s (rows.length) cap) 180 (0,0))::pt bl (.cells (lgC bd 122 (N - 122) h.first (used)) 222 (0,0))::dsk 140 142 bd (D)::roL 3 s (chR rows)::roL 3 s' (chR c)::F) _;refine Ct.of func81 rR 76 ntmps81 (by simp) fun w0=>?_;refine gS (gA rR (qb (qf (gS (gM rR (g_v (yi underlying34 rR) rR (g_v (yz rR rR) rR (qb ?_))))))));refine qg rR (fun h13=>?_) (fun h13=>?_)
  · simp at h13;have hlong:72<c.length:=(by omega);refine gS (g_v (qB underlying108 rR rR) rR (gA rR (qb ?_)));exact ql (pt bs (.cells (stC bd h bl s (rows.length) cap) 180 (0,0))::pt bl (.cells (lgC bd 122 (N - 122) h.first (used)) 222 (0,0))::dsk 140 142 bd (D)::roL 3 s (chR rows)::roL 3 s' (chR c)::F) rfl ⟨2,D,h,used,rows,bl,s,cap, .inl ⟨by rw[zmL hlong];decide,by rw[zmL hlong],rfl,rfl,rfl,rfl⟩,rfl,rfl⟩
  · simp at h13;have hshort:c.length≤72:=(by omega);refine qh (qf (gS (gM rR (g_v (yi underlying34 rR) rR (gM rR (qb (qj ?_)))))));refine qD (α:=Nat) (fun k=>k≤c.length∧zg0 c=zg0 (c.drop k)) (fun k=>U [(0,ptr bs 0),(1,sl s' c.length cap'),(15,sl s' c.length cap'),(16,I c.length),(17,I (k:Int))]) (fun k=>pt bs (.cells (stC bd h bl s (rows.length) cap) 180 (0,0))::pt bl (.cells (lgC bd 122 (N - 122) h.first (used)) 222 (0,0))::dsk 140 142 bd (D)::roL 3 s (chR rows)::roL 3 s' (chR c)::F) (fun k=>c.length - k) 0 ⟨Nat.zero_le _,rfl⟩ [0,1,15,16,17] rfl rfl ?_;rintro k ⟨hk,hfk⟩;refine gS (g_v (qK rR rR) rR (qb (qf ?_)));refine qg rR (fun h18=>?_) (fun h18=>?_)
    · simp at h18;have hkn:k<c.length:=(by omega);obtain ⟨x,hx⟩:∃x,c[k]? =some x:=⟨_,List.getElem?_eq_getElem hkn⟩;have hkr:k<(chR c).length:=(by rw[qN];exact hkn);have hfd:=zjE hx;refine qh (qf (qj (gS (g_v (qA k underlying34 sizeOf104 rR rR rR hkn hkr) rR (g_v (yj (row:=yw x) isAgg104 sizeOf104 rR (zaW hx) rR) rR ?_)))));refine g_l (qy #[Str [],Str [],Bo false] zeroValue104) rR ?_;rintro _ _ ⟨b6,rfl,rfl⟩;refine yu (qr (cs:=#[Str [],Str [],Bo false]) (vs:=yw x) (yw x).toArray sizeOf104 rR rR rR rR (by decide) (qC rR)) ?_;rintro _ _ rfl;refine qb (gS (g_v (qJ (vs:=yw (x)) isAgg104 sizeOf104 rR rR qR) rR ?_));refine g_l (qi (Pre:=[]) call127 rR (zbj x)) rR ?_;rintro _ _ ⟨rfl,rfl⟩;refine gA rR (qb (gS (gM rR (g_v (qZ underlying37 rR) rR (qb ?_)))));refine qg rR (fun h24=>?_) (fun h24=>?_)
      · have hx0:¬zbI x=0:=(by simpa using h24);have hfx:zg0 c=zbI x:=(by rw[hfk,hfd,if_neg hx0]);refine gS (gM rR (gA rR (qb ?_)));exact ql (pt bs (.cells (stC bd h bl s (rows.length) cap) 180 (0,0))::pt bl (.cells (lgC bd 122 (N - 122) h.first (used)) 222 (0,0))::dsk 140 142 bd (D)::roL 3 s (chR rows)::roL 3 s' (chR c)::F) rfl ⟨(zbI x),D,h,used,rows,bl,s,cap, .inl ⟨by rw[zo2 hshort (by rw[hfx];exact hx0),hfx];exact hx0,by rw[zo2 hshort (by rw[hfx];exact hx0),hfx],rfl,rfl,rfl,rfl⟩,rfl,rfl⟩
      · have hx0:zbI x=0:=(by simpa using h24);refine qh (qG (qp (g_v (qu (r:=((k+1:Nat):Int)) rfl rfl (by rw[show (k:Int)+1=((k+1:Nat):Int) by omega];exact w64 (by omega))) rfl (gM rfl (qb ?_)))));exact qo (k+1) ⟨by omega,by rw[hfk,hfd,if_pos hx0]⟩ (by omega) [0,1,15,16,17] rfl rfl
    · simp at h18;obtain rfl:k=c.length:=(by omega);rw[List.drop_length] at hfk;have hf0:zg0 c=0:=hfk;refine qz rR ?_;refine gS (gM rR (g_v (qc rR) rR (g_v (qa 6 underlying180 rR rR sizeOf34 (by decide) rR) rR (g_v (qe (v:=sl s rows.length cap) isAgg34 rR rR) rR (gM rR ?_)))));refine g_l (qi (Pre:=[roL 3 s (chR rows),roL 3 s' (chR c)]) call107 rR (zdq rows c s s' cap cap' hs (by omega) (by omega))) rR ?_;rintro _ _ ⟨s32,c32,rfl,rfl⟩;refine yp (T:=104) (cap:=c32) s32 ?_;refine gA rfl (qb (qf (gS (gM rfl (g_v (yi underlying34 rfl) rfl (g_v (yz rfl rfl) rfl (gM rfl (qH rfl rfl (fun hg=>qn rfl) rfl rfl (qH rfl rfl (fun hg=>yi underlying34 rfl) rfl rfl (qH rfl rfl (fun hg=>qu (r:=((c.length+1:Nat):Int)) rfl rfl (by rw[show (c.length:Int)+1=((c.length+1:Nat):Int) by omega];exact w64 (by omega))) rfl rfl (qH rfl rfl (fun hg=>qn rfl) rfl rfl (qH rfl rfl (fun hg=>qc rfl) rfl rfl (qH rfl rfl (fun hg=>qa 0 underlying180 rfl rfl sizeOf25 (by decide) rfl) rfl rfl (qH rfl rfl (fun hg=>qe (v:=ptr bd 0) isAgg25 rfl rfl) rfl rfl ?_))))))))))))));refine g_gq rR rR (fun hg=>qi (Pre:=[dsk 140 142 bd (D)]) (R:=fun F=>R1 (I ((D).now.length:Int)) (dsk 140 142 bd (D)::F)) call102 rR (yW bd D)) rR rR ?_;refine qH rfl rfl (fun hg=>zb9 (r:=((N - 122:Nat):Int)) rfl rfl (by rw[hok.2.1,show (N:Int) - 122=((N - 122:Nat):Int) by omega];exact w64 (by omega))) rfl rfl (qH rfl rfl (fun hg=>yz rfl rfl) rfl rfl (g_v (zav rfl rfl) rfl (qb ?_)));refine qg rR (fun h47=>?_) (fun h47=>?_)
      · simp at h47;have hfull:80<(zaF rows c).length∨N - 122<c.length+1:=(by omega);refine gS (g_v (qB underlying108 rR rR) rR (gA rR (qb ?_)));exact ql (pt bs (.cells (stC bd h bl s (rows.length) cap) 180 (0,0))::pt bl (.cells (lgC bd 122 (N - 122) h.first (used)) 222 (0,0))::dsk 140 142 bd (D)::roL 3 s (chR rows)::roL 3 s' (chR c)::F) rfl ⟨8,D,h,used,rows,bl,s,cap, .inl ⟨by rw[zmu hshort hf0 hfull];decide,by rw[zmu hshort hf0 hfull],rfl,rfl,rfl,rfl⟩,rfl,rfl⟩
      · simp at h47;have hfull:¬(80<(zaF rows c).length∨N - 122<c.length+1):=(by omega);have hcm:=zv9 hshort hf0 hfull;refine qh (qf (gS (gM rfl (g_v (yi underlying34 rfl) rfl (g_v (qu (r:=((c.length+1:Nat):Int)) rfl rfl (by rw[show (c.length:Int)+1=((c.length+1:Nat):Int) by omega];exact w64 (by omega))) rfl (gM rfl (g_v (qc rfl) rfl (g_v (qa 5 underlying180 rfl rfl sizeOf178 (by decide) rfl) rfl (g_v (qe (v:=ptr bl 0) isAgg178 rfl rfl) rfl ?_)))))))));refine g_l (qi (Pre:=[pt bl (.cells (lgC bd 122 (N - 122) h.first (used)) 222 (0,0))]) call128 rfl (zha bl bd 122 (N - 122) h.first used ⟨hu,by omega⟩)) rfl ?_;rintro _ _ ⟨rfl,rfl⟩;refine g_v (yz rR rR) rR (qb ?_);refine zku (α:=DiskM×HdM×Nat×Nat) (fun z=>MidR D h rows (N - 122) used c 0 z.1 z.2.1 z.2.2.1) (fun z=>U [(0,ptr bs 0),(1,sl s' c.length cap'),(8,sl s32 (zaF rows c).length c32)]) (fun z=>pt bs (.cells (stC bd z.2.1 z.2.2.2 s rows.length cap) 180 (0,0))::pt z.2.2.2 (.cells (lgC bd 122 (N - 122) z.2.1.first z.2.2.1) 222 (0,0))::dsk 140 142 bd (z.1)::roL 3 s (chR rows)::roL 3 s' (chR c)::roL 3 s32 (chR (zaF rows c))::F) ?_ ?_
        · refine qg rR (fun h57=>?_) (fun h57=>?_)
          · simp at h57;have hroom:N - 122 - used<c.length+1:=(by omega);refine gS (gM rR ?_);refine g_l (qi (Pre:=[pt bs (.cells (stC bd h bl s (rows.length) cap) 180 (0,0)),pt bl (.cells (lgC bd 122 (N - 122) h.first (used)) 222 (0,0)),dsk 140 142 bd (D),roL 3 s (chR rows)]) call129 rfl (zbM bs bd h bl s cap rows N i used D hok hi hS hN0 hh hl hrw)) rfl ?_;rintro _ _ ⟨e59,D59,hck,⟨hne,rfl,rfl⟩ | ⟨h0,bl9,ds9,used9,hu9,hsc9,rfl,rfl⟩⟩
            · refine gA rR (qb (gS (gM rR (g_v (qZ underlying37 rR) rR (qb ?_)))));refine qg rR (fun h61=>?_) (fun h61=>?_)
              · refine gS (gM rR (gA rR (qb ?_)));exact ql (pt bs (.cells (stC bd h bl s (rows.length) cap) 180 (0,0))::pt bl (.cells (lgC bd 122 (N - 122) h.first (used)) 222 (0,0))::dsk 140 142 bd (D59)::roL 3 s (chR rows)::roL 3 s' (chR c)::F) rfl ⟨e59,D59,h,used,rows,bl,s,cap, .inr ⟨hcm,e59,D59,h,used, .inl ⟨hroom,hck, .inl ⟨hne,rfl,rfl⟩⟩, .inl ⟨hne,rfl,rfl,rfl,rfl,rfl⟩⟩,rfl,rfl⟩
              · exact absurd (by simpa using h61) hne
            · subst h0;refine gA rR (qb (gS (gM rR (g_v (qZ underlying37 rR) rR (qb ?_)))));refine qg rR (fun h61=>?_) (fun h61=>?_)
              · simp at h61
              · refine qh ?_;rw[show h.first+(N - 122)=(nxH h rows (N - 122)).first from rfl];exact zaJ (D59,(nxH h rows (N - 122)),used9,bl9) (.inl ⟨hroom,hck, .inr ⟨rfl,rfl,hu9,ds9,hsc9⟩⟩) [0,1,8] rfl rfl
          · simp at h57;have hroom:¬N - 122 - used<c.length+1:=(by omega);refine qh ?_;exact zaJ (D,h,used,bl) (.inr ⟨hroom,rfl,rfl,rfl,rfl⟩) [0,1,8] rfl rfl
        rintro ⟨D1,h1,used1,bl1⟩ hmid;simp only[] at hmid ⊢;obtain ⟨hm1,hm2,hm3,hm4,hm5,hm6,hm7⟩:=zo1 hmid hok hS hl hrw hN0.1 hu;refine gS (gM rR (g_v (qc rR) rR (g_v (qa 5 underlying180 rR rR sizeOf178 (by decide) rR) rR (g_v (qe (v:=ptr bl1 0) isAgg178 rR rR) rR (gM rR ?_)))));refine g_l (qi (Pre:=[pt bl1 (.cells (lgC bd 122 (N - 122) h1.first used1) 222 (0,0)),dsk 140 142 bd (D1),roL 3 s' (chR c)]) call130 rfl (zn0 bl1 bd 122 (N - 122) h1.first used1 c s' cap' N (i+63) D1 hm1 ⟨by omega,by omega⟩ ⟨by omega,by omega,by decide,hm3⟩ hcl)) rfl ?_;rintro _ _ ⟨rfl,rfl⟩;refine gA rR (qb (qf (gS (gM rR (g_v (wD underlying37 rR) rR (qb ?_))))));refine qg rR (fun h70=>?_) (fun h70=>?_)
        · have h70':zhG 122 (N - 122) h1.first used1 c D1=0:=(by simpa using h70);refine qp (gM rR (gM rR (g_v (qc rR) rR (g_v (qa 6 underlying180 rR rR sizeOf34 (by decide) rR) rR ?_))));refine yu (qI (stC bd h1 bl1 s32 (zaF rows c).length c32) sizeOf34 rR rR rR (by simp) rR) ?_;rintro _ _ rfl;refine qb (gS (gM rR (gA rR (qb ?_))))
          first
          | exact ql (pt bs (.cells (stC bd h1 bl1 s32 (zaF rows c).length c32) 180 (0,0))::pt bl1 (.cells (lgC bd 122 (N - 122) h1.first (zhp 122 (N - 122) h1.first used1 c D1)) 222 (0,0))::dsk 140 142 bd (zdD 122 (N - 122) h1.first used1 c D1)::roL 3 s32 (chR (zaF rows c))::roL 3 s' (chR c)::F) rfl ⟨_,zdD 122 (N - 122) h1.first used1 c D1,h1,zhp 122 (N - 122) h1.first used1 c D1,(zaF rows c),bl1,s32,c32, .inr ⟨hcm,0,D1,h1,used1,hmid, .inr ⟨rfl,rfl,rfl,rfl,rfl,(if_pos h70').symm⟩⟩,rfl,rfl⟩
          | exact ql (pt bs (.cells (stC bd h1 bl1 s rows.length cap) 180 (0,0))::pt bl1 (.cells (lgC bd 122 (N - 122) h1.first (zhp 122 (N - 122) h1.first used1 c D1)) 222 (0,0))::dsk 140 142 bd (zdD 122 (N - 122) h1.first used1 c D1)::roL 3 s (chR rows)::roL 3 s' (chR c)::F) rfl ⟨_,zdD 122 (N - 122) h1.first used1 c D1,h1,zhp 122 (N - 122) h1.first used1 c D1,rows,bl1,s,cap, .inr ⟨hcm,0,D1,h1,used1,hmid, .inr ⟨rfl,rfl,rfl,rfl,rfl,(if_neg h70').symm⟩⟩,rfl,rfl⟩
        · have h70':¬zhG 122 (N - 122) h1.first used1 c D1=0:=(by simpa using h70);refine qh (gS (gM rR (gA rR (qb ?_))))
          first
          | exact ql (pt bs (.cells (stC bd h1 bl1 s32 (zaF rows c).length c32) 180 (0,0))::pt bl1 (.cells (lgC bd 122 (N - 122) h1.first (zhp 122 (N - 122) h1.first used1 c D1)) 222 (0,0))::dsk 140 142 bd (zdD 122 (N - 122) h1.first used1 c D1)::roL 3 s32 (chR (zaF rows c))::roL 3 s' (chR c)::F) rfl ⟨_,zdD 122 (N - 122) h1.first used1 c D1,h1,zhp 122 (N - 122) h1.first used1 c D1,(zaF rows c),bl1,s32,c32, .inr ⟨hcm,0,D1,h1,used1,hmid, .inr ⟨rfl,rfl,rfl,rfl,rfl,(if_pos h70').symm⟩⟩,rfl,rfl⟩
          | exact ql (pt bs (.cells (stC bd h1 bl1 s rows.length cap) 180 (0,0))::pt bl1 (.cells (lgC bd 122 (N - 122) h1.first (zhp 122 (N - 122) h1.first used1 c D1)) 222 (0,0))::dsk 140 142 bd (zdD 122 (N - 122) h1.first used1 c D1)::roL 3 s (chR rows)::roL 3 s' (chR c)::F) rfl ⟨_,zdD 122 (N - 122) h1.first used1 c D1,h1,zhp 122 (N - 122) h1.first used1 c D1,rows,bl1,s,cap, .inr ⟨hcm,0,D1,h1,used1,hmid, .inr ⟨rfl,rfl,rfl,rfl,rfl,(if_neg h70').symm⟩⟩,rfl,rfl⟩
-- (*counterfoil/counterfoilref.Store).Commit is not in this seat
abbrev stV (bd:Nat)(h:HdM)(lv:Value)(s:Option Addr)(n cap:Nat):Array Value:=#[ptr bd 0,I h.ep,I h.side,I h.size,I h.first,lv,sl s n cap]
def txK (L:List Bytes)(side k:Nat):Bytes:=((L.drop (2+side*60)).take k).flatten
theorem zma {L:List Bytes}{side k:Nat}(h:2+side*60+k<L.length):txK L side k++L.getD (2+side*60+k) []=txK L side (k+1):=by
  unfold txK;have h1:(L.drop (2+side*60))[k]? =some (L.getD (2+side*60+k) []):=(by rw[List.getElem?_drop,zhu h]);rw[zdg h1,List.flatten_append];simp
theorem zq1 {L:List Bytes}{side:Nat}(hS:∀x∈L,x.length=80):∀k,2+side*60+k≤L.length→(txK L side k).length=80*k
  | 0,_=>rfl
  | k+1,h=>by
    rw[←zma (by omega),List.length_append,zq1 hS k (by omega),ze0 (by omega) hS];omega
theorem ziL:∀(ds:Deeds) {r:List ChangeM},srt r→srt (ds.foldl zaF r)
  | [],r,h=>h
  | d::ds,r,h=>ziL ds (ziZ h d).1
abbrev zn3 (r0:List ChangeM)(gl:LogG)(k:Nat):List ChangeM:=((gl.map (·.1)).take k).foldl zaF r0
theorem zxo {r0:List ChangeM}{gl:LogG}{k:Nat}{x:List ChangeM×LocA}(h:gl[k]? =some x):zaF (zn3 r0 gl k) x.1=zn3 r0 gl (k+1):=by
  unfold zn3;rw[zdg (a:=x.1) (by simp[h]),List.foldl_append]
  rfl
theorem zeD (bd N:Nat)(D:DiskM)(hN:D.now.length=N)(hNb:N≤260)(hS:∀x∈D.now,x.length=80)(hx:HdM)(r0:List ChangeM)(ds:Deeds)(used:Nat)(hg:D.down=false→196≤N→(zfg D.now).ep≠0→Good D.now hx r0 ds used)(F:List HProp):Ct Tryz.prog 63 [ptr bd 0] ([dsk 140 142 bd (D)]++F) (fun v L'=>(D.down=true∧v= .tuple #[.pointer none,yH 9]∧L'=dsk 140 142 bd (D)::F)∨(D.down=false∧N<196∧v= .tuple #[.pointer none,yH 4]∧L'=dsk 140 142 bd (D)::F)∨(D.down=false∧196≤N∧(zfg D.now).ep=0∧v= .tuple #[.pointer none,yH 4]∧L'=dsk 140 142 bd (D)::F)∨(D.down=false∧196≤N∧(zfg D.now).ep≠0∧∃bs bl s cap,v= .tuple #[ptr bs 0,yH 0]∧L'=pt bs (.cells (stC bd hx bl s (cur r0 ds).length cap) 180 (0,0))::pt bl (.cells (lgC bd 122 (N - 122) hx.first used) 222 (0,0))::dsk 140 142 bd (D)::roL 3 s (chR (cur r0 ds))::F)):=by
  show Ct Tryz.prog 63 [ptr bd 0] (dsk 140 142 bd (D)::F) _;refine Ct.of func63 rR 144 ntmps63 (by simp) fun w0=>?_;refine gS (gA rR (gA rR (qb (qf (gS (gM rR ?_))))));refine g_l (qi (Pre:=[dsk 140 142 bd (D)]) call34 rR (zfF bd D)) rR ?_;rintro _ _ ⟨rfl,rfl⟩;refine qb ?_;refine qg rR (fun h21=>?_) (fun h21=>?_)
  · refine gS (g_v (qB underlying108 rR rR) rR (gA rR (gA rR (qb ?_))));exact ql (dsk 140 142 bd (D)::F) rfl (.inl ⟨h21,rfl,rfl⟩)
  · have h21':D.down=false:=(by simpa using h21);refine qh (qf (gS (gM rR ?_)));refine g_l (qi (Pre:=[dsk 140 142 bd (D)]) (R:=fun F=>R1 (I ((D).now.length:Int)) (dsk 140 142 bd (D)::F)) call102 rR (yW bd D)) rR ?_;rintro _ _ ⟨rfl,rfl⟩;refine g_v (qK rR rR) rR (qb ?_);refine qg rR (fun h25=>?_) (fun h25=>?_)
    · simp at h25;have h25':N<196:=(by omega);refine gS (g_v (qB underlying108 rR rR) rR (gA rR (gA rR (qb ?_))));exact ql (dsk 140 142 bd (D)::F) rfl (.inr (.inl ⟨h21',h25',rfl,rfl⟩))
    · simp at h25;have h25':196≤N:=(by omega);refine qh (gS (gM rR (g_v (qP rR (zsR _ rR)) rR ?_)));refine g_l (wX (stV bd (hdK D.now 0) (.pointer none) none 0 0) rR rR) rR ?_;rintro _ _ ⟨b29,rfl,rfl⟩;refine gA rR (qb (qf (gS (gM rR (qb (qj ?_))))));refine qD (α:=Nat) (fun k=>k≤2) (fun k=>U [(0,ptr bd 0),(4,ptr b29 0),(30,I (k:Int))]) (fun k=>pt b29 (.cells (stV bd (hdK D.now k) ((.pointer none)) none (0) 0) 180 (0,0))::dsk 140 142 bd (D)::F) (fun k=>2 - k) 0 (by decide) [0,4,30] rfl rR ?_;intro k hk;refine gS (g_v (qK rR rR) rR (qb (qf ?_)));refine qg rR (fun h31=>?_) (fun h31=>?_)
      · simp at h31;have hk2:k<2:=(by omega);refine qh (qf (qj (gS (gM rR (gA rR (qb (gS (gM rR (gM rR ?_)))))))));refine g_l (qi (Pre:=[dsk 140 142 bd (D)]) call103 rR (zc0 bd D ((k:Nat):Int))) rR ?_;rintro _ _ ⟨rfl,rfl⟩;rw[show zgJ D ((k:Nat):Int)=(D.now.getD (k) [],0) from zgb h21' (by omega) (by rw[Int.toNat_natCast];exact zhu (by omega))];refine gM rR (g_v (qd (v:=Str (D.now.getD k [])) rR rR) rR (g_v (qd (v:=yH 0) rR rR) rR (gA rR (gA rR (qb (qf (gS (gM rR (g_v (qZ underlying37 rR) rR (qb ?_))))))))));refine qg rR (fun h40=>?_) (fun h40=>?_)
        · simp at h40
        · refine qh (gS (gM rR ?_));refine g_l (qi (Pre:=[]) call104 rR (zgS (D.now.getD k []) (ze0 (by omega) hS))) rR ?_;rintro _ _ ⟨rfl,rfl⟩;refine g_l (qy #[I 0,I 0,I 0,I 0] zeroValue177) rR ?_;rintro _ _ ⟨b8,rfl,rfl⟩;refine yu (qr (cs:=#[I 0,I 0,I 0,I 0]) (vs:=ws (wE (D.now.getD k []))) (ws (wE (D.now.getD k []))).toArray sizeOf177 rR rR rR rR (by decide) (qC (zjD _))) ?_;rintro _ _ rfl;refine qb (qf ?_);refine wN [(0,false),(1,false),(2,false),(3,false),(4,false),(5,false),(6,false),(7,false)] (by kernel_rfl) (by kernel_rfl) rR (by kernel_rfl) ?_;refine d_v rR (qa 0 underlying177 rR rR sizeOf3 (by decide) rR) rR (d_v rR (qe (v:=I (wE (D.now.getD k [])).ep) isAgg3 rR rR) rR (dM rR rR rR (d_v rR (qc rR) rR (d_v rR (qa 1 underlying180 rR rR sizeOf177 (by decide) rR) rR (d_v rR (qa 0 underlying177 rR rR sizeOf3 (by decide) rR) rR (d_v rR (qe (v:=I (hdK D.now k).ep) isAgg3 rR rR) rR (d_v rR (yz rR rR) rR ?_)))))));refine yc ?_;refine qg rR (fun h51=>?_) (fun h51=>?_)
          · have hgt:(hdK D.now k).ep<(wE (D.now.getD k [])).ep:=(by have:=of_decide_eq_true h51;omega);refine qp (gM rR (g_v (qJ (vs:=ws (wE (D.now.getD k []))) isAgg177 sizeOf177 rR rR qR) rR (g_v (qc rR) rR (g_v (qa 1 underlying180 rR rR sizeOf177 (by decide) rR) rR ?_))));refine yu (qr (cs:=stV bd (hdK D.now k) (.pointer none) none 0 0) (vs:=ws (wE (D.now.getD k []))) (stV bd (wE (D.now.getD k [])) (.pointer none) none 0 0) sizeOf177 rR rR rR rR (by simp) rR) ?_;rintro _ _ rfl;refine qb (qG (qp (g_v (qu (r:=((k+1:Nat):Int)) rfl rfl (by rw[show (((k:Nat):Int):Int)+(1:Int)=((k+1:Nat):Int) by omega];exact w64 (by omega))) rfl (gM rfl (qb ?_)))));rw[show wE (D.now.getD k [])=hdK D.now (k+1) by rw[hdK,if_pos hgt]];exact qo (k+1) (by omega) (by omega) [0,4,30] rfl rfl
          · have hgt:¬(hdK D.now k).ep<(wE (D.now.getD k [])).ep:=(by have:=of_decide_eq_false h51;omega);refine qh (qG (qp (g_v (qu (r:=((k+1:Nat):Int)) rfl rfl (by rw[show (((k:Nat):Int):Int)+(1:Int)=((k+1:Nat):Int) by omega];exact w64 (by omega))) rfl (gM rfl (qb ?_)))));rw[show hdK D.now k=hdK D.now (k+1) by rw[hdK,if_neg hgt]];exact qo (k+1) (by omega) (by omega) [0,4,30] rfl rfl
      · simp at h31;obtain rfl:k=2:=(by omega);refine qz rR ?_;refine qf (gS (gM rR (g_v (qc rR) rR (g_v (qa 1 underlying180 rR rR sizeOf177 (by decide) rR) rR (g_v (qa 0 underlying177 rR rR sizeOf3 (by decide) rR) rR (g_v (qe (v:=I (hdK D.now 2).ep) isAgg3 rR rR) rR (g_v (wg rR rR) rR (qb ?_))))))));refine qg rR (fun h62=>?_) (fun h62=>?_)
        · simp at h62;have he0:(zfg D.now).ep=0:=(by show (hdK D.now 2).ep=0;omega);refine gS (g_v (qB underlying108 rR rR) rR (gA rR (gA rR (qb ?_))));exact ql (dsk 140 142 bd (D)::F) rfl (.inr (.inr (.inl ⟨h21',h25',he0,rfl,rfl⟩)))
        · simp at h62;have he0:(zfg D.now).ep≠0:=(by show (hdK D.now 2).ep≠0;omega);have hgd:=hg h21' h25' he0;rw[show hdK D.now 2=hx from hgd.best];refine qh (gS (gA rR (qb (qf (gS (gM rR (qb (qj ?_))))))));refine qD (α:=Nat) (fun k=>k≤60) (fun k=>U [(0,ptr bd 0),(4,ptr b29 0),(9,Str (txK D.now hx.side k)),(64,I (k:Int))]) (fun k=>pt b29 (.cells (stV bd (hx) ((.pointer none)) none (0) 0) 180 (0,0))::dsk 140 142 bd (D)::F) (fun k=>60 - k) 0 (by decide) [0,4,9,64] rfl rR ?_;intro k hk;have hside:=hgd.side;have htl:=zq1 (side:=hx.side) hS k (by omega);refine gS (g_v (qK rR rR) rR (qb (qf ?_)));refine qg rR (fun h65=>?_) (fun h65=>?_)
          · simp at h65;have hk60:k<60:=(by omega);have hsl:(D.now.getD (2+hx.side*60+k) []).length=80:=ze0 (by omega) hS;refine qh (qf (qj (gS (gM rfl (gA rfl (qb (gS (gM rfl (gM rfl (g_v (qc rfl) rfl (g_v (qa 1 underlying180 rfl rfl sizeOf177 (by decide) rfl) rfl (g_v (qa 1 underlying177 rfl rfl sizeOf3 (by decide) rfl) rfl (g_v (qe (v:=I hx.side) isAgg3 rfl rfl) rfl (g_v (zdd (r:=((hx.side*60:Nat):Int)) rfl rfl (by rw[show (hx.side:Int)*(60:Int)=((hx.side*60:Nat):Int) by omega];exact w64 (by omega))) rfl (g_v (qu (r:=((2+hx.side*60:Nat):Int)) rfl rfl (by rw[show (2:Int)+(((hx.side*60:Nat):Int):Int)=((2+hx.side*60:Nat):Int) by omega];exact w64 (by omega))) rfl (gM rfl (g_v (qu (r:=((2+hx.side*60+k:Nat):Int)) rfl rfl (by rw[show (((2+hx.side*60:Nat):Int):Int)+(((k:Nat):Int):Int)=((2+hx.side*60+k:Nat):Int) by omega];exact w64 (by omega))) rfl ?_)))))))))))))))));refine g_l (qi (Pre:=[dsk 140 142 bd (D)]) call103 rR (zc0 bd D (((2+hx.side*60+k):Nat):Int))) rR ?_;rintro _ _ ⟨rfl,rfl⟩;rw[show zgJ D ((2+hx.side*60+k:Nat):Int)=(D.now.getD (2+hx.side*60+k) [],0) from zgb h21' (by omega) (by rw[Int.toNat_natCast];exact zhu (by omega))];refine gM rR (g_v (qd (v:=Str (D.now.getD (2+hx.side*60+k) [])) rR rR) rR (g_v (qd (v:=yH 0) rR rR) rR (gA rR (gA rR (qb (qf (gS (gM rR (g_v (qZ underlying37 rR) rR (qb ?_))))))))));refine qg rR (fun h82=>?_) (fun h82=>?_)
            · simp at h82
            · refine qh (qp (gM rfl (gM rfl (g_v (wQ rfl rfl (by rw[htl,hsl];omega)) rfl (gA rfl (qb (qG (qp (g_v (qu (r:=((k+1:Nat):Int)) rfl rfl (by rw[show (((k:Nat):Int):Int)+(1:Int)=((k+1:Nat):Int) by omega];exact w64 (by omega))) rfl (gM rfl (qb ?_)))))))))));rw[zma (by omega)];exact qo (k+1) (by omega) (by omega) [0,4,9,64] rfl rfl
          · simp at h65;obtain rfl:k=60:=(by omega);have hsz:hx.size≤(txK D.now hx.side 60).length:=by
              have h1:=hgd.size;have h2:=zcH hgd.hok;have h3:=hgd.len;omega
            refine qz rR ?_;refine gS (gM rR (gM rR (g_v (qc rR) rR (g_v (qa 1 underlying180 rR rR sizeOf177 (by decide) rR) rR (g_v (qa 2 underlying177 rR rR sizeOf3 (by decide) rR) rR (g_v (qe (v:=I hx.size) isAgg3 rR rR) rR (g_v (zuJ (h:=hx.size) underlying9 rR rR rR hsz) rR ?_)))))));rw[show (txK D.now hx.side 60).take hx.size=yx r0 from hgd.text];refine g_l (qi (Pre:=[]) call105 rR (zhN r0 (by have:=hgd.len;omega) hgd.hsrt hgd.hok)) rR ?_;rintro _ _ ⟨s96,c96,rfl,rfl⟩;refine gM rR (g_v (qd (v:=sl s96 r0.length c96) rR rR) rR (g_v (qd (v:=Bo true) rR rR) rR (gA rR (gA rR (qb (qf (gS (gM rR (g_v (wq rR) rR (qb ?_))))))))));refine qg rR (fun h100=>?_) (fun h100=>?_)
            · simp at h100
            · refine qh (qf ?_);refine yy (Lf:=[pt b29 (.cells (stV bd hx (.pointer none) none 0 0) 180 (0,0))]) [(0,false),(1,false),(4,false),(5,false),(6,false),(7,false),(8,false),(2,true),(3,false),(9,true),(10,false),(11,false),(12,false),(13,false),(14,false),(15,false),(16,false)] (by kernel_rfl) (by kernel_rfl) rR (by kernel_rfl) ?_;refine dM rfl rfl rfl (dM rfl rfl rfl (dM rfl rfl rfl (d_v rfl (qc rfl) rfl (d_v rfl (qa 1 underlying180 rfl rfl sizeOf177 (by decide) rfl) rfl (d_v rfl (qa 3 underlying177 rfl rfl sizeOf3 (by decide) rfl) rfl (d_v rfl (qe (v:=I hx.first) isAgg3 rfl rfl) rfl ?_))))));refine d_l rR (qi (Pre:=[dsk 140 142 bd (D)]) (R:=fun F=>R1 (I ((D).now.length:Int)) (dsk 140 142 bd (D)::F)) call102 rR (yW bd D)) rR ?_;rintro _ _ ⟨rfl,rfl⟩;refine d_v rfl (zb9 (r:=((N - 122:Nat):Int)) rfl rfl (by rw[hN,show (N:Int) - 122=((N - 122:Nat):Int) by omega];exact w64 (by omega))) rfl ?_;refine d_l rfl (qi (Pre:=[dsk 140 142 bd (D)]) call106 rfl (zg3 bd D 122 ((N - 122:Nat):Int) hx.first hS ⟨by omega,by have:=hgd.first;omega⟩)) rfl ?_;rintro _ _ (⟨hbad,_,_⟩ | ⟨_,hdn,_,_⟩ | ⟨_,_,bl,gl,so,co,used',rfl,hul,hgll,hsc,rfl⟩)
              · exfalso;unfold zqy at hbad;have:=hgd.first;omega
              · rw[h21'] at hdn;cases hdn
              rw[show lgC bd ((122:Int)).toNat ((N - 122:Nat):Int).toNat (hx.first:Int).toNat used'=lgC bd 122 (N - 122) hx.first used' from rfl]
              replace hgll:gl.length≤N - 122:=hgll
              replace hsc:wa hx.first (ziB D 122) (N - 122) 0 [] [] 0=(gl.map (·.1),used'):=hsc
              have hlg:=hgd.log;rw[hN] at hlg;have hlg2:wa hx.first (ziB D 122) (N - 122) 0 [] [] 0=(ds,used):=hlg;rw[hsc] at hlg2;injection hlg2 with hq1 hq2;obtain rfl:used=used':=hq2.symm;have hfit:=hgd.fits;rw[←hq1] at hfit;have hlen72:∀y∈gl,y.1.length≤72:=fun y hy=>hgd.lens _ (by rw[←hq1];exact List.mem_map_of_mem hy);refine dM rR rR rR (d_v rR (qd (v:=ptr bl 0) rR rR) rR (d_v rR (qd (v:=sl so gl.length co) rR rR) rR (d_v rR (qd (v:=yH 0) rR rR) rR (d_v rR (qx rR) rR (d_v rR (qx rR) rR (d_v rR (qx rR) rR ?_))))));refine yc ?_;refine qf (gS (gM rR (g_v (qZ underlying37 rR) rR (qb ?_))));refine qg rR (fun h117=>?_) (fun h117=>?_)
              · simp at h117
              · refine qh (gS (gM rR (gM rR (gM rR (gM rR (g_v (qc rR) rR (g_v (qa 5 underlying180 rR rR sizeOf178 (by decide) rR) rR ?_)))))));refine yu (qI (stV bd hx (ptr bl 0) none 0 0) sizeOf178 rR rR rR (by simp) rR) ?_;rintro _ _ rfl;refine g_v (qc rR) rR (g_v (qa 6 underlying180 rR rR sizeOf34 (by decide) rR) rR ?_);refine yu (qI (stV bd hx (ptr bl 0) s96 (zn3 r0 gl (0)).length c96) sizeOf34 rR rR rR (by simp) rR) ?_;rintro _ _ rfl;refine qb (qf (qf ?_));rw[show chR r0=chR (zn3 r0 gl 0) from rfl];refine qp (gM rR (g_v (yi underlying185 rR) rR (gM rR (qb (qj ?_)))));refine qD (α:=Nat×Option Addr×Nat) (fun z=>z.1≤gl.length) (fun z=>U [(4,ptr b29 0),(127,sl so gl.length co),(128,I gl.length),(129,I (z.1:Int))]) (fun z=>pt b29 (.cells (stV bd (hx) (ptr bl 0) z.2.1 ((zn3 r0 gl (z.1)).length) z.2.2) 180 (0,0))::roL 3 z.2.1 (chR (zn3 r0 gl (z.1)))::pt bl (.cells (lgC bd 122 (N - 122) hx.first used) 222 (0,0))::owL 34 1 so co (dR gl)::zk4 gl::dsk 140 142 bd (D)::F) (fun z=>gl.length - z.1) (0,s96,c96) (by simp) [4,127,128,129] rfl rfl ?_;rintro ⟨k,sA,cA⟩ hk;simp only[] at hk ⊢;refine gS (g_v (qK rR rR) rR (qb (qf ?_)));refine qg rR (fun h130=>?_) (fun h130=>?_)
                · simp at h130;have hkn:k<gl.length:=(by omega);obtain ⟨x,hx'⟩:∃x,gl[k]? =some x:=⟨_,List.getElem?_eq_getElem hkn⟩;refine qh (qf (qj (gS (g_v (qA k underlying185 sizeOf34 rR rR rR hkn (by rw[ztw];exact hkn)) rR (g_v (yd (v:=sl x.2.1 x.1.length x.2.2) isAgg34 rR (dR_at hx') rR) rR (gA rR (qb ?_)))))));refine zrN gl (List.mem_of_getElem? hx') ?_;refine qp (gM rR (gM rR (g_v (qc rR) rR (g_v (qa 6 underlying180 rR rR sizeOf34 (by decide) rR) rR (g_v (qe (v:=sl sA (zn3 r0 gl (k)).length cA) isAgg34 rR rR) rR (gM rR ?_))))));refine g_l (qi (Pre:=[roL 3 sA (chR (zn3 r0 gl (k))),roL 3 x.2.1 (chR x.1)]) call107 rR (zdq (zn3 r0 gl (k)) x.1 sA x.2.1 cA x.2.2 (ziL _ hgd.hsrt) (Nat.le_trans (hfit k) (by decide)) (by have:=hlen72 x (List.mem_of_getElem? hx');omega))) rR ?_;rintro _ _ ⟨s139,c139,rfl,rfl⟩;rw[zxo hx'];refine yp (T:=104) (cap:=c139) s139 ?_;refine g_v (qc rR) rR (g_v (qa 6 underlying180 rR rR sizeOf34 (by decide) rR) rR ?_);refine yu (qI (stV bd hx (ptr bl 0) s139 (zn3 r0 gl (k+1)).length c139) sizeOf34 rR rR rR (by simp) rR) ?_;rintro _ _ rfl;refine qb (qG (qp (g_v (qu (r:=((k+1:Nat):Int)) rfl rfl (by rw[show (((k:Nat):Int):Int)+(1:Int)=((k+1:Nat):Int) by omega];exact w64 (by omega))) rfl (gM rfl (qb ?_)))));exact qo (k+1,s139,c139) (by simp only[];omega) (by simp only[];omega) [4,127,128,129] rfl rfl
                · simp at h130;obtain rfl:k=gl.length:=(by omega);have hcu:zn3 r0 gl gl.length=cur r0 ds:=(by unfold zn3 cur;rw[List.take_of_length_le (by simp),hq1]);rw[hcu];refine qz rR ?_;refine gS (gM rR (gA rR (gA rR (qb ?_))));exact ql (pt b29 (.cells (stC bd hx bl sA (cur r0 ds).length cA) 180 (0,0))::pt bl (.cells (lgC bd 122 (N - 122) hx.first used) 222 (0,0))::dsk 140 142 bd (D)::roL 3 sA (chR (cur r0 ds))::F) rfl (.inr (.inr (.inr ⟨h21',h25',he0,b29,bl,sA,cA,rfl,rfl⟩)))
theorem zgy (bd N i:Nat)(D:DiskM)(hok:okW N i D)(hi:i≤100000)(hN0:N≤260)(F:List HProp):Ct Tryz.prog 86 [ptr bd 0] ([dsk 140 142 bd (D)]++F) (fun v L'=>(N<196∧v=yH 8∧L'=dsk 140 142 bd (D)::F)∨(196≤N∧∃e D1,wi D (fmL N)=(e,D1)∧v=yH e∧L'=dsk 140 142 bd (D1)::F)):=by
  show Ct Tryz.prog 86 [ptr bd 0] (dsk 140 142 bd (D)::F) _;refine Ct.of func86 rR 39 ntmps86 (by simp) fun w0=>?_;refine gS (gA rR (qb (qf (gS (gM rR ?_)))));refine g_l (qi (Pre:=[dsk 140 142 bd (D)]) (R:=fun F=>R1 (I ((D).now.length:Int)) (dsk 140 142 bd (D)::F)) call102 rR (yW bd D)) rR ?_;rintro _ _ ⟨rfl,rfl⟩;refine g_v (qK rR rR) rR (qb ?_);refine qg rR (fun h7=>?_) (fun h7=>?_)
  · simp at h7;have h7':N<196:=(by have:=hok.2.1;omega);refine gS (g_v (qB underlying108 rR rR) rR (gA rR (qb ?_)));exact ql (dsk 140 142 bd (D)::F) rfl (.inl ⟨h7',rfl,rfl⟩)
  · simp at h7;have h7':196≤N:=(by have:=hok.2.1;omega);refine qh (gS (gM rR ?_));refine g_l (qi (Pre:=[dsk 140 142 bd (D)]) call136 rR (wu bd D ((0:Nat):Int) [] hok.2.2.1 (by have:=hok.2.2.2.2;omega))) rR ?_;rintro _ _ ⟨rfl,rfl⟩;refine gA rR (qb (qf (gS (gA rR (qb (qj ?_))))));refine qD (α:=Nat×Int×DiskM) (fun z=>z.1≤N - 122∧wi D (fmW z.1)=(z.2.1,z.2.2)) (fun z=>U [(0,ptr bd 0),(3,yH z.2.1),(4,I ((122+z.1:Nat):Int))]) (fun z=>dsk 140 142 bd (z.2.2)::F) (fun z=>N - z.1) (0,yP D ((0:Nat):Int) [],yC D ((0:Nat):Int) []) ⟨Nat.zero_le _,zbD (l:=[]) rfl⟩ [0,3,4] rfl rR ?_;rintro ⟨k,e,X⟩ ⟨hk,hrun⟩;simp only[] at hk hrun ⊢;have hokk:=za3 (fmW k) i D hok;rw[hrun,zhE] at hokk;simp only at hokk;refine qf (gS (gM rR (gM rR ?_)));refine g_l (qi (Pre:=[dsk 140 142 bd (X)]) (R:=fun F=>R1 (I ((X).now.length:Int)) (dsk 140 142 bd (X)::F)) call102 rR (yW bd X)) rR ?_;rintro _ _ ⟨rfl,rfl⟩;refine g_v (qK rR rR) rR (gM rR (qH rR rR (fun hg=>qn rR) rR rR (qH rR rR (fun hg=>wD underlying37 rR) rR rR (g_v (zao rR rR) rR (qb ?_)))));refine qg rR (fun h18=>?_) (fun h18=>?_)
    · simp at h18;have he0:e=0:=h18.2;have hkn:122+k<N:=(by have:=hokk.2.1;omega);refine qh (qf (qj (qp (gM rR (gM rR ?_)))));refine g_l (qi (Pre:=[dsk 140 142 bd (X)]) call136 rR (wu bd X ((122+k:Nat):Int) [] hokk.2.2.1 (by have:=hokk.2.2.2.2;omega))) rR ?_;rintro _ _ ⟨rfl,rfl⟩;refine gA rfl (qb (qG (qp (gM rfl (g_v (qu (r:=((122+(k+1):Nat):Int)) rfl rfl (by rw[show ((122+k:Nat):Int)+1=((122+(k+1):Nat):Int) by omega];exact w64 (by omega))) rfl (gA rfl (qb ?_)))))));exact qo (k+1,yP X ((122+k:Nat):Int) [],yC X ((122+k:Nat):Int) []) ⟨by simp only[];omega,by simp only[];rw[fmW,zbD (by rw[hrun,he0])];rfl⟩ (by simp only[];omega) [0,3,4] rfl rfl
    · simp at h18;have hst:k=N - 122∨e≠0:=by
        have:=hokk.2.1;by_cases he:e=0
        · left;by_cases hx:122+k<N
          · exact absurd he (h18 (by omega))
          · omega
        · exact .inr he
      have hf:=zr7 hrun hst hk;refine qz rR ?_;refine qf (gS (gM rR (g_v (wD underlying37 rR) rR (qb ?_))));refine zku (α:=Int×DiskM) (fun z=>wi D (fmW (N - 122)++ [none])=z) (fun z=>U [(0,ptr bd 0),(3,yH z.1)]) (fun z=>dsk 140 142 bd (z.2)::F) ?_ ?_
      · refine qg rR (fun h25=>?_) (fun h25=>?_)
        · have he:e=0:=(by simpa using h25);subst he;refine qp (gM rR ?_);refine g_l (qi (Pre:=[dsk 140 142 bd (X)]) call137 rR (zap bd X hokk.2.2.1 (by rw[hokk.1,hokk.2.1]) (by rw[hokk.2.1];omega))) rR ?_;rintro _ _ ⟨rfl,rfl⟩;refine gA rR (qb ?_);exact zaJ (wb X,yB X) (zbD (x:=none) hf) [0,3] rfl rfl
        · have he:¬e=0:=(by simpa using h25);refine qh ?_;exact zaJ (e,X) (zbA hf he) [0,3] rfl rfl
      rintro ⟨e1,X1⟩ h1;simp only at h1 ⊢;have hok1:=za3 (fmW (N - 122)++ [none]) i D hok;rw[h1,List.length_append,zhE] at hok1;simp only[List.length_cons,List.length_nil] at hok1;refine qf (gS (gM rR (g_v (wD underlying37 rR) rR (qb ?_))));refine zku (α:=Int×DiskM) (fun z=>wi D (fmW (N - 122)++ [none]++ [some (1,we hd1)])=z) (fun z=>U [(0,ptr bd 0),(3,yH z.1)]) (fun z=>dsk 140 142 bd (z.2)::F) ?_ ?_
      · refine qg rR (fun h29=>?_) (fun h29=>?_)
        · have he1:e1=0:=(by simpa using h29);subst he1;refine qp (gM rR (g_v (qP rR (wn _ rR _ rR _ rR _ rR)) rR ?_));refine g_l (qi (Pre:=[]) call138 rR (zeG hd1)) rR ?_;rintro _ _ ⟨rfl,rfl⟩;refine g_l (qi (Pre:=[dsk 140 142 bd (X1)]) call136 rR (wu bd X1 ((1:Nat):Int) (we hd1) hok1.2.2.1 (by have:=hok1.2.2.2.2;omega))) rR ?_;rintro _ _ ⟨rfl,rfl⟩;refine gA rR (qb ?_);exact zaJ (yP X1 ((1:Nat):Int) (we hd1),yC X1 ((1:Nat):Int) (we hd1)) (zbD h1) [0,3] rfl rfl
        · have he1:¬e1=0:=(by simpa using h29);refine qh ?_;exact zaJ (e1,X1) (zbA h1 he1) [0,3] rfl rfl
      rintro ⟨e2,X2⟩ h2;simp only at h2 ⊢;have hok2:=za3 (fmW (N - 122)++ [none]++ [some (1,we hd1)]) i D hok;rw[h2,List.length_append,List.length_append,zhE] at hok2;simp only[List.length_cons,List.length_nil] at hok2;refine qf (gS (gM rR (g_v (wD underlying37 rR) rR (qb ?_))));refine zku (α:=Int×DiskM) (fun z=>wi D (fmL N)=z) (fun z=>U [(0,ptr bd 0),(3,yH z.1)]) (fun z=>dsk 140 142 bd (z.2)::F) ?_ ?_
      · refine qg rR (fun h35=>?_) (fun h35=>?_)
        · have he2:e2=0:=(by simpa using h35);subst he2;refine qp (gM rR ?_);refine g_l (qi (Pre:=[dsk 140 142 bd (X2)]) call137 rR (zap bd X2 hok2.2.2.1 (by rw[hok2.1,hok2.2.1]) (by rw[hok2.2.1];omega))) rR ?_;rintro _ _ ⟨rfl,rfl⟩;refine gA rR (qb ?_);exact zaJ (wb X2,yB X2) (by have:=zbD (x:=none) h2;rw[List.append_assoc,List.append_assoc] at this;exact this) [0,3] rfl rfl
        · have he2:¬e2=0:=(by simpa using h35);refine qh ?_;exact zaJ (e2,X2) (by have:=zbA (r:=[none]) h2 he2;rw[List.append_assoc,List.append_assoc] at this;exact this) [0,3] rfl rfl
      rintro ⟨e3,X3⟩ h3;simp only at h3 ⊢;refine gS (gM rR (gA rR (qb ?_)));exact ql (dsk 140 142 bd (X3)::F) rfl (.inr ⟨h7',e3,X3,h3,rfl,rfl⟩)
theorem zv1 {l:List ChangeM}{c:ChangeM}(h:∀r∈l,okR r)(hc:zbI c=0):∀r∈apS l c,okR r:=by
  intro r hr;unfold apS at hr;simp only[List.mem_append] at hr;rcases hr with (hr | hr) | hr
  · exact h r (List.mem_filter.1 hr).1
  · split at hr
    · cases hr
    · rename_i hg;rw[List.mem_singleton] at hr;subst hr;exact ⟨hc,by simpa using hg⟩
  · exact h r (List.mem_filter.1 hr).1
theorem zoJ:∀(c:List ChangeM) {l:List ChangeM},(∀r∈l,okR r)→(∀x∈c,zbI x=0)→∀r∈zaF l c,okR r
  | [],l,h,_=>h
  | x::c,l,h,hc=>zoJ c (zv1 h (hc x (by simp))) fun y hy=>hc y (List.mem_cons_of_mem _ hy)
theorem zp6:∀(ds:Deeds) {l:List ChangeM},(∀r∈l,okR r)→(∀d∈ds,∀x∈d,zbI x=0)→∀r∈cur l ds,okR r
  | [],l,h,_=>h
  | d::ds,l,h,hc=>zp6 ds (zoJ d h (hc d (by simp))) fun e he=>hc e (List.mem_cons_of_mem _ he)
theorem zf2 (r0:List ChangeM)(ds:Deeds)(c:List ChangeM):cur r0 (ds++ [c])=zaF (cur r0 ds) c:=by unfold cur;rw[List.foldl_append];rfl
theorem Good.srtC {L:List Bytes}{h:HdM}{r0:List ChangeM}{ds:Deeds}{used:Nat}(g:Good L h r0 ds used):srt (cur r0 ds):=ziL ds g.hsrt
theorem Good.okC {L:List Bytes}{h:HdM}{r0:List ChangeM}{ds:Deeds}{used:Nat}(g:Good L h r0 ds used):∀r∈cur r0 ds,okR r:=zp6 ds g.hok g.chk
theorem Good.lenC {L:List Bytes}{h:HdM}{r0:List ChangeM}{ds:Deeds}{used:Nat}(g:Good L h r0 ds used):(cur r0 ds).length≤80:=by
  have:=g.fits ds.length;rw[List.take_length] at this;exact this
def zhP (a b:HdM):HdM:=if (if HdM.no.ep<a.ep then a else HdM.no).ep<b.ep then b else if HdM.no.ep<a.ep then a else HdM.no
theorem zgU (L:List Bytes):zfg L=zhP (wE (L.getD 0 [])) (wE (L.getD 1 [])):=rfl
theorem zmt {L L':List Bytes}(h0:L'.getD 0 []=L.getD 0 [])(h1:L'.getD 1 []=L.getD 1 []):zfg L'=zfg L:=by rw[zgU,zgU,h0,h1]
theorem zud:HdM.no.ep=0:=rfl
theorem zms (a b:HdM):a.ep≤(zhP a b).ep∧b.ep≤(zhP a b).ep:=by
  unfold zhP;by_cases h1:HdM.no.ep<a.ep
  · simp only[if_pos h1];by_cases h2:a.ep<b.ep
    · rw[if_pos h2];omega
    · rw[if_neg h2];omega
  · simp only[if_neg h1];have:=zud;by_cases h2:HdM.no.ep<b.ep
    · rw[if_pos h2];omega
    · rw[if_neg h2];omega
theorem zvO {a b h:HdM}(hh:(zhP a b).ep<h.ep):zhP h b=h:=by
  have:=zms a b;have:=zud;unfold zhP;rw[if_pos (show HdM.no.ep<h.ep by omega),if_neg (by omega)]
theorem zvw {a b h:HdM}(hh:(zhP a b).ep<h.ep):zhP a h=h:=by
  have:=zms a b;have:=zud;unfold zhP;rw[if_pos];split <;> omega
theorem zrr {L L':List Bytes}{side:Nat}(hl:L'.length=L.length):∀k,2+side*60+k≤L.length→(∀m,2+side*60≤m→m<2+side*60+k→L'.getD m []=L.getD m [])→txK L' side k=txK L side k
  | 0,_,_=>rfl
  | k+1,hk,h=>by
    rw[←zma (by omega),←zma (L:=L) (by omega),zrr hl k (by omega) (fun m a b=>h m a (by omega)),h _ (by omega) (by omega)]
theorem zmr {L L':List Bytes}{h:HdM}{r0:List ChangeM}{ds ds':Deeds}{used used':Nat}(g:Good L h r0 ds used)(hl:L'.length=L.length)(h122:122≤L.length)(hlow:∀m,m<2→L'.getD m []=L.getD m [])(htx:∀m,2+h.side*60≤m→m<2+h.side*60+60→L'.getD m []=L.getD m [])
    (hlog:wa h.first (zfY L' 122) (L.length - 122) 0 [] [] 0=(ds',used')) (h1:∀d∈ds',d.length≤72) (h2:∀d∈ds',∀x∈d,zbI x=0) (h3:∀k,((ds'.take k).foldl zaF r0).length≤80):Good L' h r0 ds' used':=by
  have hs:=g.side;have ht:txK L' h.side 60=txK L h.side 60:=zrr hl 60 (by omega) htx;exact ⟨(zmt (hlow 0 (by decide)) (hlow 1 (by decide))).trans g.best,g.ep,g.side,g.first,g.size,by
    have:=g.text;show (txK L' h.side 60).take h.size=_;rw[ht];exact this,g.hsrt,g.hok,g.len,by rw[hl];exact hlog,h1,h2,h3⟩
theorem zpI {L L':List Bytes}{h:HdM}{r0:List ChangeM}{ds:Deeds}{used:Nat}(g:Good L h r0 ds used)(hl:L'.length=L.length)(h122:122≤L.length)(hlow:∀m,m<2→L'.getD m []=L.getD m [])(htx:∀m,2+h.side*60≤m→m<2+h.side*60+60→L'.getD m []=L.getD m [])(hlg:∀m,122≤m→L'.getD m []=L.getD m []):Good L' h r0 ds used:=
  zmr g hl h122 hlow htx (by
    have:zfY L' 122=zfY L 122:=funext fun i=>hlg _ (by omega);rw[this];exact g.log) g.lens g.chk g.fits
def zom (B:Nat)(s:Bytes):Prop:=∀n,B≤n→n<4294967296→zaK n s=none
theorem zqi {B B':Nat}{s:Bytes}(h:zom B s)(hB:B≤B'):zom B' s:=fun n h1 h2=>h n (by omega) h2
theorem ziv (B:Nat):zom B (yl []):=fun n _ _=>zcr n
theorem zsX {m n:Nat}(hm:m<4294967296)(hn:n<4294967296)(h:qO m=qO n):m=n:=by rw[←zdG hm,h,zdG hn]
theorem zkB {B m:Nat}{k:UInt8}{s:Bytes}(hm:m<B)(hB:B≤4294967296):zom B (yl (wG k m s)):=fun n h1 h2=>by
  unfold zaK;rw[if_neg];intro h;have e:((yl (wG k m s)).take 5).drop 1=qO m:=by
    unfold yl wG qO;simp[List.take]
  rw[e] at h;have:=zsX (by omega) h2 h.1;omega
structure AllP (P:Nat→Bytes→Prop) (D:DiskM):Prop where
  now:∀m,P m (D.now.getD m [])
  kept:∀m,P m (D.kept.getD m [])
  wait:∀t∈D.wait,P t.1 t.2
def okP (P:Nat→Bytes→Prop):Stp→Prop
  | some x=>P x.1 (yl x.2)
  | none=>True
theorem AllP.step {P:Nat→Bytes→Prop}{D:DiskM}(h:AllP P D):AllP P (wd D):=⟨by rw[wC];exact h.now,by rw[yY];exact h.kept,by rw[wt];exact h.wait⟩
theorem AllP.st {P:Nat→Bytes→Prop}{D:DiskM}{x:Stp}(h:AllP P D)(hx:okP P x):AllP P (stD D x):=by
  cases x with
  | none=>
    show AllP P (yB D);unfold yB;split
    · exact ⟨h.step.now,h.step.now,fun t ht=>by cases ht⟩
    · exact h.step
  | some y=>
    show AllP P (yC D y.1 y.2);unfold yC;split
    · exact h
    · split
      · refine ⟨fun m=>?_,h.step.kept,fun t ht=>?_⟩
        · show P m (((wd D).now.set ((y.1:Int)).toNat (yl y.2)).getD m []);rw[yL];split
          · rename_i hc;rw[←hc.1,Int.toNat_natCast];exact hx
          · exact h.step.now m
        · simp only[wv,List.mem_append,List.mem_singleton] at ht;rcases ht with ht | rfl
          · exact h.step.wait t ht
          · simp only[Int.toNat_natCast];exact hx
      · exact h.step
theorem AllP.run {P:Nat→Bytes→Prop}:∀(l:List Stp) {D:DiskM},AllP P D→(∀x∈l,okP P x)→AllP P (wi D l).2
  | [],D,h,_=>h
  | x::l,D,h,ho=>by
    have h1:=h.st (ho x (List.mem_cons_self ..));by_cases h0:stE D x=0
    · rw[zcJ h0];exact AllP.run l h1 fun y hy=>ho y (List.mem_cons_of_mem _ hy)
    · rw[zbU h0];exact h1
theorem AllP.rest {P:Nat→Bytes→Prop}{D:DiskM}(h:AllP P D)(keep:Int)(m:Nat):P m ((zbS keep D).getD m []):=by
  rcases zez (keep:=keep) (w:=D.wait) (K:=D.kept) D.wait.length m with e | ⟨t,ht,e1,e2⟩
  · show P m ((zfS keep D.wait D.kept D.wait.length).getD m []);rw[e];exact h.kept m
  · show P m ((zfS keep D.wait D.kept D.wait.length).getD m []);rw[e2,←e1];exact h.wait t ht
theorem AllP.calm {P:Nat→Bytes→Prop}{D:DiskM}(hk:D.kept=D.now)(hw:D.wait=[])(h:∀m,P m (D.now.getD m [])):AllP P D:=⟨h,by rw[hk];exact h,by rw[hw];intro t ht;cases ht⟩
theorem zgt (keep:Int)(D:DiskM):(zbS keep D).length=D.kept.length:=zeT ..
theorem zjC:∀(l:List Stp) {D D':DiskM},(∀x∈l,zch D.now.length x)→wi D l=(0,D')→D'.now=zau D.now l
  | [],D,D',_,h=>by injection h with _ h;rw[←h];rfl
  | none::l,D,D',ho,h=>by
    by_cases h0:wb D=0
    · rw[zda h0] at h;have hn:=(zbK h0).2;have:=zjC l (D:=yB D) (fun x hx=>by rw[hn];exact ho x (List.mem_cons_of_mem _ hx)) h;rw[this,hn];rfl
    · rw[zcD h0] at h;injection h with h _;exact absurd h h0
  | some y::l,D,D',ho,h=>by
    obtain ⟨n,s⟩:=y;have hy:=ho _ (List.mem_cons_self ..);have hb:¬zie D (n:Int) s:=(by unfold zie;have h1:=hy.1;have h2:=hy.2;simp only at h1 h2;omega);by_cases h0:yP D (n:Int) s=0
    · rw[zfl h0] at h;have hs:wb D=0:=(by unfold yP at h0;rw[if_neg hb] at h0;exact h0);have hn:(yC D (n:Int) s).now=D.now.set n (yl s):=by
        unfold yC;rw[if_neg hb,if_pos hs];show (wd D).now.set ((n:Int)).toNat _=_;rw[wC,Int.toNat_natCast]
      have:=zjC l (D:=yC D (n:Int) s) (fun x hx=>by rw[hn,List.length_set];exact ho x (List.mem_cons_of_mem _ hx)) h;rw[this,hn];rfl
    · rw[zdK h0] at h;injection h with h _;exact absurd h h0
theorem zsT {side:Nat}{t:Bytes}:∀(f k:Nat) (L:List Bytes) (m:Nat),(zau L (ckW side t k f)).getD m []=if 2+side*60+k≤m∧m<2+side*60+k+f∧m<L.length then yl (wB t (m - (2+side*60))) else L.getD m []
  | 0,k,L,m=>by rw[if_neg (by omega)];rfl
  | f+1,k,L,m=>by
    rw[ckW,zau,zsT f (k+1),List.length_set,yL];by_cases h1:2+side*60+(k+1)≤m∧m<2+side*60+(k+1)+f∧m<L.length
    · rw[if_pos h1,if_pos (by omega)]
    · rw[if_neg h1];by_cases h2:2+side*60+k=m∧2+side*60+k<L.length
      · rw[if_pos h2,if_pos (by omega),show m - (2+side*60)=k by omega]
      · rw[if_neg h2,if_neg (by omega)]
theorem zls {t:Bytes}{k:Nat}(h:80*(k+1)≤t.length):yl (wB t k)=wB t k:=by
  have:(wB t k).length=80:=(by rw[zb7,show Nat.min 80 (t.length - 80*k)=80 from Nat.min_eq_left (by omega)]);unfold yl;rw[this];simp[zbR]
theorem ziw {t:Bytes}{k:Nat}:t.take (80*k)++wB t k=t.take (80*(k+1)):=by
  unfold wB;rw[show 80*(k+1)=80*k+80 by omega,List.take_add]
theorem zlJ {L:List Bytes}{side:Nat}{t:Bytes}(hL:2+side*60+60≤L.length)(hs:∀k,k<ye t→L.getD (2+side*60+k) []=yl (wB t k))(h60:ye t≤60):∀k,80*k≤t.length→txK L side k=t.take (80*k)
  | 0,_=>rfl
  | k+1,h=>by
    have hk:k<ye t:=chunks_lt.2 (by omega);rw[←zma (by omega),zlJ hL hs h60 k (by omega),hs k hk,zls h,ziw]
theorem zq8 {L:List Bytes}{side:Nat}(hL:2+side*60+60≤L.length):∀(g k:Nat),k+g≤60→∃r,txK L side (k+g)=txK L side k++r
  | 0,k,_=>⟨[],by simp⟩
  | g+1,k,h=>by
    obtain ⟨r,hr⟩:=zq8 hL g k (by omega);exact ⟨r++L.getD (2+side*60+(k+g)) [],by rw[show k+(g+1)=(k+g)+1 by omega,←zma (by omega),hr,List.append_assoc]⟩
theorem zwW {L:List Bytes}{side:Nat}{t:Bytes}(hL:2+side*60+60≤L.length)(hs:∀k,k<ye t→L.getD (2+side*60+k) []=yl (wB t k))(h60:ye t≤60):(txK L side 60).take t.length=t:=by
  have hq:∃r,txK L side (ye t)=t++r:=by
    by_cases he:80*ye t=t.length
    · exact ⟨[],by rw[zlJ hL hs h60 _ (by omega),he,List.take_length,List.append_nil]⟩
    · obtain ⟨q,hq⟩:∃q,ye t=q+1:=⟨ye t - 1,by unfold ye at*;omega⟩;have h1:80*q<t.length:=chunks_lt.1 (by omega);refine ⟨zbR (80 - (wB t q).length),?_⟩;rw[hq,←zma (by omega),zlJ hL hs h60 q (by omega),hs q (by omega)];unfold yl;rw[←List.append_assoc,ziw,List.take_of_length_le (by unfold ye at*;omega)]
  obtain ⟨r,hr⟩:=hq;obtain ⟨r2,hr2⟩:=zq8 hL (60 - ye t) (ye t) (by omega);rw[show ye t+(60 - ye t)=60 by omega] at hr2;rw[hr2,hr,List.append_assoc,List.take_left]
theorem zr2 {L:List Bytes}{h:HdM}{i:Nat}(hi:i<2)(hL:2≤L.length)(hb:(zfg L).ep<h.ep)(ho:wE (yl (we h))=h):zfg (L.set i (yl (we h)))=h:=by
  rw[zgU,yL,yL];rw[zgU] at hb
  match i,hi with
  | 0,_=>
    rw[if_pos ⟨rfl,by omega⟩,if_neg (fun hc=>absurd hc.1 (by decide)),ho];exact zvO hb
  | 1,_=>
    rw[if_neg (fun hc=>absurd hc.1 (by decide)),if_pos ⟨rfl,by omega⟩,ho];exact zvw hb
theorem zsO {L:List Bytes}{h:HdM}{r0:List ChangeM}{ds:Deeds}{used:Nat}(g:Good L h r0 ds used)(hL:196≤L.length∧L.length≤260)(hep:h.ep≤1000000)(hfi:h.first≤900000000)(hnb:∀m,122≤m→m<L.length→zom (h.first+(L.length - 122)) (L.getD m [])):
    Good ((zau L (ckW (1 - h.side) (yx (cur r0 ds)) 0 (ye (yx (cur r0 ds))))).set ((h.ep+1) % 2) (yl (we (nxH h (cur r0 ds) (L.length - 122))))) (nxH h (cur r0 ds) (L.length - 122)) (cur r0 ds) [] 0:=by
  have hc60:=zbV g.lenC g.okC;have hal:=zcH g.okC;have hlc:=g.lenC;have hs:=g.side;generalize hL2:zau L (ckW (1 - h.side) (yx (cur r0 ds)) 0 (ye (yx (cur r0 ds))))=L2;have hl2:L2.length=L.length:=(by rw[←hL2,zay]);have hat:∀m,L2.getD m []=if 2+(1 - h.side)*60≤m∧m<2+(1 - h.side)*60+ye (yx (cur r0 ds))∧m<L.length then yl (wB (yx (cur r0 ds)) (m - (2+(1 - h.side)*60))) else L.getD m []:=fun m=>by rw[←hL2,zsT];rfl
  have hho:wE (yl (we (nxH h (cur r0 ds) (L.length - 122))))=nxH h (cur r0 ds) (L.length - 122):=zis (by simp only[nxH];omega) (by simp only[nxH];omega) (by simp only[nxH];omega) (by have:=g.first;simp only[nxH];omega);have hset:∀m,2≤m→(L2.set ((h.ep+1) % 2) (yl (we (nxH h (cur r0 ds) (L.length - 122))))).getD m []=L2.getD m []:=fun m hm=>(by rw[yL,if_neg (by omega)]);have hbest:zfg L2=h:=(zmt (by rw[hat,if_neg (by omega)]) (by rw[hat,if_neg (by omega)])).trans g.best;refine ⟨zr2 (by omega) (by omega) (by rw[hbest];simp only[nxH];omega) hho,by simp only[nxH];omega,by simp only[nxH];omega,by have:=g.first;simp only[nxH];omega,rfl,?_,g.srtC,g.okC,g.lenC,?_,(fun d hd=>by cases hd),(fun d hd=>by cases hd),fun k=>by rw[List.take_nil];exact g.lenC⟩
  · show (txK _ (1 - h.side) 60).take (yx (cur r0 ds)).length=_;refine zwW (by rw[List.length_set];omega) (fun k hk=>?_) hc60;rw[hset _ (by omega),hat,if_pos ⟨by omega,by omega,by omega⟩,Nat.add_sub_cancel_left]
  · rw[List.length_set,hl2];have h0:zfY (L2.set ((h.ep+1) % 2) (yl (we (nxH h (cur r0 ds) (L.length - 122))))) 122 0=L.getD 122 []:=by
      show List.getD _ _ _=_;rw[hset _ (by omega),hat,if_neg (by omega)]
    obtain ⟨m,hm⟩:∃m,L.length - 122=m+1:=⟨L.length - 123,by omega⟩;rw[show L.length - 122=m+1 from hm];refine zg5 ?_;show zaK (h.first+(m+1)+0) (zfY _ 122 0)=none;rw[←hm,h0];exact hnb 122 (Nat.le_refl _) (by omega) _ (by omega) (by omega)
theorem zuV {h:HdM}{t:Bytes}{L:List Bytes}(hc:ye t≤60):∀x∈ckW (1 - h.side) t 0 (ye t),okP (fun m s=>(m<2+(1 - h.side)*60∨2+(1 - h.side)*60+60≤m)→s=L.getD m []) x:=by
  have:∀(f k:Nat),k+f≤60→∀x∈ckW (1 - h.side) t k f,okP (fun m s=>(m<2+(1 - h.side)*60∨2+(1 - h.side)*60+60≤m)→s=L.getD m []) x:=by
    intro f
    induction f with
    | zero=>intro k _ x hx;simp[ckW] at hx
    | succ f ih=>
      intro k hk x hx;rw[ckW] at hx;rcases List.mem_cons.1 hx with rfl | hx
      · intro hm;simp only at hm;omega
      · exact ih (k+1) (by omega) x hx
  exact this _ 0 (by omega)
theorem zqR {L L':List Bytes}{h:HdM}{r0:List ChangeM}{ds:Deeds}{used:Nat}(g:Good L h r0 ds used)(hl:L'.length=L.length)(h122:122≤L.length)(hP:∀m,(m<2+(1 - h.side)*60∨2+(1 - h.side)*60+60≤m)→L'.getD m []=L.getD m []):Good L' h r0 ds used:=by
  have hs:=g.side;refine zpI g hl h122 (fun m hm=>hP m (by omega)) (fun m h1 h2=>hP m ?_) (fun m hm=>hP m (by omega));have:h.side=0∨h.side=1:=(by omega);rcases this with e | e <;> rw[e] at h1 h2 ⊢ <;> omega
theorem zqG {many first used:Nat}:∀(c:List ChangeM) (k:Nat),used+k+c.length≤many→first+many≤4294967296→∀x∈zfB 122 first used k c,okP (fun m s=>122≤m∧zom (first+many) s) x
  | [],k,_,_,x,h=>by simp[zfB] at h
  | y::c,k,hk,hf,x,h=>by
    rw[zfB] at h;simp only[List.length_cons] at hk;rcases List.mem_cons.1 h with rfl | h
    · exact ⟨by simp only;omega,zkB (by omega) hf⟩
    · exact zqG c (k+1) (by omega) hf x h
theorem ztW {many first used:Nat}{c:List ChangeM}(hu:used+c.length+1≤many)(hf:first+many≤4294967296):∀x∈zfn 122 many first used c,okP (fun m s=>122≤m∧zom (first+many) s) x:=by
  intro x hx;unfold zfn zhH at hx;simp only[List.mem_append,List.mem_cons,List.not_mem_nil,or_false] at hx;rcases hx with (hx | hx) | rfl | rfl | rfl
  · exact zqG c 0 (by omega) hf x hx
  · unfold zjw at hx;split at hx
    · simp only[List.mem_singleton] at hx;subst hx;exact ⟨by simp only;omega,ziv _⟩
    · simp at hx
  · trivial
  · exact ⟨by simp only;omega,zkB (by omega) hf⟩
  · trivial
theorem zgV {r0:List ChangeM}{ds:Deeds}{c:List ChangeM}(h:∀k,((ds.take k).foldl zaF r0).length≤80)(hc:(zaF (cur r0 ds) c).length≤80):∀k,(((ds++ [c]).take k).foldl zaF r0).length≤80:=fun k=>by
  rcases Nat.lt_or_ge ds.length k with hk | hk
  · rw[List.take_of_length_le (by simp;omega),show (ds++ [c]).foldl zaF r0=zaF (cur r0 ds) c from zf2 r0 ds c];exact hc
  · rw[List.take_append_of_le_length hk];exact h k
theorem zdM {α:Type}{p:α→Prop}{l:List α}{c:α}(h:∀d∈l,p d)(hc:p c):∀d∈l++ [c],p d:=fun d hd=>by
  rcases List.mem_append.1 hd with hd | hd
  · exact h d hd
  · rw[List.mem_singleton] at hd;rw[hd];exact hc
structure Inv (N:Nat) (D:DiskM) (h:HdM) (r0:List ChangeM) (ds:Deeds) (used:Nat):Prop where
  len:D.now.length=N
  big:196≤N∧N≤260
  good:Good D.now h r0 ds used
  num:∀m,122≤m→m<N→zom (h.first+(N - 122)) (D.now.getD m [])
theorem Inv.used_le {N:Nat}{D:DiskM}{h:HdM}{r0:List ChangeM}{ds:Deeds}{used:Nat}(I:Inv N D h r0 ds used):used≤N - 122:=by
  have:=zkc I.good.log;rw[I.len] at this;exact this
theorem Inv.now {N:Nat}{D D':DiskM}{h:HdM}{r0:List ChangeM}{ds:Deeds}{used:Nat}(I:Inv N D h r0 ds used)(hn:D'.now=D.now):Inv N D' h r0 ds used:=⟨by rw[hn];exact I.len,I.big,by rw[hn];exact I.good,by rw[hn];exact I.num⟩
theorem ziH (h:HdM)(t:Bytes)(L:List Bytes):zau L (ckL h t)=(zau L (ckW h.side t 0 (ye t))).set (h.ep % 2) (yl (we h)):=by unfold ckL;rw[za9];rfl
theorem Inv.new {N:Nat}{D D1:DiskM}{h:HdM}{r0:List ChangeM}{ds:Deeds}{used:Nat}(I:Inv N D h r0 ds used)(hep:h.ep≤1000000)(hf:h.first≤900000000)(hn:D1.now=zau D.now (ckL (nxH h (cur r0 ds) (N - 122)) (yx (cur r0 ds)))):
    Inv N D1 (nxH h (cur r0 ds) (N - 122)) (cur r0 ds) [] 0:=by
  have hl:=I.len;have g:=zsO I.good (by rw[hl];exact I.big) hep hf (by rw[hl];exact I.num);rw[hl] at g;rw[ziH] at hn;have hc60:=zbV I.good.lenC I.good.okC;refine ⟨by rw[hn,List.length_set,zay,hl],I.big,by rw[hn];exact g,fun m h1 h2=>?_⟩;rw[hn,yL,if_neg (by simp only[nxH];omega),zsT,if_neg (by simp only[nxH];omega)];exact zqi (I.num m h1 h2) (by simp only[nxH];omega)
theorem zwO {N:Nat}{D:DiskM}{h:HdM}{r0:List ChangeM}{ds:Deeds}{used:Nat}(hu:upW D)(I:Inv N D h r0 ds used)(hep:h.ep≤1000000)(hf:h.first≤900000000):
    ∃D1,wi D (ckL (nxH h (cur r0 ds) (N - 122)) (yx (cur r0 ds)))=(0,D1)∧upW D1∧Inv N D1 (nxH h (cur r0 ds) (N - 122)) (cur r0 ds) [] 0:=by
  obtain ⟨r1,r2,r3⟩:=zes _ D hu (by rw[I.len];exact zpe (h:=h) I.good.lenC I.good.okC I.big.1);exact ⟨_,Prod.ext r1 rfl,r2,I.new hep hf r3⟩
theorem zhq {first many:Nat}{sec:Nat→Bytes}{a b:Deeds}{u v:Nat}(h1:wa first sec many 0 [] [] 0=(a,u))(h2:wa first sec many 0 [] [] 0=(b,v)):a=b∧u=v:=by
  rw[h1] at h2;injection h2 with e1 e2;exact ⟨e1,e2⟩
theorem Inv.add {N:Nat}{D D1:DiskM}{h:HdM}{r0:List ChangeM}{ds ds':Deeds}{used used':Nat}(I:Inv N D h r0 ds used)(hl:D1.now.length=N)(hP:∀m,(m<122→D1.now.getD m []=D.now.getD m [])∧(122≤m→m<N→zom (h.first+(N - 122)) (D1.now.getD m [])))
    (hlog:wa h.first (zfY D1.now 122) (N - 122) 0 [] [] 0=(ds',used')) (h1:∀d∈ds',d.length≤72) (h2:∀d∈ds',∀x∈d,zbI x=0) (h3:∀k,((ds'.take k).foldl zaF r0).length≤80):Inv N D1 h r0 ds' used':=by
  have hb:=I.big;have hs:=I.good.side;exact ⟨hl,I.big,zmr I.good (by rw[hl,I.len]) (by rw[I.len];omega) (fun m hm=>(hP m).1 (by omega)) (fun m a b=>(hP m).1 (by omega)) (by rw[I.len];exact hlog) h1 h2 h3,fun m a b=>(hP m).2 a b⟩
theorem addP {N:Nat}{D:DiskM}{h:HdM}{r0:List ChangeM}{ds:Deeds}{used:Nat}{c:List ChangeM}(I:Inv N D h r0 ds used)(hf:h.first≤900000000)(hv:zhh (N - 122) used c=0):∀x∈zfn 122 (N - 122) h.first used c,okP (fun m s=>(m<122→s=D.now.getD m [])∧(122≤m→m<N→zom (h.first+(N - 122)) s)) x:=by
  obtain ⟨v1,v2,v3⟩:=zei hv;have hb:=I.big;intro x hx;have:=ztW (many:=N - 122) (first:=h.first) (used:=used) (c:=c) (by omega) (by omega) x hx;cases x with
  | none=>trivial
  | some y=>exact ⟨fun hm=>absurd this.1 (by omega),fun _ _=>this.2⟩
theorem zwY {N:Nat}{D:DiskM}{h:HdM}{r0:List ChangeM}{ds:Deeds}{used:Nat}{c:List ChangeM}(hu:upW D)(h80:∀x∈D.now,x.length=80)(I:Inv N D h r0 ds used)(hf:h.first≤900000000)(hv:zhh (N - 122) used c=0)(hfit:(zaF (cur r0 ds) c).length≤80):
    zhG 122 (N - 122) h.first used c D=0∧upW (zdD 122 (N - 122) h.first used c D)∧zhp 122 (N - 122) h.first used c D=used+c.length+1∧Inv N (zdD 122 (N - 122) h.first used c D) h r0 (ds++ [c]) (used+c.length+1):=by
  obtain ⟨v1,v2,v3⟩:=zei hv;have hb:=I.big;have hlog:=I.good.log;rw[I.len] at hlog;obtain ⟨a1,a2,a3,a4,a5⟩:=zv0 hu h80 (by rw[I.len];omega) hv hlog;refine ⟨a1,a2,by unfold zhp;rw[if_pos a1],?_⟩;have hall:AllP (fun m s=>(m<122→s=D.now.getD m [])∧(122≤m→m<N→zom (h.first+(N - 122)) s)) {D with kept:=D.now,wait:=[]}:=AllP.calm rfl rfl fun m=>⟨fun _=>rfl,fun h1 h2=>I.num m h1 h2⟩;have hD:zdD 122 (N - 122) h.first used c D=(wi D (zfn 122 (N - 122) h.first used c)).2:=(by unfold zdD;rw[if_pos hv]);have hok:∀x∈zfn 122 (N - 122) h.first used c,zch D.now.length x:=(by rw[I.len];exact ziP (by omega) hv);have hrn:=(zes _ D hu hok).2.2;have hrn2:=(zes _ ({D with kept:=D.now,wait:=[]}:DiskM) hu hok).2.2;have hP:=(hall.run (zfn 122 (N - 122) h.first used c) (addP I hf hv)).now;rw[hrn2] at hP;rw[←hrn,←hD] at hP;exact I.add (by rw[a4,I.len]) hP a5 (zdM I.good.lens v1) (zdM I.good.chk v3) (zgV I.good.fits hfit)
theorem cm0 {many:Nat}{rows c:List ChangeM}(h:cmV many rows c=0):c.length≤72∧zg0 c=0∧(zaF rows c).length≤80∧c.length+1≤many:=by
  unfold cmV at h;split at h
  · cases h
  · split at h
    · rename_i h1 h2;exact absurd h h2
    · split at h
      · cases h
      · rename_i h1 h2 h3;exact ⟨by omega,by simpa using h2,by omega,by omega⟩
theorem zts {N:Nat}{D:DiskM}{h:HdM}{r0:List ChangeM}{ds:Deeds}{used:Nat}{c:List ChangeM}{e:Int}{D2:DiskM}{h2:HdM}{used2:Nat}{rows2:List ChangeM}(hu:upW D)(hS:S80 D)(I:Inv N D h r0 ds used)(hep:h.ep≤1000000)(hf:h.first≤800000000)(hc:ztl D h (cur r0 ds) (N - 122) used c e D2 h2 used2 rows2):
    e=cmV (N - 122) (cur r0 ds) c∧upW D2∧S80 D2∧h2.ep≤h.ep+1∧h2.first≤h.first+N∧rows2=(if cmV (N - 122) (cur r0 ds) c=0 then zaF (cur r0 ds) c else cur r0 ds)∧
      used2=(if cmV (N - 122) (cur r0 ds) c=0 then (if N - 122 - used<c.length+1 then 0 else used)+c.length+1 else used)∧∃r0' ds',Inv N D2 h2 r0' ds' used2∧cur r0' ds'=rows2:=by
  have hb:=I.big;rcases hc with ⟨hne,rfl,rfl,rfl,rfl,rfl⟩ | ⟨h0,e1,D1,h1,used1,hmid,hrest⟩
  · exact ⟨rfl,hu,hS,by omega,by omega,by rw[if_neg hne],by rw[if_neg hne],r0,ds,I,rfl⟩
  · obtain ⟨c1,c2,c3,c4⟩:=cm0 h0;have hm:e1=0∧upW D1∧S80 D1∧h1.ep≤h.ep+1∧h1.first≤h.first+N∧used1=(if N - 122 - used<c.length+1 then 0 else used)∧∃r1 d1,Inv N D1 h1 r1 d1 used1∧cur r1 d1=cur r0 ds:=by
      rcases hmid with ⟨hroom,hrun,hck⟩ | ⟨hroom,rfl,rfl,rfl,rfl⟩
      · obtain ⟨D1',hr1,hu1,I1⟩:=zwO hu I hep (by omega);rw[hr1] at hrun;injection hrun with q1 q2;subst q1 q2;have h80:=zel _ D hS (zpe (h:=h) I.good.lenC I.good.okC I.big.1);rw[hr1] at h80;rcases hck with ⟨hx,_⟩ | ⟨_,rfl,hu1',d',hsc⟩
        · exact absurd rfl hx
        · have hlog:=I1.good.log;rw[I1.len] at hlog;have:=(zhq hsc hlog).2;subst this;exact ⟨rfl,hu1,h80,by simp only[nxH];omega,by simp only[nxH];omega,by rw[if_pos hroom],_,_,I1,rfl⟩
      · exact ⟨rfl,hu,hS,by omega,by omega,by rw[if_neg hroom],r0,ds,I,rfl⟩
    obtain ⟨rfl,hu1,hS1,m1,m2,m3,r1,d1,I1,hcur⟩:=hm;rcases hrest with ⟨hx,_⟩ | ⟨_,rfl,rfl,rfl,rfl,rfl⟩
    · exact absurd rfl hx
    · have hv:zhh (N - 122) used1 c=0:=(by rw[zlv c1 (by rw[m3];split <;> omega)];exact c2);obtain ⟨a1,a2,a3,a4⟩:=zwY (c:=c) hu1 hS1.2.1 I1 (by omega) hv (by rw[hcur];exact c3);refine ⟨by rw[a1,h0],a2,zo7 hS1 (N:=N) (by omega),m1,m2,by rw[if_pos a1,if_pos h0],by rw[a3,if_pos h0,m3],r1,d1++ [c],by rw[a3];exact a4,?_⟩;rw[if_pos a1,zf2,hcur]
theorem zrF {N i:Nat}{D:DiskM}(h:okW N i D)(from_ many first used:Nat)(c:List ChangeM):okW N (i+200) (zdD from_ many first used c D):=by
  unfold zdD;split
  · rename_i hv;obtain ⟨h1,_,_⟩:=zei hv;refine zbv (za3 _ _ _ h) ?_;have:=zm1 from_ many first used c
    simp only[zfn,List.length_append,List.length_cons,List.length_nil];omega
  · exact zbv h (by omega)
theorem zth {N i:Nat}{D:DiskM}{h:HdM}{r0:List ChangeM}{ds:Deeds}{used:Nat}{c:List ChangeM}{e:Int}{D2:DiskM}{h2:HdM}{used2:Nat}{rows2:List ChangeM}(hok:okW N i D)(hS:S80 D)(I:Inv N D h r0 ds used)(hc:ztl D h (cur r0 ds) (N - 122) used c e D2 h2 used2 rows2):okW N (i+263) D2:=by
  rcases hc with ⟨_,_,rfl,_⟩ | ⟨_,e1,D1,h1,used1,hmid,hr⟩
  · exact zbv hok (by omega)
  · have hm:=(zo1 hmid hok hS I.good.lenC I.good.okC I.big.1 I.used_le).1;rcases hr with ⟨_,_,rfl,_⟩ | ⟨_,_,rfl,_⟩
    · exact zbv hm (by omega)
    · exact zbv (zrF hm _ _ _ _ _) (by omega)
theorem zmM:∀(k:Nat) (L:List Bytes) (m:Nat),(zau L (fmW k)).getD m []=if (m=0∨(122≤m∧m<122+k))∧m<L.length then yl [] else L.getD m []
  | 0,L,m=>by
    show (L.set 0 (yl [])).getD m []=_;rw[yL];by_cases h:m=0
    · subst h;by_cases h2:0<L.length
      · rw[if_pos ⟨rfl,h2⟩,if_pos ⟨.inl rfl,h2⟩]
      · rw[if_neg (fun hc=>h2 hc.2),if_neg (fun hc=>h2 hc.2)]
    · rw[if_neg (fun hc=>h hc.1.symm),if_neg (by omega)]
  | k+1,L,m=>by
    rw[fmW,za9];show ((zau L (fmW k)).set (122+k) (yl [])).getD m []=_;rw[yL,zay,zmM k L m];by_cases h:122+k=m∧122+k<L.length
    · rw[if_pos h,if_pos ⟨.inr (by omega),by omega⟩]
    · rw[if_neg h];by_cases h2:(m=0∨(122≤m∧m<122+k))∧m<L.length
      · rw[if_pos h2,if_pos ⟨by omega,h2.2⟩]
      · rw[if_neg h2,if_neg (by omega)]
theorem ztI {N:Nat}(hN:196≤N):∀k,122+k≤N→∀x∈fmW k,zch N x
  | 0,_,x,h=>by
    rw[fmW,List.mem_singleton] at h;subst h;exact ⟨by simp only;omega,by simp⟩
  | k+1,hk,x,h=>by
    rw[fmW] at h;rcases List.mem_append.1 h with h | h
    · exact ztI hN k (by omega) x h
    · rw[List.mem_singleton] at h;subst h;exact ⟨by simp only;omega,by simp⟩
theorem zkI {N:Nat}(hN:196≤N):∀x∈fmL N,zch N x:=fun x hx=>by
  unfold fmL fmT at hx;simp only[List.mem_append,List.mem_cons,List.not_mem_nil,or_false] at hx;rcases hx with hx | rfl | rfl | rfl
  · exact ztI hN _ (by omega) x hx
  · trivial
  · exact ⟨by simp only;omega,by rw[zhy];decide⟩
  · trivial
theorem zl7:wE (yl [])=HdM.no:=by
  unfold wE;rw[if_pos];left;decide
theorem zrI {L:List Bytes}(hN:196≤L.length):Good (zau L (fmL L.length)) hd1 [] [] 0:=by
  have e:zau L (fmL L.length)=(zau L (fmW (L.length - 122))).set 1 (yl (we hd1)):=(by unfold fmL;rw[za9];rfl);rw[e];have hat:=zmM (L.length - 122) L;have hl:(zau L (fmW (L.length - 122))).length=L.length:=zay ..;generalize zau L (fmW (L.length - 122))=M at hat hl ⊢;have hh:wE (yl (we hd1))=hd1:=zis (by decide) (by decide) (by decide) (by decide);refine ⟨?_,by decide,by decide,by decide,rfl,?_,List.Pairwise.nil,(fun r hr=>by cases hr),by decide,?_,(fun d hd=>by cases hd),(fun d hd=>by cases hd),fun k=>by rw[List.take_nil];decide⟩
  · rw[zgU,yL,yL,if_neg (fun hc=>absurd hc.1 (by decide)),if_pos ⟨rfl,by omega⟩,hat,if_pos ⟨.inl rfl,by omega⟩,zl7,hh]
    rfl
  · show List.take 0 _=_
    rfl
  · rw[List.length_set,hl];obtain ⟨m,hm⟩:∃m,L.length - 122=m+1:=⟨L.length - 123,by omega⟩;rw[hm];refine zg5 ?_;show zaK _ ((M.set 1 (yl (we hd1))).getD (122+0) [])=none;rw[yL,if_neg (by omega),hat,if_pos ⟨.inr (by omega),by omega⟩];exact zcr _
theorem zpL {N:Nat}{D D1:DiskM}(hN:196≤N∧N≤260)(hl:D.now.length=N)(hn:D1.now=zau D.now (fmL N)):Inv N D1 hd1 [] [] 0:=by
  have e:zau D.now (fmL N)=(zau D.now (fmW (N - 122))).set 1 (yl (we hd1)):=(by unfold fmL;rw[za9];rfl);have g:=zrI (L:=D.now) (by rw[hl];exact hN.1);rw[hl] at g;refine ⟨by rw[hn,zay,hl],hN,by rw[hn];exact g,fun m h1 h2=>?_⟩;rw[hn,e,yL,if_neg (by omega),zmM,if_pos ⟨.inr (by omega),by omega⟩];exact ziv _
end Go.Proofs.YthdjckbjjfiopadGreatDoor
