/- Several texts in one: walks and rules used by them. No condition. -/
import Derived.Test.YthdjckbjjfiopadGreatDoorPartC
import Derived.Test.YthdjckbjjfiopadGreatDoorPartA
import Derived.Test.YthdjckbjjfiopadGreatDoorProg
import Derived.Test.YthdjckbjjfiopadGreatDoorPartB
import Derived.KernelRfl
import GoSem.Extern.AbiNoEscape
set_option linter.unusedSimpArgs false
set_option linter.unusedVariables false
namespace Go.Proofs.YthdjckbjjfiopadGreatDoor
open _root_.Go.Proofs.Tryz
open Go Go.Sl Go.Proofs
theorem zde (l cs:List ChangeM)(s s':Option Addr)(cap cap':Nat)(hs:srt l)(hl:l.length≤400)(hc:cs.length≤100)(F:List HProp):Ct Tryz.prog 107 [sl s l.length cap,sl s' cs.length cap'] ([roL 3 s (chR l),roL 3 s' (chR cs)]++F) (RSl 104 3 (zaJ l cs).length (chR (zaJ l cs)) (roL 3 s (chR l)::roL 3 s' (chR cs)::F)):=by
  show Ct Tryz.prog 107 [sl s l.length cap,sl s' cs.length cap'] (roL 3 s (chR l)::roL 3 s' (chR cs)::F) _;refine Ct.of func107 rR 52 ntmps107 (by simp) fun w0=>?_;refine gS (gA rR (qb (gS (gM rR ?_))));refine g_l (qi (Pre:=[roL 3 s (chR l)]) call111 rR (zdz l s cap (by omega))) rR ?_;rintro _ _ ⟨s10,c10,rfl,rfl⟩;show G _ _ _ (owL 104 3 s10 c10 (chR (zaJ l (cs.take 0)))::roL 3 s (chR l)::roL 3 s' (chR cs)::F);refine gA rR (qb (qf (gS (gM rR (g_v (yn underlying34 rR) rR (gM rR (qb (qk ?_))))))));refine qF (α:=Nat×Option Addr×Nat) (fun z=>z.1≤cs.length) (fun z=>U [(0,sl z.2.1 (zaJ l (cs.take z.1)).length z.2.2),(11,sl s' cs.length cap'),(12,I cs.length),(13,I z.1)]) (fun z=>owL 104 3 z.2.1 z.2.2 (chR (zaJ l (cs.take z.1)))::roL 3 s (chR l)::roL 3 s' (chR cs)::F) (fun z=>cs.length - z.1) (0,s10,c10) (by simp) [0,11,12,13] rfl rR ?_;rintro ⟨k,sA,cA⟩ hk;simp only[] at hk ⊢;refine gS (g_v (qQ rR rR) rR (qb (qf ?_)));refine qg rR (fun h14=>?_) (fun h14=>?_)
  · simp at h14;have hin:k<cs.length:=(by omega);obtain ⟨x,hx⟩:∃x,cs[k]? =some x:=⟨_,List.getElem?_eq_getElem hin⟩;have hir:k<(chR cs).length:=(by rw[qK];exact hin);have hnx:=ztG (l:=l) hx;have hRs:=(zi4 hs (cs.take k)).1;have hRl:=(zi4 hs (cs.take k)).2;rw[List.length_take] at hRl;generalize hRd:zaJ l (cs.take k)=R at*;refine qh (qf (qk (gS (g_v (qB k underlying34 sizeOf104 rR rR rR hin hir) rR (g_v (yd (row:=yo x) isAgg104 sizeOf104 rR (zaQ hx) rR) rR ?_)))));refine g_l (qy #[Str [],Str [],Bo false] zeroValue104) rR ?_;rintro _ _ ⟨b6,rfl,rfl⟩;refine ym (qq (cs:=#[Str [],Str [],Bo false]) (vs:=yo x) (yo x).toArray sizeOf104 rR rR rR rR (by decide) (qC rR)) ?_;rintro _ _ rfl;refine qb (gS (gM rR (g_v (qa 0 underlying104 rR rR sizeOf9 (by decide) rR) rR (g_v (qe (v:=Str x.key) isAgg9 rR rR) rR ?_))));refine g_l (qi (Pre:=[owL 104 3 sA cA (chR (R))]) call133 rR (zc1 R sA cA x.key hRs (by omega))) rR ?_;rintro _ _ ⟨rfl,rfl⟩;refine gM rR (g_v (qd (v:=I (lbS R x.key)) rR rR) rR (g_v (qd (v:=Bo (isS R x.key)) rR rR) rR (gA rR (gA rR (qb (qk (gS (gM rR (gM rR (qJ rR rR (fun hg=>qa 2 underlying104 rR rR sizeOf4 (by decide) rR) rR rR (qJ rR rR (fun hg=>qe (v:=Bo x.gone) isAgg4 rR rR) rR rR (g_v (zaw rR rR) rR (gA rR (qb ?_))))))))))))));refine qg rR (fun h24=>?_) (fun h24=>?_)
    · simp at h24;have hlt:=zyu hRs h24.1;refine qp (gM rR (gM rR (gM rR (g_v (qu rR rR (w64 (by omega))) rR ?_))));refine g_l (qi (Pre:=[owL 104 3 sA cA (chR (R))]) call149 rR (zf4 R sA cA (lbS R x.key) hlt (by omega))) rR ?_;rintro _ _ ⟨rfl,rfl⟩;refine gA rR (qb (qH (qH (qp (g_v (qu rR rR (w64 (by omega))) rR (gM rR (qb ?_)))))));rw[show R.length - 1=(zaJ l (cs.take (k+1))).length by rw[hnx,zc9 hRs,if_pos h24.1,if_pos h24.2];rw[List.length_eraseIdx,if_pos hlt],show R.eraseIdx (lbS R x.key)=zaJ l (cs.take (k+1)) by rw[hnx,zc9 hRs,if_pos h24.1,if_pos h24.2]];exact qo (k+1,sA,cA) (by simp only[];omega) (by simp only[];omega) [0,11,12,13] rfl rfl
    · simp at h24;refine gS (gM rR (gA rR (qb ?_)));refine qg rR (fun h35=>?_) (fun h35=>?_)
      · have hlt:=zyu hRs h35;have hng:¬x.gone=true:=(by simp[h24 h35]);refine qp (gM rR (gM rR (g_v (qG (vs:=yo x) isAgg104 sizeOf104 rR rR qO) rR (g_v (qB (lbS R x.key) underlying34 sizeOf104 rR rR rR hlt (by rw[qK];exact hlt)) rR ?_))));refine ym (zhH (vs:=yo x) sizeOf104 rR rR rR rR (by rw[qK];exact hlt) (by decide)) ?_;rintro _ _ rfl;rw[show (chR R).set (lbS R x.key) (yo x)=chR (R.set (lbS R x.key) x) by simp[chR,List.map_set]];refine qb (qH (qH (qp (g_v (qu rR rR (w64 (by omega))) rR (gM rR (qb ?_))))));rw[show R.length=(zaJ l (cs.take (k+1))).length by rw[hnx,zc9 hRs,if_pos h35,if_neg hng];rw[List.length_set],show R.set (lbS R x.key) x=zaJ l (cs.take (k+1)) by rw[hnx,zc9 hRs,if_pos h35,if_neg hng]];exact qo (k+1,sA,cA) (by simp only[];omega) (by simp only[];omega) [0,11,12,13] rfl rfl
      · have hni:¬isS R x.key=true:=(by rw[h35];simp);refine gS (g_v (qa 2 underlying104 rR rR sizeOf4 (by decide) rR) rR (g_v (qe (v:=Bo x.gone) isAgg4 rR rR) rR (g_v (wo rR) rR (gA rR (qb ?_)))));refine qg rR (fun h41=>?_) (fun h41=>?_)
        · have hng:¬x.gone=true:=(by simpa using h41);have hlb:=zpS R x.key;refine qp (gM rR (gM rR (g_v (qG (vs:=yo x) isAgg104 sizeOf104 rR rR qO) rR ?_)));refine g_l (qr [yo x] underlying34 sizeOf104 zeroValue104 rR rR rR (by simp[yo]) (by decide) (by decide)) rR ?_;rintro _ _ ⟨b48,rfl,rfl⟩;refine g_l (qi (Pre:=[owL 104 3 sA cA (chR (R)),owL 104 3 (some ⟨b48,0,none⟩) 1 [yo x]]) call150 rR (zf2 R x sA cA b48 (lbS R x.key) (zpS _ _) (by omega))) rR ?_;rintro _ _ ⟨s49,c49,rfl,rfl⟩;refine gA rR (qb (qH (qH (qp (g_v (qu rR rR (w64 (by omega))) rR (gM rR (qb ?_)))))));rw[show R.length+1=(zaJ l (cs.take (k+1))).length by rw[hnx,zc9 hRs,if_neg hni,if_neg hng];simp[zqN];omega,show zqN R (lbS R x.key) x=zaJ l (cs.take (k+1)) by rw[hnx,zc9 hRs,if_neg hni,if_neg hng];rfl];exact qo (k+1,s49,c49) (by simp only[];omega) (by simp only[];omega) [0,11,12,13] rfl rfl
        · simp at h41;refine qh (qH (qH (qp (g_v (qu rR rR (w64 (by omega))) rR (gM rR (qb ?_))))));rw[show R=zaJ l (cs.take (k+1)) by rw[hnx,zc9 hRs,if_neg hni,if_pos h41]];exact qo (k+1,sA,cA) (by simp only[];omega) (by simp only[];omega) [0,11,12,13] rfl rfl
  · simp at h14;obtain rfl:k=cs.length:=(by omega);rw[List.take_length];refine qz rR ?_;refine gS (gM rR (gA rR (qb ?_)));exact wx rfl rfl rfl rfl
-- counterfoil/counterfoilref.Applied is not in this seat
end Go.Proofs.YthdjckbjjfiopadGreatDoor
namespace Go.Proofs.YthdjckbjjfiopadGreatDoor
open Go.Sl Go.Proofs
structure HdM where
  ep:Nat
  side:Nat
  size:Nat
  first:Nat
deriving DecidableEq
def HdM.no:HdM:=⟨0,0,0,0⟩
def wq (h:HdM):List Value:=[I h.ep,I h.side,I h.size,I h.first]
def wd (h:HdM):Bytes:=[72]++qP h.ep++qP h.side++qP h.size++qP h.first
def unN (s:Bytes):Nat:=(sk s 0).toNat+2 ^ 8*(sk s 1).toNat+2 ^ 16*(sk s 2).toNat+2 ^ 24*(sk s 3).toNat
def za6 (s:Bytes):HdM:=⟨unN ((s.take 5).drop 1),unN ((s.take 9).drop 5),unN ((s.take 13).drop 9),unN ((s.take 17).drop 13)⟩
def zgn (s:Bytes):Prop:=sk s 0≠72∨1<(za6 s).side∨4800<(za6 s).size∨(za6 s).first<1
instance (s:Bytes):Decidable (zgn s):=by unfold zgn;infer_instance
def wE (s:Bytes):HdM:=if zgn s then HdM.no else za6 s
theorem zsN (x:UInt8):x.toNat<256:=x.toNat_lt
theorem zdQ {n:Nat}(h:n<4294967296):unN (qP n)=n:=by
  unfold unN qP;simp only[sk,List.getElem?_cons_zero,List.getElem?_cons_succ,Option.getD_some,UInt8.toNat_ofNat'];omega
theorem zhM (h:HdM):(wd h).length=17:=by simp[wd,qP]
theorem zrR {h:HdM}(h1:h.ep<4294967296)(h2:h.side<4294967296)(h3:h.size<4294967296)(h4:h.first<4294967296):za6 (yg (wd h))=h∧sk (yg (wd h)) 0=72:=by
  have e:yg (wd h)=72::(qP h.ep++(qP h.side++(qP h.size++(qP h.first++zbS (80 - (wd h).length))))):=by
    unfold yg wd;simp
  rw[e];generalize zbS (80 - (wd h).length)=z;have l:∀n,(qP n).length=4:=fun n=>rfl;refine ⟨?_,rfl⟩;unfold za6;have f1:(List.drop 1 (List.take 5 (72::(qP h.ep++(qP h.side++(qP h.size++(qP h.first++z)))))))=qP h.ep:=(by simp[qP]);have f2:(List.drop 5 (List.take 9 (72::(qP h.ep++(qP h.side++(qP h.size++(qP h.first++z)))))))=qP h.side:=(by simp[qP]);have f3:(List.drop 9 (List.take 13 (72::(qP h.ep++(qP h.side++(qP h.size++(qP h.first++z)))))))=qP h.size:=(by simp[qP]);have f4:(List.drop 13 (List.take 17 (72::(qP h.ep++(qP h.side++(qP h.size++(qP h.first++z)))))))=qP h.first:=(by simp[qP]);rw[f1,f2,f3,f4,zdQ h1,zdQ h2,zdQ h3,zdQ h4]
theorem zio {h:HdM}(h1:h.ep<4294967296)(h2:h.side≤1)(h3:h.size≤4800)(h4:1≤h.first∧h.first<4294967296):wE (yg (wd h))=h:=by
  obtain ⟨e1,e2⟩:=zrR (h:=h) h1 (by omega) (by omega) h4.2;unfold wE;rw[if_neg,e1];unfold zgn;rw[e1,e2];rintro (h | h | h | h)
  · exact h rfl
  · omega
  · omega
  · omega
def zqW (r:ChangeM):Bytes:=[UInt8.ofNat r.key.length,UInt8.ofNat r.val.length,UInt8.ofNat (r.val.length / 256)]++r.key++r.val
def yu (l:List ChangeM):Bytes:=l.flatMap zqW
def okR (r:ChangeM):Prop:=zbu r=0∧r.gone=false
theorem zju {r:ChangeM}(h:okR r):(zqW r).length≤59∧4≤(zqW r).length:=by
  obtain ⟨hk,_,h1,h2⟩:=zfi h.1;unfold zqW;have:r.key.length≠0:=fun e=>hk (List.length_eq_zero_iff.1 e);simp;omega
theorem zcF:∀{l:List ChangeM},(∀r∈l,okR r)→(yu l).length≤59*l.length
  | [],_=>by simp[yu]
  | r::l,h=>by
    have h1:=zju (h r (by simp));have h2:=zcF (l:=l) fun x hx=>h x (List.mem_cons_of_mem _ hx);simp only[yu,List.flatMap_cons,List.length_append,List.length_cons] at h2 ⊢;omega
theorem zqh (r:ChangeM)(l:List ChangeM):yu (r::l)=zqW r++yu l:=rfl
theorem zq9 (l:List ChangeM)(r:ChangeM):yu (l++ [r])=yu l++zqW r:=by simp[yu]
theorem zsO {l:List ChangeM}{r:ChangeM}(h:srt (l++ [r]))(hr:r.gone=false):apS l r=l++ [r]:=by
  have h1:=List.pairwise_append.1 h;unfold apS;rw[zm4 (fun x hx=>h1.2.2 x hx r (by simp)),ztj (fun x hx=>zdc (h1.2.2 x hx r (by simp))),hr];simp
theorem znT {l:List ChangeM}(h:srt l)(k:Nat):srt (l.take k):=h.sublist (List.take_sublist k l)
def wz (t:Bytes)(k:Nat):Bytes:=(t.drop (80*k)).take 80
def qZ (t:Bytes):Nat:=(t.length+79) / 80
def ckW (side:Nat)(t:Bytes):Nat→Nat→List Stp
  | k,0=>[]
  | k,f+1=>some (2+side*60+k,wz t k)::ckW side t (k+1) f
theorem zjF (side:Nat)(t:Bytes):∀f k,(ckW side t k f).length=f
  | 0,_=>rfl
  | f+1,k=>by simp[ckW,zjF side t f]
def ckL (h:HdM)(t:Bytes):List Stp:=ckW h.side t 0 (qZ t)++ [none,some (h.ep % 2,wd h),none]
def nxH (h:HdM)(rows:List ChangeM)(many:Nat):HdM:=⟨h.ep+1,1 - h.side,(yu rows).length,h.first+many⟩
theorem zlf (t:Bytes)(k:Nat):(wz t k).length≤80:=by unfold wz;rw[List.length_take];omega
def hdK (L:List Bytes):Nat→HdM
  | 0=>HdM.no
  | k+1=>if (hdK L k).ep<(wE (L.getD k [])).ep then wE (L.getD k []) else hdK L k
def zfJ (L:List Bytes):HdM:=hdK L 2
def txt (L:List Bytes)(side:Nat):Bytes:=((L.drop (2+side*60)).take 60).flatten
structure Good (L:List Bytes) (h:HdM) (r0:List ChangeM) (ds:Deeds) (used:Nat):Prop where
  best:zfJ L=h
  ep:1≤h.ep
  side:h.side≤1
  first:1≤h.first∧h.first≤1000000000
  size:h.size=(yu r0).length
  text:(txt L h.side).take h.size=yu r0
  hsrt:srt r0
  hok:∀r∈r0,okR r
  len:r0.length≤80
  log:wb h.first (fun i=>L.getD (122+i) []) (L.length - 122) 0 [] [] 0=(ds,used)
  lens:∀d∈ds,d.length≤72
  chk:∀d∈ds,∀x∈d,zbu x=0
  fits:∀k,((ds.take k).foldl zaJ r0).length≤80
def cur (r0:List ChangeM)(ds:Deeds):List ChangeM:=ds.foldl zaJ r0
def cmV (many:Nat)(rows c:List ChangeM):Int:=if 72<c.length then 2 else if zej c≠0 then zej c else if 80<(zaJ rows c).length∨many<c.length+1 then 8 else 0
open _root_.Go.Proofs.Tryz
theorem zg7 (w:World):(Instr.build 177 #[]).run Tryz.prog w= .ok (.agg #[I 0,I 0,I 0,I 0]) w:=by
  simp[Instr.build,zeroValue177,runUnderlying177,Instr.fill,qW,sl]
theorem shlN (q x:Nat)(hq:q≤24)(hx:x<256):IntKind.i64.wrap ((x:Int)*2 ^ (min ((q:Nat):Int).toNat IntKind.i64.bits))=((2 ^ q*x:Nat):Int):=by
  rw[show ((q:Nat):Int).toNat=q from rfl,show min q IntKind.i64.bits=q from Nat.min_eq_left (by show q≤64;omega)];have h2:2 ^ q*x<2 ^ 24*256:=Nat.lt_of_le_of_lt (Nat.mul_le_mul_right x (Nat.pow_le_pow_right (by decide) hq)) (Nat.mul_lt_mul_of_pos_left hx (by decide));rw[show (x:Int)*2 ^ q=((2 ^ q*x:Nat):Int) by rw[Nat.mul_comm];push_cast;rfl];exact w64 (by omega)
abbrev stC (bd:Nat)(h:HdM)(bl:Nat)(s:Option Addr)(n cap:Nat):Array Value:=#[ptr bd 0,I h.ep,I h.side,I h.size,I h.first,ptr bl 0,sl s n cap]
theorem zbJ (n:Nat)(F:List HProp):Ct Tryz.prog 185 [I n] ([]++F) (R1 (Str (qP n)) F):=by
  show Ct Tryz.prog 185 [I n] (F) _;refine Ct.of func185 rR 16 ntmps185 (by simp) fun w0=>?_;refine gS (gA rR (qb (gS (gM rR (g_v (yT (r:=((n % 256:Nat):Int)) underlying3 underlying5 rR (wu8 _)) rR (gM rR (g_v (zd4 (r:=((n / 256:Nat):Int)) rR rR (by decide) (zky n 256)) rR (g_v (yT (r:=((n / 256 % 256:Nat):Int)) underlying3 underlying5 rR (wu8 _)) rR (gM rR (g_v (zd4 (r:=((n / 65536:Nat):Int)) rR rR (by decide) (zky n 65536)) rR (g_v (yT (r:=((n / 65536 % 256:Nat):Int)) underlying3 underlying5 rR (wu8 _)) rR (gM rR (g_v (zd4 (r:=((n / 16777216:Nat):Int)) rR rR (by decide) (zky n 16777216)) rR (g_v (yT (r:=((n / 16777216 % 256:Nat):Int)) underlying3 underlying5 rR (wu8 _)) rR ?_))))))))))))));refine g_l (qr (qs (qP n)) underlying199 sizeOf5 zeroValue5 rR rR (ziE n) (by simp[qs]) (by decide) (by decide)) rR ?_;rintro _ _ ⟨b14,rfl,rfl⟩;refine g_v (yM (l:=qP n) underlying199 underlying5 underlying9 rR rR rR) rR (gA rR (qb ?_));refine qm rR rR ?_;exact rfl
theorem qY (s:Bytes)(hs:s.length=4)(F:List HProp):Ct Tryz.prog 144 [Str s] ([]++F) (R1 (I (unN s)) F):=by
  show Ct Tryz.prog 144 [Str s] (F) _;refine Ct.of func144 rR 21 ntmps144 (by simp) fun w0=>?_;have h0:=zsN (sk s 0);have h1:=zsN (sk s 1);have h2:=zsN (sk s 2);have h3:=zsN (sk s 3);refine gS (gA rR (qb (qf ?_)));refine wU [(0,false),(1,false),(2,false),(3,false),(4,false),(5,false),(6,false),(7,false),(8,false),(9,false),(10,false),(11,false),(12,false),(13,false),(14,false),(15,false),(16,false),(17,false),(18,false)] (by kernel_rfl) (by kernel_rfl) rR (by kernel_rfl) ?_;refine dM rR rR rR (d_v rR (qX (r:=sk s 0) 0 underlying9 rR rR rR (zeM (by omega))) rR (d_v rR (yT (r:=(((sk s 0).toNat:Nat):Int)) underlying5 underlying3 rR (w64 (by omega))) rR (dM rR rR rR (d_v rR (qX (r:=sk s 1) 1 underlying9 rR rR rR (zeM (by omega))) rR (d_v rR (yT (r:=(((sk s 1).toNat:Nat):Int)) underlying5 underlying3 rR (w64 (by omega))) rR (d_v rR (zwG (r:=((2 ^ 8*(sk s 1).toNat:Nat):Int)) rR rR (by decide) (shlN 8 _ (by decide) (by omega))) rR (d_v rR (zuY (sk s 0).toNat 8 _ rR rR (by omega) (by omega)) rR (dM rR rR rR (d_v rR (qX (r:=sk s 2) 2 underlying9 rR rR rR (zeM (by omega))) rR (d_v rR (yT (r:=(((sk s 2).toNat:Nat):Int)) underlying5 underlying3 rR (w64 (by omega))) rR (d_v rR (zwG (r:=((2 ^ 16*(sk s 2).toNat:Nat):Int)) rR rR (by decide) (shlN 16 _ (by decide) (by omega))) rR (d_v rR (zuY ((sk s 0).toNat+2 ^ 8*(sk s 1).toNat) 16 _ rR rR (by omega) (by omega)) rR (dM rR rR rR (d_v rR (qX (r:=sk s 3) 3 underlying9 rR rR rR (zeM (by omega))) rR (d_v rR (yT (r:=(((sk s 3).toNat:Nat):Int)) underlying5 underlying3 rR (w64 (by omega))) rR (d_v rR (zwG (r:=((2 ^ 24*(sk s 3).toNat:Nat):Int)) rR rR (by decide) (shlN 24 _ (by decide) (by omega))) rR (d_v rR (zuY ((sk s 0).toNat+2 ^ 8*(sk s 1).toNat+2 ^ 16*(sk s 2).toNat) 24 _ rR rR (by omega) (by omega)) rR (d_v rR (qx rR) rR ?_))))))))))))))))));refine yb ?_;refine qm rR rR ?_;exact rfl
theorem zeF (h:HdM)(F:List HProp):Ct Tryz.prog 138 [.agg (wq h).toArray] ([]++F) (R1 (Str (wd h)) F):=by
  show Ct Tryz.prog 138 [.agg (wq h).toArray] (F) _;refine Ct.of func138 rR 19 ntmps138 (by simp) fun w0=>?_;refine gS ?_;refine g_l (wM (wq h).toArray rR rR) rR ?_;rintro _ _ ⟨b1,rfl,rfl⟩;refine gA rR (qb (qf ?_));refine wU [(0,false),(1,false),(4,false),(5,false),(8,false),(9,false),(12,false),(13,false),(2,true),(3,false),(6,true),(7,false),(10,true),(11,false),(14,true),(15,false),(16,false)] (by kernel_rfl) (by kernel_rfl) rR (by kernel_rfl) ?_;refine d_v rfl (qa 0 underlying177 rfl rfl sizeOf3 (by decide) rfl) rfl (d_v rfl (qe (v:=I h.ep) isAgg3 rfl rfl) rfl (d_v rfl (qa 1 underlying177 rfl rfl sizeOf3 (by decide) rfl) rfl (d_v rfl (qe (v:=I h.side) isAgg3 rfl rfl) rfl (d_v rfl (qa 2 underlying177 rfl rfl sizeOf3 (by decide) rfl) rfl (d_v rfl (qe (v:=I h.size) isAgg3 rfl rfl) rfl (d_v rfl (qa 3 underlying177 rfl rfl sizeOf3 (by decide) rfl) rfl (d_v rfl (qe (v:=I h.first) isAgg3 rfl rfl) rfl ?_)))))));refine d_l rR (qi (Pre:=[]) call185 rR (zbJ h.ep)) rR ?_;rintro _ _ ⟨rfl,rfl⟩;refine d_v rR (wO rR rR (by simp[qP])) rR ?_;refine d_l rR (qi (Pre:=[]) call185 rR (zbJ h.side)) rR ?_;rintro _ _ ⟨rfl,rfl⟩;refine d_v rR (wO rR rR (by simp[qP])) rR ?_;refine d_l rR (qi (Pre:=[]) call185 rR (zbJ h.size)) rR ?_;rintro _ _ ⟨rfl,rfl⟩;refine d_v rR (wO rR rR (by simp[qP])) rR ?_;refine d_l rfl (qi (Pre:=[]) call185 rfl (zbJ h.first)) rfl ?_;rintro _ _ ⟨rfl,rfl⟩;refine d_v rR (wO rR rR (by simp[qP])) rR (d_v rR (qx rR) rR ?_);refine yb ?_;refine qm rR rR ?_;exact rfl
theorem zhs (s:Bytes)(hs:s.length=80)(F:List HProp):Ct Tryz.prog 104 [Str s] ([]++F) (R1 (.agg (wq (wE s)).toArray) F):=by
  show Ct Tryz.prog 104 [Str s] (F) _;refine Ct.of func104 rR 37 ntmps104 (by simp) fun w0=>?_;refine gS ?_;refine g_l (qy #[I 0,I 0,I 0,I 0] zeroValue177) rR ?_;rintro _ _ ⟨b2,rfl,rfl⟩;refine qb (qf ?_);refine zlG (Lf:=[]) (.q 0 (.q 1 (.q 3 (.q 4 (.q 6 (.q 7 (.q 9 (.q 10 (.alt (.l 2 (.alt (.l 5 (.alt (.l 8 (.alt (.l 11 (.q 12 (.l 13 (.l 14 (.nil))))) (.l 13 (.l 11 (.q 12 (.l 14 (.nil))))))) (.l 13 (.l 8 (.l 11 (.q 12 (.l 14 (.nil)))))))) (.l 13 (.l 5 (.l 8 (.l 11 (.q 12 (.l 14 (.nil))))))))) (.l 13 (.l 2 (.l 5 (.l 8 (.l 11 (.q 12 (.l 14 (.nil))))))))))))))))) (by kernel_rfl) (by kernel_rfl) (by kernel_rfl) ?_;refine t_v rR (qn rR) rR ?_;refine t_v rR (zag (l:=1) (h:=5) underlying9 rR rR rR rR rR (by decide) (by omega)) rR ?_;refine t_v rR (qn rR) rR ?_;refine t_v rR (zag (l:=5) (h:=9) underlying9 rR rR rR rR rR (by decide) (by omega)) rR ?_;refine t_v rR (qn rR) rR ?_;refine t_v rR (zag (l:=9) (h:=13) underlying9 rR rR rR rR rR (by decide) (by omega)) rR ?_;refine t_v rR (qn rR) rR ?_;refine t_v rR (zag (l:=13) (h:=17) underlying9 rR rR rR rR rR (by decide) (by omega)) rR ?_;refine zh3 ?_ ?_
  · refine t_l rR (qi (Pre:=[]) call144 rR (qY ((s.take 5).drop 1) (by simp only[List.length_drop,List.length_take];omega))) rR ?_;rintro _ _ ⟨rfl,rfl⟩;refine zh3 ?_ ?_
    · refine t_l rR (qi (Pre:=[]) call144 rR (qY ((s.take 9).drop 5) (by simp only[List.length_drop,List.length_take];omega))) rR ?_;rintro _ _ ⟨rfl,rfl⟩;refine zh3 ?_ ?_
      · refine t_l rR (qi (Pre:=[]) call144 rR (qY ((s.take 13).drop 9) (by simp only[List.length_drop,List.length_take];omega))) rR ?_;rintro _ _ ⟨rfl,rfl⟩;refine zh3 ?_ ?_
        · refine t_l rR (qi (Pre:=[]) call144 rR (qY ((s.take 17).drop 13) (by simp only[List.length_drop,List.length_take];omega))) rR ?_;rintro _ _ ⟨rfl,rfl⟩;refine t_v rR (qS rR (wm _ rR _ rR _ rR _ rR)) rR ?_;refine t_l rR (qy #[I 0,I 0,I 0,I 0] zeroValue177) rR ?_;rintro _ _ ⟨b3,rfl,rfl⟩;refine zvQ rR (qq (cs:=#[I 0,I 0,I 0,I 0]) (vs:=wq (za6 s)) (wq (za6 s)).toArray sizeOf177 rR rR rR rR (by decide) (qC rR)) ?_;rintro _ _ rfl;refine zfv ?_;refine qf (gS (gM rfl (g_v (qX (r:=sk s 0) 0 underlying9 rfl rfl rfl (zeM (by omega))) rfl (g_v (zdt rfl rfl) rfl (gM rfl (qJ rfl rfl (fun hg=>qa 1 underlying177 rfl rfl sizeOf3 (by decide) rfl) rfl rfl (qJ rfl rfl (fun hg=>qe (v:=I (za6 s).side) isAgg3 rfl rfl) rfl rfl (qJ rfl rfl (fun hg=>yA rfl rfl) rfl rfl (g_v (zav rfl rfl) rfl (gM rfl (qJ rfl rfl (fun hg=>qa 2 underlying177 rfl rfl sizeOf3 (by decide) rfl) rfl rfl (qJ rfl rfl (fun hg=>qe (v:=I (za6 s).size) isAgg3 rfl rfl) rfl rfl (qJ rfl rfl (fun hg=>yA rfl rfl) rfl rfl (g_v (zav rfl rfl) rfl (gM rfl (qJ rfl rfl (fun hg=>qa 3 underlying177 rfl rfl sizeOf3 (by decide) rfl) rfl rfl (qJ rfl rfl (fun hg=>qe (v:=I (za6 s).first) isAgg3 rfl rfl) rfl rfl (qJ rfl rfl (fun hg=>qQ rfl rfl) rfl rfl (g_v (zav rfl rfl) rfl (qb ?_))))))))))))))))))));refine qg rR (fun h34=>?_) (fun h34=>?_)
          · have hoff:zgn s:=by
              unfold zgn;simp at h34;rcases h34 with ((h | h) | h) | h
              · exact .inl (fun e=>h (by rw[e];rfl))
              · exact .inr (.inl (by omega))
              · exact .inr (.inr (.inl (by omega)))
              · exact .inr (.inr (.inr (by omega)))
            refine gS (g_v (qS rR (zg7)) rR ?_);refine ym (qq (cs:=#[I 0,I 0,I 0,I 0]) (vs:=wq HdM.no) (wq HdM.no).toArray sizeOf177 rR rR rR rR (by decide) (qC rR)) ?_;rintro _ _ rfl;refine qb ?_
            first
            | exact wy (wq HdM.no) (by unfold wE;rw[if_pos hoff]) rfl rfl isAgg177 sizeOf177 rfl qO
            | exact wy (wq (za6 s)) (by unfold wE;rw[if_neg hoff]) rfl rfl isAgg177 sizeOf177 rfl qO
          · have hoff:¬zgn s:=by
              unfold zgn;simp at h34;rintro (h | h | h | h)
              · exact h (UInt8.toNat_inj.1 (by rw[show (72:UInt8).toNat=72 from rfl];omega))
              · omega
              · omega
              · omega
            refine qh (gS (g_v (qG (vs:=wq (za6 s)) isAgg177 sizeOf177 rR rR qO) rR ?_));refine ym (qq (cs:=#[I 0,I 0,I 0,I 0]) (vs:=wq (za6 s)) (wq (za6 s)).toArray sizeOf177 rR rR rR rR (by decide) (qC rR)) ?_;rintro _ _ rfl;refine qb ?_
            first
            | exact wy (wq HdM.no) (by unfold wE;rw[if_pos hoff]) rfl rfl isAgg177 sizeOf177 rfl qO
            | exact wy (wq (za6 s)) (by unfold wE;rw[if_neg hoff]) rfl rfl isAgg177 sizeOf177 rfl qO
        · refine t_l rR (qy #[I 0,I 0,I 0,I 0] zeroValue177) rR ?_;rintro _ _ ⟨b3,rfl,rfl⟩;refine t_l rR (qi (Pre:=[]) call144 rR (qY ((s.take 17).drop 13) (by simp only[List.length_drop,List.length_take];omega))) rR ?_;rintro _ _ ⟨rfl,rfl⟩;refine t_v rR (qS rR (wm _ rR _ rR _ rR _ rR)) rR ?_;refine zvQ rR (qq (cs:=#[I 0,I 0,I 0,I 0]) (vs:=wq (za6 s)) (wq (za6 s)).toArray sizeOf177 rR rR rR rR (by decide) (qC rR)) ?_;rintro _ _ rfl;refine zfv ?_;refine qf (gS (gM rfl (g_v (qX (r:=sk s 0) 0 underlying9 rfl rfl rfl (zeM (by omega))) rfl (g_v (zdt rfl rfl) rfl (gM rfl (qJ rfl rfl (fun hg=>qa 1 underlying177 rfl rfl sizeOf3 (by decide) rfl) rfl rfl (qJ rfl rfl (fun hg=>qe (v:=I (za6 s).side) isAgg3 rfl rfl) rfl rfl (qJ rfl rfl (fun hg=>yA rfl rfl) rfl rfl (g_v (zav rfl rfl) rfl (gM rfl (qJ rfl rfl (fun hg=>qa 2 underlying177 rfl rfl sizeOf3 (by decide) rfl) rfl rfl (qJ rfl rfl (fun hg=>qe (v:=I (za6 s).size) isAgg3 rfl rfl) rfl rfl (qJ rfl rfl (fun hg=>yA rfl rfl) rfl rfl (g_v (zav rfl rfl) rfl (gM rfl (qJ rfl rfl (fun hg=>qa 3 underlying177 rfl rfl sizeOf3 (by decide) rfl) rfl rfl (qJ rfl rfl (fun hg=>qe (v:=I (za6 s).first) isAgg3 rfl rfl) rfl rfl (qJ rfl rfl (fun hg=>qQ rfl rfl) rfl rfl (g_v (zav rfl rfl) rfl (qb ?_))))))))))))))))))));refine qg rR (fun h34=>?_) (fun h34=>?_)
          · have hoff:zgn s:=by
              unfold zgn;simp at h34;rcases h34 with ((h | h) | h) | h
              · exact .inl (fun e=>h (by rw[e];rfl))
              · exact .inr (.inl (by omega))
              · exact .inr (.inr (.inl (by omega)))
              · exact .inr (.inr (.inr (by omega)))
            refine gS (g_v (qS rR (zg7)) rR ?_);refine ym (qq (cs:=#[I 0,I 0,I 0,I 0]) (vs:=wq HdM.no) (wq HdM.no).toArray sizeOf177 rR rR rR rR (by decide) (qC rR)) ?_;rintro _ _ rfl;refine qb ?_
            first
            | exact wy (wq HdM.no) (by unfold wE;rw[if_pos hoff]) rfl rfl isAgg177 sizeOf177 rfl qO
            | exact wy (wq (za6 s)) (by unfold wE;rw[if_neg hoff]) rfl rfl isAgg177 sizeOf177 rfl qO
          · have hoff:¬zgn s:=by
              unfold zgn;simp at h34;rintro (h | h | h | h)
              · exact h (UInt8.toNat_inj.1 (by rw[show (72:UInt8).toNat=72 from rfl];omega))
              · omega
              · omega
              · omega
            refine qh (gS (g_v (qG (vs:=wq (za6 s)) isAgg177 sizeOf177 rR rR qO) rR ?_));refine ym (qq (cs:=#[I 0,I 0,I 0,I 0]) (vs:=wq (za6 s)) (wq (za6 s)).toArray sizeOf177 rR rR rR rR (by decide) (qC rR)) ?_;rintro _ _ rfl;refine qb ?_
            first
            | exact wy (wq HdM.no) (by unfold wE;rw[if_pos hoff]) rfl rfl isAgg177 sizeOf177 rfl qO
            | exact wy (wq (za6 s)) (by unfold wE;rw[if_neg hoff]) rfl rfl isAgg177 sizeOf177 rfl qO
      · refine t_l rR (qy #[I 0,I 0,I 0,I 0] zeroValue177) rR ?_;rintro _ _ ⟨b3,rfl,rfl⟩;refine t_l rR (qi (Pre:=[]) call144 rR (qY ((s.take 13).drop 9) (by simp only[List.length_drop,List.length_take];omega))) rR ?_;rintro _ _ ⟨rfl,rfl⟩;refine t_l rR (qi (Pre:=[]) call144 rR (qY ((s.take 17).drop 13) (by simp only[List.length_drop,List.length_take];omega))) rR ?_;rintro _ _ ⟨rfl,rfl⟩;refine t_v rR (qS rR (wm _ rR _ rR _ rR _ rR)) rR ?_;refine zvQ rR (qq (cs:=#[I 0,I 0,I 0,I 0]) (vs:=wq (za6 s)) (wq (za6 s)).toArray sizeOf177 rR rR rR rR (by decide) (qC rR)) ?_;rintro _ _ rfl;refine zfv ?_;refine qf (gS (gM rfl (g_v (qX (r:=sk s 0) 0 underlying9 rfl rfl rfl (zeM (by omega))) rfl (g_v (zdt rfl rfl) rfl (gM rfl (qJ rfl rfl (fun hg=>qa 1 underlying177 rfl rfl sizeOf3 (by decide) rfl) rfl rfl (qJ rfl rfl (fun hg=>qe (v:=I (za6 s).side) isAgg3 rfl rfl) rfl rfl (qJ rfl rfl (fun hg=>yA rfl rfl) rfl rfl (g_v (zav rfl rfl) rfl (gM rfl (qJ rfl rfl (fun hg=>qa 2 underlying177 rfl rfl sizeOf3 (by decide) rfl) rfl rfl (qJ rfl rfl (fun hg=>qe (v:=I (za6 s).size) isAgg3 rfl rfl) rfl rfl (qJ rfl rfl (fun hg=>yA rfl rfl) rfl rfl (g_v (zav rfl rfl) rfl (gM rfl (qJ rfl rfl (fun hg=>qa 3 underlying177 rfl rfl sizeOf3 (by decide) rfl) rfl rfl (qJ rfl rfl (fun hg=>qe (v:=I (za6 s).first) isAgg3 rfl rfl) rfl rfl (qJ rfl rfl (fun hg=>qQ rfl rfl) rfl rfl (g_v (zav rfl rfl) rfl (qb ?_))))))))))))))))))));refine qg rR (fun h34=>?_) (fun h34=>?_)
        · have hoff:zgn s:=by
            unfold zgn;simp at h34;rcases h34 with ((h | h) | h) | h
            · exact .inl (fun e=>h (by rw[e];rfl))
            · exact .inr (.inl (by omega))
            · exact .inr (.inr (.inl (by omega)))
            · exact .inr (.inr (.inr (by omega)))
          refine gS (g_v (qS rR (zg7)) rR ?_);refine ym (qq (cs:=#[I 0,I 0,I 0,I 0]) (vs:=wq HdM.no) (wq HdM.no).toArray sizeOf177 rR rR rR rR (by decide) (qC rR)) ?_;rintro _ _ rfl;refine qb ?_
          first
          | exact wy (wq HdM.no) (by unfold wE;rw[if_pos hoff]) rfl rfl isAgg177 sizeOf177 rfl qO
          | exact wy (wq (za6 s)) (by unfold wE;rw[if_neg hoff]) rfl rfl isAgg177 sizeOf177 rfl qO
        · have hoff:¬zgn s:=by
            unfold zgn;simp at h34;rintro (h | h | h | h)
            · exact h (UInt8.toNat_inj.1 (by rw[show (72:UInt8).toNat=72 from rfl];omega))
            · omega
            · omega
            · omega
          refine qh (gS (g_v (qG (vs:=wq (za6 s)) isAgg177 sizeOf177 rR rR qO) rR ?_));refine ym (qq (cs:=#[I 0,I 0,I 0,I 0]) (vs:=wq (za6 s)) (wq (za6 s)).toArray sizeOf177 rR rR rR rR (by decide) (qC rR)) ?_;rintro _ _ rfl;refine qb ?_
          first
          | exact wy (wq HdM.no) (by unfold wE;rw[if_pos hoff]) rfl rfl isAgg177 sizeOf177 rfl qO
          | exact wy (wq (za6 s)) (by unfold wE;rw[if_neg hoff]) rfl rfl isAgg177 sizeOf177 rfl qO
    · refine t_l rR (qy #[I 0,I 0,I 0,I 0] zeroValue177) rR ?_;rintro _ _ ⟨b3,rfl,rfl⟩;refine t_l rR (qi (Pre:=[]) call144 rR (qY ((s.take 9).drop 5) (by simp only[List.length_drop,List.length_take];omega))) rR ?_;rintro _ _ ⟨rfl,rfl⟩;refine t_l rR (qi (Pre:=[]) call144 rR (qY ((s.take 13).drop 9) (by simp only[List.length_drop,List.length_take];omega))) rR ?_;rintro _ _ ⟨rfl,rfl⟩;refine t_l rR (qi (Pre:=[]) call144 rR (qY ((s.take 17).drop 13) (by simp only[List.length_drop,List.length_take];omega))) rR ?_;rintro _ _ ⟨rfl,rfl⟩;refine t_v rR (qS rR (wm _ rR _ rR _ rR _ rR)) rR ?_;refine zvQ rR (qq (cs:=#[I 0,I 0,I 0,I 0]) (vs:=wq (za6 s)) (wq (za6 s)).toArray sizeOf177 rR rR rR rR (by decide) (qC rR)) ?_;rintro _ _ rfl;refine zfv ?_;refine qf (gS (gM rfl (g_v (qX (r:=sk s 0) 0 underlying9 rfl rfl rfl (zeM (by omega))) rfl (g_v (zdt rfl rfl) rfl (gM rfl (qJ rfl rfl (fun hg=>qa 1 underlying177 rfl rfl sizeOf3 (by decide) rfl) rfl rfl (qJ rfl rfl (fun hg=>qe (v:=I (za6 s).side) isAgg3 rfl rfl) rfl rfl (qJ rfl rfl (fun hg=>yA rfl rfl) rfl rfl (g_v (zav rfl rfl) rfl (gM rfl (qJ rfl rfl (fun hg=>qa 2 underlying177 rfl rfl sizeOf3 (by decide) rfl) rfl rfl (qJ rfl rfl (fun hg=>qe (v:=I (za6 s).size) isAgg3 rfl rfl) rfl rfl (qJ rfl rfl (fun hg=>yA rfl rfl) rfl rfl (g_v (zav rfl rfl) rfl (gM rfl (qJ rfl rfl (fun hg=>qa 3 underlying177 rfl rfl sizeOf3 (by decide) rfl) rfl rfl (qJ rfl rfl (fun hg=>qe (v:=I (za6 s).first) isAgg3 rfl rfl) rfl rfl (qJ rfl rfl (fun hg=>qQ rfl rfl) rfl rfl (g_v (zav rfl rfl) rfl (qb ?_))))))))))))))))))));refine qg rR (fun h34=>?_) (fun h34=>?_)
      · have hoff:zgn s:=by
          unfold zgn;simp at h34;rcases h34 with ((h | h) | h) | h
          · exact .inl (fun e=>h (by rw[e];rfl))
          · exact .inr (.inl (by omega))
          · exact .inr (.inr (.inl (by omega)))
          · exact .inr (.inr (.inr (by omega)))
        refine gS (g_v (qS rR (zg7)) rR ?_);refine ym (qq (cs:=#[I 0,I 0,I 0,I 0]) (vs:=wq HdM.no) (wq HdM.no).toArray sizeOf177 rR rR rR rR (by decide) (qC rR)) ?_;rintro _ _ rfl;refine qb ?_
        first
        | exact wy (wq HdM.no) (by unfold wE;rw[if_pos hoff]) rfl rfl isAgg177 sizeOf177 rfl qO
        | exact wy (wq (za6 s)) (by unfold wE;rw[if_neg hoff]) rfl rfl isAgg177 sizeOf177 rfl qO
      · have hoff:¬zgn s:=by
          unfold zgn;simp at h34;rintro (h | h | h | h)
          · exact h (UInt8.toNat_inj.1 (by rw[show (72:UInt8).toNat=72 from rfl];omega))
          · omega
          · omega
          · omega
        refine qh (gS (g_v (qG (vs:=wq (za6 s)) isAgg177 sizeOf177 rR rR qO) rR ?_));refine ym (qq (cs:=#[I 0,I 0,I 0,I 0]) (vs:=wq (za6 s)) (wq (za6 s)).toArray sizeOf177 rR rR rR rR (by decide) (qC rR)) ?_;rintro _ _ rfl;refine qb ?_
        first
        | exact wy (wq HdM.no) (by unfold wE;rw[if_pos hoff]) rfl rfl isAgg177 sizeOf177 rfl qO
        | exact wy (wq (za6 s)) (by unfold wE;rw[if_neg hoff]) rfl rfl isAgg177 sizeOf177 rfl qO
  · refine t_l rR (qy #[I 0,I 0,I 0,I 0] zeroValue177) rR ?_;rintro _ _ ⟨b3,rfl,rfl⟩;refine t_l rR (qi (Pre:=[]) call144 rR (qY ((s.take 5).drop 1) (by simp only[List.length_drop,List.length_take];omega))) rR ?_;rintro _ _ ⟨rfl,rfl⟩;refine t_l rR (qi (Pre:=[]) call144 rR (qY ((s.take 9).drop 5) (by simp only[List.length_drop,List.length_take];omega))) rR ?_;rintro _ _ ⟨rfl,rfl⟩;refine t_l rR (qi (Pre:=[]) call144 rR (qY ((s.take 13).drop 9) (by simp only[List.length_drop,List.length_take];omega))) rR ?_;rintro _ _ ⟨rfl,rfl⟩;refine t_l rR (qi (Pre:=[]) call144 rR (qY ((s.take 17).drop 13) (by simp only[List.length_drop,List.length_take];omega))) rR ?_;rintro _ _ ⟨rfl,rfl⟩;refine t_v rR (qS rR (wm _ rR _ rR _ rR _ rR)) rR ?_;refine zvQ rR (qq (cs:=#[I 0,I 0,I 0,I 0]) (vs:=wq (za6 s)) (wq (za6 s)).toArray sizeOf177 rR rR rR rR (by decide) (qC rR)) ?_;rintro _ _ rfl;refine zfv ?_;refine qf (gS (gM rfl (g_v (qX (r:=sk s 0) 0 underlying9 rfl rfl rfl (zeM (by omega))) rfl (g_v (zdt rfl rfl) rfl (gM rfl (qJ rfl rfl (fun hg=>qa 1 underlying177 rfl rfl sizeOf3 (by decide) rfl) rfl rfl (qJ rfl rfl (fun hg=>qe (v:=I (za6 s).side) isAgg3 rfl rfl) rfl rfl (qJ rfl rfl (fun hg=>yA rfl rfl) rfl rfl (g_v (zav rfl rfl) rfl (gM rfl (qJ rfl rfl (fun hg=>qa 2 underlying177 rfl rfl sizeOf3 (by decide) rfl) rfl rfl (qJ rfl rfl (fun hg=>qe (v:=I (za6 s).size) isAgg3 rfl rfl) rfl rfl (qJ rfl rfl (fun hg=>yA rfl rfl) rfl rfl (g_v (zav rfl rfl) rfl (gM rfl (qJ rfl rfl (fun hg=>qa 3 underlying177 rfl rfl sizeOf3 (by decide) rfl) rfl rfl (qJ rfl rfl (fun hg=>qe (v:=I (za6 s).first) isAgg3 rfl rfl) rfl rfl (qJ rfl rfl (fun hg=>qQ rfl rfl) rfl rfl (g_v (zav rfl rfl) rfl (qb ?_))))))))))))))))))));refine qg rR (fun h34=>?_) (fun h34=>?_)
    · have hoff:zgn s:=by
        unfold zgn;simp at h34;rcases h34 with ((h | h) | h) | h
        · exact .inl (fun e=>h (by rw[e];rfl))
        · exact .inr (.inl (by omega))
        · exact .inr (.inr (.inl (by omega)))
        · exact .inr (.inr (.inr (by omega)))
      refine gS (g_v (qS rR (zg7)) rR ?_);refine ym (qq (cs:=#[I 0,I 0,I 0,I 0]) (vs:=wq HdM.no) (wq HdM.no).toArray sizeOf177 rR rR rR rR (by decide) (qC rR)) ?_;rintro _ _ rfl;refine qb ?_
      first
      | exact wy (wq HdM.no) (by unfold wE;rw[if_pos hoff]) rfl rfl isAgg177 sizeOf177 rfl qO
      | exact wy (wq (za6 s)) (by unfold wE;rw[if_neg hoff]) rfl rfl isAgg177 sizeOf177 rfl qO
    · have hoff:¬zgn s:=by
        unfold zgn;simp at h34;rintro (h | h | h | h)
        · exact h (UInt8.toNat_inj.1 (by rw[show (72:UInt8).toNat=72 from rfl];omega))
        · omega
        · omega
        · omega
      refine qh (gS (g_v (qG (vs:=wq (za6 s)) isAgg177 sizeOf177 rR rR qO) rR ?_));refine ym (qq (cs:=#[I 0,I 0,I 0,I 0]) (vs:=wq (za6 s)) (wq (za6 s)).toArray sizeOf177 rR rR rR rR (by decide) (qC rR)) ?_;rintro _ _ rfl;refine qb ?_
      first
      | exact wy (wq HdM.no) (by unfold wE;rw[if_pos hoff]) rfl rfl isAgg177 sizeOf177 rfl qO
      | exact wy (wq (za6 s)) (by unfold wE;rw[if_neg hoff]) rfl rfl isAgg177 sizeOf177 rfl qO
-- (*counterfoil/store.Store).Room is not in this seat
theorem zj1 (bs bd:Nat)(h:HdM)(bl:Nat)(s:Option Addr)(cap:Nat)(rows:List ChangeM)(hr:rows.length≤400)(F:List HProp):Ct Tryz.prog 65 [ptr bs 0] ([pt bs (.cells (stC bd h bl s (rows.length) cap) 180 (0,0)),roL 3 s (chR rows)]++F) (RSl 104 3 rows.length (chR rows) (pt bs (.cells (stC bd h bl s (rows.length) cap) 180 (0,0))::roL 3 s (chR rows)::F)):=by
  show Ct Tryz.prog 65 [ptr bs 0] (pt bs (.cells (stC bd h bl s (rows.length) cap) 180 (0,0))::roL 3 s (chR rows)::F) _;refine Ct.of func65 rR 8 ntmps65 (by simp) fun w0=>?_;refine gS (gA rR (qb (gS (gM rR (g_v (qc rR) rR (g_v (qa 6 underlying180 rR rR sizeOf34 (by decide) rR) rR (g_v (qe (v:=sl s rows.length cap) isAgg34 rR rR) rR ?_)))))));refine g_l (qi (Pre:=[roL 3 s (chR rows)]) call111 rR (zdz rows s cap (by omega))) rR ?_;rintro _ _ ⟨s7,c7,rfl,rfl⟩;refine gA rR (qb ?_);exact wx rfl rfl rfl rfl
open Go Go.Sl Go.Proofs
theorem zwp:∃fn,Tryz.prog.funcs[200]? =some fn∧(fn.name== "runtime.NumGoroutine")=false∧fn.body.isNone=true∧Extern.findNext fn=none∧Extern.find fn=some Extern.AbiNoEscape.same:=
  ⟨(Tryz.prog.funcs[200]?).get (by kernel_rfl),(Option.some_get _).symm,by kernel_rfl,by kernel_rfl,by kernel_rfl,by kernel_rfl⟩
theorem zlK (v:Value)(w:World):(callFunc 200 [v].toArray).run Tryz.prog w= .ok (.value v) w:=by
  obtain ⟨fn,h1,h2,h3,h4,h5⟩:=zwp;rw[run_callFunc_extern h1 h2 h3 h4 h5]
  rfl
theorem zoI (a b:Nat):[[By ((a % 256:Nat):Int)],[By ((b % 256:Nat):Int)],[By ((b / 256 % 256:Nat):Int)]]=qs [UInt8.ofNat a,UInt8.ofNat b,UInt8.ofNat (b / 256)]:=by
  simp only[qs,List.map_cons,List.map_nil,UInt8.toNat_ofNat']
theorem bldKV (k v:Bytes)(w:World):(Instr.build 104 #[(0,Str k),(1,Str v)]).run Tryz.prog w= .ok (.agg (yo ⟨k,v,false⟩).toArray) w:=by
  simp[Instr.build,zeroValue104,runUnderlying104,sizeOf9,sizeOf4,Instr.fill,qW,yo,show ∀s:Bytes,(Str s).cells=#[Str s] from fun _=>rfl]
theorem zlr {l:List ChangeM}{k:Nat}{x:ChangeM}(h:l[k]? =some x):yu (l.take (k+1))=yu (l.take k)++zqW x:=by rw[zdl h,zq9]
theorem zkJ {l:List ChangeM}{k:Nat}{x:ChangeM}(h:l[k]? =some x):yu (l.drop k)=zqW x++yu (l.drop (k+1)):=by
  obtain ⟨hk,rfl⟩:=List.getElem?_eq_some_iff.1 h;rw[List.drop_eq_getElem_cons hk,zqh]
theorem zle {l:List ChangeM}(h:∀r∈l,okR r)(k:Nat):(yu (l.take k)).length≤59*l.length:=by
  have:=zcF (l:=l.take k) fun r hr=>h r (List.mem_of_mem_take hr);rw[List.length_take] at this;omega
theorem zqy {l:List ChangeM}{k:Nat}{x:ChangeM}(hs:srt l)(hx:l[k]? =some x)(hg:x.gone=false):zaJ (l.take k) [x]=l.take (k+1):=by
  have h:=znT hs (k+1);rw[zdl hx] at h ⊢;exact zsO h hg
theorem zd1 (bb:Nat)(p s:Option Addr)(n cap:Nat)(hp:p=none∨p=some ⟨bb,0,none⟩)(F:List HProp):Ct Tryz.prog 171 [ptr bb 0] ([pt bb (.cells #[(.pointer p),sl s n cap] 201 (0,0))]++F) (R1 (.tuple #[]) (pt bb (.cells #[ptr bb 0,sl s n cap] 201 (0,0))::F)):=by
  show Ct Tryz.prog 171 [ptr bb 0] (pt bb (.cells #[(.pointer p),sl s n cap] 201 (0,0))::F) _;refine Ct.of func171 rR 20 ntmps171 (by simp) fun w0=>?_;refine gS (gM rR (g_v (qc rR) rR (g_v (qa 0 underlying201 rR rR sizeOf198 (by decide) rR) rR (g_v (qe (v:=(.pointer p)) isAgg198 rR rR) rR (g_v (zg5 underlying198 rR) rR (qb ?_))))));refine qg rR (fun h6=>?_) (fun h6=>?_)
  · refine qp (gM rR (gM rR (g_v (zvI underlying198 underlying271 sizeOf201 (by decide) rR (by simp)) rR ?_)));refine g_l (zqE (fun w=>zlK _ w) rR) rR ?_;rintro _ _ ⟨rfl,rfl⟩;refine g_v (zvk underlying271 underlying198 sizeOf201 (by decide) rR rR) rR (g_v (qc rR) rR (g_v (qa 0 underlying201 rR rR sizeOf198 (by decide) rR) rR ?_));refine ym (qI #[ptr bb 0,sl s n cap] sizeOf198 rR rR rR (by simp) rR) ?_;rintro _ _ rfl;refine qb ?_;refine zcq rR rR ?_;exact rfl
  · have hps:p=some ⟨bb,0,none⟩:=by
      rcases hp with h | h
      · rw[h] at h6;cases h6
      · exact h
    rw[hps];refine gS (gM rR (g_v (qc rR) rR (g_v (qa 0 underlying201 rR rR sizeOf198 (by decide) rR) rR (g_v (qe (v:=ptr bb 0) isAgg198 rR rR) rR (gM rR (g_v (zoJ underlying198 sizeOf201 rR rR) rR (qb ?_)))))));refine qg rR (fun h19=>?_) (fun h19=>?_)
    · cases h19
    · refine qh ?_;refine zcq rR rR ?_;exact rfl
theorem zcY (bb:Nat)(p s:Option Addr)(cap:Nat)(l t:Bytes)(hp:p=none∨p=some ⟨bb,0,none⟩)(hb:l.length+t.length≤1000000)(F:List HProp):Ct Tryz.prog 120 [ptr bb 0,Str t] ([pt bb (.cells #[(.pointer p),sl s l.length cap] 201 (0,0)),owL 5 1 s cap (qs (l))]++F) (fun v L'=>∃s' cap',v= .tuple #[I t.length, .nilIface]∧L'=pt bb (.cells #[ptr bb 0,sl s' (l++t).length cap'] 201 (0,0))::owL 5 1 s' cap' (qs (l++t))::F):=by
  show Ct Tryz.prog 120 [ptr bb 0,Str t] (pt bb (.cells #[(.pointer p),sl s l.length cap] 201 (0,0))::owL 5 1 s cap (qs (l))::F) _;refine Ct.of func120 rR 19 ntmps120 (by simp) fun w0=>?_;refine gS (gA rR (gA rR (qb (gS (gM rR ?_)))));refine g_l (qi (Pre:=[pt bb (.cells #[(.pointer p),sl s l.length cap] 201 (0,0))]) call171 rR (zd1 bb p s l.length cap hp)) rR ?_;rintro _ _ ⟨rfl,rfl⟩;refine qb (gS (gM rR (gM rR (g_v (qc rR) rR (g_v (qa 1 underlying201 rR rR sizeOf199 (by decide) rR) rR (g_v (qe (v:=sl s l.length cap) isAgg199 rR rR) rR (gM rR ?_)))))));refine g_l (ztk underlying199 underlying9 sizeOf5 zeroValue5 rR Tryz.typeInfo5 rR rR rR ⟨by omega,by decide,by decide⟩) rR ?_;rintro _ _ ⟨s14,c14,rfl,_,rfl⟩;refine g_v (qc rR) rR (g_v (qa 1 underlying201 rR rR sizeOf199 (by decide) rR) rR ?_);refine ym (qI #[ptr bb 0,sl s14 (l++t).length c14] sizeOf199 rR rR rR (by simp) rR) ?_;rintro _ _ rfl;refine qb (gS (gM rR (g_v (wg underlying9 rR) rR (gA rR (gA rR (qb ?_))))));exact ql (pt bb (.cells #[ptr bb 0,sl s14 (l++t).length c14] 201 (0,0))::owL 5 1 s14 c14 (qs (l++t))::F) rfl ⟨s14,c14,rfl,rfl⟩
theorem zfo (bb:Nat)(p s:Option Addr)(cap:Nat)(l:Bytes)(h0:l≠ []∨s=none)(hb:l.length≤1000000)(F:List HProp):Ct Tryz.prog 122 [ptr bb 0] ([pt bb (.cells #[(.pointer p),sl s l.length cap] 201 (0,0)),owL 5 1 s cap (qs (l))]++F) (R1 (Str l) (pt bb (.cells #[(.pointer p),sl s l.length cap] 201 (0,0))::F)):=by
  show Ct Tryz.prog 122 [ptr bb 0] (pt bb (.cells #[(.pointer p),sl s l.length cap] 201 (0,0))::owL 5 1 s cap (qs (l))::F) _;refine Ct.of func122 rR 14 ntmps122 (by simp) fun w0=>?_;refine gS (gA rR (qb (qf ?_)));refine yx (Lf:=[pt bb (.cells #[(.pointer p),sl s l.length cap] 201 (0,0))]) [(0,false),(1,false),(2,false),(3,false),(5,false),(6,false),(7,false),(8,false),(9,false),(4,true),(10,true),(11,false)] (by kernel_rfl) (by kernel_rfl) rR (by kernel_rfl) ?_;refine dM rR rR rR (d_v rR (qc rR) rR (d_v rR (qa 1 underlying201 rR rR sizeOf199 (by decide) rR) rR (d_v rR (qe (v:=sl s l.length cap) isAgg199 rR rR) rR (dM rR rR rR (d_v rR (qc rR) rR (d_v rR (qa 1 underlying201 rR rR sizeOf199 (by decide) rR) rR (d_v rR (qe (v:=sl s l.length cap) isAgg199 rR rR) rR (d_v rR (yn underlying199 rR) rR ?_))))))));refine d_l rR (l_usd (l:=l) rR h0) rR ?_;rintro _ _ ⟨rfl,rfl⟩;refine d_l rR (zyJ (l:=l) underlying251 (zhk (sizeOf5 default)) rR rR rR h0 (by omega)) rR ?_;rintro _ _ ⟨rfl,rfl⟩;refine d_v rR (qx rR) rR ?_;refine yb ?_;refine qm rR rR ?_;exact rfl
theorem zkG (rows:List ChangeM)(s:Option Addr)(cap:Nat)(hl:rows.length≤400)(hok:∀r∈rows,okR r)(F:List HProp):Ct Tryz.prog 175 [sl s rows.length cap] ([roL 3 s (chR rows)]++F) (R1 (Str (yu rows)) (roL 3 s (chR rows)::F)):=by
  show Ct Tryz.prog 175 [sl s rows.length cap] (roL 3 s (chR rows)::F) _;refine Ct.of func175 rR 36 ntmps175 (by simp) fun w0=>?_;have hlen:=zle hok;refine gS (gA rR (qb (gS ?_)));refine g_l (qy #[.pointer none,sl none 0 0] zeroValue201) rR ?_;rintro _ _ ⟨b3,rfl,rfl⟩;refine qb (qf (qf ?_));rw[show sl none 0 0=sl none (yu (rows.take 0)).length 0 from rfl];refine yJ 5 1 (qs (yu (rows.take 0))) rR ?_;refine qp (gM rR (g_v (yn underlying34 rR) rR (gM rR (qb (qk ?_)))));refine qF (α:=Nat×Option Addr×Option Addr×Nat) (fun z=>z.1≤rows.length∧(z.2.1=none∨z.2.1=some ⟨b3,0,none⟩)∧(yu (rows.take z.1)≠ []∨z.2.2.1=none)) (fun z=>U [(3,ptr b3 0),(6,sl s rows.length cap),(7,I rows.length),(8,I z.1)]) (fun z=>pt b3 (.cells #[(.pointer z.2.1),sl z.2.2.1 (yu (rows.take z.1)).length z.2.2.2] 201 (0,0))::owL 5 1 z.2.2.1 z.2.2.2 (qs (yu (rows.take z.1)))::roL 3 s (chR rows)::F) (fun z=>rows.length - z.1) (0,none,none,0) ⟨by simp, .inl rfl, .inr rfl⟩ [3,6,7,8] rfl rR ?_;rintro ⟨k,p,sB,cB⟩ ⟨hk,hp,hne⟩;simp only[] at hk hp hne ⊢;refine gS (g_v (qQ rR rR) rR (qb (qf ?_)));refine qg rR (fun h9=>?_) (fun h9=>?_)
  · simp at h9;have hkn:k<rows.length:=(by omega);obtain ⟨x,hx⟩:∃x,rows[k]? =some x:=⟨_,List.getElem?_eq_getElem hkn⟩;have hkr:k<(chR rows).length:=(by rw[qK];exact hkn);have hxl:=zju (hok x (List.mem_of_getElem? hx));obtain ⟨_,_,hxk,hxv⟩:=zfi (hok x (List.mem_of_getElem? hx)).1;refine qh (qf (qk (gS (g_v (qB k underlying34 sizeOf104 rR rR rR hkn hkr) rR (g_v (yd (row:=yo x) isAgg104 sizeOf104 rR (zaQ hx) rR) rR ?_)))));refine g_l (qy #[Str [],Str [],Bo false] zeroValue104) rR ?_;rintro _ _ ⟨b5,rfl,rfl⟩;refine ym (qq (cs:=#[Str [],Str [],Bo false]) (vs:=yo x) (yo x).toArray sizeOf104 rR rR rR rR (by decide) (qC rR)) ?_;rintro _ _ rfl;refine qb (qp (g_v (qa 0 underlying104 rR rR sizeOf9 (by decide) rR) rR (g_v (qe (v:=Str x.key) isAgg9 rR rR) rR (g_v (wg underlying9 rR) rR (g_v (yT (r:=((x.key.length % 256:Nat):Int)) underlying3 underlying5 rR (wu8 _)) rR (g_v (qa 1 underlying104 rR rR sizeOf9 (by decide) rR) rR (g_v (qe (v:=Str x.val) isAgg9 rR rR) rR (g_v (wg underlying9 rR) rR (g_v (yT (r:=((x.val.length % 256:Nat):Int)) underlying3 underlying5 rR (wu8 _)) rR (g_v (qa 1 underlying104 rR rR sizeOf9 (by decide) rR) rR (g_v (qe (v:=Str x.val) isAgg9 rR rR) rR (g_v (wg underlying9 rR) rR (g_v (zd4 (r:=((x.val.length / 256:Nat):Int)) rR rR (by decide) (zky x.val.length 256)) rR (g_v (yT (r:=((x.val.length / 256 % 256:Nat):Int)) underlying3 underlying5 rR (wu8 _)) rR ?_))))))))))))));refine g_l (qr (qs ([UInt8.ofNat x.key.length,UInt8.ofNat x.val.length,UInt8.ofNat (x.val.length / 256)])) underlying199 sizeOf5 zeroValue5 rR rR (zoI x.key.length x.val.length) (by simp[qs]) (by decide) (by decide)) rR ?_;rintro _ _ ⟨b25,rfl,rfl⟩;refine g_v (yM (l:=[UInt8.ofNat x.key.length,UInt8.ofNat x.val.length,UInt8.ofNat (x.val.length / 256)]) underlying199 underlying5 underlying9 rR rR rR) rR (g_v (qa 0 underlying104 rR rR sizeOf9 (by decide) rR) rR (g_v (qe (v:=Str x.key) isAgg9 rR rR) rR (g_v (wO rR rR (by simp <;> omega)) rR (g_v (qa 1 underlying104 rR rR sizeOf9 (by decide) rR) rR (g_v (qe (v:=Str x.val) isAgg9 rR rR) rR (g_v (wO rR rR (by simp <;> omega)) rR ?_))))));refine g_l (qi (Pre:=[pt b3 (.cells #[(.pointer p),sl sB (yu (rows.take k)).length cB] 201 (0,0)),owL 5 1 sB cB (qs (yu (rows.take k)))]) call120 rR (zcY b3 p sB cB (yu (rows.take k)) (zqW x) hp (by have:=hlen k;have:=zju (hok x (List.mem_of_getElem? hx));omega))) rR ?_;rintro _ _ ⟨s33,c33,rfl,rfl⟩;rw[←zlr hx];refine qb (qH (qp (g_v (qu (r:=((k+1:Nat):Int)) rfl rfl (by rw[show (k:Int)+1=((k+1:Nat):Int) by omega];exact w64 (by omega))) rfl (gM rfl (qb ?_)))));refine qo (k+1,some ⟨b3,0,none⟩,s33,c33) ⟨by simp only[];omega, .inr rfl, .inl ?_⟩ (by simp only[];omega) [3,6,7,8] rfl rfl
    simp only[];rw[zlr hx];intro e;have:=congrArg List.length e;rw[List.length_append,List.length_nil] at this;omega
  · simp at h9;obtain rfl:k=rows.length:=(by omega);rw[List.take_length] at hne ⊢;refine qz rR ?_;refine gS ?_;refine g_l (qi (Pre:=[pt b3 (.cells #[(.pointer p),sl sB (yu rows).length cB] 201 (0,0)),owL 5 1 sB cB (qs (yu rows))]) call122 rR (zfo b3 p sB cB (yu rows) hne (by have:=hlen rows.length;rw[List.take_length] at this;omega))) rR ?_;rintro _ _ ⟨rfl,rfl⟩;refine gA rR (qb ?_);refine qm rR rR ?_;exact rfl
theorem zh5 (rows:List ChangeM)(hl:rows.length≤400)(hs:srt rows)(hok:∀r∈rows,okR r)(F:List HProp):Ct Tryz.prog 105 [Str (yu rows)] ([]++F) (fun v L'=>∃s cap,v= .tuple #[sl s rows.length cap,Bo true]∧L'=roL 3 s (chR rows)::F):=by
  show Ct Tryz.prog 105 [Str (yu rows)] (F) _;refine Ct.of func105 rR 64 ntmps105 (by simp) fun w0=>?_;have hlen:∀k,(yu (rows.drop k)).length≤59*400:=fun k=>by
    have:=zcF (l:=rows.drop k) fun r hr=>hok r (List.mem_of_mem_drop hr);rw[List.length_drop] at this;omega
  refine zl0 3 (chR (rows.take 0)) rR ?_;refine gS (gA rR (gA rR (qb (gS (gA rR (qb (qf (qk ?_))))))));refine qF (α:=Nat×Option Addr×Nat) (fun z=>z.1≤rows.length) (fun z=>U [(0,Str (yu (rows.drop z.1))),(4,sl z.2.1 (rows.take z.1).length z.2.2)]) (fun z=>roL 3 z.2.1 (chR (rows.take z.1))::F) (fun z=>rows.length - z.1) (0,none,0) (by simp) [0,4] rfl rR ?_;rintro ⟨k,sA,cA⟩ hk;simp only[] at hk ⊢;refine qf (gS (gM rR (g_v (ziq rR rR) rR (qb ?_))));refine qg rR (fun h9=>?_) (fun h9=>?_)
  · simp at h9;have hkn:k<rows.length:=by
      rcases Nat.lt_or_ge k rows.length with h | h
      · exact h
      · rw[List.drop_eq_nil_of_le h] at h9;exact absurd rfl h9
    obtain ⟨x,hx⟩:∃x,rows[k]? =some x:=⟨_,List.getElem?_eq_getElem hkn⟩;have hxo:=hok x (List.mem_of_getElem? hx);obtain ⟨hk0,hg1,hxk,hxv⟩:=zfi hxo.1;have hc0:=hxo.1;have hg0:=hxo.2;have hd:=zkJ hx;have hdl:=hlen k;obtain ⟨x0,hx0,hx0e⟩:∃y:UInt8,y.toNat=x.key.length∧UInt8.ofNat x.key.length=y:=⟨_,zbQ (by omega),rfl⟩;obtain ⟨x1,hx1,hx1e⟩:∃y:UInt8,y.toNat=x.val.length∧UInt8.ofNat x.val.length=y:=⟨_,zbQ (by omega),rfl⟩;obtain ⟨x2,hx2,hx2e⟩:∃y:UInt8,y.toNat=0∧UInt8.ofNat (x.val.length / 256)=y:=⟨_,by rw[show x.val.length / 256=0 by omega];rfl,rfl⟩;rw[show zqW x++yu (rows.drop (k+1))=(x0::x1::x2::(x.key++(x.val++yu (rows.drop (k+1))))) by unfold zqW;rw[hx0e,hx1e,hx2e];simp] at hd;rw[hd] at hdl h9 ⊢;simp only[List.length_cons,List.length_append] at hdl;have hrest:(x0::x1::x2::(x.key++(x.val++yu (rows.drop (k+1))))).drop (x0.toNat+3+x1.toNat)=yu (rows.drop (k+1)):=by
      rw[hx0,hx1,show x.key.length+3+x.val.length=(x.key.length+x.val.length)+3 by omega];simp only[List.drop_succ_cons];rw[show x.key.length+x.val.length=(x.key++x.val).length by simp,←List.append_assoc,List.drop_left]
    have hkey:((x0::x1::x2::(x.key++(x.val++yu (rows.drop (k+1))))).take (x0.toNat+3)).drop 3=x.key:=by
      rw[hx0];simp only[List.take_succ_cons,List.drop_succ_cons,List.drop_zero];rw[List.take_left]
    have hval:((x0::x1::x2::(x.key++(x.val++yu (rows.drop (k+1))))).take (x0.toNat+3+x1.toNat)).drop (x0.toNat+3)=x.val:=by
      rw[hx0,hx1,show x.key.length+3+x.val.length=(x.key.length+x.val.length)+3 by omega];simp only[List.take_succ_cons,List.drop_succ_cons];rw[show x.key.length+x.val.length=(x.key++x.val).length by simp,←List.append_assoc,List.take_left,List.drop_left]
    have hbld:∀w,(Instr.build 104 #[(0,Str (((x0::x1::x2::(x.key++(x.val++yu (rows.drop (k+1))))).take (x0.toNat+3)).drop 3)),(1,Str (((x0::x1::x2::(x.key++(x.val++yu (rows.drop (k+1))))).take (x0.toNat+3+x1.toNat)).drop (x0.toNat+3)))]).run Tryz.prog w= .ok (.agg (yo x).toArray) w:=fun w=>by
      rw[hkey,hval,bldKV x.key x.val w];obtain ⟨xk,xv,xg⟩:=x;simp only at hg0;subst hg0
      rfl
    refine qh (qk (qf (qf ?_)));refine wU [(0,false),(1,false),(2,false),(3,false),(4,false),(5,false),(6,false),(7,false),(8,false),(9,false),(10,false),(11,false),(12,false),(13,false),(14,false),(15,false),(16,false),(17,false),(18,false),(19,false),(20,false)] (by kernel_rfl) (by kernel_rfl) rR (by kernel_rfl) ?_;refine dM rR rR rR (d_v rR (wg underlying9 rR) rR (d_v rR (qQ rR rR) rR (dM rR rR rR (qR rR rR rR (decide_eq_false (by simp only[List.length_cons];omega)) (qn rR) rR (qR rR rR rR (decide_eq_false (by simp only[List.length_cons];omega)) (qX (r:=x0) 0 underlying9 rR rR rR rR) rR (qR rR rR rR (decide_eq_false (by simp only[List.length_cons];omega)) (yT (r:=((x0.toNat:Nat):Int)) underlying5 underlying3 rR (w64 (by omega))) rR (qR rR rR rR (decide_eq_false (by simp only[List.length_cons];omega)) (qu rR rR (w64 (by omega))) rR (qR rR rR rR (decide_eq_false (by simp only[List.length_cons];omega)) (qn rR) rR (qR rR rR rR (decide_eq_false (by simp only[List.length_cons];omega)) (qX (r:=x1) 1 underlying9 rR rR rR rR) rR (qR rR rR rR (decide_eq_false (by simp only[List.length_cons];omega)) (yT (r:=((x1.toNat:Nat):Int)) underlying5 underlying3 rR (w64 (by omega))) rR (qR rR rR rR (decide_eq_false (by simp only[List.length_cons];omega)) (qu rR rR (w64 (by omega))) rR (qR rR rR rR (decide_eq_false (by simp only[List.length_cons];omega)) (qn rR) rR (qR rR rR rR (decide_eq_false (by simp only[List.length_cons];omega)) (qX (r:=x2) 2 underlying9 rR rR rR rR) rR (qR rR rR rR (decide_eq_false (by simp only[List.length_cons];omega)) (yT (r:=((x2.toNat:Nat):Int)) underlying5 underlying3 rR (w64 (by omega))) rR (qR rR rR rR (decide_eq_false (by simp only[List.length_cons];omega)) (zdj rR rR (w64 (by omega))) rR (qR rR rR rR (decide_eq_false (by simp only[List.length_cons];omega)) (qu rR rR (w64 (by omega))) rR (qR rR rR rR (decide_eq_false (by simp only[List.length_cons];omega)) (qn rR) rR (qR rR rR rR (decide_eq_false (by simp only[List.length_cons];omega)) (wg underlying9 rR) rR (qR rR rR rR (decide_eq_false (by simp only[List.length_cons];omega)) (yA rR rR) rR (d_v rR (zav rR rR) rR ?_))))))))))))))))))));refine yb ?_;refine qg rR (fun h30=>?_) (fun h30=>?_)
    · exfalso;simp at h30;omega
    · refine qh (gS (gM rR (g_v (qX (r:=x0) 0 underlying9 rR rR rR rR) rR (g_v (yT (r:=((x0.toNat:Nat):Int)) underlying5 underlying3 rR (w64 (by omega))) rR (g_v (qu rR rR (w64 (by omega))) rR (gA rR (qb (qf ?_))))))));refine wU [(0,false),(1,false),(2,false),(3,false),(4,false),(5,false),(6,false),(7,false),(8,false),(9,false),(10,false)] (by kernel_rfl) (by kernel_rfl) rR (by kernel_rfl) ?_;refine dM rR rR rR (dM rR rR rR (d_v rR (qX (r:=x1) 1 underlying9 rR rR rR rR) rR (d_v rR (yT (r:=((x1.toNat:Nat):Int)) underlying5 underlying3 rR (w64 (by omega))) rR (d_v rR (qu rR rR (w64 (by omega))) rR (dM rR rR rR (d_v rR (qX (r:=x2) 2 underlying9 rR rR rR rR) rR (d_v rR (yT (r:=((x2.toNat:Nat):Int)) underlying5 underlying3 rR (w64 (by omega))) rR (d_v rR (zdj rR rR (w64 (by omega))) rR (d_v rR (qu rR rR (w64 (by omega))) rR (d_v rR (qx rR) rR ?_))))))))));refine yb ?_;refine qf ?_;refine wU [(0,false),(1,false),(2,false),(3,false),(4,false),(5,false),(6,false),(7,false),(8,true),(9,true)] (by kernel_rfl) (by kernel_rfl) rR (by kernel_rfl) ?_;refine dM rR rR rR (dM rR rR rR (d_v rR (zag (l:=3) (h:=x0.toNat+3) underlying9 rR rR rR rR (by omega) (by omega) (by simp;omega)) rR (dM rR rR rR (dM rR rR rR (dM rR rR rR (d_v rR (zag (l:=x0.toNat+3) (h:=x0.toNat+3+x1.toNat) underlying9 rR rR (by omega) rR (by omega) (by omega) (by simp;omega)) rR (d_v rR (qS rR hbld) rR ?_)))))));refine d_l rR (qy #[Str [],Str [],Bo false] zeroValue104) rR ?_;rintro _ _ ⟨b7,rfl,rfl⟩;refine zoK rR (qq (cs:=#[Str [],Str [],Bo false]) (vs:=yo x) (yo x).toArray sizeOf104 rR rR rR rR (by decide) (qC rR)) ?_;rintro _ _ rfl;refine yb ?_;refine qf (gS (g_v (qG (vs:=yo x) isAgg104 sizeOf104 rR rR qO) rR ?_));refine g_l (qi (Pre:=[]) call127 rR (zbs x)) rR ?_;rintro _ _ ⟨rfl,rfl⟩;rw[hc0];refine g_v (yc underlying37 rR) rR (qb ?_);refine qg rR (fun h55=>?_) (fun h55=>?_)
      · simp at h55
      · refine qh (gS (gM rR (g_v (qG (vs:=yo x) isAgg104 sizeOf104 rR rR qO) rR ?_)));refine g_l (qr [yo x] underlying34 sizeOf104 zeroValue104 rR rR rR (by simp[yo]) (by decide) (by decide)) rR ?_;rintro _ _ ⟨b58,rfl,rfl⟩;refine yB (T:=104) (cap:=1) (some ⟨b58,0,none⟩) ?_;rw[show [yo x]=chR [x] from rfl];refine g_l (qi (Pre:=[roL 3 sA (chR (rows.take k)),roL 3 (some ⟨b58,0,none⟩) (chR [x])]) call107 rR (zde (rows.take k) [x] sA (some ⟨b58,0,none⟩) cA 1 (znT hs k) (by rw[List.length_take];omega) (by simp))) rR ?_;rintro _ _ ⟨s59,c59,rfl,rfl⟩;rw[zqy hs hx hg0];refine yB (T:=104) (cap:=c59) s59 ?_;refine gA rR (qb (qp (gM rR (gM rR (g_v (zi1 (l:=x0.toNat+3+x1.toNat) underlying9 rR rR (by omega) (by simp;omega)) rR (gA rR (qb (qH ?_))))))));rw[show (x0::x1::x2::(x.key++(x.val++yu (rows.drop (k+1))))).drop (x0.toNat+3+x1.toNat)=yu (rows.drop (k+1)) from hrest];exact qo (k+1,s59,c59) (by simp only[];omega) (by simp only[];omega) [0,4] rfl rfl
  · simp at h9;obtain rfl:k=rows.length:=by
      rcases Nat.lt_or_ge k rows.length with h | h
      · exfalso;obtain ⟨x,hx⟩:∃x,rows[k]? =some x:=⟨_,List.getElem?_eq_getElem h⟩;have:=zkJ hx;rw[h9] at this;have h2:=zju (hok x (List.mem_of_getElem? hx));have h3:=congrArg List.length this;rw[List.length_append,List.length_nil] at h3;omega
      · omega
    rw[List.take_length];refine qz rR ?_;refine gS (gM rR (gA rR (gA rR (qb ?_))));exact ql (roL 3 sA (chR rows)::F) rfl ⟨sA,cA,rfl,rfl⟩
end Go.Proofs.YthdjckbjjfiopadGreatDoor
namespace Go.Proofs.YthdjckbjjfiopadGreatDoor
open Go.Sl Go.Proofs
def S80 (D:DiskM):Prop:=(∀x∈D.kept,x.length=80)∧(∀x∈D.now,x.length=80)∧∀t∈D.wait,t.2.length=80
theorem zuv {L:List Bytes}{n:Nat}{s:Bytes}(h:∀x∈L,x.length=80)(hs:s.length=80):∀x∈L.set n s,x.length=80:=fun x hx=>by
  rcases List.mem_or_eq_of_mem_set hx with h' | h'
  · exact h x h'
  · rw[h'];exact hs
theorem zgu {D:DiskM}(h:S80 D):S80 (yY D):=⟨by rw[yZ];exact h.1,by rw[wC];exact h.2.1,by rw[ws];exact h.2.2⟩
theorem zxa {N:Nat}{D:DiskM}{x:Stp}(h:S80 D)(ho:zco N x):S80 (stD D x):=by
  cases x with
  | none=>
    show S80 (yw D);unfold yw;split
    · have:=zgu h;exact ⟨this.2.1,this.2.1,fun t ht=>by cases ht⟩
    · exact zgu h
  | some y=>
    show S80 (yv D y.1 y.2);unfold yv;split
    · exact h
    · split
      · have:=zgu h;refine ⟨this.1,zuv this.2.1 (zjI ho.2),fun t ht=>?_⟩;simp only[wt,List.mem_append,List.mem_singleton] at ht;rcases ht with ht | rfl
        · exact this.2.2 t ht
        · exact zjI ho.2
      · exact zgu h
theorem zei {N:Nat}:∀(l:List Stp) (D:DiskM),S80 D→(∀x∈l,zco N x)→S80 (we D l).2
  | [],D,h,_=>h
  | x::l,D,h,ho=>by
    have h1:=zxa h (ho x (List.mem_cons_self ..));by_cases h0:stE D x=0
    · rw[zcs h0];exact zei l _ h1 (fun y hy=>ho y (List.mem_cons_of_mem _ hy))
    · rw[zbv h0];exact h1
theorem zp2 {from_ many first used N:Nat}{c:List ChangeM}{D:DiskM}(h:S80 D)(hN:from_+many≤N):S80 (zdy from_ many first used c D):=by
  unfold zdy;split
  · rename_i hv;exact zei _ _ h (zjh hN hv)
  · exact h
theorem zl8 {keep:Int}{w:List (Nat×Bytes)}{K:List Bytes}(hK:∀x∈K,x.length=80)(hw:∀t∈w,t.2.length=80):∀k,∀x∈zbb keep w K k,x.length=80
  | 0=>hK
  | k+1=>by
    have ih:=zl8 (keep:=keep) hK hw k;unfold zbb;split
    · rename_i t ht;split
      · exact zuv ih (hw t (List.mem_of_getElem? ht))
      · exact ih
    · exact ih
theorem znj (side:Nat)(t:Bytes):∀(f k:Nat),ckW side t k (f+1)=ckW side t k f++ [some (2+side*60+(k+f),wz t (k+f))]
  | 0,k=>rfl
  | f+1,k=>by
    rw[ckW,znj side t f (k+1),ckW,List.cons_append,show k+1+f=k+(f+1) by omega]
theorem zqc (side:Nat)(t:Bytes):∀(f g k:Nat),ckW side t k (f+g)=ckW side t k f++ckW side t (k+f) g
  | 0,g,k=>by rw[Nat.zero_add];rfl
  | f+1,g,k=>by
    rw[show f+1+g=(f+g)+1 by omega,ckW,zqc side t f g (k+1),ckW,List.cons_append,show k+1+f=k+(f+1) by omega]
theorem zb6 {t:Bytes}{k:Nat}:(wz t k).length=Nat.min 80 (t.length - 80*k):=by unfold wz;simp[List.length_take,List.length_drop]
theorem chunks_lt {t:Bytes}{k:Nat}:k<qZ t ↔ 80*k<t.length:=by unfold qZ;omega
theorem zt3 {side N:Nat}{t:Bytes}(hN:2+side*60+qZ t≤N):∀(f k:Nat),k+f≤qZ t→∀x∈ckW side t k f,zco N x
  | 0,k,_,x,h=>by simp[ckW] at h
  | f+1,k,hk,x,h=>by
    rw[ckW] at h;rcases List.mem_cons.1 h with rfl | h
    · exact ⟨by simp only;omega,zlf t k⟩
    · exact zt3 hN f (k+1) (by omega) x h
theorem zuw {h:HdM}{t:Bytes}{N:Nat}(hN:2+h.side*60+qZ t≤N):∀x∈ckL h t,zco N x:=by
  intro x hx;unfold ckL at hx;simp only[List.mem_append,List.mem_cons,List.not_mem_nil,or_false] at hx;rcases hx with hx | rfl | rfl | rfl
  · exact zt3 hN _ 0 (by omega) x hx
  · trivial
  · exact ⟨by simp only;omega,by rw[zhM];decide⟩
  · trivial
theorem zbD {l:List Stp}{x:Stp}{D D1:DiskM}(h:we D l=(0,D1)):we D (l++ [x])=(stE D1 x,stD D1 x):=by
  rw[zep,h];simp only[if_true];by_cases h0:stE D1 x=0
  · rw[zcs h0,zfp,h0]
  · rw[zbv h0]
theorem zbH {l r:List Stp}{D D1:DiskM}{e:Int}(h:we D l=(e,D1))(he:e≠0):we D (l++r)=(e,D1):=by
  rw[zep,h];simp only;rw[if_neg he]
theorem zuA {l r:List Stp}{D D1:DiskM}(h:we D l=(0,D1)):we D (l++r)=we D1 r:=by rw[zep,h];rfl
theorem zxA:∀(l:List Stp) (D:DiskM),(∀x∈l,zco D.now.length x)→(we D l).1=0∨(we D l).1=9
  | [],D,_=> .inl rfl
  | x::l,D,h=>by
    have hx:=h x (List.mem_cons_self ..);have hst:stE D x=0∨stE D x=9:=by
      cases x with
      | none=>exact zah D
      | some y=>
        show yO D y.1 y.2=0∨yO D y.1 y.2=9;unfold yO;rw[if_neg (by unfold zif;have h1:=hx.1;have h2:=hx.2;omega)];exact zah D
    rcases hst with h0 | h0
    · rw[zcs h0];refine zxA l _ fun y hy=>?_;have:=h y (List.mem_cons_of_mem _ hy);have hl:(stD D x).now.length=D.now.length:=by
        cases x with
        | none=>
          show (yw D).now.length=_;unfold yw;split <;> simp[zaX,wC]
        | some z=>
          show (yv D z.1 z.2).now.length=_;unfold yv;split
          · rfl
          · split <;> simp[wt,wC]
      rw[hl];exact this
    · rw[zbv (by rw[h0];decide)];exact .inr h0
def fmW:Nat→List Stp
  | 0=>[some (0,[])]
  | k+1=>fmW k++ [some (122+k,[])]
def hd1:HdM:=⟨1,0,0,1⟩
def fmT:List Stp:=[none,some (1,wd hd1),none]
def fmL (N:Nat):List Stp:=fmW (N - 122)++fmT
theorem zo2:∀(g k:Nat),∃r,fmW (k+g)=fmW k++r
  | 0,k=>⟨[],by simp⟩
  | g+1,k=>by
    obtain ⟨r,hr⟩:=zo2 g k;exact ⟨r++ [some (122+(k+g),[])],by rw[show k+(g+1)=(k+g)+1 by omega,fmW,hr,List.append_assoc]⟩
theorem ztF {k m:Nat}{D X:DiskM}{e:Int}(h:we D (fmW k)=(e,X))(he:k=m∨e≠0)(hk:k≤m):we D (fmW m)=(e,X):=by
  rcases he with rfl | he
  · exact h
  · obtain ⟨r,hr⟩:=zo2 (m - k) k;rw[show m=k+(m - k) by omega,hr];exact zbH h he
theorem zhm:∀k,(fmW k).length=k+1
  | 0=>rfl
  | k+1=>by rw[fmW,List.length_append,zhm k];rfl
def CkR (D:DiskM)(h:HdM)(rows:List ChangeM)(many used:Nat)(e:Int)(D1:DiskM)(h1:HdM)(used1:Nat):Prop:=
  we D (ckL (nxH h rows many) (yu rows))=(e,D1)∧((e≠0∧h1=h∧used1=used)∨(e=0∧h1=nxH h rows many∧used1≤many∧∃ds,wb (h.first+many) (zje D1 122) many 0 [] [] 0=(ds,used1)))
def MidR (D:DiskM)(h:HdM)(rows:List ChangeM)(many used:Nat)(c:List ChangeM)(e:Int)(D1:DiskM)(h1:HdM)(used1:Nat):Prop:=
  (many - used<c.length+1∧CkR D h rows many used e D1 h1 used1)∨(¬many - used<c.length+1∧e=0∧D1=D∧h1=h∧used1=used)
def ztB (D:DiskM)(h:HdM)(rows:List ChangeM)(many used:Nat)(c:List ChangeM)(e:Int)(D2:DiskM)(h2:HdM)(used2:Nat)(rows2:List ChangeM):Prop:=
  (cmV many rows c≠0∧e=cmV many rows c∧D2=D∧h2=h∧used2=used∧rows2=rows)∨
  (cmV many rows c=0∧∃e1 D1 h1 used1,MidR D h rows many used c e1 D1 h1 used1∧((e1≠0∧e=e1∧D2=D1∧h2=h1∧used2=used1∧rows2=rows)∨
    (e1=0∧e=zhP 122 many h1.first used1 c D1∧D2=zdy 122 many h1.first used1 c D1∧h2=h1∧used2=zhl 122 many h1.first used1 c D1∧rows2=if e=0 then zaJ rows c else rows)))
theorem zq4 (h:HdM)(t:Bytes):(ckL h t).length=qZ t+3:=by simp[ckL,zjF]
theorem zbZ {rows:List ChangeM}(hl:rows.length≤80)(hr:∀r∈rows,okR r):qZ (yu rows)≤60:=by
  have:=zcF hr;unfold qZ;omega
theorem zrM {h:HdM}{rows:List ChangeM}{N:Nat}(hl:rows.length≤80)(hr:∀r∈rows,okR r)(hN:196≤N):∀x∈ckL (nxH h rows (N - 122)) (yu rows),zco N x:=by
  have:=zbZ hl hr;exact zuw (by show 2+(1 - h.side)*60+qZ (yu rows)≤N;omega)
theorem zrW {D:DiskM}{h:HdM}{rows:List ChangeM}{N used i:Nat}{c:List ChangeM}{e:Int}{D1:DiskM}{h1:HdM}{used1:Nat}(hm:MidR D h rows (N - 122) used c e D1 h1 used1)(hok:okW N i D)(hS:S80 D)(hl:rows.length≤80)(hr:∀r∈rows,okR r)(hN:196≤N)(hu:used≤N - 122):
    okW N (i+63) D1∧S80 D1∧used1≤N - 122∧h1.first≤h.first+N∧h1.ep≤h.ep+1∧(h.side≤1→h1.side≤1)∧h.first≤h1.first:=by
  rcases hm with ⟨_,hrun,hc⟩ | ⟨_,_,rfl,rfl,rfl⟩
  · have h1':=za7 (ckL (nxH h rows (N - 122)) (yu rows)) i D hok;rw[hrun,zq4] at h1';have h2':=zei _ D hS (zrM (h:=h) hl hr hN);rw[hrun] at h2';have:=zbZ hl hr;refine ⟨za3 h1' (by omega),h2',?_⟩;rcases hc with ⟨_,rfl,rfl⟩ | ⟨_,rfl,hu1,_⟩
    · exact ⟨hu,by omega,by omega,id,Nat.le_refl _⟩
    · exact ⟨hu1,by simp only[nxH];omega,by simp only[nxH];omega,fun _=>by simp only[nxH];omega,by simp only[nxH];omega⟩
  · exact ⟨za3 hok (by omega),hS,hu,by omega,by omega,id,Nat.le_refl _⟩
open _root_.Go.Proofs.Tryz
open Go Go.Sl Go.Proofs
abbrev ckV (b:Nat)(t:Bytes)(k:Nat):Value:=sl (some ⟨b,80*k,none⟩) (wz t k).length (wz t k).length
def ckP (b2 b3 b cap:Nat)(t:Bytes):List HProp:=[pt b2 (.cells #[sl (some ⟨b,0,none⟩) t.length cap] 199 (0,0)),pt b3 (.cells #[I 80] 3 (0,0)),roL 1 (some ⟨b,0,none⟩) (qs t)]
theorem zp1 {t:Bytes}{k:Nat}:(if (((t.length - 80*k:Nat):Nat):Int)<80 then ((t.length - 80*k:Nat):Int) else 80)=(((wz t k).length:Nat):Int):=by
  rw[zb6];by_cases h:t.length - 80*k<80
  · rw[if_pos (by omega),show Nat.min 80 (t.length - 80*k)=t.length - 80*k from Nat.min_eq_right (by omega)]
  · rw[if_neg (by omega),show Nat.min 80 (t.length - 80*k)=80 from Nat.min_eq_left (by omega)];rfl
theorem zxT {t:Bytes}{k b:Nat}(hk:80*k<t.length):sl (if 80*k+(wz t k).length=80*k then (some ⟨b,0,none⟩:Option Addr) else (some ⟨b,0,none⟩:Option Addr).map (·.add (80*k*1))) (80*k+(wz t k).length - 80*k) (80*k+(wz t k).length - 80*k)=ckV b t k:=by
  have hc:(wz t k).length≠0:=by
    rw[zb6];have h1:1≤Nat.min 80 (t.length - 80*k):=Nat.le_min.2 ⟨by decide,by omega⟩;omega
  rw[if_neg (by omega),Nat.add_sub_cancel_left,Option.map_some,zaV,Nat.zero_add,Nat.mul_one]
theorem zsc (s:Option Addr)(n cap:Nat)(F:List HProp):Ct Tryz.prog 177 [sl s n cap,I 80] ([]++F) (fun v L'=>∃b2 b3,v= .func (.func 202) #[] #[ptr b2 0,ptr b3 0]∧L'=pt b2 (.cells #[sl s n cap] 199 (0,0))::pt b3 (.cells #[I 80] 3 (0,0))::F):=by
  show Ct Tryz.prog 177 [sl s n cap,I 80] (F) _;refine Ct.of func177 rR 9 ntmps177 (by simp) fun w0=>?_;refine gS ?_;refine g_l (wM #[sl s n cap] rfl rR) rR ?_;rintro _ _ ⟨b2,rfl,rfl⟩;refine g_l (wM #[I 80] rfl rR) rR ?_;rintro _ _ ⟨b3,rfl,rfl⟩;refine gA rR (qb (qf (gS (g_v (qe (v:=I 80) isAgg3 rR rR) rR (g_v (qQ rR rR) rR (qb ?_))))));refine qg rR (fun h6=>?_) (fun h6=>?_)
  · simp at h6
  · refine qh (gS (g_v (wS rR rR) rR (gA rR (qb ?_))));exact ql (pt b2 (.cells #[sl s n cap] 199 (0,0))::pt b3 (.cells #[I 80] 3 (0,0))::F) rfl ⟨b2,b3,rfl,rfl⟩
theorem zpA (b2 b3 b cap l:Nat)(t:Bytes)(w0:World)(A:Nat→List HProp)(B:List HProp)(hcap:t.length≤cap)(hlen:t.length≤1000000)
    (hr:∀k,k<qZ t→zmk Tryz.prog l (ckV b t k) w0 (ckP b2 b3 b cap t++A k) (ckP b2 b3 b cap t++A (k+1)) (ckP b2 b3 b cap t++B)):
    ∀w,Sat w0 w (ckP b2 b3 b cap t++A 0)→Calls Tryz.prog 202 (.func (.yield l) #[] #[]:: [ptr b2 0,ptr b3 0]).toArray w fun e w'=>match e with
      | .returned _=>Sat w0 w' (ckP b2 b3 b cap t++A (qZ t))∨Sat w0 w' (ckP b2 b3 b cap t++B)
      | _=>False:=fun w hw=>by
  refine Calls.mono (ztz func202 rR 31 ntmps202 (by simp) (L:=pt b2 (.cells #[sl (some ⟨b,0,none⟩) t.length cap] 199 (0,0))::pt b3 (.cells #[I 80] 3 (0,0))::roL 1 (some ⟨b,0,none⟩) (qs t)::A 0) (R:=fun v L'=>L'=ckP b2 b3 b cap t++A (qZ t)∨L'=ckP b2 b3 b cap t++B) ?_ w hw) fun e w' he=>?_;rotate_left
  · cases e with
    | returned v=>
        obtain ⟨L',h1,h2 | h2⟩:=he <;> subst h2
        · exact .inl h1
        · exact .inr h1
    | panicked ch=>exact he
    | outgrown=>exact he
  refine gS (gA rR (qb (qk ?_)));refine qF (α:=Nat) (fun k=>k≤qZ t) (fun k=>U [(0, .func (.yield l) #[] #[]),(1,ptr b2 0),(2,ptr b3 0),(4,I ((80*k:Nat):Int))]) (fun k=>pt b2 (.cells #[sl (some ⟨b,0,none⟩) t.length cap] 199 (0,0))::pt b3 (.cells #[I 80] 3 (0,0))::roL 1 (some ⟨b,0,none⟩) (qs t)::A k) (fun k=>qZ t - k) 0 (Nat.zero_le _) [0,1,2,4] rfl rR ?_;intro k hk;refine qf (gS (gM rR (g_v (qe (v:=sl (some ⟨b,0,none⟩) t.length cap) isAgg199 rR rR) rR (g_v (yn underlying199 rR) rR (g_v (qQ rR rR) rR (qb ?_))))));refine qg rR (fun h9=>?_) (fun h9=>?_)
  · simp at h9;have hkt:80*k<t.length:=(by omega);have hcl:=zb6 (t:=t) (k:=k);have hcl1:(wz t k).length≤80∧80*k+(wz t k).length≤t.length:=by
      have h1:Nat.min 80 (t.length - 80*k)≤80:=Nat.min_le_left ..;have h2:Nat.min 80 (t.length - 80*k)≤t.length - 80*k:=Nat.min_le_right ..;omega
    refine qh (qf (qk (qf ?_)));refine wU [(0,false),(1,false),(2,false),(3,false),(4,false),(5,false),(6,false)] (by kernel_rfl) (by kernel_rfl) rR (by kernel_rfl) ?_;refine d_v rR (qe (v:=I 80) isAgg3 rR rR) rR (d_v rR (qe (v:=sl (some ⟨b,0,none⟩) t.length cap) isAgg199 rR rR) rR (dM rR rR rR (d_v rR (zb1 (l:=80*k) underlying199 sizeOf5 rR rR rR (by omega)) rR (d_v rR (yn underlying199 rR) rR (d_v rR (zxP rR rR) rR (d_v rR (qx rR) rR ?_))))));refine yb ?_;rw[zp1];refine qf ?_;refine zxx ?_;refine y_v (qn rR) rR ?_;refine y_v (qe (v:=sl (some ⟨b,0,none⟩) t.length cap) isAgg199 rR rR) rR ?_;refine y_v (qn rR) rR ?_;refine y_v (qn rR) rR ?_;refine y_v (qn rR) rR ?_;refine y_v (qu (r:=((80*k+(wz t k).length:Nat):Int)) rfl rfl (by rw[show ((80*k:Nat):Int)+(((wz t k).length:Nat):Int)=((80*k+(wz t k).length:Nat):Int) by omega];exact w64 (by omega))) rfl ?_;refine y_v (qn rR) rR ?_;refine y_v (qn rR) rR ?_;refine y_v (qu (r:=((80*k+(wz t k).length:Nat):Int)) rfl rfl (by rw[show ((80*k:Nat):Int)+(((wz t k).length:Nat):Int)=((80*k+(wz t k).length:Nat):Int) by omega];exact w64 (by omega))) rfl ?_;refine y_v (zyv (l:=80*k) (h:=80*k+(wz t k).length) (q:=80*k+(wz t k).length) underlying199 sizeOf5 rR rR rR rR rR rR rR (by omega) (by omega) (by omega)) rR ?_;rw[zxT hkt];refine zvs (l:=l) (v:=ckV b t k) rR rR (hr k (chunks_lt.2 hkt)) rR ?_ ?_;rotate_left
    · refine y_v (wo rR) rR ?_;refine zw0 ?_;refine wN rR ?_;exact ql (ckP b2 b3 b cap t++B) rfl (.inr rfl)
    show G _ _ _ (pt b2 (.cells #[sl (some ⟨b,0,none⟩) t.length cap] 199 (0,0))::pt b3 (.cells #[I 80] 3 (0,0))::roL 1 (some ⟨b,0,none⟩) (qs t)::A (k+1));refine y_v (wo rR) rR ?_;refine zw0 ?_;refine yS rR ?_;refine qh (qH (qp (gM rfl (g_v (qe (v:=I 80) isAgg3 rfl rfl) rfl (g_v (qu (r:=((80*(k+1):Nat):Int)) rfl rfl (by rw[show ((80*k:Nat):Int)+80=((80*(k+1):Nat):Int) by omega];exact w64 (by omega))) rfl (gA rfl (qb ?_)))))));exact qo (k+1) (chunks_lt.2 hkt) (by have:=chunks_lt.2 hkt;omega) [0,1,2,4] rfl rfl
  · simp at h9;obtain rfl:k=qZ t:=by
      rcases Nat.lt_or_ge k (qZ t) with h | h
      · have:=chunks_lt.1 h;omega
      · omega
    refine qz rR ?_;exact g_end (vs:=[]) rfl (.inl rfl)
def zr3 (T TT b:Nat)(φ:DiskM→Prop):HProp:=fun m=>∃D,φ D∧dsk T TT b D m
section
variable {c:Cx}{E:Env}{L F:List HProp}{K:List KI}{T TT b l:Nat}{Q:Post}{φ:DiskM→Prop}
theorem zkc {w0 w:World}(h:Sat w0 w (zr3 T TT b φ::F)):∃D,φ D∧Sat w0 w (dsk T TT b D::F):=by
  have h1:Sat w0 w (hex (fun D=>zrG (zc2 (φ D)) (dsk T TT b D))::F):=h.weak fun m ⟨D,h1,h2⟩=>⟨D,fun _=>none,m,(fun _ _ _ h=>nomatch h),(fun _ _ h=>nomatch h),Res.sub.refl m,h1,h2⟩;obtain ⟨D,h2⟩:=h1.ex;exact ⟨D,h2.star.pure_.1,h2.star.pure_.2⟩
theorem zxv [R:Rem L (zr3 T TT b φ) F](h:∀D,φ D→H c l Q K E (dsk T TT b D::F)):H c l Q K E L:=fun a w hE hS=>by
  obtain ⟨D,h1,h2⟩:=zkc (R.sat hS);exact h D h1 a w hE h2
theorem zyB [R:Rem L (zr3 T TT b φ) F](h:∀D,φ D→G c K E (dsk T TT b D::F)):G c K E L:=fun a w hE hS=>by
  obtain ⟨D,h1,h2⟩:=zkc (R.sat hS);exact h D h1 a w hE h2
theorem zve (D:DiskM)(hD:φ D)[R:Rem L (dsk T TT b D) F](h:H c l Q K E (zr3 T TT b φ::F)):H c l Q K E L:=fun a w hE hS=>h a w hE ((R.sat hS).weak fun m hm=>⟨D,hD,hm⟩)
theorem zuZ (D:DiskM)(hD:φ D)[R:Rem L (dsk T TT b D) F](h:G c K E (zr3 T TT b φ::F)):G c K E L:=fun a w hE hS=>h a w hE ((R.sat hS).weak fun m hm=>⟨D,hD,hm⟩)
end
theorem zjQ (h:HdM):(wq h).length=4:=rfl
theorem zpC (e:Int):one (yI e)=true:=by unfold yI zbP;split <;> rfl
theorem zbU (bs bd:Nat)(h:HdM)(bl:Nat)(s:Option Addr)(cap:Nat)(rows:List ChangeM)(N i used:Nat)(D:DiskM)(hok:okW N i D)(hi:i≤100000)(hS:S80 D)(hN0:196≤N∧N≤260)(hh:h.ep≤1000000∧h.side≤1∧1≤h.first∧h.first≤1000000000)(hl:rows.length≤80)(hrw:∀r∈rows,okR r)(F:List HProp):Ct Tryz.prog 129 [ptr bs 0] ([pt bs (.cells (stC bd h bl s (rows.length) cap) 180 (0,0)),pt bl (.cells (lgC bd 122 (N - 122) h.first (used)) 222 (0,0)),dsk 140 142 bd (D),roL 3 s (chR rows)]++F) (fun v L'=>∃e D1,we D (ckL (nxH h rows (N - 122)) (yu rows))=(e,D1)∧((e≠0∧v=yI e∧L'=pt bs (.cells (stC bd h bl s (rows.length) cap) 180 (0,0))::pt bl (.cells (lgC bd 122 (N - 122) h.first (used)) 222 (0,0))::dsk 140 142 bd (D1)::roL 3 s (chR rows)::F)∨(e=0∧∃bl' ds used',used'≤N - 122∧wb (h.first+(N - 122)) (zje D1 122) (N - 122) 0 [] [] 0=(ds,used')∧v=yI 0∧L'=pt bs (.cells (stC bd (nxH h rows (N - 122)) bl' s (rows.length) cap) 180 (0,0))::pt bl' (.cells (lgC bd 122 (N - 122) (h.first+(N - 122)) (used')) 222 (0,0))::dsk 140 142 bd (D1)::roL 3 s (chR rows)::F))):=by
  show Ct Tryz.prog 129 [ptr bs 0] (pt bs (.cells (stC bd h bl s (rows.length) cap) 180 (0,0))::pt bl (.cells (lgC bd 122 (N - 122) h.first (used)) 222 (0,0))::dsk 140 142 bd (D)::roL 3 s (chR rows)::F) _;refine Ct.of func129 rR 113 ntmps129 (by simp) fun w0=>?_;have hal:=zcF hrw;have hcs:qZ (yu rows)≤60:=(by unfold qZ;omega);have hckl:∀x∈ckL (nxH h rows (N - 122)) (yu rows),zco N x:=zuw (by show 2+(1 - h.side)*60+qZ (yu rows)≤N;omega);refine gS ?_;refine g_l (wM #[ptr bs 0] rfl rR) rR ?_;rintro _ _ ⟨b1,rfl,rfl⟩;refine g_l (zeN (.nilIface) zeroValue37 rR) rR ?_;rintro _ _ ⟨b2,rfl,rfl⟩;refine qb (gS (g_v (qe (v:=ptr bs 0) isAgg85 rR rR) rR (g_v (qc rR) rR (g_v (qa 6 underlying180 rR rR sizeOf34 (by decide) rR) rR (g_v (qe (v:=sl s rows.length cap) isAgg34 rR rR) rR ?_)))));refine g_l (qi (Pre:=[roL 3 s (chR rows)]) call175 rR (zkG rows s cap (by omega) hrw)) rR ?_;rintro _ _ ⟨rfl,rfl⟩;refine gA rR (qb (qf ?_));refine zkX (fun _:Nat=>True) (fun b4=>U [(1,ptr b1 0),(2,ptr b2 0),(3,Str (yu rows)),(4,ptr b4 0)]) (fun b4=>pt b4 (.cells (wq (nxH h rows (N - 122))).toArray 177 (0,0))::pt b2 (.cells #[.nilIface] 37 (0,0))::pt b1 (.cells #[ptr bs 0] 85 (0,0))::pt bs (.cells (stC bd h bl s (rows.length) cap) 180 (0,0))::pt bl (.cells (lgC bd 122 (N - 122) h.first (used)) 222 (0,0))::dsk 140 142 bd (D)::roL 3 s (chR rows)::F) ?_ ?_
  · refine zlG (Lf:=[pt b1 (.cells #[ptr bs 0] 85 (0,0)),pt bs (.cells (stC bd h bl s (rows.length) cap) 180 (0,0))]) (.q 0 (.q 1 (.q 2 (.q 3 (.q 4 (.q 5 (.q 6 (.q 7 (.q 8 (.q 9 (.q 10 (.q 11 (.q 12 (.q 13 (.q 14 (.q 15 (.q 16 (.q 17 (.alt (.l 18 (.q 19 (.l 20 (.l 21 (.nil))))) (.l 20 (.l 18 (.q 19 (.l 21 (.nil)))))))))))))))))))))))) (by kernel_rfl) (by kernel_rfl) (by kernel_rfl) ?_;refine t_v rR (qe (v:=ptr bs 0) isAgg85 rR rR) rR ?_;refine t_v rR (qc rR) rR ?_;refine t_v rR (qa 1 underlying180 rR rR sizeOf177 (by decide) rR) rR ?_;refine t_v rR (qa 0 underlying177 rR rR sizeOf3 (by decide) rR) rR ?_;refine t_v rR (qe (v:=I h.ep) isAgg3 rR rR) rR ?_;refine t_v rfl (qu (r:=((h.ep+1:Nat):Int)) rfl rfl (by rw[show (h.ep:Int)+(1:Int)=((h.ep+1:Nat):Int) by omega];exact w64 (by omega))) rfl ?_;refine t_v rR (qe (v:=ptr bs 0) isAgg85 rR rR) rR ?_;refine t_v rR (qc rR) rR ?_;refine t_v rR (qa 1 underlying180 rR rR sizeOf177 (by decide) rR) rR ?_;refine t_v rR (qa 1 underlying177 rR rR sizeOf3 (by decide) rR) rR ?_;refine t_v rR (qe (v:=I h.side) isAgg3 rR rR) rR ?_;refine t_v rfl (zch (r:=((1 - h.side:Nat):Int)) rfl rfl (by rw[show (1:Int) - (h.side:Int)=((1 - h.side:Nat):Int) by omega];exact w64 (by omega))) rfl ?_;refine t_v rR (qn rR) rR ?_;refine t_v rR (wg underlying9 rR) rR ?_;refine t_v rR (qe (v:=ptr bs 0) isAgg85 rR rR) rR ?_;refine t_v rR (qc rR) rR ?_;refine t_v rR (qa 5 underlying180 rR rR sizeOf178 (by decide) rR) rR ?_;refine t_v rR (qe (v:=ptr bl 0) isAgg178 rR rR) rR ?_;refine zh3 ?_ ?_
    · refine t_l rfl (qi (Pre:=[pt bl (.cells (lgC bd 122 (N - 122) h.first (used)) 222 (0,0))]) call176 rfl (zhU bl bd 122 (N - 122) h.first used ⟨by omega,by omega⟩)) rfl ?_;rintro _ _ ⟨rfl,rfl⟩;refine t_v rR (qS rR (wm _ rR _ rR _ rR _ rR)) rR ?_;refine t_l rR (qy #[I 0,I 0,I 0,I 0] zeroValue177) rR ?_;rintro _ _ ⟨b4,rfl,rfl⟩;refine zvQ rR (qq (cs:=#[I 0,I 0,I 0,I 0]) (vs:=wq (nxH h rows (N - 122))) (wq (nxH h rows (N - 122))).toArray sizeOf177 rR rR rR rR (by decide) (qC (zjQ _))) ?_;rintro _ _ rfl;refine zfv ?_;exact zaM b4 trivial [1,2,3,4] rfl rfl
    · refine t_l rR (qy #[I 0,I 0,I 0,I 0] zeroValue177) rR ?_;rintro _ _ ⟨b4,rfl,rfl⟩;refine t_l rfl (qi (Pre:=[pt bl (.cells (lgC bd 122 (N - 122) h.first (used)) 222 (0,0))]) call176 rfl (zhU bl bd 122 (N - 122) h.first used ⟨by omega,by omega⟩)) rfl ?_;rintro _ _ ⟨rfl,rfl⟩;refine t_v rR (qS rR (wm _ rR _ rR _ rR _ rR)) rR ?_;refine zvQ rR (qq (cs:=#[I 0,I 0,I 0,I 0]) (vs:=wq (nxH h rows (N - 122))) (wq (nxH h rows (N - 122))).toArray sizeOf177 rR rR rR rR (by decide) (qC (zjQ _))) ?_;rintro _ _ rfl;refine zfv ?_;exact zaM b4 trivial [1,2,3,4] rfl rfl
  intro b4 _;refine gS ?_;refine g_l (zeN (I 0) zeroValue3 rR) rR ?_;rintro _ _ ⟨b5,rfl,rfl⟩;refine ym (qI #[I ((0:Nat):Int)] sizeOf3 rR rR rR (by decide) rR) ?_;rintro _ _ rfl;refine qb (qf (gS (gM rR ?_)));refine g_l (zoS underlying9 underlying199 underlying5 rR) rR ?_;rintro _ _ ⟨b37,c37,rfl,hc37,rfl⟩;refine g_l (qi (Pre:=[]) call177 rR (zsc (some ⟨b37,0,none⟩) (yu rows).length c37)) rR ?_;rintro _ _ ⟨b38,d38,rfl,rfl⟩;refine qb (qk ?_);obtain ⟨eN,DN,hN⟩:∃e X,we D (ckW (1 - h.side) (yu rows) 0 ((qZ (yu rows))))=(e,X):=⟨_,_,rfl⟩;refine zuZ (T:=140) (TT:=142) (b:=bd) (φ:=fun X=>we D (ckW (1 - h.side) (yu rows) 0 (0))=(0,X)) D rR ?_;refine zcj (L2:=pt b38 (.cells #[sl (some ⟨b37,0,none⟩) (yu rows).length c37] 199 (0,0))::pt d38 (.cells #[I 80] 3 (0,0))::roL 1 (some ⟨b37,0,none⟩) (qs (yu rows))::zr3 140 142 bd (fun X=>we D (ckW (1 - h.side) (yu rows) 0 (0))=(0,X))::pt b5 (.cells #[I ((0:Nat):Int)] 3 (0,0))::pt b2 (.cells #[.nilIface] 37 (0,0))::pt b1 (.cells #[ptr bs 0] 85 (0,0))::pt b4 (.cells (wq (nxH h rows (N - 122))).toArray 177 (0,0))::pt bs (.cells (stC bd h bl s (rows.length) cap) 180 (0,0))::pt bl (.cells (lgC bd 122 (N - 122) h.first (used)) 222 (0,0))::roL 3 s (chR rows)::F) ?_;refine zlX (Pre:=[pt b38 (.cells #[sl (some ⟨b37,0,none⟩) (yu rows).length c37] 199 (0,0)),pt d38 (.cells #[I 80] 3 (0,0)),roL 1 (some ⟨b37,0,none⟩) (qs (yu rows))]) (A:=fun k=>zr3 140 142 bd (fun X=>we D (ckW (1 - h.side) (yu rows) 0 (k))=(0,X))::pt b5 (.cells #[I ((k:Nat):Int)] 3 (0,0))::pt b2 (.cells #[.nilIface] 37 (0,0))::pt b1 (.cells #[ptr bs 0] 85 (0,0))::pt b4 (.cells (wq (nxH h rows (N - 122))).toArray 177 (0,0))::pt bs (.cells (stC bd h bl s (rows.length) cap) 180 (0,0))::pt bl (.cells (lgC bd 122 (N - 122) h.first (used)) 222 (0,0))::roL 3 s (chR rows)::F) (B:=zc2 (eN≠0)::dsk 140 142 bd (DN)::pt b2 (.cells #[yI eN] 37 (0,0))::pt b1 (.cells #[ptr bs 0] 85 (0,0))::pt b4 (.cells (wq (nxH h rows (N - 122))).toArray 177 (0,0))::pt bs (.cells (stC bd h bl s (rows.length) cap) 180 (0,0))::pt bl (.cells (lgC bd 122 (N - 122) h.first (used)) 222 (0,0))::roL 3 s (chR rows)::F) (N:=(qZ (yu rows))) (v:=ckV b37 (yu rows)) (cap:=[ptr b38 0,ptr d38 0]) rfl rfl rfl call202 (fun l A' B' hr w hw=>zpA b38 d38 b37 c37 l (yu rows) _ A' B' hc37 (by omega) hr w hw) rfl (fun l k a w hE=>has1 hE rfl) ?_ ?_ ?_
  · intro l D' O k hk;show H _ _ (zsD _ (pt b38 (.cells #[sl (some ⟨b37,0,none⟩) (yu rows).length c37] 199 (0,0))::pt d38 (.cells #[I 80] 3 (0,0))::roL 1 (some ⟨b37,0,none⟩) (qs (yu rows))::pt l O::pt D' dO::zr3 140 142 bd (fun X=>we D (ckW (1 - h.side) (yu rows) 0 ((k+1)))=(0,X))::pt b5 (.cells #[I (((k+1):Nat):Int)] 3 (0,0))::pt b2 (.cells #[.nilIface] 37 (0,0))::pt b1 (.cells #[ptr bs 0] 85 (0,0))::pt b4 (.cells (wq (nxH h rows (N - 122))).toArray 177 (0,0))::pt bs (.cells (stC bd h bl s (rows.length) cap) 180 (0,0))::pt bl (.cells (lgC bd 122 (N - 122) h.first (used)) 222 (0,0))::roL 3 s (chR rows)::F) (pt b38 (.cells #[sl (some ⟨b37,0,none⟩) (yu rows).length c37] 199 (0,0))::pt d38 (.cells #[I 80] 3 (0,0))::roL 1 (some ⟨b37,0,none⟩) (qs (yu rows))::pt l O::pt D' dO::zc2 (eN≠0)::dsk 140 142 bd (DN)::pt b2 (.cells #[yI eN] 37 (0,0))::pt b1 (.cells #[ptr bs 0] 85 (0,0))::pt b4 (.cells (wq (nxH h rows (N - 122))).toArray 177 (0,0))::pt bs (.cells (stC bd h bl s (rows.length) cap) 180 (0,0))::pt bl (.cells (lgC bd 122 (N - 122) h.first (used)) 222 (0,0))::roL 3 s (chR rows)::F)) _ _ (pt b38 (.cells #[sl (some ⟨b37,0,none⟩) (yu rows).length c37] 199 (0,0))::pt d38 (.cells #[I 80] 3 (0,0))::roL 1 (some ⟨b37,0,none⟩) (qs (yu rows))::pt l O::pt D' dO::zr3 140 142 bd (fun X=>we D (ckW (1 - h.side) (yu rows) 0 (k))=(0,X))::pt b5 (.cells #[I ((k:Nat):Int)] 3 (0,0))::pt b2 (.cells #[.nilIface] 37 (0,0))::pt b1 (.cells #[ptr bs 0] 85 (0,0))::pt b4 (.cells (wq (nxH h rows (N - 122))).toArray 177 (0,0))::pt bs (.cells (stC bd h bl s (rows.length) cap) 180 (0,0))::pt bl (.cells (lgC bd 122 (N - 122) h.first (used)) 222 (0,0))::roL 3 s (chR rows)::F);refine zxv (T:=140) (TT:=142) (b:=bd) (φ:=fun X=>we D (ckW (1 - h.side) (yu rows) 0 (k))=(0,X)) ?_;intro Dk hDk;have hokk:=za7 (ckW (1 - h.side) (yu rows) 0 (k)) i D hok;rw[hDk,zjF] at hokk;simp only at hokk;have hckl1:=zlf (yu rows) k;refine zxN (m:=80*k) (n:=80) (t:=(yu rows)) (b:=b37) ?_;rw[show (List.drop (80*k) (yu rows)).take 80=wz (yu rows) k from rfl];refine zu5 ?_;refine zr6 ?_;refine zxr (Lf:=[pt b1 (.cells #[ptr bs 0] 85 (0,0)),pt b4 (.cells (wq (nxH h rows (N - 122))).toArray 177 (0,0)),pt b5 (.cells #[I ((k:Nat):Int)] 3 (0,0)),pt bs (.cells (stC bd h bl s (rows.length) cap) 180 (0,0)),roL 1 (some ⟨b37,80*k,none⟩) (qs (wz (yu rows) k))]) [(0,false),(1,false),(2,false),(3,false),(4,false),(5,false),(6,false),(7,false),(8,false),(9,false),(10,false),(11,false),(12,true),(13,false)] (α:=Unit) (fun _=>True) (fun _=>U [(2,ptr b2 0),(5,ptr b5 0),(7,yI (yO Dk ((2+(1 - h.side)*60+k:Nat):Int) (wz (yu rows) k)))]) (fun _=>pt b38 (.cells #[sl (some ⟨b37,0,none⟩) (yu rows).length c37] 199 (0,0))::pt d38 (.cells #[I 80] 3 (0,0))::roL 1 (some ⟨b37,0,none⟩) (qs (yu rows))::pt l O::pt D' dO::dsk 140 142 bd ((yv Dk ((2+(1 - h.side)*60+k:Nat):Int) (wz (yu rows) k)))::pt b5 (.cells #[I ((k:Nat):Int)] 3 (0,0))::pt b2 (.cells #[.nilIface] 37 (0,0))::pt b1 (.cells #[ptr bs 0] 85 (0,0))::pt b4 (.cells (wq (nxH h rows (N - 122))).toArray 177 (0,0))::pt bs (.cells (stC bd h bl s (rows.length) cap) 180 (0,0))::pt bl (.cells (lgC bd 122 (N - 122) h.first (used)) 222 (0,0))::roL 3 s (chR rows)::F) (by kernel_rfl) (by kernel_rfl) rfl (by kernel_rfl) (by kernel_rfl) ?_ ?_
    · refine d_v rfl (qe (v:=ptr bs 0) isAgg85 rfl rfl) rfl (d_v rfl (qc rfl) rfl (d_v rfl (qa 0 underlying180 rfl rfl sizeOf25 (by decide) rfl) rfl (d_v rfl (qe (v:=ptr bd 0) isAgg25 rfl rfl) rfl (d_v rfl (qa 1 underlying177 rfl rfl sizeOf3 (by decide) rfl) rfl (d_v rfl (qe (v:=I (((1 - h.side):Nat):Int)) isAgg3 rfl rfl) rfl (d_v rfl (zdj (r:=(((1 - h.side)*60:Nat):Int)) rfl rfl (by rw[show ((((1 - h.side):Nat):Int):Int)*(60:Int)=(((1 - h.side)*60:Nat):Int) by omega];exact w64 (by omega))) rfl (d_v rfl (qu (r:=((2+(1 - h.side)*60:Nat):Int)) rfl rfl (by rw[show (2:Int)+((((1 - h.side)*60:Nat):Int):Int)=((2+(1 - h.side)*60:Nat):Int) by omega];exact w64 (by omega))) rfl (d_v rfl (qe (v:=I (k:Int)) isAgg3 rfl rfl) rfl (d_v rfl (qu (r:=((2+(1 - h.side)*60+k:Nat):Int)) rfl rfl (by rw[show (((2+(1 - h.side)*60:Nat):Int):Int)+(k:Int)=((2+(1 - h.side)*60+k:Nat):Int) by omega];exact w64 (by omega))) rfl (dM rfl rfl rfl (d_v rfl (yM (l:=wz (yu rows) k) underlying199 underlying5 underlying9 rfl rfl rfl) rfl ?_)))))))))));refine d_l rR (qi (Pre:=[dsk 140 142 bd (Dk)]) call136 rR (wv bd Dk ((2+(1 - h.side)*60+k:Nat):Int) (wz (yu rows) k) hokk.2.2.1 (by have:=hokk.2.2.2.2;omega))) rR ?_;rintro _ _ ⟨rfl,rfl⟩;refine d_v rR (qx rR) rR ?_;refine yb ?_;exact zaM () trivial [2,5,7] rfl rfl
    intro _ _;obtain ⟨e1,he1⟩:∃e,yO Dk ((2+(1 - h.side)*60+k:Nat):Int) (wz (yu rows) k)=e:=⟨_,rfl⟩;obtain ⟨D1,hD1⟩:∃X,yv Dk ((2+(1 - h.side)*60+k:Nat):Int) (wz (yu rows) k)=X:=⟨_,rfl⟩;rw[he1,hD1];have hsn:we D (ckW (1 - h.side) (yu rows) 0 (k+1))=(e1,D1):=by
      rw[znj,Nat.zero_add,zbD hDk,←he1,←hD1]
      rfl
    refine zr6 ?_;refine zr6 ?_;refine zvA (α:=Unit) (fun _=>True) (fun _=>U [(2,ptr b2 0),(5,ptr b5 0),(7,yI e1),(54,Bo (!decide (e1=0)))]) (fun _=>pt b38 (.cells #[sl (some ⟨b37,0,none⟩) (yu rows).length c37] 199 (0,0))::pt d38 (.cells #[I 80] 3 (0,0))::roL 1 (some ⟨b37,0,none⟩) (qs (yu rows))::pt l O::pt D' dO::dsk 140 142 bd (D1)::pt b5 (.cells #[I ((k:Nat):Int)] 3 (0,0))::pt b2 (.cells #[.nilIface] 37 (0,0))::pt b1 (.cells #[ptr bs 0] 85 (0,0))::pt b4 (.cells (wq (nxH h rows (N - 122))).toArray 177 (0,0))::pt bs (.cells (stC bd h bl s (rows.length) cap) 180 (0,0))::pt bl (.cells (lgC bd 122 (N - 122) h.first (used)) 222 (0,0))::roL 3 s (chR rows)::F) (by kernel_rfl) ?_ ?_
    · refine gM rR (g_v (yc underlying37 rR) rR (qb ?_));exact zaM () trivial [2,5,7,54] rfl rfl
    intro _ _;refine zxF rR (fun h54=>?_) (fun h54=>?_)
    · have h54':e1≠0:=(by simpa using h54);have hNe:we D (ckW (1 - h.side) (yu rows) 0 ((qZ (yu rows))))=(e1,D1):=by
        rw[show qZ (yu rows)=(k+1)+(qZ (yu rows) - (k+1)) by omega,zqc];exact zbH hsn h54'
      rw[hN] at hNe;injection hNe with hq1 hq2;obtain rfl:eN=e1:=hq1;obtain rfl:DN=D1:=hq2;refine zr6 ?_;refine zvA (α:=Unit) (fun _=>True) (fun _=>U []) (fun _=>pt b38 (.cells #[sl (some ⟨b37,0,none⟩) (yu rows).length c37] 199 (0,0))::pt d38 (.cells #[I 80] 3 (0,0))::roL 1 (some ⟨b37,0,none⟩) (qs (yu rows))::pt l O::pt D' dO::dsk 140 142 bd (DN)::pt b5 (.cells #[I ((k:Nat):Int)] 3 (0,0))::pt b2 (.cells #[yI eN] 37 (0,0))::pt b1 (.cells #[ptr bs 0] 85 (0,0))::pt b4 (.cells (wq (nxH h rows (N - 122))).toArray 177 (0,0))::pt bs (.cells (stC bd h bl s (rows.length) cap) 180 (0,0))::pt bl (.cells (lgC bd 122 (N - 122) h.first (used)) 222 (0,0))::roL 3 s (chR rows)::F) (by kernel_rfl) ?_ ?_
      · refine gM rR ?_;refine ym (qI #[yI eN] sizeOf37 rR rR (zpC _) (by simp) rR) ?_;rintro _ _ rfl;refine qb ?_;exact zaM () trivial [] rfl rfl
      intro _ _;refine zqa (φ:=eN≠0) h54' ?_;exact h_ret
    · have h54':e1=0:=(by simpa using h54);refine zyC ?_;refine zvA (α:=Unit) (fun _=>True) (fun _=>U []) (fun _=>pt b38 (.cells #[sl (some ⟨b37,0,none⟩) (yu rows).length c37] 199 (0,0))::pt d38 (.cells #[I 80] 3 (0,0))::roL 1 (some ⟨b37,0,none⟩) (qs (yu rows))::pt l O::pt D' dO::dsk 140 142 bd (D1)::pt b5 (.cells #[I (((k+1):Nat):Int)] 3 (0,0))::pt b2 (.cells #[.nilIface] 37 (0,0))::pt b1 (.cells #[ptr bs 0] 85 (0,0))::pt b4 (.cells (wq (nxH h rows (N - 122))).toArray 177 (0,0))::pt bs (.cells (stC bd h bl s (rows.length) cap) 180 (0,0))::pt bl (.cells (lgC bd 122 (N - 122) h.first (used)) 222 (0,0))::roL 3 s (chR rows)::F) (by kernel_rfl) ?_ ?_
      · refine g_v (qe (v:=I (k:Int)) isAgg3 rfl rfl) rfl (g_v (qu (r:=((k+1:Nat):Int)) rfl rfl (by rw[show (k:Int)+(1:Int)=((k+1:Nat):Int) by omega];exact w64 (by omega))) rfl ?_);refine ym (qI #[I ((k+1:Nat):Int)] sizeOf3 rR rR rR (by simp) rR) ?_;rintro _ _ rfl;refine qb ?_;exact zaM () trivial [] rfl rfl
      intro _ _;refine h_blk ?_;refine zve (T:=140) (TT:=142) (b:=bd) (φ:=fun X=>we D (ckW (1 - h.side) (yu rows) 0 ((k+1)))=(0,X)) D1 (by rw[hsn,h54']) ?_;exact h_end
  rotate_left
  · intro D';show G _ _ _ (pt D' dO::pt b38 (.cells #[sl (some ⟨b37,0,none⟩) (yu rows).length c37] 199 (0,0))::pt d38 (.cells #[I 80] 3 (0,0))::roL 1 (some ⟨b37,0,none⟩) (qs (yu rows))::zc2 (eN≠0)::dsk 140 142 bd (DN)::pt b2 (.cells #[yI eN] 37 (0,0))::pt b1 (.cells #[ptr bs 0] 85 (0,0))::pt b4 (.cells (wq (nxH h rows (N - 122))).toArray 177 (0,0))::pt bs (.cells (stC bd h bl s (rows.length) cap) 180 (0,0))::pt bl (.cells (lgC bd 122 (N - 122) h.first (used)) 222 (0,0))::roL 3 s (chR rows)::F);refine zvy (φ:=eN≠0) ?_;intro hne;exact zpw (b:=b2) (o:=0) (v:=yI eN) (Lf:=pt bs (.cells (stC bd h bl s (rows.length) cap) 180 (0,0))::pt bl (.cells (lgC bd 122 (N - 122) h.first (used)) 222 (0,0))::dsk 140 142 bd (DN)::roL 3 s (chR rows)::F) rfl rfl rfl isAgg37 rfl ⟨eN,DN,zbH hN hne, .inl ⟨hne,rfl,rfl⟩⟩
  intro D';show G _ _ _ (pt D' dO::pt b38 (.cells #[sl (some ⟨b37,0,none⟩) (yu rows).length c37] 199 (0,0))::pt d38 (.cells #[I 80] 3 (0,0))::roL 1 (some ⟨b37,0,none⟩) (qs (yu rows))::zr3 140 142 bd (fun X=>we D (ckW (1 - h.side) (yu rows) 0 ((qZ (yu rows))))=(0,X))::pt b5 (.cells #[I (((qZ (yu rows)):Nat):Int)] 3 (0,0))::pt b2 (.cells #[.nilIface] 37 (0,0))::pt b1 (.cells #[ptr bs 0] 85 (0,0))::pt b4 (.cells (wq (nxH h rows (N - 122))).toArray 177 (0,0))::pt bs (.cells (stC bd h bl s (rows.length) cap) 180 (0,0))::pt bl (.cells (lgC bd 122 (N - 122) h.first (used)) 222 (0,0))::roL 3 s (chR rows)::F);refine zyB (T:=140) (TT:=142) (b:=bd) (φ:=fun X=>we D (ckW (1 - h.side) (yu rows) 0 ((qZ (yu rows))))=(0,X)) ?_;intro D1 hD1;rw[hN] at hD1;injection hD1 with hq1 hq2;subst hq1;obtain rfl:DN=D1:=hq2;have hokN:=za7 (ckW (1 - h.side) (yu rows) 0 ((qZ (yu rows)))) i D hok;rw[hN,zjF] at hokN;simp only at hokN;refine qH (gS (g_v (qe (v:=ptr bs 0) isAgg85 rR rR) rR (g_v (qc rR) rR (g_v (qa 0 underlying180 rR rR sizeOf25 (by decide) rR) rR (g_v (qe (v:=ptr bd 0) isAgg25 rR rR) rR ?_)))));refine g_l (qi (Pre:=[dsk 140 142 bd (DN)]) call137 rR (zas bd DN hokN.2.2.1 (by rw[hokN.1,hokN.2.1]) (by rw[hokN.2.1];omega))) rR ?_;rintro _ _ ⟨rfl,rfl⟩;refine gA rR (qb (qf (gS (gM rR (g_v (wD underlying37 rR) rR (qb ?_))))));refine zkX (α:=Int×DiskM) (fun z=>we DN [none,some ((h.ep+1) % 2,wd (nxH h rows (N - 122)))]=z) (fun z=>U [(1,ptr b1 0),(2,ptr b2 0),(4,ptr b4 0),(8,yI z.1)]) (fun z=>pt D' dO::dsk 140 142 bd (z.2)::pt b2 (.cells #[.nilIface] 37 (0,0))::pt b1 (.cells #[ptr bs 0] 85 (0,0))::pt b4 (.cells (wq (nxH h rows (N - 122))).toArray 177 (0,0))::pt bs (.cells (stC bd h bl s (rows.length) cap) 180 (0,0))::pt bl (.cells (lgC bd 122 (N - 122) h.first (used)) 222 (0,0))::roL 3 s (chR rows)::F) ?_ ?_
  · refine qg rR (fun h64=>?_) (fun h64=>?_)
    · have hs0:yU DN=0:=(by simpa using h64);have hokF:okW N (i+qZ (yu rows)+1) (yw DN):=ze1 hokN;refine yx (Lf:=[pt b1 (.cells #[ptr bs 0] 85 (0,0)),pt b4 (.cells (wq (nxH h rows (N - 122))).toArray 177 (0,0)),pt bs (.cells (stC bd h bl s (rows.length) cap) 180 (0,0))]) [(0,false),(1,false),(2,false),(3,false),(4,false),(5,false),(6,false),(7,false),(8,true),(9,true),(10,false)] (by kernel_rfl) (by kernel_rfl) rR (by kernel_rfl) ?_;refine d_v rR (qe (v:=ptr bs 0) isAgg85 rR rR) rR (d_v rR (qc rR) rR (d_v rR (qa 0 underlying180 rR rR sizeOf25 (by decide) rR) rR (d_v rR (qe (v:=ptr bd 0) isAgg25 rR rR) rR (d_v rR (qa 0 underlying177 rR rR sizeOf3 (by decide) rR) rR (d_v rR (qe (v:=I ((h.ep+1:Nat):Int)) isAgg3 rR rR) rR (d_v rR (zsG (r:=(((h.ep+1) % 2:Nat):Int)) rR rR (by decide) rR) rR (d_v rR (qG (vs:=wq (nxH h rows (N - 122))) isAgg177 sizeOf177 rR rR qO) rR ?_)))))));refine d_l rR (qi (Pre:=[]) call138 rR (zeF (nxH h rows (N - 122)))) rR ?_;rintro _ _ ⟨rfl,rfl⟩;refine d_l rR (qi (Pre:=[dsk 140 142 bd (yw DN)]) call136 rR (wv bd (yw DN) (((h.ep+1) % 2:Nat):Int) (wd (nxH h rows (N - 122))) hokF.2.2.1 (by have:=hokF.2.2.2.2;omega))) rR ?_;rintro _ _ ⟨rfl,rfl⟩;refine d_v rR (qx rR) rR ?_;refine yb ?_;exact zaM (yO (yw DN) (((h.ep+1) % 2:Nat):Int) (wd (nxH h rows (N - 122))),yv (yw DN) (((h.ep+1) % 2:Nat):Int) (wd (nxH h rows (N - 122)))) (by rw[zdu hs0];exact zbD (l:=[]) rfl) [1,2,4,8] rfl rfl
    · have hs0:¬yU DN=0:=(by simpa using h64);refine qh ?_;exact zaM (yU DN,yw DN) (zcR hs0) [1,2,4,8] rfl rfl
  rintro ⟨e2,D2⟩ h2;simp only at h2 ⊢;have hok2:=za7 [none,some ((h.ep+1) % 2,wd (nxH h rows (N - 122)))] _ DN hokN;rw[h2] at hok2;simp only[List.length_cons,List.length_nil] at hok2;refine qf (gS (gM rR (g_v (wD underlying37 rR) rR (qb ?_))));refine zkX (α:=Int×DiskM) (fun z=>we DN [none,some ((h.ep+1) % 2,wd (nxH h rows (N - 122))),none]=z∧(z.1=0→z.2.down=false)) (fun z=>U [(1,ptr b1 0),(2,ptr b2 0),(4,ptr b4 0),(8,yI z.1)]) (fun z=>pt D' dO::dsk 140 142 bd (z.2)::pt b2 (.cells #[.nilIface] 37 (0,0))::pt b1 (.cells #[ptr bs 0] 85 (0,0))::pt b4 (.cells (wq (nxH h rows (N - 122))).toArray 177 (0,0))::pt bs (.cells (stC bd h bl s (rows.length) cap) 180 (0,0))::pt bl (.cells (lgC bd 122 (N - 122) h.first (used)) 222 (0,0))::roL 3 s (chR rows)::F) ?_ ?_
  · refine qg rR (fun h76=>?_) (fun h76=>?_)
    · have h76':e2=0:=(by simpa using h76);refine qp (g_v (qe (v:=ptr bs 0) isAgg85 rR rR) rR (g_v (qc rR) rR (g_v (qa 0 underlying180 rR rR sizeOf25 (by decide) rR) rR (g_v (qe (v:=ptr bd 0) isAgg25 rR rR) rR ?_))));refine g_l (qi (Pre:=[dsk 140 142 bd (D2)]) call137 rR (zas bd D2 hok2.2.2.1 (by rw[hok2.1,hok2.2.1]) (by rw[hok2.2.1];omega))) rR ?_;rintro _ _ ⟨rfl,rfl⟩;refine gA rR (qb ?_);exact zaM (yU D2,yw D2) ⟨zbD (l:=[none,some ((h.ep+1) % 2,wd (nxH h rows (N - 122)))]) (x:=none) (by rw[h2,h76']),fun h=>(zbL h).1.2.2⟩ [1,2,4,8] rfl rfl
    · have h76':¬e2=0:=(by simpa using h76);refine qh ?_;exact zaM (e2,D2) ⟨zbH (l:=[none,some ((h.ep+1) % 2,wd (nxH h rows (N - 122)))]) (r:=[none]) h2 h76',fun h=>absurd h h76'⟩ [1,2,4,8] rfl rfl
  rintro ⟨e3,D3⟩ ⟨h3,hdn3⟩;simp only at h3 hdn3 ⊢;have hall:we D (ckL (nxH h rows (N - 122)) (yu rows))=(e3,D3):=(zuA hN).trans h3;have hok3:=za7 (ckL (nxH h rows (N - 122)) (yu rows)) i D hok;rw[hall] at hok3;simp only at hok3;have hS3:=zei (ckL (nxH h rows (N - 122)) (yu rows)) D hS hckl;rw[hall] at hS3;simp only at hS3;refine qf (gS (gM rR (g_v (yc underlying37 rR) rR (qb ?_))));refine qg rR (fun h83=>?_) (fun h83=>?_)
  · have h83':e3≠0:=(by simpa using h83);refine gS (gM rR ?_);refine ym (qI #[yI e3] sizeOf37 rR rR (zpC _) (by decide) rR) ?_;rintro _ _ rfl;refine qb ?_;exact zpw (b:=b2) (o:=0) (v:=yI e3) (Lf:=pt bs (.cells (stC bd h bl s (rows.length) cap) 180 (0,0))::pt bl (.cells (lgC bd 122 (N - 122) h.first (used)) 222 (0,0))::dsk 140 142 bd (D3)::roL 3 s (chR rows)::F) rfl rfl rfl isAgg37 rfl ⟨e3,D3,hall, .inl ⟨h83',rfl,rfl⟩⟩
  · have h83':e3=0:=(by simpa using h83);subst h83'
    replace hdn3:=hdn3 rfl
    refine qh (qf ?_);refine yx (Lf:=[pt b1 (.cells #[ptr bs 0] 85 (0,0)),pt b4 (.cells (wq (nxH h rows (N - 122))).toArray 177 (0,0)),pt bs (.cells (stC bd h bl s (rows.length) cap) 180 (0,0))]) [(0,false),(1,false),(2,false),(3,false),(4,false),(5,false),(6,false),(7,false),(10,false),(11,false),(8,true),(9,false),(12,true),(13,false),(14,false),(15,false),(16,false),(17,false),(18,false),(19,false)] (by kernel_rfl) (by kernel_rfl) rR (by kernel_rfl) ?_;refine d_v rfl (qe (v:=ptr bs 0) isAgg85 rfl rfl) rfl (d_v rfl (qc rfl) rfl (d_v rfl (qa 0 underlying180 rfl rfl sizeOf25 (by decide) rfl) rfl (d_v rfl (qe (v:=ptr bd 0) isAgg25 rfl rfl) rfl (d_v rfl (qe (v:=ptr bs 0) isAgg85 rfl rfl) rfl (d_v rfl (qc rfl) rfl (d_v rfl (qa 0 underlying180 rfl rfl sizeOf25 (by decide) rfl) rfl (d_v rfl (qe (v:=ptr bd 0) isAgg25 rfl rfl) rfl (d_v rfl (qa 3 underlying177 rfl rfl sizeOf3 (by decide) rfl) rfl (d_v rfl (qe (v:=I ((h.first+(N - 122):Nat):Int)) isAgg3 rfl rfl) rfl ?_)))))))));refine d_l rR (qi (Pre:=[dsk 140 142 bd (D3)]) (R:=fun F=>R1 (I (D3.now.length:Int)) (dsk 140 142 bd (D3)::F)) call102 rR (yV bd D3)) rR ?_;rintro _ _ ⟨rfl,rfl⟩;refine d_v rfl (zch (r:=((N - 122:Nat):Int)) rfl rfl (by rw[hok3.2.1,show (N:Int) - 122=((N - 122:Nat):Int) by omega];exact w64 (by omega))) rfl ?_;refine d_l rfl (qi (Pre:=[dsk 140 142 bd (D3)]) call106 rfl (zhE bd D3 122 ((N - 122:Nat):Int) ((h.first+(N - 122):Nat):Int) hS3.2.1 ⟨by rw[hok3.2.1];omega,by omega⟩)) rfl ?_;rintro _ _ (⟨hbad,_,_⟩ | ⟨_,hdn,_,_⟩ | ⟨_,_,bl',gl,so,co,used',rfl,hul,_,hsc,rfl⟩)
    · exfalso;unfold zq7 at hbad;rw[hok3.2.1] at hbad;omega
    · rw[hdn3] at hdn;cases hdn
    rw[show lgC bd ((122:Int)).toNat ((N - 122:Nat):Int).toNat ((h.first+(N - 122):Nat):Int).toNat used'=lgC bd 122 (N - 122) (h.first+(N - 122)) used' from rfl]
    replace hul:used'≤N - 122:=hul
    replace hsc:wb (h.first+(N - 122)) (zje D3 122) (N - 122) 0 [] [] 0=(gl.map (·.1),used'):=hsc
    refine dM rR rR rR (d_v rR (qd (v:=ptr bl' 0) rR rR) rR (d_v rR (qd (v:=sl so gl.length co) rR rR) rR (d_v rR (qd (v:=yI 0) rR rR) rR (d_v rR (qx rR) rR (d_v rR (qx rR) rR (d_v rR (qx rR) rR ?_))))));refine yb ?_;refine qf (gS (gM rR (g_v (wD underlying37 rR) rR (qb ?_))));refine wN rR ?_;refine yx (Lf:=[pt b1 (.cells #[ptr bs 0] 85 (0,0)),pt b4 (.cells (wq (nxH h rows (N - 122))).toArray 177 (0,0))]) [(0,false),(1,false),(2,false),(3,false),(4,false),(5,false),(6,true),(7,false),(8,false),(9,true)] (by kernel_rfl) (by kernel_rfl) rR (by kernel_rfl) ?_;refine d_v rR (qe (v:=ptr bs 0) isAgg85 rR rR) rR (d_v rR (qe (v:=ptr bs 0) isAgg85 rR rR) rR (d_v rR (qG (vs:=wq (nxH h rows (N - 122))) isAgg177 sizeOf177 rR rR qO) rR (dM rR rR rR (d_v rR (qc rR) rR (d_v rR (qa 1 underlying180 rR rR sizeOf177 (by decide) rR) rR ?_)))));refine zoK rR (qq (cs:=stC bd h bl s rows.length cap) (vs:=wq (nxH h rows (N - 122))) (stC bd (nxH h rows (N - 122)) bl s rows.length cap) sizeOf177 rR rR rR rR (by simp) rR) ?_;rintro _ _ rfl;refine d_v rR (qc rR) rR (d_v rR (qa 5 underlying180 rR rR sizeOf178 (by decide) rR) rR ?_);refine zoK rR (qI (stC bd (nxH h rows (N - 122)) bl' s rows.length cap) sizeOf178 rR rR rR (by simp) rR) ?_;rintro _ _ rfl;refine yb ?_;refine gS (gM rR ?_);refine ym (qI #[yI 0] sizeOf37 rR rR rR (by decide) rR) ?_;rintro _ _ rfl;refine qb ?_;exact zpw (b:=b2) (o:=0) (v:=yI 0) (Lf:=pt bs (.cells (stC bd (nxH h rows (N - 122)) bl' s (rows.length) cap) 180 (0,0))::pt bl' (.cells (lgC bd 122 (N - 122) (h.first+(N - 122)) (used')) 222 (0,0))::dsk 140 142 bd (D3)::roL 3 s (chR rows)::F) rfl rfl rfl isAgg37 rfl ⟨0,D3,hall, .inr ⟨rfl,bl',gl.map (·.1),used',hul,hsc,rfl,rfl⟩⟩
theorem zmR {many:Nat}{rows c:List ChangeM}(h:72<c.length):cmV many rows c=2:=by unfold cmV;rw[if_pos h]
theorem zpY {many:Nat}{rows c:List ChangeM}(h:c.length≤72)(hf:zej c≠0):cmV many rows c=zej c:=by unfold cmV;rw[if_neg (by omega),if_pos hf]
theorem zmY {many:Nat}{rows c:List ChangeM}(h:c.length≤72)(hf:zej c=0)(hb:80<(zaJ rows c).length∨many<c.length+1):cmV many rows c=8:=by unfold cmV;rw[if_neg (by omega),if_neg (by simpa using hf),if_pos hb]
theorem zyH {many:Nat}{rows c:List ChangeM}(h:c.length≤72)(hf:zej c=0)(hb:¬(80<(zaJ rows c).length∨many<c.length+1)):cmV many rows c=0:=by unfold cmV;rw[if_neg (by omega),if_neg (by simpa using hf),if_neg hb]
theorem zdh (bs bd:Nat)(h:HdM)(bl:Nat)(s:Option Addr)(cap:Nat)(rows:List ChangeM)(N i used:Nat)(D:DiskM)(hok:okW N i D)(hi:i≤100000)(hS:S80 D)(hN0:196≤N∧N≤260)(hh:h.ep≤1000000∧h.side≤1∧1≤h.first∧h.first≤1000000000)(hl:rows.length≤80)(hrw:∀r∈rows,okR r)(hu:used≤N - 122)(hs:srt rows)(c:List ChangeM)(s':Option Addr)(cap':Nat)(hcl:c.length≤9223372036854775807)(F:List HProp):Ct Tryz.prog 81 [ptr bs 0,sl s' c.length cap'] ([pt bs (.cells (stC bd h bl s (rows.length) cap) 180 (0,0)),pt bl (.cells (lgC bd 122 (N - 122) h.first (used)) 222 (0,0)),dsk 140 142 bd (D),roL 3 s (chR rows),roL 3 s' (chR c)]++F) (fun v L'=>∃e D2 h2 used2 rows2 bl2 s2 cap2,ztB D h rows (N - 122) used c e D2 h2 used2 rows2∧v=yI e∧L'=pt bs (.cells (stC bd h2 bl2 s2 rows2.length cap2) 180 (0,0))::pt bl2 (.cells (lgC bd 122 (N - 122) h2.first used2) 222 (0,0))::dsk 140 142 bd (D2)::roL 3 s2 (chR rows2)::roL 3 s' (chR c)::F):=by
  show Ct Tryz.prog 81 [ptr bs 0,sl s' c.length cap'] (pt bs (.cells (stC bd h bl s (rows.length) cap) 180 (0,0))::pt bl (.cells (lgC bd 122 (N - 122) h.first (used)) 222 (0,0))::dsk 140 142 bd (D)::roL 3 s (chR rows)::roL 3 s' (chR c)::F) _;refine Ct.of func81 rR 76 ntmps81 (by simp) fun w0=>?_;refine gS (gA rR (qb (qf (gS (gM rR (g_v (yn underlying34 rR) rR (g_v (yA rR rR) rR (qb ?_))))))));refine qg rR (fun h13=>?_) (fun h13=>?_)
  · simp at h13;have hlong:72<c.length:=(by omega);refine gS (g_v (qA underlying108 rR rR) rR (gA rR (qb ?_)));exact ql (pt bs (.cells (stC bd h bl s (rows.length) cap) 180 (0,0))::pt bl (.cells (lgC bd 122 (N - 122) h.first (used)) 222 (0,0))::dsk 140 142 bd (D)::roL 3 s (chR rows)::roL 3 s' (chR c)::F) rfl ⟨2,D,h,used,rows,bl,s,cap, .inl ⟨by rw[zmR hlong];decide,by rw[zmR hlong],rfl,rfl,rfl,rfl⟩,rfl,rfl⟩
  · simp at h13;have hshort:c.length≤72:=(by omega);refine qh (qf (gS (gM rR (g_v (yn underlying34 rR) rR (gM rR (qb (qk ?_)))))));refine qF (α:=Nat) (fun k=>k≤c.length∧zej c=zej (c.drop k)) (fun k=>U [(0,ptr bs 0),(1,sl s' c.length cap'),(15,sl s' c.length cap'),(16,I c.length),(17,I (k:Int))]) (fun k=>pt bs (.cells (stC bd h bl s (rows.length) cap) 180 (0,0))::pt bl (.cells (lgC bd 122 (N - 122) h.first (used)) 222 (0,0))::dsk 140 142 bd (D)::roL 3 s (chR rows)::roL 3 s' (chR c)::F) (fun k=>c.length - k) 0 ⟨Nat.zero_le _,rfl⟩ [0,1,15,16,17] rfl rfl ?_;rintro k ⟨hk,hfk⟩;refine gS (g_v (qQ rR rR) rR (qb (qf ?_)));refine qg rR (fun h18=>?_) (fun h18=>?_)
    · simp at h18;have hkn:k<c.length:=(by omega);obtain ⟨x,hx⟩:∃x,c[k]? =some x:=⟨_,List.getElem?_eq_getElem hkn⟩;have hkr:k<(chR c).length:=(by rw[qK];exact hkn);have hfd:=zjM hx;refine qh (qf (qk (gS (g_v (qB k underlying34 sizeOf104 rR rR rR hkn hkr) rR (g_v (yd (row:=yo x) isAgg104 sizeOf104 rR (zaQ hx) rR) rR ?_)))));refine g_l (qy #[Str [],Str [],Bo false] zeroValue104) rR ?_;rintro _ _ ⟨b6,rfl,rfl⟩;refine ym (qq (cs:=#[Str [],Str [],Bo false]) (vs:=yo x) (yo x).toArray sizeOf104 rR rR rR rR (by decide) (qC rR)) ?_;rintro _ _ rfl;refine qb (gS (g_v (qG (vs:=yo (x)) isAgg104 sizeOf104 rR rR qO) rR ?_));refine g_l (qi (Pre:=[]) call127 rR (zbs x)) rR ?_;rintro _ _ ⟨rfl,rfl⟩;refine gA rR (qb (gS (gM rR (g_v (yc underlying37 rR) rR (qb ?_)))));refine qg rR (fun h24=>?_) (fun h24=>?_)
      · have hx0:¬zbu x=0:=(by simpa using h24);have hfx:zej c=zbu x:=(by rw[hfk,hfd,if_neg hx0]);refine gS (gM rR (gA rR (qb ?_)));exact ql (pt bs (.cells (stC bd h bl s (rows.length) cap) 180 (0,0))::pt bl (.cells (lgC bd 122 (N - 122) h.first (used)) 222 (0,0))::dsk 140 142 bd (D)::roL 3 s (chR rows)::roL 3 s' (chR c)::F) rfl ⟨(zbu x),D,h,used,rows,bl,s,cap, .inl ⟨by rw[zpY hshort (by rw[hfx];exact hx0),hfx];exact hx0,by rw[zpY hshort (by rw[hfx];exact hx0),hfx],rfl,rfl,rfl,rfl⟩,rfl,rfl⟩
      · have hx0:zbu x=0:=(by simpa using h24);refine qh (qH (qp (g_v (qu (r:=((k+1:Nat):Int)) rfl rfl (by rw[show (k:Int)+1=((k+1:Nat):Int) by omega];exact w64 (by omega))) rfl (gM rfl (qb ?_)))));exact qo (k+1) ⟨by omega,by rw[hfk,hfd,if_pos hx0]⟩ (by omega) [0,1,15,16,17] rfl rfl
    · simp at h18;obtain rfl:k=c.length:=(by omega);rw[List.drop_length] at hfk;have hf0:zej c=0:=hfk;refine qz rR ?_;refine gS (gM rR (g_v (qc rR) rR (g_v (qa 6 underlying180 rR rR sizeOf34 (by decide) rR) rR (g_v (qe (v:=sl s rows.length cap) isAgg34 rR rR) rR (gM rR ?_)))));refine g_l (qi (Pre:=[roL 3 s (chR rows),roL 3 s' (chR c)]) call107 rR (zde rows c s s' cap cap' hs (by omega) (by omega))) rR ?_;rintro _ _ ⟨s32,c32,rfl,rfl⟩;refine yB (T:=104) (cap:=c32) s32 ?_;refine gA rfl (qb (qf (gS (gM rfl (g_v (yn underlying34 rfl) rfl (g_v (yA rfl rfl) rfl (gM rfl (qJ rfl rfl (fun hg=>qn rfl) rfl rfl (qJ rfl rfl (fun hg=>yn underlying34 rfl) rfl rfl (qJ rfl rfl (fun hg=>qu (r:=((c.length+1:Nat):Int)) rfl rfl (by rw[show (c.length:Int)+1=((c.length+1:Nat):Int) by omega];exact w64 (by omega))) rfl rfl (qJ rfl rfl (fun hg=>qn rfl) rfl rfl (qJ rfl rfl (fun hg=>qc rfl) rfl rfl (qJ rfl rfl (fun hg=>qa 0 underlying180 rfl rfl sizeOf25 (by decide) rfl) rfl rfl (qJ rfl rfl (fun hg=>qe (v:=ptr bd 0) isAgg25 rfl rfl) rfl rfl ?_))))))))))))));refine g_gq rR rR (fun hg=>qi (Pre:=[dsk 140 142 bd (D)]) (R:=fun F=>R1 (I ((D).now.length:Int)) (dsk 140 142 bd (D)::F)) call102 rR (yV bd D)) rR rR ?_;refine qJ rfl rfl (fun hg=>zch (r:=((N - 122:Nat):Int)) rfl rfl (by rw[hok.2.1,show (N:Int) - 122=((N - 122:Nat):Int) by omega];exact w64 (by omega))) rfl rfl (qJ rfl rfl (fun hg=>yA rfl rfl) rfl rfl (g_v (zav rfl rfl) rfl (qb ?_)));refine qg rR (fun h47=>?_) (fun h47=>?_)
      · simp at h47;have hfull:80<(zaJ rows c).length∨N - 122<c.length+1:=(by omega);refine gS (g_v (qA underlying108 rR rR) rR (gA rR (qb ?_)));exact ql (pt bs (.cells (stC bd h bl s (rows.length) cap) 180 (0,0))::pt bl (.cells (lgC bd 122 (N - 122) h.first (used)) 222 (0,0))::dsk 140 142 bd (D)::roL 3 s (chR rows)::roL 3 s' (chR c)::F) rfl ⟨8,D,h,used,rows,bl,s,cap, .inl ⟨by rw[zmY hshort hf0 hfull];decide,by rw[zmY hshort hf0 hfull],rfl,rfl,rfl,rfl⟩,rfl,rfl⟩
      · simp at h47;have hfull:¬(80<(zaJ rows c).length∨N - 122<c.length+1):=(by omega);have hcm:=zyH hshort hf0 hfull;refine qh (qf (gS (gM rfl (g_v (yn underlying34 rfl) rfl (g_v (qu (r:=((c.length+1:Nat):Int)) rfl rfl (by rw[show (c.length:Int)+1=((c.length+1:Nat):Int) by omega];exact w64 (by omega))) rfl (gM rfl (g_v (qc rfl) rfl (g_v (qa 5 underlying180 rfl rfl sizeOf178 (by decide) rfl) rfl (g_v (qe (v:=ptr bl 0) isAgg178 rfl rfl) rfl ?_)))))))));refine g_l (qi (Pre:=[pt bl (.cells (lgC bd 122 (N - 122) h.first (used)) 222 (0,0))]) call128 rfl (zgT bl bd 122 (N - 122) h.first used ⟨hu,by omega⟩)) rfl ?_;rintro _ _ ⟨rfl,rfl⟩;refine g_v (yA rR rR) rR (qb ?_);refine zkX (α:=DiskM×HdM×Nat×Nat) (fun z=>MidR D h rows (N - 122) used c 0 z.1 z.2.1 z.2.2.1) (fun z=>U [(0,ptr bs 0),(1,sl s' c.length cap'),(8,sl s32 (zaJ rows c).length c32)]) (fun z=>pt bs (.cells (stC bd z.2.1 z.2.2.2 s rows.length cap) 180 (0,0))::pt z.2.2.2 (.cells (lgC bd 122 (N - 122) z.2.1.first z.2.2.1) 222 (0,0))::dsk 140 142 bd (z.1)::roL 3 s (chR rows)::roL 3 s' (chR c)::roL 3 s32 (chR (zaJ rows c))::F) ?_ ?_
        · refine qg rR (fun h57=>?_) (fun h57=>?_)
          · simp at h57;have hroom:N - 122 - used<c.length+1:=(by omega);refine gS (gM rR ?_);refine g_l (qi (Pre:=[pt bs (.cells (stC bd h bl s (rows.length) cap) 180 (0,0)),pt bl (.cells (lgC bd 122 (N - 122) h.first (used)) 222 (0,0)),dsk 140 142 bd (D),roL 3 s (chR rows)]) call129 rfl (zbU bs bd h bl s cap rows N i used D hok hi hS hN0 hh hl hrw)) rfl ?_;rintro _ _ ⟨e59,D59,hck,⟨hne,rfl,rfl⟩ | ⟨h0,bl9,ds9,used9,hu9,hsc9,rfl,rfl⟩⟩
            · refine gA rR (qb (gS (gM rR (g_v (yc underlying37 rR) rR (qb ?_)))));refine qg rR (fun h61=>?_) (fun h61=>?_)
              · refine gS (gM rR (gA rR (qb ?_)));exact ql (pt bs (.cells (stC bd h bl s (rows.length) cap) 180 (0,0))::pt bl (.cells (lgC bd 122 (N - 122) h.first (used)) 222 (0,0))::dsk 140 142 bd (D59)::roL 3 s (chR rows)::roL 3 s' (chR c)::F) rfl ⟨e59,D59,h,used,rows,bl,s,cap, .inr ⟨hcm,e59,D59,h,used, .inl ⟨hroom,hck, .inl ⟨hne,rfl,rfl⟩⟩, .inl ⟨hne,rfl,rfl,rfl,rfl,rfl⟩⟩,rfl,rfl⟩
              · exact absurd (by simpa using h61) hne
            · subst h0;refine gA rR (qb (gS (gM rR (g_v (yc underlying37 rR) rR (qb ?_)))));refine qg rR (fun h61=>?_) (fun h61=>?_)
              · simp at h61
              · refine qh ?_;rw[show h.first+(N - 122)=(nxH h rows (N - 122)).first from rfl];exact zaM (D59,(nxH h rows (N - 122)),used9,bl9) (.inl ⟨hroom,hck, .inr ⟨rfl,rfl,hu9,ds9,hsc9⟩⟩) [0,1,8] rfl rfl
          · simp at h57;have hroom:¬N - 122 - used<c.length+1:=(by omega);refine qh ?_;exact zaM (D,h,used,bl) (.inr ⟨hroom,rfl,rfl,rfl,rfl⟩) [0,1,8] rfl rfl
        rintro ⟨D1,h1,used1,bl1⟩ hmid;simp only[] at hmid ⊢;obtain ⟨hm1,hm2,hm3,hm4,hm5,hm6,hm7⟩:=zrW hmid hok hS hl hrw hN0.1 hu;refine gS (gM rR (g_v (qc rR) rR (g_v (qa 5 underlying180 rR rR sizeOf178 (by decide) rR) rR (g_v (qe (v:=ptr bl1 0) isAgg178 rR rR) rR (gM rR ?_)))));refine g_l (qi (Pre:=[pt bl1 (.cells (lgC bd 122 (N - 122) h1.first used1) 222 (0,0)),dsk 140 142 bd (D1),roL 3 s' (chR c)]) call130 rfl (zoo bl1 bd 122 (N - 122) h1.first used1 c s' cap' N (i+63) D1 hm1 ⟨by omega,by omega⟩ ⟨by omega,by omega,by decide,hm3⟩ hcl)) rfl ?_;rintro _ _ ⟨rfl,rfl⟩;refine gA rR (qb (qf (gS (gM rR (g_v (wD underlying37 rR) rR (qb ?_))))));refine qg rR (fun h70=>?_) (fun h70=>?_)
        · have h70':zhP 122 (N - 122) h1.first used1 c D1=0:=(by simpa using h70);refine qp (gM rR (gM rR (g_v (qc rR) rR (g_v (qa 6 underlying180 rR rR sizeOf34 (by decide) rR) rR ?_))));refine ym (qI (stC bd h1 bl1 s32 (zaJ rows c).length c32) sizeOf34 rR rR rR (by simp) rR) ?_;rintro _ _ rfl;refine qb (gS (gM rR (gA rR (qb ?_))))
          first
          | exact ql (pt bs (.cells (stC bd h1 bl1 s32 (zaJ rows c).length c32) 180 (0,0))::pt bl1 (.cells (lgC bd 122 (N - 122) h1.first (zhl 122 (N - 122) h1.first used1 c D1)) 222 (0,0))::dsk 140 142 bd (zdy 122 (N - 122) h1.first used1 c D1)::roL 3 s32 (chR (zaJ rows c))::roL 3 s' (chR c)::F) rfl ⟨_,zdy 122 (N - 122) h1.first used1 c D1,h1,zhl 122 (N - 122) h1.first used1 c D1,(zaJ rows c),bl1,s32,c32, .inr ⟨hcm,0,D1,h1,used1,hmid, .inr ⟨rfl,rfl,rfl,rfl,rfl,(if_pos h70').symm⟩⟩,rfl,rfl⟩
          | exact ql (pt bs (.cells (stC bd h1 bl1 s rows.length cap) 180 (0,0))::pt bl1 (.cells (lgC bd 122 (N - 122) h1.first (zhl 122 (N - 122) h1.first used1 c D1)) 222 (0,0))::dsk 140 142 bd (zdy 122 (N - 122) h1.first used1 c D1)::roL 3 s (chR rows)::roL 3 s' (chR c)::F) rfl ⟨_,zdy 122 (N - 122) h1.first used1 c D1,h1,zhl 122 (N - 122) h1.first used1 c D1,rows,bl1,s,cap, .inr ⟨hcm,0,D1,h1,used1,hmid, .inr ⟨rfl,rfl,rfl,rfl,rfl,(if_neg h70').symm⟩⟩,rfl,rfl⟩
        · have h70':¬zhP 122 (N - 122) h1.first used1 c D1=0:=(by simpa using h70);refine qh (gS (gM rR (gA rR (qb ?_))))
          first
          | exact ql (pt bs (.cells (stC bd h1 bl1 s32 (zaJ rows c).length c32) 180 (0,0))::pt bl1 (.cells (lgC bd 122 (N - 122) h1.first (zhl 122 (N - 122) h1.first used1 c D1)) 222 (0,0))::dsk 140 142 bd (zdy 122 (N - 122) h1.first used1 c D1)::roL 3 s32 (chR (zaJ rows c))::roL 3 s' (chR c)::F) rfl ⟨_,zdy 122 (N - 122) h1.first used1 c D1,h1,zhl 122 (N - 122) h1.first used1 c D1,(zaJ rows c),bl1,s32,c32, .inr ⟨hcm,0,D1,h1,used1,hmid, .inr ⟨rfl,rfl,rfl,rfl,rfl,(if_pos h70').symm⟩⟩,rfl,rfl⟩
          | exact ql (pt bs (.cells (stC bd h1 bl1 s rows.length cap) 180 (0,0))::pt bl1 (.cells (lgC bd 122 (N - 122) h1.first (zhl 122 (N - 122) h1.first used1 c D1)) 222 (0,0))::dsk 140 142 bd (zdy 122 (N - 122) h1.first used1 c D1)::roL 3 s (chR rows)::roL 3 s' (chR c)::F) rfl ⟨_,zdy 122 (N - 122) h1.first used1 c D1,h1,zhl 122 (N - 122) h1.first used1 c D1,rows,bl1,s,cap, .inr ⟨hcm,0,D1,h1,used1,hmid, .inr ⟨rfl,rfl,rfl,rfl,rfl,(if_neg h70').symm⟩⟩,rfl,rfl⟩
-- (*counterfoil/counterfoilref.Store).Commit is not in this seat
abbrev stV (bd:Nat)(h:HdM)(lv:Value)(s:Option Addr)(n cap:Nat):Array Value:=#[ptr bd 0,I h.ep,I h.side,I h.size,I h.first,lv,sl s n cap]
def txK (L:List Bytes)(side k:Nat):Bytes:=((L.drop (2+side*60)).take k).flatten
theorem zmo {L:List Bytes}{side k:Nat}(h:2+side*60+k<L.length):txK L side k++L.getD (2+side*60+k) []=txK L side (k+1):=by
  unfold txK;have h1:(L.drop (2+side*60))[k]? =some (L.getD (2+side*60+k) []):=(by rw[List.getElem?_drop,zhf h]);rw[zdl h1,List.flatten_append];simp
theorem zrp {L:List Bytes}{side:Nat}(hS:∀x∈L,x.length=80):∀k,2+side*60+k≤L.length→(txK L side k).length=80*k
  | 0,_=>rfl
  | k+1,h=>by
    rw[←zmo (by omega),List.length_append,zrp hS k (by omega),zfd (by omega) hS];omega
theorem zjS:∀(ds:Deeds) {r:List ChangeM},srt r→srt (ds.foldl zaJ r)
  | [],r,h=>h
  | d::ds,r,h=>zjS ds (zi4 h d).1
abbrev zoi (r0:List ChangeM)(gl:LogG)(k:Nat):List ChangeM:=((gl.map (·.1)).take k).foldl zaJ r0
theorem zym {r0:List ChangeM}{gl:LogG}{k:Nat}{x:List ChangeM×LocA}(h:gl[k]? =some x):zaJ (zoi r0 gl k) x.1=zoi r0 gl (k+1):=by
  unfold zoi;rw[zdl (a:=x.1) (by simp[h]),List.foldl_append]
  rfl
theorem ze3 (bd N:Nat)(D:DiskM)(hN:D.now.length=N)(hNb:N≤260)(hS:∀x∈D.now,x.length=80)(hx:HdM)(r0:List ChangeM)(ds:Deeds)(used:Nat)(hg:D.down=false→196≤N→(zfJ D.now).ep≠0→Good D.now hx r0 ds used)(F:List HProp):Ct Tryz.prog 63 [ptr bd 0] ([dsk 140 142 bd (D)]++F) (fun v L'=>(D.down=true∧v= .tuple #[.pointer none,yI 9]∧L'=dsk 140 142 bd (D)::F)∨(D.down=false∧N<196∧v= .tuple #[.pointer none,yI 4]∧L'=dsk 140 142 bd (D)::F)∨(D.down=false∧196≤N∧(zfJ D.now).ep=0∧v= .tuple #[.pointer none,yI 4]∧L'=dsk 140 142 bd (D)::F)∨(D.down=false∧196≤N∧(zfJ D.now).ep≠0∧∃bs bl s cap,v= .tuple #[ptr bs 0,yI 0]∧L'=pt bs (.cells (stC bd hx bl s (cur r0 ds).length cap) 180 (0,0))::pt bl (.cells (lgC bd 122 (N - 122) hx.first used) 222 (0,0))::dsk 140 142 bd (D)::roL 3 s (chR (cur r0 ds))::F)):=by
  show Ct Tryz.prog 63 [ptr bd 0] (dsk 140 142 bd (D)::F) _;refine Ct.of func63 rR 144 ntmps63 (by simp) fun w0=>?_;refine gS (gA rR (gA rR (qb (qf (gS (gM rR ?_))))));refine g_l (qi (Pre:=[dsk 140 142 bd (D)]) call34 rR (zfY bd D)) rR ?_;rintro _ _ ⟨rfl,rfl⟩;refine qb ?_;refine qg rR (fun h21=>?_) (fun h21=>?_)
  · refine gS (g_v (qA underlying108 rR rR) rR (gA rR (gA rR (qb ?_))));exact ql (dsk 140 142 bd (D)::F) rfl (.inl ⟨h21,rfl,rfl⟩)
  · have h21':D.down=false:=(by simpa using h21);refine qh (qf (gS (gM rR ?_)));refine g_l (qi (Pre:=[dsk 140 142 bd (D)]) (R:=fun F=>R1 (I ((D).now.length:Int)) (dsk 140 142 bd (D)::F)) call102 rR (yV bd D)) rR ?_;rintro _ _ ⟨rfl,rfl⟩;refine g_v (qQ rR rR) rR (qb ?_);refine qg rR (fun h25=>?_) (fun h25=>?_)
    · simp at h25;have h25':N<196:=(by omega);refine gS (g_v (qA underlying108 rR rR) rR (gA rR (gA rR (qb ?_))));exact ql (dsk 140 142 bd (D)::F) rfl (.inr (.inl ⟨h21',h25',rfl,rfl⟩))
    · simp at h25;have h25':196≤N:=(by omega);refine qh (gS (gM rR (g_v (qS rR (zsL _ rR)) rR ?_)));refine g_l (wM (stV bd (hdK D.now 0) (.pointer none) none 0 0) rR rR) rR ?_;rintro _ _ ⟨b29,rfl,rfl⟩;refine gA rR (qb (qf (gS (gM rR (qb (qk ?_))))));refine qF (α:=Nat) (fun k=>k≤2) (fun k=>U [(0,ptr bd 0),(4,ptr b29 0),(30,I (k:Int))]) (fun k=>pt b29 (.cells (stV bd (hdK D.now k) ((.pointer none)) none (0) 0) 180 (0,0))::dsk 140 142 bd (D)::F) (fun k=>2 - k) 0 (by decide) [0,4,30] rfl rR ?_;intro k hk;refine gS (g_v (qQ rR rR) rR (qb (qf ?_)));refine qg rR (fun h31=>?_) (fun h31=>?_)
      · simp at h31;have hk2:k<2:=(by omega);refine qh (qf (qk (gS (gM rR (gA rR (qb (gS (gM rR (gM rR ?_)))))))));refine g_l (qi (Pre:=[dsk 140 142 bd (D)]) call103 rR (zdg bd D ((k:Nat):Int))) rR ?_;rintro _ _ ⟨rfl,rfl⟩;rw[show zhR D ((k:Nat):Int)=(D.now.getD (k) [],0) from zgz h21' (by omega) (by rw[Int.toNat_natCast];exact zhf (by omega))];refine gM rR (g_v (qd (v:=Str (D.now.getD k [])) rR rR) rR (g_v (qd (v:=yI 0) rR rR) rR (gA rR (gA rR (qb (qf (gS (gM rR (g_v (yc underlying37 rR) rR (qb ?_))))))))));refine qg rR (fun h40=>?_) (fun h40=>?_)
        · simp at h40
        · refine qh (gS (gM rR ?_));refine g_l (qi (Pre:=[]) call104 rR (zhs (D.now.getD k []) (zfd (by omega) hS))) rR ?_;rintro _ _ ⟨rfl,rfl⟩;refine g_l (qy #[I 0,I 0,I 0,I 0] zeroValue177) rR ?_;rintro _ _ ⟨b8,rfl,rfl⟩;refine ym (qq (cs:=#[I 0,I 0,I 0,I 0]) (vs:=wq (wE (D.now.getD k []))) (wq (wE (D.now.getD k []))).toArray sizeOf177 rR rR rR rR (by decide) (qC (zjQ _))) ?_;rintro _ _ rfl;refine qb (qf ?_);refine wU [(0,false),(1,false),(2,false),(3,false),(4,false),(5,false),(6,false),(7,false)] (by kernel_rfl) (by kernel_rfl) rR (by kernel_rfl) ?_;refine d_v rR (qa 0 underlying177 rR rR sizeOf3 (by decide) rR) rR (d_v rR (qe (v:=I (wE (D.now.getD k [])).ep) isAgg3 rR rR) rR (dM rR rR rR (d_v rR (qc rR) rR (d_v rR (qa 1 underlying180 rR rR sizeOf177 (by decide) rR) rR (d_v rR (qa 0 underlying177 rR rR sizeOf3 (by decide) rR) rR (d_v rR (qe (v:=I (hdK D.now k).ep) isAgg3 rR rR) rR (d_v rR (yA rR rR) rR ?_)))))));refine yb ?_;refine qg rR (fun h51=>?_) (fun h51=>?_)
          · have hgt:(hdK D.now k).ep<(wE (D.now.getD k [])).ep:=(by have:=of_decide_eq_true h51;omega);refine qp (gM rR (g_v (qG (vs:=wq (wE (D.now.getD k []))) isAgg177 sizeOf177 rR rR qO) rR (g_v (qc rR) rR (g_v (qa 1 underlying180 rR rR sizeOf177 (by decide) rR) rR ?_))));refine ym (qq (cs:=stV bd (hdK D.now k) (.pointer none) none 0 0) (vs:=wq (wE (D.now.getD k []))) (stV bd (wE (D.now.getD k [])) (.pointer none) none 0 0) sizeOf177 rR rR rR rR (by simp) rR) ?_;rintro _ _ rfl;refine qb (qH (qp (g_v (qu (r:=((k+1:Nat):Int)) rfl rfl (by rw[show (((k:Nat):Int):Int)+(1:Int)=((k+1:Nat):Int) by omega];exact w64 (by omega))) rfl (gM rfl (qb ?_)))));rw[show wE (D.now.getD k [])=hdK D.now (k+1) by rw[hdK,if_pos hgt]];exact qo (k+1) (by omega) (by omega) [0,4,30] rfl rfl
          · have hgt:¬(hdK D.now k).ep<(wE (D.now.getD k [])).ep:=(by have:=of_decide_eq_false h51;omega);refine qh (qH (qp (g_v (qu (r:=((k+1:Nat):Int)) rfl rfl (by rw[show (((k:Nat):Int):Int)+(1:Int)=((k+1:Nat):Int) by omega];exact w64 (by omega))) rfl (gM rfl (qb ?_)))));rw[show hdK D.now k=hdK D.now (k+1) by rw[hdK,if_neg hgt]];exact qo (k+1) (by omega) (by omega) [0,4,30] rfl rfl
      · simp at h31;obtain rfl:k=2:=(by omega);refine qz rR ?_;refine qf (gS (gM rR (g_v (qc rR) rR (g_v (qa 1 underlying180 rR rR sizeOf177 (by decide) rR) rR (g_v (qa 0 underlying177 rR rR sizeOf3 (by decide) rR) rR (g_v (qe (v:=I (hdK D.now 2).ep) isAgg3 rR rR) rR (g_v (wh rR rR) rR (qb ?_))))))));refine qg rR (fun h62=>?_) (fun h62=>?_)
        · simp at h62;have he0:(zfJ D.now).ep=0:=(by show (hdK D.now 2).ep=0;omega);refine gS (g_v (qA underlying108 rR rR) rR (gA rR (gA rR (qb ?_))));exact ql (dsk 140 142 bd (D)::F) rfl (.inr (.inr (.inl ⟨h21',h25',he0,rfl,rfl⟩)))
        · simp at h62;have he0:(zfJ D.now).ep≠0:=(by show (hdK D.now 2).ep≠0;omega);have hgd:=hg h21' h25' he0;rw[show hdK D.now 2=hx from hgd.best];refine qh (gS (gA rR (qb (qf (gS (gM rR (qb (qk ?_))))))));refine qF (α:=Nat) (fun k=>k≤60) (fun k=>U [(0,ptr bd 0),(4,ptr b29 0),(9,Str (txK D.now hx.side k)),(64,I (k:Int))]) (fun k=>pt b29 (.cells (stV bd (hx) ((.pointer none)) none (0) 0) 180 (0,0))::dsk 140 142 bd (D)::F) (fun k=>60 - k) 0 (by decide) [0,4,9,64] rfl rR ?_;intro k hk;have hside:=hgd.side;have htl:=zrp (side:=hx.side) hS k (by omega);refine gS (g_v (qQ rR rR) rR (qb (qf ?_)));refine qg rR (fun h65=>?_) (fun h65=>?_)
          · simp at h65;have hk60:k<60:=(by omega);have hsl:(D.now.getD (2+hx.side*60+k) []).length=80:=zfd (by omega) hS;refine qh (qf (qk (gS (gM rfl (gA rfl (qb (gS (gM rfl (gM rfl (g_v (qc rfl) rfl (g_v (qa 1 underlying180 rfl rfl sizeOf177 (by decide) rfl) rfl (g_v (qa 1 underlying177 rfl rfl sizeOf3 (by decide) rfl) rfl (g_v (qe (v:=I hx.side) isAgg3 rfl rfl) rfl (g_v (zdj (r:=((hx.side*60:Nat):Int)) rfl rfl (by rw[show (hx.side:Int)*(60:Int)=((hx.side*60:Nat):Int) by omega];exact w64 (by omega))) rfl (g_v (qu (r:=((2+hx.side*60:Nat):Int)) rfl rfl (by rw[show (2:Int)+(((hx.side*60:Nat):Int):Int)=((2+hx.side*60:Nat):Int) by omega];exact w64 (by omega))) rfl (gM rfl (g_v (qu (r:=((2+hx.side*60+k:Nat):Int)) rfl rfl (by rw[show (((2+hx.side*60:Nat):Int):Int)+(((k:Nat):Int):Int)=((2+hx.side*60+k:Nat):Int) by omega];exact w64 (by omega))) rfl ?_)))))))))))))))));refine g_l (qi (Pre:=[dsk 140 142 bd (D)]) call103 rR (zdg bd D (((2+hx.side*60+k):Nat):Int))) rR ?_;rintro _ _ ⟨rfl,rfl⟩;rw[show zhR D ((2+hx.side*60+k:Nat):Int)=(D.now.getD (2+hx.side*60+k) [],0) from zgz h21' (by omega) (by rw[Int.toNat_natCast];exact zhf (by omega))];refine gM rR (g_v (qd (v:=Str (D.now.getD (2+hx.side*60+k) [])) rR rR) rR (g_v (qd (v:=yI 0) rR rR) rR (gA rR (gA rR (qb (qf (gS (gM rR (g_v (yc underlying37 rR) rR (qb ?_))))))))));refine qg rR (fun h82=>?_) (fun h82=>?_)
            · simp at h82
            · refine qh (qp (gM rfl (gM rfl (g_v (wO rfl rfl (by rw[htl,hsl];omega)) rfl (gA rfl (qb (qH (qp (g_v (qu (r:=((k+1:Nat):Int)) rfl rfl (by rw[show (((k:Nat):Int):Int)+(1:Int)=((k+1:Nat):Int) by omega];exact w64 (by omega))) rfl (gM rfl (qb ?_)))))))))));rw[zmo (by omega)];exact qo (k+1) (by omega) (by omega) [0,4,9,64] rfl rfl
          · simp at h65;obtain rfl:k=60:=(by omega);have hsz:hx.size≤(txK D.now hx.side 60).length:=by
              have h1:=hgd.size;have h2:=zcF hgd.hok;have h3:=hgd.len;omega
            refine qz rR ?_;refine gS (gM rR (gM rR (g_v (qc rR) rR (g_v (qa 1 underlying180 rR rR sizeOf177 (by decide) rR) rR (g_v (qa 2 underlying177 rR rR sizeOf3 (by decide) rR) rR (g_v (qe (v:=I hx.size) isAgg3 rR rR) rR (g_v (zv9 (h:=hx.size) underlying9 rR rR rR hsz) rR ?_)))))));rw[show (txK D.now hx.side 60).take hx.size=yu r0 from hgd.text];refine g_l (qi (Pre:=[]) call105 rR (zh5 r0 (by have:=hgd.len;omega) hgd.hsrt hgd.hok)) rR ?_;rintro _ _ ⟨s96,c96,rfl,rfl⟩;refine gM rR (g_v (qd (v:=sl s96 r0.length c96) rR rR) rR (g_v (qd (v:=Bo true) rR rR) rR (gA rR (gA rR (qb (qf (gS (gM rR (g_v (wo rR) rR (qb ?_))))))))));refine qg rR (fun h100=>?_) (fun h100=>?_)
            · simp at h100
            · refine qh (qf ?_);refine yx (Lf:=[pt b29 (.cells (stV bd hx (.pointer none) none 0 0) 180 (0,0))]) [(0,false),(1,false),(4,false),(5,false),(6,false),(7,false),(8,false),(2,true),(3,false),(9,true),(10,false),(11,false),(12,false),(13,false),(14,false),(15,false),(16,false)] (by kernel_rfl) (by kernel_rfl) rR (by kernel_rfl) ?_;refine dM rfl rfl rfl (dM rfl rfl rfl (dM rfl rfl rfl (d_v rfl (qc rfl) rfl (d_v rfl (qa 1 underlying180 rfl rfl sizeOf177 (by decide) rfl) rfl (d_v rfl (qa 3 underlying177 rfl rfl sizeOf3 (by decide) rfl) rfl (d_v rfl (qe (v:=I hx.first) isAgg3 rfl rfl) rfl ?_))))));refine d_l rR (qi (Pre:=[dsk 140 142 bd (D)]) (R:=fun F=>R1 (I ((D).now.length:Int)) (dsk 140 142 bd (D)::F)) call102 rR (yV bd D)) rR ?_;rintro _ _ ⟨rfl,rfl⟩;refine d_v rfl (zch (r:=((N - 122:Nat):Int)) rfl rfl (by rw[hN,show (N:Int) - 122=((N - 122:Nat):Int) by omega];exact w64 (by omega))) rfl ?_;refine d_l rfl (qi (Pre:=[dsk 140 142 bd (D)]) call106 rfl (zhE bd D 122 ((N - 122:Nat):Int) hx.first hS ⟨by omega,by have:=hgd.first;omega⟩)) rfl ?_;rintro _ _ (⟨hbad,_,_⟩ | ⟨_,hdn,_,_⟩ | ⟨_,_,bl,gl,so,co,used',rfl,hul,hgll,hsc,rfl⟩)
              · exfalso;unfold zq7 at hbad;have:=hgd.first;omega
              · rw[h21'] at hdn;cases hdn
              rw[show lgC bd ((122:Int)).toNat ((N - 122:Nat):Int).toNat (hx.first:Int).toNat used'=lgC bd 122 (N - 122) hx.first used' from rfl]
              replace hgll:gl.length≤N - 122:=hgll
              replace hsc:wb hx.first (zje D 122) (N - 122) 0 [] [] 0=(gl.map (·.1),used'):=hsc
              have hlg:=hgd.log;rw[hN] at hlg;have hlg2:wb hx.first (zje D 122) (N - 122) 0 [] [] 0=(ds,used):=hlg;rw[hsc] at hlg2;injection hlg2 with hq1 hq2;obtain rfl:used=used':=hq2.symm;have hfit:=hgd.fits;rw[←hq1] at hfit;have hlen72:∀y∈gl,y.1.length≤72:=fun y hy=>hgd.lens _ (by rw[←hq1];exact List.mem_map_of_mem hy);refine dM rR rR rR (d_v rR (qd (v:=ptr bl 0) rR rR) rR (d_v rR (qd (v:=sl so gl.length co) rR rR) rR (d_v rR (qd (v:=yI 0) rR rR) rR (d_v rR (qx rR) rR (d_v rR (qx rR) rR (d_v rR (qx rR) rR ?_))))));refine yb ?_;refine qf (gS (gM rR (g_v (yc underlying37 rR) rR (qb ?_))));refine qg rR (fun h117=>?_) (fun h117=>?_)
              · simp at h117
              · refine qh (gS (gM rR (gM rR (gM rR (gM rR (g_v (qc rR) rR (g_v (qa 5 underlying180 rR rR sizeOf178 (by decide) rR) rR ?_)))))));refine ym (qI (stV bd hx (ptr bl 0) none 0 0) sizeOf178 rR rR rR (by simp) rR) ?_;rintro _ _ rfl;refine g_v (qc rR) rR (g_v (qa 6 underlying180 rR rR sizeOf34 (by decide) rR) rR ?_);refine ym (qI (stV bd hx (ptr bl 0) s96 (zoi r0 gl (0)).length c96) sizeOf34 rR rR rR (by simp) rR) ?_;rintro _ _ rfl;refine qb (qf (qf ?_));rw[show chR r0=chR (zoi r0 gl 0) from rfl];refine qp (gM rR (g_v (yn underlying185 rR) rR (gM rR (qb (qk ?_)))));refine qF (α:=Nat×Option Addr×Nat) (fun z=>z.1≤gl.length) (fun z=>U [(4,ptr b29 0),(127,sl so gl.length co),(128,I gl.length),(129,I (z.1:Int))]) (fun z=>pt b29 (.cells (stV bd (hx) (ptr bl 0) z.2.1 ((zoi r0 gl (z.1)).length) z.2.2) 180 (0,0))::roL 3 z.2.1 (chR (zoi r0 gl (z.1)))::pt bl (.cells (lgC bd 122 (N - 122) hx.first used) 222 (0,0))::owL 34 1 so co (dR gl)::zlw gl::dsk 140 142 bd (D)::F) (fun z=>gl.length - z.1) (0,s96,c96) (by simp) [4,127,128,129] rfl rfl ?_;rintro ⟨k,sA,cA⟩ hk;simp only[] at hk ⊢;refine gS (g_v (qQ rR rR) rR (qb (qf ?_)));refine qg rR (fun h130=>?_) (fun h130=>?_)
                · simp at h130;have hkn:k<gl.length:=(by omega);obtain ⟨x,hx'⟩:∃x,gl[k]? =some x:=⟨_,List.getElem?_eq_getElem hkn⟩;refine qh (qf (qk (gS (g_v (qB k underlying185 sizeOf34 rR rR rR hkn (by rw[zup];exact hkn)) rR (g_v (yi (v:=sl x.2.1 x.1.length x.2.2) isAgg34 rR (dR_at hx') rR) rR (gA rR (qb ?_)))))));refine ztA gl (List.mem_of_getElem? hx') ?_;refine qp (gM rR (gM rR (g_v (qc rR) rR (g_v (qa 6 underlying180 rR rR sizeOf34 (by decide) rR) rR (g_v (qe (v:=sl sA (zoi r0 gl (k)).length cA) isAgg34 rR rR) rR (gM rR ?_))))));refine g_l (qi (Pre:=[roL 3 sA (chR (zoi r0 gl (k))),roL 3 x.2.1 (chR x.1)]) call107 rR (zde (zoi r0 gl (k)) x.1 sA x.2.1 cA x.2.2 (zjS _ hgd.hsrt) (Nat.le_trans (hfit k) (by decide)) (by have:=hlen72 x (List.mem_of_getElem? hx');omega))) rR ?_;rintro _ _ ⟨s139,c139,rfl,rfl⟩;rw[zym hx'];refine yB (T:=104) (cap:=c139) s139 ?_;refine g_v (qc rR) rR (g_v (qa 6 underlying180 rR rR sizeOf34 (by decide) rR) rR ?_);refine ym (qI (stV bd hx (ptr bl 0) s139 (zoi r0 gl (k+1)).length c139) sizeOf34 rR rR rR (by simp) rR) ?_;rintro _ _ rfl;refine qb (qH (qp (g_v (qu (r:=((k+1:Nat):Int)) rfl rfl (by rw[show (((k:Nat):Int):Int)+(1:Int)=((k+1:Nat):Int) by omega];exact w64 (by omega))) rfl (gM rfl (qb ?_)))));exact qo (k+1,s139,c139) (by simp only[];omega) (by simp only[];omega) [4,127,128,129] rfl rfl
                · simp at h130;obtain rfl:k=gl.length:=(by omega);have hcu:zoi r0 gl gl.length=cur r0 ds:=(by unfold zoi cur;rw[List.take_of_length_le (by simp),hq1]);rw[hcu];refine qz rR ?_;refine gS (gM rR (gA rR (gA rR (qb ?_))));exact ql (pt b29 (.cells (stC bd hx bl sA (cur r0 ds).length cA) 180 (0,0))::pt bl (.cells (lgC bd 122 (N - 122) hx.first used) 222 (0,0))::dsk 140 142 bd (D)::roL 3 sA (chR (cur r0 ds))::F) rfl (.inr (.inr (.inr ⟨h21',h25',he0,b29,bl,sA,cA,rfl,rfl⟩)))
theorem zgW (bd N i:Nat)(D:DiskM)(hok:okW N i D)(hi:i≤100000)(hN0:N≤260)(F:List HProp):Ct Tryz.prog 86 [ptr bd 0] ([dsk 140 142 bd (D)]++F) (fun v L'=>(N<196∧v=yI 8∧L'=dsk 140 142 bd (D)::F)∨(196≤N∧∃e D1,we D (fmL N)=(e,D1)∧v=yI e∧L'=dsk 140 142 bd (D1)::F)):=by
  show Ct Tryz.prog 86 [ptr bd 0] (dsk 140 142 bd (D)::F) _;refine Ct.of func86 rR 39 ntmps86 (by simp) fun w0=>?_;refine gS (gA rR (qb (qf (gS (gM rR ?_)))));refine g_l (qi (Pre:=[dsk 140 142 bd (D)]) (R:=fun F=>R1 (I ((D).now.length:Int)) (dsk 140 142 bd (D)::F)) call102 rR (yV bd D)) rR ?_;rintro _ _ ⟨rfl,rfl⟩;refine g_v (qQ rR rR) rR (qb ?_);refine qg rR (fun h7=>?_) (fun h7=>?_)
  · simp at h7;have h7':N<196:=(by have:=hok.2.1;omega);refine gS (g_v (qA underlying108 rR rR) rR (gA rR (qb ?_)));exact ql (dsk 140 142 bd (D)::F) rfl (.inl ⟨h7',rfl,rfl⟩)
  · simp at h7;have h7':196≤N:=(by have:=hok.2.1;omega);refine qh (gS (gM rR ?_));refine g_l (qi (Pre:=[dsk 140 142 bd (D)]) call136 rR (wv bd D ((0:Nat):Int) [] hok.2.2.1 (by have:=hok.2.2.2.2;omega))) rR ?_;rintro _ _ ⟨rfl,rfl⟩;refine gA rR (qb (qf (gS (gA rR (qb (qk ?_))))));refine qF (α:=Nat×Int×DiskM) (fun z=>z.1≤N - 122∧we D (fmW z.1)=(z.2.1,z.2.2)) (fun z=>U [(0,ptr bd 0),(3,yI z.2.1),(4,I ((122+z.1:Nat):Int))]) (fun z=>dsk 140 142 bd (z.2.2)::F) (fun z=>N - z.1) (0,yO D ((0:Nat):Int) [],yv D ((0:Nat):Int) []) ⟨Nat.zero_le _,zbD (l:=[]) rfl⟩ [0,3,4] rfl rR ?_;rintro ⟨k,e,X⟩ ⟨hk,hrun⟩;simp only[] at hk hrun ⊢;have hokk:=za7 (fmW k) i D hok;rw[hrun,zhm] at hokk;simp only at hokk;refine qf (gS (gM rR (gM rR ?_)));refine g_l (qi (Pre:=[dsk 140 142 bd (X)]) (R:=fun F=>R1 (I ((X).now.length:Int)) (dsk 140 142 bd (X)::F)) call102 rR (yV bd X)) rR ?_;rintro _ _ ⟨rfl,rfl⟩;refine g_v (qQ rR rR) rR (gM rR (qJ rR rR (fun hg=>qn rR) rR rR (qJ rR rR (fun hg=>wD underlying37 rR) rR rR (g_v (zaw rR rR) rR (qb ?_)))));refine qg rR (fun h18=>?_) (fun h18=>?_)
    · simp at h18;have he0:e=0:=h18.2;have hkn:122+k<N:=(by have:=hokk.2.1;omega);refine qh (qf (qk (qp (gM rR (gM rR ?_)))));refine g_l (qi (Pre:=[dsk 140 142 bd (X)]) call136 rR (wv bd X ((122+k:Nat):Int) [] hokk.2.2.1 (by have:=hokk.2.2.2.2;omega))) rR ?_;rintro _ _ ⟨rfl,rfl⟩;refine gA rfl (qb (qH (qp (gM rfl (g_v (qu (r:=((122+(k+1):Nat):Int)) rfl rfl (by rw[show ((122+k:Nat):Int)+1=((122+(k+1):Nat):Int) by omega];exact w64 (by omega))) rfl (gA rfl (qb ?_)))))));exact qo (k+1,yO X ((122+k:Nat):Int) [],yv X ((122+k:Nat):Int) []) ⟨by simp only[];omega,by simp only[];rw[fmW,zbD (by rw[hrun,he0])];rfl⟩ (by simp only[];omega) [0,3,4] rfl rfl
    · simp at h18;have hst:k=N - 122∨e≠0:=by
        have:=hokk.2.1;by_cases he:e=0
        · left;by_cases hx:122+k<N
          · exact absurd he (h18 (by omega))
          · omega
        · exact .inr he
      have hf:=ztF hrun hst hk;refine qz rR ?_;refine qf (gS (gM rR (g_v (wD underlying37 rR) rR (qb ?_))));refine zkX (α:=Int×DiskM) (fun z=>we D (fmW (N - 122)++ [none])=z) (fun z=>U [(0,ptr bd 0),(3,yI z.1)]) (fun z=>dsk 140 142 bd (z.2)::F) ?_ ?_
      · refine qg rR (fun h25=>?_) (fun h25=>?_)
        · have he:e=0:=(by simpa using h25);subst he;refine qp (gM rR ?_);refine g_l (qi (Pre:=[dsk 140 142 bd (X)]) call137 rR (zas bd X hokk.2.2.1 (by rw[hokk.1,hokk.2.1]) (by rw[hokk.2.1];omega))) rR ?_;rintro _ _ ⟨rfl,rfl⟩;refine gA rR (qb ?_);exact zaM (yU X,yw X) (zbD (x:=none) hf) [0,3] rfl rfl
        · have he:¬e=0:=(by simpa using h25);refine qh ?_;exact zaM (e,X) (zbH hf he) [0,3] rfl rfl
      rintro ⟨e1,X1⟩ h1;simp only at h1 ⊢;have hok1:=za7 (fmW (N - 122)++ [none]) i D hok;rw[h1,List.length_append,zhm] at hok1;simp only[List.length_cons,List.length_nil] at hok1;refine qf (gS (gM rR (g_v (wD underlying37 rR) rR (qb ?_))));refine zkX (α:=Int×DiskM) (fun z=>we D (fmW (N - 122)++ [none]++ [some (1,wd hd1)])=z) (fun z=>U [(0,ptr bd 0),(3,yI z.1)]) (fun z=>dsk 140 142 bd (z.2)::F) ?_ ?_
      · refine qg rR (fun h29=>?_) (fun h29=>?_)
        · have he1:e1=0:=(by simpa using h29);subst he1;refine qp (gM rR (g_v (qS rR (wm _ rR _ rR _ rR _ rR)) rR ?_));refine g_l (qi (Pre:=[]) call138 rR (zeF hd1)) rR ?_;rintro _ _ ⟨rfl,rfl⟩;refine g_l (qi (Pre:=[dsk 140 142 bd (X1)]) call136 rR (wv bd X1 ((1:Nat):Int) (wd hd1) hok1.2.2.1 (by have:=hok1.2.2.2.2;omega))) rR ?_;rintro _ _ ⟨rfl,rfl⟩;refine gA rR (qb ?_);exact zaM (yO X1 ((1:Nat):Int) (wd hd1),yv X1 ((1:Nat):Int) (wd hd1)) (zbD h1) [0,3] rfl rfl
        · have he1:¬e1=0:=(by simpa using h29);refine qh ?_;exact zaM (e1,X1) (zbH h1 he1) [0,3] rfl rfl
      rintro ⟨e2,X2⟩ h2;simp only at h2 ⊢;have hok2:=za7 (fmW (N - 122)++ [none]++ [some (1,wd hd1)]) i D hok;rw[h2,List.length_append,List.length_append,zhm] at hok2;simp only[List.length_cons,List.length_nil] at hok2;refine qf (gS (gM rR (g_v (wD underlying37 rR) rR (qb ?_))));refine zkX (α:=Int×DiskM) (fun z=>we D (fmL N)=z) (fun z=>U [(0,ptr bd 0),(3,yI z.1)]) (fun z=>dsk 140 142 bd (z.2)::F) ?_ ?_
      · refine qg rR (fun h35=>?_) (fun h35=>?_)
        · have he2:e2=0:=(by simpa using h35);subst he2;refine qp (gM rR ?_);refine g_l (qi (Pre:=[dsk 140 142 bd (X2)]) call137 rR (zas bd X2 hok2.2.2.1 (by rw[hok2.1,hok2.2.1]) (by rw[hok2.2.1];omega))) rR ?_;rintro _ _ ⟨rfl,rfl⟩;refine gA rR (qb ?_);exact zaM (yU X2,yw X2) (by have:=zbD (x:=none) h2;rw[List.append_assoc,List.append_assoc] at this;exact this) [0,3] rfl rfl
        · have he2:¬e2=0:=(by simpa using h35);refine qh ?_;exact zaM (e2,X2) (by have:=zbH (r:=[none]) h2 he2;rw[List.append_assoc,List.append_assoc] at this;exact this) [0,3] rfl rfl
      rintro ⟨e3,X3⟩ h3;simp only at h3 ⊢;refine gS (gM rR (gA rR (qb ?_)));exact ql (dsk 140 142 bd (X3)::F) rfl (.inr ⟨h7',e3,X3,h3,rfl,rfl⟩)
end Go.Proofs.YthdjckbjjfiopadGreatDoor
namespace Go.Proofs.YthdjckbjjfiopadGreatDoor
open Go.Sl Go.Proofs
theorem zw7 {l:List ChangeM}{c:ChangeM}(h:∀r∈l,okR r)(hc:zbu c=0):∀r∈apS l c,okR r:=by
  intro r hr;unfold apS at hr;simp only[List.mem_append] at hr;rcases hr with (hr | hr) | hr
  · exact h r (List.mem_filter.1 hr).1
  · split at hr
    · cases hr
    · rename_i hg;rw[List.mem_singleton] at hr;subst hr;exact ⟨hc,by simpa using hg⟩
  · exact h r (List.mem_filter.1 hr).1
theorem zp4:∀(c:List ChangeM) {l:List ChangeM},(∀r∈l,okR r)→(∀x∈c,zbu x=0)→∀r∈zaJ l c,okR r
  | [],l,h,_=>h
  | x::c,l,h,hc=>zp4 c (zw7 h (hc x (by simp))) fun y hy=>hc y (List.mem_cons_of_mem _ hy)
theorem zqD:∀(ds:Deeds) {l:List ChangeM},(∀r∈l,okR r)→(∀d∈ds,∀x∈d,zbu x=0)→∀r∈cur l ds,okR r
  | [],l,h,_=>h
  | d::ds,l,h,hc=>zqD ds (zp4 d h (hc d (by simp))) fun e he=>hc e (List.mem_cons_of_mem _ he)
theorem zgl (r0:List ChangeM)(ds:Deeds)(c:List ChangeM):cur r0 (ds++ [c])=zaJ (cur r0 ds) c:=by unfold cur;rw[List.foldl_append];rfl
theorem Good.srtC {L:List Bytes}{h:HdM}{r0:List ChangeM}{ds:Deeds}{used:Nat}(g:Good L h r0 ds used):srt (cur r0 ds):=zjS ds g.hsrt
theorem Good.okC {L:List Bytes}{h:HdM}{r0:List ChangeM}{ds:Deeds}{used:Nat}(g:Good L h r0 ds used):∀r∈cur r0 ds,okR r:=zqD ds g.hok g.chk
theorem Good.lenC {L:List Bytes}{h:HdM}{r0:List ChangeM}{ds:Deeds}{used:Nat}(g:Good L h r0 ds used):(cur r0 ds).length≤80:=by
  have:=g.fits ds.length;rw[List.take_length] at this;exact this
def zib (a b:HdM):HdM:=if (if HdM.no.ep<a.ep then a else HdM.no).ep<b.ep then b else if HdM.no.ep<a.ep then a else HdM.no
theorem zhc (L:List Bytes):zfJ L=zib (wE (L.getD 0 [])) (wE (L.getD 1 [])):=rfl
theorem zmM {L L':List Bytes}(h0:L'.getD 0 []=L.getD 0 [])(h1:L'.getD 1 []=L.getD 1 []):zfJ L'=zfJ L:=by rw[zhc,zhc,h0,h1]
theorem zu6:HdM.no.ep=0:=rfl
theorem zna (a b:HdM):a.ep≤(zib a b).ep∧b.ep≤(zib a b).ep:=by
  unfold zib;by_cases h1:HdM.no.ep<a.ep
  · simp only[if_pos h1];by_cases h2:a.ep<b.ep
    · rw[if_pos h2];omega
    · rw[if_neg h2];omega
  · simp only[if_neg h1];have:=zu6;by_cases h2:HdM.no.ep<b.ep
    · rw[if_pos h2];omega
    · rw[if_neg h2];omega
theorem zvB {a b h:HdM}(hh:(zib a b).ep<h.ep):zib h b=h:=by
  have:=zna a b;have:=zu6;unfold zib;rw[if_pos (show HdM.no.ep<h.ep by omega),if_neg (by omega)]
theorem zu7 {a b h:HdM}(hh:(zib a b).ep<h.ep):zib a h=h:=by
  have:=zna a b;have:=zu6;unfold zib;rw[if_pos];split <;> omega
theorem zpF {L L':List Bytes}{side:Nat}(hl:L'.length=L.length):∀k,2+side*60+k≤L.length→(∀m,2+side*60≤m→m<2+side*60+k→L'.getD m []=L.getD m [])→txK L' side k=txK L side k
  | 0,_,_=>rfl
  | k+1,hk,h=>by
    rw[←zmo (by omega),←zmo (L:=L) (by omega),zpF hl k (by omega) (fun m a b=>h m a (by omega)),h _ (by omega) (by omega)]
theorem znR {L L':List Bytes}{h:HdM}{r0:List ChangeM}{ds ds':Deeds}{used used':Nat}(g:Good L h r0 ds used)(hl:L'.length=L.length)(h122:122≤L.length)(hlow:∀m,m<2→L'.getD m []=L.getD m [])(htx:∀m,2+h.side*60≤m→m<2+h.side*60+60→L'.getD m []=L.getD m [])
    (hlog:wb h.first (zga L' 122) (L.length - 122) 0 [] [] 0=(ds',used')) (h1:∀d∈ds',d.length≤72) (h2:∀d∈ds',∀x∈d,zbu x=0) (h3:∀k,((ds'.take k).foldl zaJ r0).length≤80):Good L' h r0 ds' used':=by
  have hs:=g.side;have ht:txK L' h.side 60=txK L h.side 60:=zpF hl 60 (by omega) htx;exact ⟨(zmM (hlow 0 (by decide)) (hlow 1 (by decide))).trans g.best,g.ep,g.side,g.first,g.size,by
    have:=g.text;show (txK L' h.side 60).take h.size=_;rw[ht];exact this,g.hsrt,g.hok,g.len,by rw[hl];exact hlog,h1,h2,h3⟩
theorem zrd {L L':List Bytes}{h:HdM}{r0:List ChangeM}{ds:Deeds}{used:Nat}(g:Good L h r0 ds used)(hl:L'.length=L.length)(h122:122≤L.length)(hlow:∀m,m<2→L'.getD m []=L.getD m [])(htx:∀m,2+h.side*60≤m→m<2+h.side*60+60→L'.getD m []=L.getD m [])(hlg:∀m,122≤m→L'.getD m []=L.getD m []):Good L' h r0 ds used:=
  znR g hl h122 hlow htx (by
    have:zga L' 122=zga L 122:=funext fun i=>hlg _ (by omega);rw[this];exact g.log) g.lens g.chk g.fits
def zoR (B:Nat)(s:Bytes):Prop:=∀n,B≤n→n<4294967296→zaP n s=none
theorem zqQ {B B':Nat}{s:Bytes}(h:zoR B s)(hB:B≤B'):zoR B' s:=fun n h1 h2=>h n (by omega) h2
theorem zir (B:Nat):zoR B (yg []):=fun n _ _=>zcp n
theorem zsV {m n:Nat}(hm:m<4294967296)(hn:n<4294967296)(h:qP m=qP n):m=n:=by rw[←zdQ hm,h,zdQ hn]
theorem zkB {B m:Nat}{k:UInt8}{s:Bytes}(hm:m<B)(hB:B≤4294967296):zoR B (yg (wF k m s)):=fun n h1 h2=>by
  unfold zaP;rw[if_neg];intro h;have e:((yg (wF k m s)).take 5).drop 1=qP m:=by
    unfold yg wF qP;simp[List.take]
  rw[e] at h;have:=zsV (by omega) h2 h.1;omega
structure AllP (P:Nat→Bytes→Prop) (D:DiskM):Prop where
  now:∀m,P m (D.now.getD m [])
  kept:∀m,P m (D.kept.getD m [])
  wait:∀t∈D.wait,P t.1 t.2
def okP (P:Nat→Bytes→Prop):Stp→Prop
  | some x=>P x.1 (yg x.2)
  | none=>True
theorem AllP.step {P:Nat→Bytes→Prop}{D:DiskM}(h:AllP P D):AllP P (yY D):=⟨by rw[wC];exact h.now,by rw[yZ];exact h.kept,by rw[ws];exact h.wait⟩
theorem AllP.st {P:Nat→Bytes→Prop}{D:DiskM}{x:Stp}(h:AllP P D)(hx:okP P x):AllP P (stD D x):=by
  cases x with
  | none=>
    show AllP P (yw D);unfold yw;split
    · exact ⟨h.step.now,h.step.now,fun t ht=>by cases ht⟩
    · exact h.step
  | some y=>
    show AllP P (yv D y.1 y.2);unfold yv;split
    · exact h
    · split
      · refine ⟨fun m=>?_,h.step.kept,fun t ht=>?_⟩
        · show P m (((yY D).now.set ((y.1:Int)).toNat (yg y.2)).getD m []);rw[yN];split
          · rename_i hc;rw[←hc.1,Int.toNat_natCast];exact hx
          · exact h.step.now m
        · simp only[wt,List.mem_append,List.mem_singleton] at ht;rcases ht with ht | rfl
          · exact h.step.wait t ht
          · simp only[Int.toNat_natCast];exact hx
      · exact h.step
theorem AllP.run {P:Nat→Bytes→Prop}:∀(l:List Stp) {D:DiskM},AllP P D→(∀x∈l,okP P x)→AllP P (we D l).2
  | [],D,h,_=>h
  | x::l,D,h,ho=>by
    have h1:=h.st (ho x (List.mem_cons_self ..));by_cases h0:stE D x=0
    · rw[zcs h0];exact AllP.run l h1 fun y hy=>ho y (List.mem_cons_of_mem _ hy)
    · rw[zbv h0];exact h1
theorem AllP.rest {P:Nat→Bytes→Prop}{D:DiskM}(h:AllP P D)(keep:Int)(m:Nat):P m ((zao keep D).getD m []):=by
  rcases ze8 (keep:=keep) (w:=D.wait) (K:=D.kept) D.wait.length m with e | ⟨t,ht,e1,e2⟩
  · show P m ((zbb keep D.wait D.kept D.wait.length).getD m []);rw[e];exact h.kept m
  · show P m ((zbb keep D.wait D.kept D.wait.length).getD m []);rw[e2,←e1];exact h.wait t ht
theorem AllP.calm {P:Nat→Bytes→Prop}{D:DiskM}(hk:D.kept=D.now)(hw:D.wait=[])(h:∀m,P m (D.now.getD m [])):AllP P D:=⟨h,by rw[hk];exact h,by rw[hw];intro t ht;cases ht⟩
theorem zho (keep:Int)(D:DiskM):(zao keep D).length=D.kept.length:=zan ..
theorem zjU:∀(l:List Stp) {D D':DiskM},(∀x∈l,zco D.now.length x)→we D l=(0,D')→D'.now=zaz D.now l
  | [],D,D',_,h=>by injection h with _ h;rw[←h];rfl
  | none::l,D,D',ho,h=>by
    by_cases h0:yU D=0
    · rw[zdu h0] at h;have hn:=(zbL h0).2;have:=zjU l (D:=yw D) (fun x hx=>by rw[hn];exact ho x (List.mem_cons_of_mem _ hx)) h;rw[this,hn];rfl
    · rw[zcR h0] at h;injection h with h _;exact absurd h h0
  | some y::l,D,D',ho,h=>by
    obtain ⟨n,s⟩:=y;have hy:=ho _ (List.mem_cons_self ..);have hb:¬zif D (n:Int) s:=(by unfold zif;have h1:=hy.1;have h2:=hy.2;simp only at h1 h2;omega);by_cases h0:yO D (n:Int) s=0
    · rw[zfl h0] at h;have hs:yU D=0:=(by unfold yO at h0;rw[if_neg hb] at h0;exact h0);have hn:(yv D (n:Int) s).now=D.now.set n (yg s):=by
        unfold yv;rw[if_neg hb,if_pos hs];show (yY D).now.set ((n:Int)).toNat _=_;rw[wC,Int.toNat_natCast]
      have:=zjU l (D:=yv D (n:Int) s) (fun x hx=>by rw[hn,List.length_set];exact ho x (List.mem_cons_of_mem _ hx)) h;rw[this,hn];rfl
    · rw[zdB h0] at h;injection h with h _;exact absurd h h0
theorem ztW {side:Nat}{t:Bytes}:∀(f k:Nat) (L:List Bytes) (m:Nat),(zaz L (ckW side t k f)).getD m []=if 2+side*60+k≤m∧m<2+side*60+k+f∧m<L.length then yg (wz t (m - (2+side*60))) else L.getD m []
  | 0,k,L,m=>by rw[if_neg (by omega)];rfl
  | f+1,k,L,m=>by
    rw[ckW,zaz,ztW f (k+1),List.length_set,yN];by_cases h1:2+side*60+(k+1)≤m∧m<2+side*60+(k+1)+f∧m<L.length
    · rw[if_pos h1,if_pos (by omega)]
    · rw[if_neg h1];by_cases h2:2+side*60+k=m∧2+side*60+k<L.length
      · rw[if_pos h2,if_pos (by omega),show m - (2+side*60)=k by omega]
      · rw[if_neg h2,if_neg (by omega)]
theorem zlO {t:Bytes}{k:Nat}(h:80*(k+1)≤t.length):yg (wz t k)=wz t k:=by
  have:(wz t k).length=80:=(by rw[zb6,show Nat.min 80 (t.length - 80*k)=80 from Nat.min_eq_left (by omega)]);unfold yg;rw[this];simp[zbS]
theorem ziM {t:Bytes}{k:Nat}:t.take (80*k)++wz t k=t.take (80*(k+1)):=by
  unfold wz;rw[show 80*(k+1)=80*k+80 by omega,List.take_add]
theorem zmI {L:List Bytes}{side:Nat}{t:Bytes}(hL:2+side*60+60≤L.length)(hs:∀k,k<qZ t→L.getD (2+side*60+k) []=yg (wz t k))(h60:qZ t≤60):∀k,80*k≤t.length→txK L side k=t.take (80*k)
  | 0,_=>rfl
  | k+1,h=>by
    have hk:k<qZ t:=chunks_lt.2 (by omega);rw[←zmo (by omega),zmI hL hs h60 k (by omega),hs k hk,zlO h,ziM]
theorem zrs {L:List Bytes}{side:Nat}(hL:2+side*60+60≤L.length):∀(g k:Nat),k+g≤60→∃r,txK L side (k+g)=txK L side k++r
  | 0,k,_=>⟨[],by simp⟩
  | g+1,k,h=>by
    obtain ⟨r,hr⟩:=zrs hL g k (by omega);exact ⟨r++L.getD (2+side*60+(k+g)) [],by rw[show k+(g+1)=(k+g)+1 by omega,←zmo (by omega),hr,List.append_assoc]⟩
theorem zyr {L:List Bytes}{side:Nat}{t:Bytes}(hL:2+side*60+60≤L.length)(hs:∀k,k<qZ t→L.getD (2+side*60+k) []=yg (wz t k))(h60:qZ t≤60):(txK L side 60).take t.length=t:=by
  have hq:∃r,txK L side (qZ t)=t++r:=by
    by_cases he:80*qZ t=t.length
    · exact ⟨[],by rw[zmI hL hs h60 _ (by omega),he,List.take_length,List.append_nil]⟩
    · obtain ⟨q,hq⟩:∃q,qZ t=q+1:=⟨qZ t - 1,by unfold qZ at*;omega⟩;have h1:80*q<t.length:=chunks_lt.1 (by omega);refine ⟨zbS (80 - (wz t q).length),?_⟩;rw[hq,←zmo (by omega),zmI hL hs h60 q (by omega),hs q (by omega)];unfold yg;rw[←List.append_assoc,ziM,List.take_of_length_le (by unfold qZ at*;omega)]
  obtain ⟨r,hr⟩:=hq;obtain ⟨r2,hr2⟩:=zrs hL (60 - qZ t) (qZ t) (by omega);rw[show qZ t+(60 - qZ t)=60 by omega] at hr2;rw[hr2,hr,List.append_assoc,List.take_left]
theorem zsu {L:List Bytes}{h:HdM}{i:Nat}(hi:i<2)(hL:2≤L.length)(hb:(zfJ L).ep<h.ep)(ho:wE (yg (wd h))=h):zfJ (L.set i (yg (wd h)))=h:=by
  rw[zhc,yN,yN];rw[zhc] at hb
  match i,hi with
  | 0,_=>
    rw[if_pos ⟨rfl,by omega⟩,if_neg (fun hc=>absurd hc.1 (by decide)),ho];exact zvB hb
  | 1,_=>
    rw[if_neg (fun hc=>absurd hc.1 (by decide)),if_pos ⟨rfl,by omega⟩,ho];exact zu7 hb
theorem zsx {L:List Bytes}{h:HdM}{r0:List ChangeM}{ds:Deeds}{used:Nat}(g:Good L h r0 ds used)(hL:196≤L.length∧L.length≤260)(hep:h.ep≤1000000)(hfi:h.first≤900000000)(hnb:∀m,122≤m→m<L.length→zoR (h.first+(L.length - 122)) (L.getD m [])):
    Good ((zaz L (ckW (1 - h.side) (yu (cur r0 ds)) 0 (qZ (yu (cur r0 ds))))).set ((h.ep+1) % 2) (yg (wd (nxH h (cur r0 ds) (L.length - 122))))) (nxH h (cur r0 ds) (L.length - 122)) (cur r0 ds) [] 0:=by
  have hc60:=zbZ g.lenC g.okC;have hal:=zcF g.okC;have hlc:=g.lenC;have hs:=g.side;generalize hL2:zaz L (ckW (1 - h.side) (yu (cur r0 ds)) 0 (qZ (yu (cur r0 ds))))=L2;have hl2:L2.length=L.length:=(by rw[←hL2,zaD]);have hat:∀m,L2.getD m []=if 2+(1 - h.side)*60≤m∧m<2+(1 - h.side)*60+qZ (yu (cur r0 ds))∧m<L.length then yg (wz (yu (cur r0 ds)) (m - (2+(1 - h.side)*60))) else L.getD m []:=fun m=>by rw[←hL2,ztW];rfl
  have hho:wE (yg (wd (nxH h (cur r0 ds) (L.length - 122))))=nxH h (cur r0 ds) (L.length - 122):=zio (by simp only[nxH];omega) (by simp only[nxH];omega) (by simp only[nxH];omega) (by have:=g.first;simp only[nxH];omega);have hset:∀m,2≤m→(L2.set ((h.ep+1) % 2) (yg (wd (nxH h (cur r0 ds) (L.length - 122))))).getD m []=L2.getD m []:=fun m hm=>(by rw[yN,if_neg (by omega)]);have hbest:zfJ L2=h:=(zmM (by rw[hat,if_neg (by omega)]) (by rw[hat,if_neg (by omega)])).trans g.best;refine ⟨zsu (by omega) (by omega) (by rw[hbest];simp only[nxH];omega) hho,by simp only[nxH];omega,by simp only[nxH];omega,by have:=g.first;simp only[nxH];omega,rfl,?_,g.srtC,g.okC,g.lenC,?_,(fun d hd=>by cases hd),(fun d hd=>by cases hd),fun k=>by rw[List.take_nil];exact g.lenC⟩
  · show (txK _ (1 - h.side) 60).take (yu (cur r0 ds)).length=_;refine zyr (by rw[List.length_set];omega) (fun k hk=>?_) hc60;rw[hset _ (by omega),hat,if_pos ⟨by omega,by omega,by omega⟩,Nat.add_sub_cancel_left]
  · rw[List.length_set,hl2];have h0:zga (L2.set ((h.ep+1) % 2) (yg (wd (nxH h (cur r0 ds) (L.length - 122))))) 122 0=L.getD 122 []:=by
      show List.getD _ _ _=_;rw[hset _ (by omega),hat,if_neg (by omega)]
    obtain ⟨m,hm⟩:∃m,L.length - 122=m+1:=⟨L.length - 123,by omega⟩;rw[show L.length - 122=m+1 from hm];refine zgM ?_;show zaP (h.first+(m+1)+0) (zga _ 122 0)=none;rw[←hm,h0];exact hnb 122 (Nat.le_refl _) (by omega) _ (by omega) (by omega)
theorem zvC {h:HdM}{t:Bytes}{L:List Bytes}(hc:qZ t≤60):∀x∈ckW (1 - h.side) t 0 (qZ t),okP (fun m s=>(m<2+(1 - h.side)*60∨2+(1 - h.side)*60+60≤m)→s=L.getD m []) x:=by
  have:∀(f k:Nat),k+f≤60→∀x∈ckW (1 - h.side) t k f,okP (fun m s=>(m<2+(1 - h.side)*60∨2+(1 - h.side)*60+60≤m)→s=L.getD m []) x:=by
    intro f
    induction f with
    | zero=>intro k _ x hx;simp[ckW] at hx
    | succ f ih=>
      intro k hk x hx;rw[ckW] at hx;rcases List.mem_cons.1 hx with rfl | hx
      · intro hm;simp only at hm;omega
      · exact ih (k+1) (by omega) x hx
  exact this _ 0 (by omega)
theorem zrU {L L':List Bytes}{h:HdM}{r0:List ChangeM}{ds:Deeds}{used:Nat}(g:Good L h r0 ds used)(hl:L'.length=L.length)(h122:122≤L.length)(hP:∀m,(m<2+(1 - h.side)*60∨2+(1 - h.side)*60+60≤m)→L'.getD m []=L.getD m []):Good L' h r0 ds used:=by
  have hs:=g.side;refine zrd g hl h122 (fun m hm=>hP m (by omega)) (fun m h1 h2=>hP m ?_) (fun m hm=>hP m (by omega));have:h.side=0∨h.side=1:=(by omega);rcases this with e | e <;> rw[e] at h1 h2 ⊢ <;> omega
theorem zre {many first used:Nat}:∀(c:List ChangeM) (k:Nat),used+k+c.length≤many→first+many≤4294967296→∀x∈zfR 122 first used k c,okP (fun m s=>122≤m∧zoR (first+many) s) x
  | [],k,_,_,x,h=>by simp[zfR] at h
  | y::c,k,hk,hf,x,h=>by
    rw[zfR] at h;simp only[List.length_cons] at hk;rcases List.mem_cons.1 h with rfl | h
    · exact ⟨by simp only;omega,zkB (by omega) hf⟩
    · exact zre c (k+1) (by omega) hf x h
theorem zwE {many first used:Nat}{c:List ChangeM}(hu:used+c.length+1≤many)(hf:first+many≤4294967296):∀x∈zfr 122 many first used c,okP (fun m s=>122≤m∧zoR (first+many) s) x:=by
  intro x hx;unfold zfr zih at hx;simp only[List.mem_append,List.mem_cons,List.not_mem_nil,or_false] at hx;rcases hx with (hx | hx) | rfl | rfl | rfl
  · exact zre c 0 (by omega) hf x hx
  · unfold zi9 at hx;split at hx
    · simp only[List.mem_singleton] at hx;subst hx;exact ⟨by simp only;omega,zir _⟩
    · simp at hx
  · trivial
  · exact ⟨by simp only;omega,zkB (by omega) hf⟩
  · trivial
theorem zhK {r0:List ChangeM}{ds:Deeds}{c:List ChangeM}(h:∀k,((ds.take k).foldl zaJ r0).length≤80)(hc:(zaJ (cur r0 ds) c).length≤80):∀k,(((ds++ [c]).take k).foldl zaJ r0).length≤80:=fun k=>by
  rcases Nat.lt_or_ge ds.length k with hk | hk
  · rw[List.take_of_length_le (by simp;omega),show (ds++ [c]).foldl zaJ r0=zaJ (cur r0 ds) c from zgl r0 ds c];exact hc
  · rw[List.take_append_of_le_length hk];exact h k
theorem zdH {α:Type}{p:α→Prop}{l:List α}{c:α}(h:∀d∈l,p d)(hc:p c):∀d∈l++ [c],p d:=fun d hd=>by
  rcases List.mem_append.1 hd with hd | hd
  · exact h d hd
  · rw[List.mem_singleton] at hd;rw[hd];exact hc
structure Inv (N:Nat) (D:DiskM) (h:HdM) (r0:List ChangeM) (ds:Deeds) (used:Nat):Prop where
  len:D.now.length=N
  big:196≤N∧N≤260
  good:Good D.now h r0 ds used
  num:∀m,122≤m→m<N→zoR (h.first+(N - 122)) (D.now.getD m [])
theorem Inv.used_le {N:Nat}{D:DiskM}{h:HdM}{r0:List ChangeM}{ds:Deeds}{used:Nat}(I:Inv N D h r0 ds used):used≤N - 122:=by
  have:=zkh I.good.log;rw[I.len] at this;exact this
theorem Inv.now {N:Nat}{D D':DiskM}{h:HdM}{r0:List ChangeM}{ds:Deeds}{used:Nat}(I:Inv N D h r0 ds used)(hn:D'.now=D.now):Inv N D' h r0 ds used:=⟨by rw[hn];exact I.len,I.big,by rw[hn];exact I.good,by rw[hn];exact I.num⟩
theorem zjd (h:HdM)(t:Bytes)(L:List Bytes):zaz L (ckL h t)=(zaz L (ckW h.side t 0 (qZ t))).set (h.ep % 2) (yg (wd h)):=by unfold ckL;rw[zbg];rfl
theorem Inv.new {N:Nat}{D D1:DiskM}{h:HdM}{r0:List ChangeM}{ds:Deeds}{used:Nat}(I:Inv N D h r0 ds used)(hep:h.ep≤1000000)(hf:h.first≤900000000)(hn:D1.now=zaz D.now (ckL (nxH h (cur r0 ds) (N - 122)) (yu (cur r0 ds)))):
    Inv N D1 (nxH h (cur r0 ds) (N - 122)) (cur r0 ds) [] 0:=by
  have hl:=I.len;have g:=zsx I.good (by rw[hl];exact I.big) hep hf (by rw[hl];exact I.num);rw[hl] at g;rw[zjd] at hn;have hc60:=zbZ I.good.lenC I.good.okC;refine ⟨by rw[hn,List.length_set,zaD,hl],I.big,by rw[hn];exact g,fun m h1 h2=>?_⟩;rw[hn,yN,if_neg (by simp only[nxH];omega),ztW,if_neg (by simp only[nxH];omega)];exact zqQ (I.num m h1 h2) (by simp only[nxH];omega)
theorem zvh {N:Nat}{D:DiskM}{h:HdM}{r0:List ChangeM}{ds:Deeds}{used:Nat}(hu:upW D)(I:Inv N D h r0 ds used)(hep:h.ep≤1000000)(hf:h.first≤900000000):
    ∃D1,we D (ckL (nxH h (cur r0 ds) (N - 122)) (yu (cur r0 ds)))=(0,D1)∧upW D1∧Inv N D1 (nxH h (cur r0 ds) (N - 122)) (cur r0 ds) [] 0:=by
  obtain ⟨r1,r2,r3⟩:=zeI _ D hu (by rw[I.len];exact zrM (h:=h) I.good.lenC I.good.okC I.big.1);exact ⟨_,Prod.ext r1 rfl,r2,I.new hep hf r3⟩
theorem ze0 {first many:Nat}{sec:Nat→Bytes}{a b:Deeds}{u v:Nat}(h1:wb first sec many 0 [] [] 0=(a,u))(h2:wb first sec many 0 [] [] 0=(b,v)):a=b∧u=v:=by
  rw[h1] at h2;injection h2 with e1 e2;exact ⟨e1,e2⟩
theorem Inv.add {N:Nat}{D D1:DiskM}{h:HdM}{r0:List ChangeM}{ds ds':Deeds}{used used':Nat}(I:Inv N D h r0 ds used)(hl:D1.now.length=N)(hP:∀m,(m<122→D1.now.getD m []=D.now.getD m [])∧(122≤m→m<N→zoR (h.first+(N - 122)) (D1.now.getD m [])))
    (hlog:wb h.first (zga D1.now 122) (N - 122) 0 [] [] 0=(ds',used')) (h1:∀d∈ds',d.length≤72) (h2:∀d∈ds',∀x∈d,zbu x=0) (h3:∀k,((ds'.take k).foldl zaJ r0).length≤80):Inv N D1 h r0 ds' used':=by
  have hb:=I.big;have hs:=I.good.side;exact ⟨hl,I.big,znR I.good (by rw[hl,I.len]) (by rw[I.len];omega) (fun m hm=>(hP m).1 (by omega)) (fun m a b=>(hP m).1 (by omega)) (by rw[I.len];exact hlog) h1 h2 h3,fun m a b=>(hP m).2 a b⟩
theorem addP {N:Nat}{D:DiskM}{h:HdM}{r0:List ChangeM}{ds:Deeds}{used:Nat}{c:List ChangeM}(I:Inv N D h r0 ds used)(hf:h.first≤900000000)(hv:zgt (N - 122) used c=0):∀x∈zfr 122 (N - 122) h.first used c,okP (fun m s=>(m<122→s=D.now.getD m [])∧(122≤m→m<N→zoR (h.first+(N - 122)) s)) x:=by
  obtain ⟨v1,v2,v3⟩:=zeo hv;have hb:=I.big;intro x hx;have:=zwE (many:=N - 122) (first:=h.first) (used:=used) (c:=c) (by omega) (by omega) x hx;cases x with
  | none=>trivial
  | some y=>exact ⟨fun hm=>absurd this.1 (by omega),fun _ _=>this.2⟩
theorem zxm {N:Nat}{D:DiskM}{h:HdM}{r0:List ChangeM}{ds:Deeds}{used:Nat}{c:List ChangeM}(hu:upW D)(h80:∀x∈D.now,x.length=80)(I:Inv N D h r0 ds used)(hf:h.first≤900000000)(hv:zgt (N - 122) used c=0)(hfit:(zaJ (cur r0 ds) c).length≤80):
    zhP 122 (N - 122) h.first used c D=0∧upW (zdy 122 (N - 122) h.first used c D)∧zhl 122 (N - 122) h.first used c D=used+c.length+1∧Inv N (zdy 122 (N - 122) h.first used c D) h r0 (ds++ [c]) (used+c.length+1):=by
  obtain ⟨v1,v2,v3⟩:=zeo hv;have hb:=I.big;have hlog:=I.good.log;rw[I.len] at hlog;obtain ⟨a1,a2,a3,a4,a5⟩:=zxQ hu h80 (by rw[I.len];omega) hv hlog;refine ⟨a1,a2,by unfold zhl;rw[if_pos a1],?_⟩;have hall:AllP (fun m s=>(m<122→s=D.now.getD m [])∧(122≤m→m<N→zoR (h.first+(N - 122)) s)) {D with kept:=D.now,wait:=[]}:=AllP.calm rfl rfl fun m=>⟨fun _=>rfl,fun h1 h2=>I.num m h1 h2⟩;have hD:zdy 122 (N - 122) h.first used c D=(we D (zfr 122 (N - 122) h.first used c)).2:=(by unfold zdy;rw[if_pos hv]);have hok:∀x∈zfr 122 (N - 122) h.first used c,zco D.now.length x:=(by rw[I.len];exact zjh (by omega) hv);have hrn:=(zeI _ D hu hok).2.2;have hrn2:=(zeI _ ({D with kept:=D.now,wait:=[]}:DiskM) hu hok).2.2;have hP:=(hall.run (zfr 122 (N - 122) h.first used c) (addP I hf hv)).now;rw[hrn2] at hP;rw[←hrn,←hD] at hP;exact I.add (by rw[a4,I.len]) hP a5 (zdH I.good.lens v1) (zdH I.good.chk v3) (zhK I.good.fits hfit)
theorem cm0 {many:Nat}{rows c:List ChangeM}(h:cmV many rows c=0):c.length≤72∧zej c=0∧(zaJ rows c).length≤80∧c.length+1≤many:=by
  unfold cmV at h;split at h
  · cases h
  · split at h
    · rename_i h1 h2;exact absurd h h2
    · split at h
      · cases h
      · rename_i h1 h2 h3;exact ⟨by omega,by simpa using h2,by omega,by omega⟩
theorem zun {N:Nat}{D:DiskM}{h:HdM}{r0:List ChangeM}{ds:Deeds}{used:Nat}{c:List ChangeM}{e:Int}{D2:DiskM}{h2:HdM}{used2:Nat}{rows2:List ChangeM}(hu:upW D)(hS:S80 D)(I:Inv N D h r0 ds used)(hep:h.ep≤1000000)(hf:h.first≤800000000)(hc:ztB D h (cur r0 ds) (N - 122) used c e D2 h2 used2 rows2):
    e=cmV (N - 122) (cur r0 ds) c∧upW D2∧S80 D2∧h2.ep≤h.ep+1∧h2.first≤h.first+N∧rows2=(if cmV (N - 122) (cur r0 ds) c=0 then zaJ (cur r0 ds) c else cur r0 ds)∧
      used2=(if cmV (N - 122) (cur r0 ds) c=0 then (if N - 122 - used<c.length+1 then 0 else used)+c.length+1 else used)∧∃r0' ds',Inv N D2 h2 r0' ds' used2∧cur r0' ds'=rows2:=by
  have hb:=I.big;rcases hc with ⟨hne,rfl,rfl,rfl,rfl,rfl⟩ | ⟨h0,e1,D1,h1,used1,hmid,hrest⟩
  · exact ⟨rfl,hu,hS,by omega,by omega,by rw[if_neg hne],by rw[if_neg hne],r0,ds,I,rfl⟩
  · obtain ⟨c1,c2,c3,c4⟩:=cm0 h0;have hm:e1=0∧upW D1∧S80 D1∧h1.ep≤h.ep+1∧h1.first≤h.first+N∧used1=(if N - 122 - used<c.length+1 then 0 else used)∧∃r1 d1,Inv N D1 h1 r1 d1 used1∧cur r1 d1=cur r0 ds:=by
      rcases hmid with ⟨hroom,hrun,hck⟩ | ⟨hroom,rfl,rfl,rfl,rfl⟩
      · obtain ⟨D1',hr1,hu1,I1⟩:=zvh hu I hep (by omega);rw[hr1] at hrun;injection hrun with q1 q2;subst q1 q2;have h80:=zei _ D hS (zrM (h:=h) I.good.lenC I.good.okC I.big.1);rw[hr1] at h80;rcases hck with ⟨hx,_⟩ | ⟨_,rfl,hu1',d',hsc⟩
        · exact absurd rfl hx
        · have hlog:=I1.good.log;rw[I1.len] at hlog;have:=(ze0 hsc hlog).2;subst this;exact ⟨rfl,hu1,h80,by simp only[nxH];omega,by simp only[nxH];omega,by rw[if_pos hroom],_,_,I1,rfl⟩
      · exact ⟨rfl,hu,hS,by omega,by omega,by rw[if_neg hroom],r0,ds,I,rfl⟩
    obtain ⟨rfl,hu1,hS1,m1,m2,m3,r1,d1,I1,hcur⟩:=hm;rcases hrest with ⟨hx,_⟩ | ⟨_,rfl,rfl,rfl,rfl,rfl⟩
    · exact absurd rfl hx
    · have hv:zgt (N - 122) used1 c=0:=(by rw[zlJ c1 (by rw[m3];split <;> omega)];exact c2);obtain ⟨a1,a2,a3,a4⟩:=zxm (c:=c) hu1 hS1.2.1 I1 (by omega) hv (by rw[hcur];exact c3);refine ⟨by rw[a1,h0],a2,zp2 hS1 (N:=N) (by omega),m1,m2,by rw[if_pos a1,if_pos h0],by rw[a3,if_pos h0,m3],r1,d1++ [c],by rw[a3];exact a4,?_⟩;rw[if_pos a1,zgl,hcur]
theorem zsP {N i:Nat}{D:DiskM}(h:okW N i D)(from_ many first used:Nat)(c:List ChangeM):okW N (i+200) (zdy from_ many first used c D):=by
  unfold zdy;split
  · rename_i hv;obtain ⟨h1,_,_⟩:=zeo hv;refine za3 (za7 _ _ _ h) ?_;have:=znV from_ many first used c
    simp only[zfr,List.length_append,List.length_cons,List.length_nil];omega
  · exact za3 h (by omega)
theorem zuH {N i:Nat}{D:DiskM}{h:HdM}{r0:List ChangeM}{ds:Deeds}{used:Nat}{c:List ChangeM}{e:Int}{D2:DiskM}{h2:HdM}{used2:Nat}{rows2:List ChangeM}(hok:okW N i D)(hS:S80 D)(I:Inv N D h r0 ds used)(hc:ztB D h (cur r0 ds) (N - 122) used c e D2 h2 used2 rows2):okW N (i+263) D2:=by
  rcases hc with ⟨_,_,rfl,_⟩ | ⟨_,e1,D1,h1,used1,hmid,hr⟩
  · exact za3 hok (by omega)
  · have hm:=(zrW hmid hok hS I.good.lenC I.good.okC I.big.1 I.used_le).1;rcases hr with ⟨_,_,rfl,_⟩ | ⟨_,_,rfl,_⟩
    · exact za3 hm (by omega)
    · exact za3 (zsP hm _ _ _ _ _) (by omega)
theorem zn5:∀(k:Nat) (L:List Bytes) (m:Nat),(zaz L (fmW k)).getD m []=if (m=0∨(122≤m∧m<122+k))∧m<L.length then yg [] else L.getD m []
  | 0,L,m=>by
    show (L.set 0 (yg [])).getD m []=_;rw[yN];by_cases h:m=0
    · subst h;by_cases h2:0<L.length
      · rw[if_pos ⟨rfl,h2⟩,if_pos ⟨.inl rfl,h2⟩]
      · rw[if_neg (fun hc=>h2 hc.2),if_neg (fun hc=>h2 hc.2)]
    · rw[if_neg (fun hc=>h hc.1.symm),if_neg (by omega)]
  | k+1,L,m=>by
    rw[fmW,zbg];show ((zaz L (fmW k)).set (122+k) (yg [])).getD m []=_;rw[yN,zaD,zn5 k L m];by_cases h:122+k=m∧122+k<L.length
    · rw[if_pos h,if_pos ⟨.inr (by omega),by omega⟩]
    · rw[if_neg h];by_cases h2:(m=0∨(122≤m∧m<122+k))∧m<L.length
      · rw[if_pos h2,if_pos ⟨by omega,h2.2⟩]
      · rw[if_neg h2,if_neg (by omega)]
theorem zuk {N:Nat}(hN:196≤N):∀k,122+k≤N→∀x∈fmW k,zco N x
  | 0,_,x,h=>by
    rw[fmW,List.mem_singleton] at h;subst h;exact ⟨by simp only;omega,by simp⟩
  | k+1,hk,x,h=>by
    rw[fmW] at h;rcases List.mem_append.1 h with h | h
    · exact zuk hN k (by omega) x h
    · rw[List.mem_singleton] at h;subst h;exact ⟨by simp only;omega,by simp⟩
theorem zlh {N:Nat}(hN:196≤N):∀x∈fmL N,zco N x:=fun x hx=>by
  unfold fmL fmT at hx;simp only[List.mem_append,List.mem_cons,List.not_mem_nil,or_false] at hx;rcases hx with hx | rfl | rfl | rfl
  · exact zuk hN _ (by omega) x hx
  · trivial
  · exact ⟨by simp only;omega,by rw[zhM];decide⟩
  · trivial
theorem zl9:wE (yg [])=HdM.no:=by
  unfold wE;rw[if_pos];left;decide
theorem zsh {L:List Bytes}(hN:196≤L.length):Good (zaz L (fmL L.length)) hd1 [] [] 0:=by
  have e:zaz L (fmL L.length)=(zaz L (fmW (L.length - 122))).set 1 (yg (wd hd1)):=(by unfold fmL;rw[zbg];rfl);rw[e];have hat:=zn5 (L.length - 122) L;have hl:(zaz L (fmW (L.length - 122))).length=L.length:=zaD ..;generalize zaz L (fmW (L.length - 122))=M at hat hl ⊢;have hh:wE (yg (wd hd1))=hd1:=zio (by decide) (by decide) (by decide) (by decide);refine ⟨?_,by decide,by decide,by decide,rfl,?_,List.Pairwise.nil,(fun r hr=>by cases hr),by decide,?_,(fun d hd=>by cases hd),(fun d hd=>by cases hd),fun k=>by rw[List.take_nil];decide⟩
  · rw[zhc,yN,yN,if_neg (fun hc=>absurd hc.1 (by decide)),if_pos ⟨rfl,by omega⟩,hat,if_pos ⟨.inl rfl,by omega⟩,zl9,hh]
    rfl
  · show List.take 0 _=_
    rfl
  · rw[List.length_set,hl];obtain ⟨m,hm⟩:∃m,L.length - 122=m+1:=⟨L.length - 123,by omega⟩;rw[hm];refine zgM ?_;show zaP _ ((M.set 1 (yg (wd hd1))).getD (122+0) [])=none;rw[yN,if_neg (by omega),hat,if_pos ⟨.inr (by omega),by omega⟩];exact zcp _
theorem zrj {N:Nat}{D D1:DiskM}(hN:196≤N∧N≤260)(hl:D.now.length=N)(hn:D1.now=zaz D.now (fmL N)):Inv N D1 hd1 [] [] 0:=by
  have e:zaz D.now (fmL N)=(zaz D.now (fmW (N - 122))).set 1 (yg (wd hd1)):=(by unfold fmL;rw[zbg];rfl);have g:=zsh (L:=D.now) (by rw[hl];exact hN.1);rw[hl] at g;refine ⟨by rw[hn,zaD,hl],hN,by rw[hn];exact g,fun m h1 h2=>?_⟩;rw[hn,e,yN,if_neg (by omega),zn5,if_pos ⟨.inr (by omega),by omega⟩];exact zir _
theorem ziW {N:Nat}:∀(l:List Stp) {D:DiskM},D.now.length=N→D.kept.length=N→(we D l).2.now.length=N∧(we D l).2.kept.length=N
  | [],D,h1,h2=>⟨h1,h2⟩
  | x::l,D,h1,h2=>by
    have hs:(stD D x).now.length=N∧(stD D x).kept.length=N:=by
      cases x with
      | none=>
        show (yw D).now.length=N∧(yw D).kept.length=N;unfold yw;split <;> simp[zaX,wC,yZ,h1,h2]
      | some z=>
        show (yv D z.1 z.2).now.length=N∧(yv D z.1 z.2).kept.length=N;unfold yv;split
        · exact ⟨h1,h2⟩
        · split <;> simp[wt,wC,yZ,h1,h2]
    by_cases h0:stE D x=0
    · rw[zcs h0];exact ziW l hs.1 hs.2
    · rw[zbv h0];exact hs
theorem zlm {l:List Stp}{D D2:DiskM}(ho:∀x∈l,zco D.now.length x)(h:we D (l++ [none])=(0,D2)):calm D2∧D2.now=zaz D.now l:=by
  cases h1:we D l with
  | mk e1 D1=>
    by_cases he:e1=0
    · subst he;rw[zbD h1] at h;injection h with q1 q2;have hc:=zbL (D:=D1) q1;rw[←q2];exact ⟨hc.1,hc.2.trans (zjU l ho h1)⟩
    · rw[zbH h1 he] at h;injection h with q1 _;exact absurd q1 he
def Cal (N:Nat)(D:DiskM)(h:HdM)(r0:List ChangeM)(ds:Deeds)(used:Nat):Prop:=calm D∧Inv N D h r0 ds used∧zjz 122 (N - 122) h.first D.now ds used
def Fell (N:Nat)(D:DiskM)(E Fi:Nat)(φ:List ChangeM→Prop):Prop:=∀keep,∃h r0 ds used,Inv N (zaR keep D) h r0 ds used∧φ (cur r0 ds)∧h.ep≤E∧h.first≤Fi∧zjz 122 (N - 122) h.first (zao keep D) ds used
theorem ztV {B j first:Nat}{s:Bytes}(h:zoR B s)(h1:B≤first+j)(h2:first+j<4294967296):¬zke first j s:=fun ⟨t,ht⟩=>by rw[h _ h1 h2] at ht;cases ht
theorem zmU {N:Nat}{D D1:DiskM}{h:HdM}{r0:List ChangeM}{ds:Deeds}{used:Nat}(I:Inv N D h r0 ds used)(hf:h.first≤900000000)(hn:D1.now=zaz D.now (ckL (nxH h (cur r0 ds) (N - 122)) (yu (cur r0 ds))))(I1:Inv N D1 (nxH h (cur r0 ds) (N - 122)) (cur r0 ds) [] 0):zjz 122 (N - 122) (nxH h (cur r0 ds) (N - 122)).first D1.now [] 0:=by
  have hlg:=I1.good.log;rw[I1.len] at hlg;have hb:=I.big;have hc60:=zbZ I.good.lenC I.good.okC;refine ⟨hlg,fun j _ hj=>?_⟩;have e:zga D1.now 122 j=D.now.getD (122+j) []:=by
    show List.getD _ _ _=_;rw[hn,zjd,yN,if_neg (by simp only[nxH];omega),ztW,if_neg (by simp only[nxH];omega)]
  rw[e];exact ztV (I.num (122+j) (by omega) (by omega)) (by simp only[nxH];omega) (by simp only[nxH];omega)
theorem zjA {N:Nat}{D:DiskM}{h:HdM}{r0:List ChangeM}{ds:Deeds}{used:Nat}(hq:calm D)(I:Inv N D h r0 ds used)(hsf:zjz 122 (N - 122) h.first D.now ds used)(hep:h.ep≤1000000)(hf:h.first≤900000000){e:Int}{D1:DiskM}(hr:we D (ckL (nxH h (cur r0 ds) (N - 122)) (yu (cur r0 ds)))=(e,D1)):
    (e=0∧Cal N D1 (nxH h (cur r0 ds) (N - 122)) (cur r0 ds) [] 0)∨(e=9∧Fell N D1 (h.ep+1) (h.first+N) (fun x=>x=cur r0 ds)):=by
  have hb:=I.big;have hl:=I.len;have hs:=I.good.side;have hc60:=zbZ I.good.lenC I.good.okC;have hokA:∀x∈ckL (nxH h (cur r0 ds) (N - 122)) (yu (cur r0 ds)),zco D.now.length x:=(by rw[hl];exact zrM (h:=h) I.good.lenC I.good.okC hb.1);have hall:AllP (fun m s=>(m<2+(1 - h.side)*60∨2+(1 - h.side)*60+60≤m)→s=D.now.getD m []) D:=AllP.calm hq.1 hq.2.1 fun m _=>rfl;have invH:∀D':DiskM,D'.now.length=N→(∀m,(m<2+(1 - h.side)*60∨2+(1 - h.side)*60+60≤m)→D'.now.getD m []=D.now.getD m [])→Inv N D' h r0 ds used:=fun D' hl' hP=>
    ⟨hl',hb,zrU I.good (by rw[hl',hl]) (by rw[hl];omega) hP,fun m h1 h2=>by rw[hP m (by omega)];exact I.num m h1 h2⟩
  have e0:ckL (nxH h (cur r0 ds) (N - 122)) (yu (cur r0 ds))=(ckW (1 - h.side) (yu (cur r0 ds)) 0 (qZ (yu (cur r0 ds)))++ [none])++ [some ((h.ep+1) % 2,wd (nxH h (cur r0 ds) (N - 122))),none]:=(by rw[List.append_assoc];rfl);have hokW:∀x∈ckW (1 - h.side) (yu (cur r0 ds)) 0 (qZ (yu (cur r0 ds))),zco D.now.length x:=fun x hx=>hokA x (by rw[e0];simp[hx]);have fell:∀D':DiskM,(∀keep,∃h' r0' ds' used',Inv N (zaR keep D') h' r0' ds' used'∧cur r0' ds'=cur r0 ds∧h'.ep≤h.ep+1∧h'.first≤h.first+N∧zjz 122 (N - 122) h'.first (zao keep D') ds' used')→Fell N D' (h.ep+1) (h.first+N) (fun x=>x=cur r0 ds):=fun D' H=>H;have sOld:∀K:List Bytes,(∀m,(m<2+(1 - h.side)*60∨2+(1 - h.side)*60+60≤m)→K.getD m []=D.now.getD m [])→zjz 122 (N - 122) h.first K ds used:=fun K hK=>
    zmJ hsf (fun j _=>hK (122+j) (by omega)) (fun j _ _=> .inl (hK (122+j) (by omega)))
  have old:∀D':DiskM,(∀keep,(zao keep D').length=N∧∀m,(m<2+(1 - h.side)*60∨2+(1 - h.side)*60+60≤m)→(zao keep D').getD m []=D.now.getD m [])→Fell N D' (h.ep+1) (h.first+N) (fun x=>x=cur r0 ds):=fun D' H=>
    fell D' fun keep=>⟨h,r0,ds,used,invH (zaR keep D') (H keep).1 (H keep).2,rfl,by omega,by omega,sOld _ (H keep).2⟩
  rw[e0] at hr;cases hr1:we D (ckW (1 - h.side) (yu (cur r0 ds)) 0 (qZ (yu (cur r0 ds)))++ [none]) with
  | mk e1 D2=>
    have hP2:=hall.run (ckW (1 - h.side) (yu (cur r0 ds)) 0 (qZ (yu (cur r0 ds)))++ [none]) (fun x hx=>by
      rcases List.mem_append.1 hx with hx | hx
      · exact zvC hc60 x hx
      · rw[List.mem_singleton] at hx;subst hx;trivial)
    have hln:=ziW (ckW (1 - h.side) (yu (cur r0 ds)) 0 (qZ (yu (cur r0 ds)))++ [none]) hl (by rw[hq.1];exact hl);have he9:=zxA (ckW (1 - h.side) (yu (cur r0 ds)) 0 (qZ (yu (cur r0 ds)))++ [none]) D (fun x hx=>hokA x (by rw[e0];exact List.mem_append_left _ hx));rw[hr1] at hP2 hln he9;simp only at hP2 hln he9;by_cases he:e1=0
    · subst he;obtain ⟨hq2,hn2⟩:=zlm hokW hr1;rw[zuA hr1] at hr;have hbad:¬zif D2 (((h.ep+1) % 2:Nat):Int) (wd (nxH h (cur r0 ds) (N - 122))):=(by unfold zif;rw[zhM,hln.1];omega);by_cases h0:yU D2=0
      · have hwe:yO D2 (((h.ep+1) % 2:Nat):Int) (wd (nxH h (cur r0 ds) (N - 122)))=0:=(by unfold yO;rw[if_neg hbad,h0]);have hwd:yv D2 (((h.ep+1) % 2:Nat):Int) (wd (nxH h (cur r0 ds) (N - 122)))=wt (yY D2) (((h.ep+1) % 2:Nat):Int) (wd (nxH h (cur r0 ds) (N - 122))):=(by unfold yv;rw[if_neg hbad,if_pos h0]);rw[zfl hwe,hwd] at hr;generalize hD3:wt (yY D2) (((h.ep+1) % 2:Nat):Int) (wd (nxH h (cur r0 ds) (N - 122)))=D3 at hr;have k3:D3.kept=D2.now:=(by rw[←hD3,←hq2.1];exact yZ D2);have n3:D3.now=zaz D.now (ckL (nxH h (cur r0 ds) (N - 122)) (yu (cur r0 ds))):=by
          rw[←hD3,zjd];show (yY D2).now.set ((((h.ep+1) % 2:Nat):Int)).toNat _=_;rw[wC,Int.toNat_natCast,hn2]
          rfl
        have w3:D3.wait=[((h.ep+1) % 2,yg (wd (nxH h (cur r0 ds) (N - 122))))]:=by
          rw[←hD3];show (yY D2).wait++_=_;rw[ws,hq2.2.1,Int.toNat_natCast]
          rfl
        have hkn:D2.now.set ((h.ep+1) % 2) (yg (wd (nxH h (cur r0 ds) (N - 122))))=zaz D.now (ckL (nxH h (cur r0 ds) (N - 122)) (yu (cur r0 ds))):=(by rw[zjd,hn2];rfl);by_cases h3:yU D3=0
        · rw[zdu h3,zfp] at hr;injection hr with q1 q2;have hfc:=zbL h3;left;rw[←q2];have I1:=I.new (D1:=yw D3) hep hf (hfc.2.trans n3);exact ⟨q1.symm,hfc.1,I1,zmU I hf (hfc.2.trans n3) I1⟩
        · rw[zcR h3] at hr;injection hr with q1 q2;have h9:yU D3=9:=(zah D3).resolve_left h3;right;refine ⟨by rw[←q1,h9],fell D1 fun keep=>?_⟩;have k4:D1.kept=D2.now:=(by rw[←q2];unfold yw;rw[if_neg h3,yZ,k3]);have w4:D1.wait=[((h.ep+1) % 2,yg (wd (nxH h (cur r0 ds) (N - 122))))]:=(by rw[←q2];unfold yw;rw[if_neg h3,ws,w3]);have hrl:zao keep D1=if kb keep 0=true then D2.now.set ((h.ep+1) % 2) (yg (wd (nxH h (cur r0 ds) (N - 122)))) else D2.now:=by
            unfold zao;rw[k4,w4]
            rfl
          by_cases hk:kb keep 0=true
          · rw[if_pos hk,hkn] at hrl;exact ⟨_,_,_,_,I.new (D1:=zaR keep D1) hep hf hrl,rfl,by simp only[nxH];omega,by simp only[nxH];omega,zmU (D1:=zaR keep D1) I hf hrl (I.new (D1:=zaR keep D1) hep hf hrl)⟩
          · rw[if_neg hk] at hrl;exact ⟨h,r0,ds,used,invH (zaR keep D1) (by show (zao keep D1).length=N;rw[hrl];exact hln.1) (fun m hm=>by show (zao keep D1).getD m []=_;rw[hrl];exact hP2.now m hm),rfl,by omega,by omega,sOld _ (fun m hm=>by rw[hrl];exact hP2.now m hm)⟩
      · have hwe:yO D2 (((h.ep+1) % 2:Nat):Int) (wd (nxH h (cur r0 ds) (N - 122)))=yU D2:=(by unfold yO;rw[if_neg hbad]);have hwd:yv D2 (((h.ep+1) % 2:Nat):Int) (wd (nxH h (cur r0 ds) (N - 122)))=yY D2:=(by unfold yv;rw[if_neg hbad,if_neg h0]);rw[zdB (by rw[hwe];exact h0),hwe,hwd] at hr;injection hr with q1 q2;have h9:yU D2=9:=(zah D2).resolve_left h0;right;refine ⟨by rw[←q1,h9],old D1 fun keep=>?_⟩;have hrl:zao keep D1=D2.now:=by
          rw[←q2];unfold zao;rw[yZ,ws,hq2.2.1,hq2.1]
          rfl
        rw[hrl];exact ⟨hln.1,hP2.now⟩
    · rw[zbH hr1 he] at hr;injection hr with q1 q2;right;refine ⟨by rw[←q1];exact he9.resolve_left he,old D1 fun keep=>?_⟩;rw[←q2];exact ⟨by rw[zho];exact hln.2,hP2.rest keep⟩
theorem zxh {N:Nat}{D:DiskM}{h:HdM}{r0:List ChangeM}{ds:Deeds}{used:Nat}{c:List ChangeM}(C:Cal N D h r0 ds used)(hf:h.first≤900000000)(hv:zgt (N - 122) used c=0)(hfit:(zaJ (cur r0 ds) c).length≤80):
    (zhP 122 (N - 122) h.first used c D=0∧Cal N (zdy 122 (N - 122) h.first used c D) h r0 (ds++ [c]) (zhl 122 (N - 122) h.first used c D))∨
    (zhP 122 (N - 122) h.first used c D=9∧Fell N (zdy 122 (N - 122) h.first used c D) h.ep h.first (fun x=>x=cur r0 ds∨x=zaJ (cur r0 ds) c)):=by
  obtain ⟨hq,I,hs⟩:=C;obtain ⟨v1,v2,v3⟩:=zeo hv;have hb:=I.big;have hl:=I.len;cases hr:we D (zfr 122 (N - 122) h.first used c) with
  | mk e D'=>
    have hE:zhP 122 (N - 122) h.first used c D=e:=(by unfold zhP;rw[if_pos hv,hr]);have hD:zdy 122 (N - 122) h.first used c D=D':=(by unfold zdy;rw[if_pos hv,hr]);have hall:AllP (fun m s=>(m<122→s=D.now.getD m [])∧(122≤m→m<N→zoR (h.first+(N - 122)) s)) D:=AllP.calm hq.1 hq.2.1 fun m=>⟨fun _=>rfl,fun h1 h2=>I.num m h1 h2⟩;have hP:=hall.run (zfr 122 (N - 122) h.first used c) (addP I hf hv);have hln:=ziW (zfr 122 (N - 122) h.first used c) hl (by rw[hq.1];exact hl);rw[hr] at hP hln;simp only at hP hln;rw[hE,hD];rcases zqR hq (by rw[hl];omega) hv hs hr with ⟨h0,h1,h2⟩ | ⟨h0,h1⟩
    · left;refine ⟨h0,h1,?_,?_⟩
      · rw[show zhl 122 (N - 122) h.first used c D=used+c.length+1 by unfold zhl;rw[hE,if_pos h0]];exact I.add hln.1 hP.now h2.1 (zdH I.good.lens v1) (zdH I.good.chk v3) (zhK I.good.fits hfit)
      · rw[show zhl 122 (N - 122) h.first used c D=used+c.length+1 by unfold zhl;rw[hE,if_pos h0]];exact h2
    · right;refine ⟨h0,fun keep=>?_⟩;obtain ⟨u,hu | hu⟩:=h1 keep
      · exact ⟨h,r0,ds,u,I.add (D1:=zaR keep D') ((zho keep D').trans hln.2) (hP.rest keep) hu.1 I.good.lens I.good.chk I.good.fits, .inl rfl,Nat.le_refl _,Nat.le_refl _,hu⟩
      · exact ⟨h,r0,ds++ [c],u,I.add (D1:=zaR keep D') ((zho keep D').trans hln.2) (hP.rest keep) hu.1 (zdH I.good.lens v1) (zdH I.good.chk v3) (zhK I.good.fits hfit), .inr (zgl r0 ds c),Nat.le_refl _,Nat.le_refl _,hu⟩
theorem zvU (many:Nat)(rows c:List ChangeM):cmV many rows c≠9:=by
  have hflt:∀(c:List ChangeM),zej c=0∨zej c=2∨zej c=3:=by
    intro c
    induction c with
    | nil=>exact .inl rfl
    | cons x c ih=>
      unfold zej;split
      · exact ih
      · unfold zbu;split;simp;split <;> simp
  unfold cmV;split
  · decide
  · split
    · rcases hflt c with h | h | h <;> rw[h] <;> decide
    · split <;> decide
theorem ztv {N:Nat}{D:DiskM}{h:HdM}{r0:List ChangeM}{ds:Deeds}{used:Nat}(C:Cal N D h r0 ds used):Fell N D h.ep h.first (fun x=>x=cur r0 ds):=fun keep=>by
  obtain ⟨hq,I,hsafe⟩:=C;have e:zao keep D=D.now:=(by unfold zao;rw[hq.2.1,hq.1];rfl);exact ⟨h,r0,ds,used,I.now (D':=zaR keep D) e,rfl,Nat.le_refl _,Nat.le_refl _,by rw[e];exact hsafe⟩
theorem Fell.mono {N:Nat}{D:DiskM}{E E' Fi Fi':Nat}{φ ψ:List ChangeM→Prop}(h:Fell N D E Fi φ)(h1:E≤E')(h2:Fi≤Fi')(h3:∀x,φ x→ψ x):Fell N D E' Fi' ψ:=fun keep=>by
  obtain ⟨h',r',d',u',i',p',e',f',s'⟩:=h keep;exact ⟨h',r',d',u',i',h3 _ p',by omega,by omega,s'⟩
theorem zv1 {N i:Nat}{D:DiskM}{h:HdM}{r0:List ChangeM}{ds:Deeds}{used:Nat}{c:List ChangeM}{e:Int}{D2:DiskM}{h2:HdM}{used2:Nat}{rows2:List ChangeM}(hok:okW N i D)(hS:S80 D)(I:Inv N D h r0 ds used)(hc:ztB D h (cur r0 ds) (N - 122) used c e D2 h2 used2 rows2):S80 D2:=by
  have hb:=I.big;rcases hc with ⟨_,_,rfl,_⟩ | ⟨_,e1,D1,h1,used1,hmid,hr⟩
  · exact hS
  · have hm:=(zrW hmid hok hS I.good.lenC I.good.okC I.big.1 I.used_le).2.1;rcases hr with ⟨_,_,rfl,_⟩ | ⟨_,_,rfl,_⟩
    · exact hm
    · exact zp2 hm (N:=N) (by omega)
theorem zuf {N i:Nat}{D:DiskM}{h:HdM}{r0:List ChangeM}{ds:Deeds}{used:Nat}{e:Int}{D1:DiskM}(hok:okW N i D)(hS:S80 D)(I:Inv N D h r0 ds used)(hr:we D (ckL (nxH h (cur r0 ds) (N - 122)) (yu (cur r0 ds)))=(e,D1)):okW N (i+63) D1∧S80 D1:=by
  have h1:=za7 (ckL (nxH h (cur r0 ds) (N - 122)) (yu (cur r0 ds))) i D hok;have h2:=zei _ D hS (zrM (h:=h) I.good.lenC I.good.okC I.big.1);have hc:=zbZ I.good.lenC I.good.okC;rw[hr,zq4] at h1;rw[hr] at h2;exact ⟨za3 h1 (by omega),h2⟩
theorem zvR {N:Nat}{D D1:DiskM}(hN:196≤N∧N≤260)(hl:D.now.length=N)(hr:we D (fmL N)=(0,D1)):Cal N D1 hd1 [] [] 0:=by
  have e:fmL N=(fmW (N - 122)++ [none,some (1,wd hd1)])++ [none]:=(by unfold fmL fmT;rw[List.append_assoc];rfl);have hok:=zlh hN.1;have hr2:=hr;rw[e] at hr2;have hf:=zlm (D:=D) (fun x hx=>by rw[hl];exact hok x (by rw[e];exact List.mem_append_left _ hx)) hr2;have hn:=zjU (fmL N) (D:=D) (by rw[hl];exact hok) hr;have I:=zrj hN hl hn;have hlg:=I.good.log;rw[I.len] at hlg;refine ⟨hf.1,I,hlg,fun j _ hj=>?_⟩;have e2:zaz D.now (fmL N)=(zaz D.now (fmW (N - 122))).set 1 (yg (wd hd1)):=(by unfold fmL;rw[zbg];rfl);have e3:zga D1.now 122 j=yg []:=by
    show List.getD _ _ _=_;rw[hn,e2,yN,if_neg (by omega),zn5,if_pos ⟨.inr (by omega),by omega⟩]
  rw[e3];rintro ⟨t,ht⟩;rw[zcp] at ht;cases ht
end Go.Proofs.YthdjckbjjfiopadGreatDoor
