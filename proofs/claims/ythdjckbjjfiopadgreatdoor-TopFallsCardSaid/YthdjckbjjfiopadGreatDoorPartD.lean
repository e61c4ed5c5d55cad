/- Several texts in one: walks and rules used by them. No condition. -/
import Derived.Test.YthdjckbjjfiopadGreatDoorPartC
import Derived.Test.YthdjckbjjfiopadGreatDoorPartA
import Derived.Test.YthdjckbjjfiopadGreatDoorProg
import Derived.Test.YthdjckbjjfiopadGreatDoorPartB
import Derived.KernelRfl
import GoSem.Extern.AbiNoEscape
set_option linter.unusedSimpArgs false
set_option linter.unusedVariables false
namespace Go.Proofs.YthdjckbjjfiopadGreatDoor
open Go.Sl Go.Proofs
structure HdM where
  ep:Nat
  side:Nat
  size:Nat
  first:Nat
deriving DecidableEq
def HdM.no:HdM:=⟨0,0,0,0⟩
def wt (h:HdM):List Value:=[I h.ep,I h.side,I h.size,I h.first]
def we (h:HdM):Bytes:=[72]++qN h.ep++qN h.side++qN h.size++qN h.first
def unN (s:Bytes):Nat:=(sk s 0).toNat+2 ^ 8*(sk s 1).toNat+2 ^ 16*(sk s 2).toNat+2 ^ 24*(sk s 3).toNat
def zaX (s:Bytes):HdM:=⟨unN ((s.take 5).drop 1),unN ((s.take 9).drop 5),unN ((s.take 13).drop 9),unN ((s.take 17).drop 13)⟩
def zgd (s:Bytes):Prop:=sk s 0≠72∨1<(zaX s).side∨4800<(zaX s).size∨(zaX s).first<1
instance (s:Bytes):Decidable (zgd s):=by unfold zgd;infer_instance
def wD (s:Bytes):HdM:=if zgd s then HdM.no else zaX s
theorem zsy (x:UInt8):x.toNat<256:=x.toNat_lt
theorem zdP {n:Nat}(h:n<4294967296):unN (qN n)=n:=by
  unfold unN qN;simp only[sk,List.getElem?_cons_zero,List.getElem?_cons_succ,Option.getD_some,UInt8.toNat_ofNat'];omega
theorem zhp (h:HdM):(we h).length=17:=by simp[we,qN]
theorem zqH {h:HdM}(h1:h.ep<4294967296)(h2:h.side<4294967296)(h3:h.size<4294967296)(h4:h.first<4294967296):zaX (yi (we h))=h∧sk (yi (we h)) 0=72:=by
  have e:yi (we h)=72::(qN h.ep++(qN h.side++(qN h.size++(qN h.first++zbK (80 - (we h).length))))):=by
    unfold yi we;simp
  rw[e];generalize zbK (80 - (we h).length)=z;have l:∀n,(qN n).length=4:=fun n=>rfl;refine ⟨?_,rfl⟩;unfold zaX;have f1:(List.drop 1 (List.take 5 (72::(qN h.ep++(qN h.side++(qN h.size++(qN h.first++z)))))))=qN h.ep:=(by simp[qN]);have f2:(List.drop 5 (List.take 9 (72::(qN h.ep++(qN h.side++(qN h.size++(qN h.first++z)))))))=qN h.side:=(by simp[qN]);have f3:(List.drop 9 (List.take 13 (72::(qN h.ep++(qN h.side++(qN h.size++(qN h.first++z)))))))=qN h.size:=(by simp[qN]);have f4:(List.drop 13 (List.take 17 (72::(qN h.ep++(qN h.side++(qN h.size++(qN h.first++z)))))))=qN h.first:=(by simp[qN]);rw[f1,f2,f3,f4,zdP h1,zdP h2,zdP h3,zdP h4]
theorem ziv {h:HdM}(h1:h.ep<4294967296)(h2:h.side≤1)(h3:h.size≤4800)(h4:1≤h.first∧h.first<4294967296):wD (yi (we h))=h:=by
  obtain ⟨e1,e2⟩:=zqH (h:=h) h1 (by omega) (by omega) h4.2;unfold wD;rw[if_neg,e1];unfold zgd;rw[e1,e2];rintro (h | h | h | h)
  · exact h rfl
  · omega
  · omega
  · omega
def zqC (r:ChangeM):Bytes:=[UInt8.ofNat r.key.length,UInt8.ofNat r.val.length,UInt8.ofNat (r.val.length / 256)]++r.key++r.val
def yv (l:List ChangeM):Bytes:=l.flatMap zqC
def okR (r:ChangeM):Prop:=zbt r=0∧r.gone=false
theorem zi6 {r:ChangeM}(h:okR r):(zqC r).length≤59∧4≤(zqC r).length:=by
  obtain ⟨hk,_,h1,h2⟩:=zfD h.1;unfold zqC;have:r.key.length≠0:=fun e=>hk (List.length_eq_zero_iff.1 e);simp;omega
theorem zcO:∀{l:List ChangeM},(∀r∈l,okR r)→(yv l).length≤59*l.length
  | [],_=>by simp[yv]
  | r::l,h=>by
    have h1:=zi6 (h r (by simp));have h2:=zcO (l:=l) fun x hx=>h x (List.mem_cons_of_mem _ hx);simp only[yv,List.flatMap_cons,List.length_append,List.length_cons] at h2 ⊢;omega
theorem zqP (r:ChangeM)(l:List ChangeM):yv (r::l)=zqC r++yv l:=rfl
theorem zrt (l:List ChangeM)(r:ChangeM):yv (l++ [r])=yv l++zqC r:=by simp[yv]
theorem zta {l:List ChangeM}{r:ChangeM}(h:srt (l++ [r]))(hr:r.gone=false):apS l r=l++ [r]:=by
  have h1:=List.pairwise_append.1 h;unfold apS;rw[zm6 (fun x hx=>h1.2.2 x hx r (by simp)),zsV (fun x hx=>zdh (h1.2.2 x hx r (by simp))),hr];simp
theorem znJ {l:List ChangeM}(h:srt l)(k:Nat):srt (l.take k):=h.sublist (List.take_sublist k l)
def wA (t:Bytes)(k:Nat):Bytes:=(t.drop (80*k)).take 80
def qZ (t:Bytes):Nat:=(t.length+79) / 80
def ckW (side:Nat)(t:Bytes):Nat→Nat→List Stp
  | k,0=>[]
  | k,f+1=>some (2+side*60+k,wA t k)::ckW side t (k+1) f
theorem zja (side:Nat)(t:Bytes):∀f k,(ckW side t k f).length=f
  | 0,_=>rfl
  | f+1,k=>by simp[ckW,zja side t f]
def ckL (h:HdM)(t:Bytes):List Stp:=ckW h.side t 0 (qZ t)++ [none,some (h.ep % 2,we h),none]
def nxH (h:HdM)(rows:List ChangeM)(many:Nat):HdM:=⟨h.ep+1,1 - h.side,(yv rows).length,h.first+many⟩
theorem zkN (t:Bytes)(k:Nat):(wA t k).length≤80:=by unfold wA;rw[List.length_take];omega
def hdK (L:List Bytes):Nat→HdM
  | 0=>HdM.no
  | k+1=>if (hdK L k).ep<(wD (L.getD k [])).ep then wD (L.getD k []) else hdK L k
def zfH (L:List Bytes):HdM:=hdK L 2
def txt (L:List Bytes)(side:Nat):Bytes:=((L.drop (2+side*60)).take 60).flatten
structure Good (L:List Bytes) (h:HdM) (r0:List ChangeM) (ds:Deeds) (used:Nat):Prop where
  best:zfH L=h
  ep:1≤h.ep
  side:h.side≤1
  first:1≤h.first∧h.first≤1000000000
  size:h.size=(yv r0).length
  text:(txt L h.side).take h.size=yv r0
  hsrt:srt r0
  hok:∀r∈r0,okR r
  len:r0.length≤80
  log:wd h.first (fun i=>L.getD (122+i) []) (L.length - 122) 0 [] [] 0=(ds,used)
  lens:∀d∈ds,d.length≤72
  chk:∀d∈ds,∀x∈d,zbt x=0
  fits:∀k,((ds.take k).foldl zaG r0).length≤80
def cur (r0:List ChangeM)(ds:Deeds):List ChangeM:=ds.foldl zaG r0
def cmV (many:Nat)(rows c:List ChangeM):Int:=if 72<c.length then 2 else if zeh c≠0 then zeh c else if 80<(zaG rows c).length∨many<c.length+1 then 8 else 0
open _root_.Go.Proofs.Tryz
theorem zgF (w:World):(Instr.build 177 #[]).run Tryz.prog w= .ok (.agg #[I 0,I 0,I 0,I 0]) w:=by
  simp[Instr.build,zeroValue177,runUnderlying177,Instr.fill,qV,sl]
theorem shlN (q x:Nat)(hq:q≤24)(hx:x<256):IntKind.i64.wrap ((x:Int)*2 ^ (min ((q:Nat):Int).toNat IntKind.i64.bits))=((2 ^ q*x:Nat):Int):=by
  rw[show ((q:Nat):Int).toNat=q from rfl,show min q IntKind.i64.bits=q from Nat.min_eq_left (by show q≤64;omega)];have h2:2 ^ q*x<2 ^ 24*256:=Nat.lt_of_le_of_lt (Nat.mul_le_mul_right x (Nat.pow_le_pow_right (by decide) hq)) (Nat.mul_lt_mul_of_pos_left hx (by decide));rw[show (x:Int)*2 ^ q=((2 ^ q*x:Nat):Int) by rw[Nat.mul_comm];push_cast;rfl];exact w64 (by omega)
abbrev stC (bd:Nat)(h:HdM)(bl:Nat)(s:Option Addr)(n cap:Nat):Array Value:=#[ptr bd 0,I h.ep,I h.side,I h.size,I h.first,ptr bl 0,sl s n cap]
theorem zbC (n:Nat)(F:List HProp):Ct Tryz.prog 185 [I n] ([]++F) (R1 (Str (qN n)) F):=by
  show Ct Tryz.prog 185 [I n] (F) _;refine Ct.of func185 rR 16 ntmps185 (by simp) fun w0=>?_;refine gS (gA rR (qb (gS (gM rR (g_v (yU (r:=((n % 256:Nat):Int)) underlying3 underlying5 rR (wu8 _)) rR (gM rR (g_v (zd4 (r:=((n / 256:Nat):Int)) rR rR (by decide) (zkq n 256)) rR (g_v (yU (r:=((n / 256 % 256:Nat):Int)) underlying3 underlying5 rR (wu8 _)) rR (gM rR (g_v (zd4 (r:=((n / 65536:Nat):Int)) rR rR (by decide) (zkq n 65536)) rR (g_v (yU (r:=((n / 65536 % 256:Nat):Int)) underlying3 underlying5 rR (wu8 _)) rR (gM rR (g_v (zd4 (r:=((n / 16777216:Nat):Int)) rR rR (by decide) (zkq n 16777216)) rR (g_v (yU (r:=((n / 16777216 % 256:Nat):Int)) underlying3 underlying5 rR (wu8 _)) rR ?_))))))))))))));refine g_l (qs (qr (qN n)) underlying199 sizeOf5 zeroValue5 rR rR (ziH n) (by simp[qr]) (by decide) (by decide)) rR ?_;rintro _ _ ⟨b14,rfl,rfl⟩;refine g_v (yL (l:=qN n) underlying199 underlying5 underlying9 rR rR rR) rR (gA rR (qb ?_));refine qn rR rR ?_;exact rfl
theorem qX (s:Bytes)(hs:s.length=4)(F:List HProp):Ct Tryz.prog 144 [Str s] ([]++F) (R1 (I (unN s)) F):=by
  show Ct Tryz.prog 144 [Str s] (F) _;refine Ct.of func144 rR 21 ntmps144 (by simp) fun w0=>?_;have h0:=zsy (sk s 0);have h1:=zsy (sk s 1);have h2:=zsy (sk s 2);have h3:=zsy (sk s 3);refine gS (gA rR (qb (qf ?_)));refine wS [(0,false),(1,false),(2,false),(3,false),(4,false),(5,false),(6,false),(7,false),(8,false),(9,false),(10,false),(11,false),(12,false),(13,false),(14,false),(15,false),(16,false),(17,false),(18,false)] (by kernel_rfl) (by kernel_rfl) rR (by kernel_rfl) ?_;refine dM rR rR rR (d_v rR (qW (r:=sk s 0) 0 underlying9 rR rR rR (zeY (by omega))) rR (d_v rR (yU (r:=(((sk s 0).toNat:Nat):Int)) underlying5 underlying3 rR (w64 (by omega))) rR (dM rR rR rR (d_v rR (qW (r:=sk s 1) 1 underlying9 rR rR rR (zeY (by omega))) rR (d_v rR (yU (r:=(((sk s 1).toNat:Nat):Int)) underlying5 underlying3 rR (w64 (by omega))) rR (d_v rR (zuT (r:=((2 ^ 8*(sk s 1).toNat:Nat):Int)) rR rR (by decide) (shlN 8 _ (by decide) (by omega))) rR (d_v rR (zwm (sk s 0).toNat 8 _ rR rR (by omega) (by omega)) rR (dM rR rR rR (d_v rR (qW (r:=sk s 2) 2 underlying9 rR rR rR (zeY (by omega))) rR (d_v rR (yU (r:=(((sk s 2).toNat:Nat):Int)) underlying5 underlying3 rR (w64 (by omega))) rR (d_v rR (zuT (r:=((2 ^ 16*(sk s 2).toNat:Nat):Int)) rR rR (by decide) (shlN 16 _ (by decide) (by omega))) rR (d_v rR (zwm ((sk s 0).toNat+2 ^ 8*(sk s 1).toNat) 16 _ rR rR (by omega) (by omega)) rR (dM rR rR rR (d_v rR (qW (r:=sk s 3) 3 underlying9 rR rR rR (zeY (by omega))) rR (d_v rR (yU (r:=(((sk s 3).toNat:Nat):Int)) underlying5 underlying3 rR (w64 (by omega))) rR (d_v rR (zuT (r:=((2 ^ 24*(sk s 3).toNat:Nat):Int)) rR rR (by decide) (shlN 24 _ (by decide) (by omega))) rR (d_v rR (zwm ((sk s 0).toNat+2 ^ 8*(sk s 1).toNat+2 ^ 16*(sk s 2).toNat) 24 _ rR rR (by omega) (by omega)) rR (d_v rR (qx rR) rR ?_))))))))))))))))));refine yc ?_;refine qn rR rR ?_;exact rfl
theorem ze8 (h:HdM)(F:List HProp):Ct Tryz.prog 138 [.agg (wt h).toArray] ([]++F) (R1 (Str (we h)) F):=by
  show Ct Tryz.prog 138 [.agg (wt h).toArray] (F) _;refine Ct.of func138 rR 19 ntmps138 (by simp) fun w0=>?_;refine gS ?_;refine g_l (wR (wt h).toArray rR rR) rR ?_;rintro _ _ ⟨b1,rfl,rfl⟩;refine gA rR (qb (qf ?_));refine wS [(0,false),(1,false),(4,false),(5,false),(8,false),(9,false),(12,false),(13,false),(2,true),(3,false),(6,true),(7,false),(10,true),(11,false),(14,true),(15,false),(16,false)] (by kernel_rfl) (by kernel_rfl) rR (by kernel_rfl) ?_;refine d_v rfl (qa 0 underlying177 rfl rfl sizeOf3 (by decide) rfl) rfl (d_v rfl (qe (v:=I h.ep) isAgg3 rfl rfl) rfl (d_v rfl (qa 1 underlying177 rfl rfl sizeOf3 (by decide) rfl) rfl (d_v rfl (qe (v:=I h.side) isAgg3 rfl rfl) rfl (d_v rfl (qa 2 underlying177 rfl rfl sizeOf3 (by decide) rfl) rfl (d_v rfl (qe (v:=I h.size) isAgg3 rfl rfl) rfl (d_v rfl (qa 3 underlying177 rfl rfl sizeOf3 (by decide) rfl) rfl (d_v rfl (qe (v:=I h.first) isAgg3 rfl rfl) rfl ?_)))))));refine d_l rR (qi (Pre:=[]) call185 rR (zbC h.ep)) rR ?_;rintro _ _ ⟨rfl,rfl⟩;refine d_v rR (wN rR rR (by simp[qN])) rR ?_;refine d_l rR (qi (Pre:=[]) call185 rR (zbC h.side)) rR ?_;rintro _ _ ⟨rfl,rfl⟩;refine d_v rR (wN rR rR (by simp[qN])) rR ?_;refine d_l rR (qi (Pre:=[]) call185 rR (zbC h.size)) rR ?_;rintro _ _ ⟨rfl,rfl⟩;refine d_v rR (wN rR rR (by simp[qN])) rR ?_;refine d_l rfl (qi (Pre:=[]) call185 rfl (zbC h.first)) rfl ?_;rintro _ _ ⟨rfl,rfl⟩;refine d_v rR (wN rR rR (by simp[qN])) rR (d_v rR (qx rR) rR ?_);refine yc ?_;refine qn rR rR ?_;exact rfl
theorem zg3 (s:Bytes)(hs:s.length=80)(F:List HProp):Ct Tryz.prog 104 [Str s] ([]++F) (R1 (.agg (wt (wD s)).toArray) F):=by
  show Ct Tryz.prog 104 [Str s] (F) _;refine Ct.of func104 rR 37 ntmps104 (by simp) fun w0=>?_;refine gS ?_;refine g_l (qy #[I 0,I 0,I 0,I 0] zeroValue177) rR ?_;rintro _ _ ⟨b2,rfl,rfl⟩;refine qb (qf ?_);refine zmt (Lf:=[]) (.q 0 (.q 1 (.q 3 (.q 4 (.q 6 (.q 7 (.q 9 (.q 10 (.alt (.l 2 (.alt (.l 5 (.alt (.l 8 (.alt (.l 11 (.q 12 (.l 13 (.l 14 (.nil))))) (.l 13 (.l 11 (.q 12 (.l 14 (.nil))))))) (.l 13 (.l 8 (.l 11 (.q 12 (.l 14 (.nil)))))))) (.l 13 (.l 5 (.l 8 (.l 11 (.q 12 (.l 14 (.nil))))))))) (.l 13 (.l 2 (.l 5 (.l 8 (.l 11 (.q 12 (.l 14 (.nil))))))))))))))))) (by kernel_rfl) (by kernel_rfl) (by kernel_rfl) ?_;refine t_v rR (qp rR) rR ?_;refine t_v rR (zag (l:=1) (h:=5) underlying9 rR rR rR rR rR (by decide) (by omega)) rR ?_;refine t_v rR (qp rR) rR ?_;refine t_v rR (zag (l:=5) (h:=9) underlying9 rR rR rR rR rR (by decide) (by omega)) rR ?_;refine t_v rR (qp rR) rR ?_;refine t_v rR (zag (l:=9) (h:=13) underlying9 rR rR rR rR rR (by decide) (by omega)) rR ?_;refine t_v rR (qp rR) rR ?_;refine t_v rR (zag (l:=13) (h:=17) underlying9 rR rR rR rR rR (by decide) (by omega)) rR ?_;refine zh8 ?_ ?_
  · refine t_l rR (qi (Pre:=[]) call144 rR (qX ((s.take 5).drop 1) (by simp only[List.length_drop,List.length_take];omega))) rR ?_;rintro _ _ ⟨rfl,rfl⟩;refine zh8 ?_ ?_
    · refine t_l rR (qi (Pre:=[]) call144 rR (qX ((s.take 9).drop 5) (by simp only[List.length_drop,List.length_take];omega))) rR ?_;rintro _ _ ⟨rfl,rfl⟩;refine zh8 ?_ ?_
      · refine t_l rR (qi (Pre:=[]) call144 rR (qX ((s.take 13).drop 9) (by simp only[List.length_drop,List.length_take];omega))) rR ?_;rintro _ _ ⟨rfl,rfl⟩;refine zh8 ?_ ?_
        · refine t_l rR (qi (Pre:=[]) call144 rR (qX ((s.take 17).drop 13) (by simp only[List.length_drop,List.length_take];omega))) rR ?_;rintro _ _ ⟨rfl,rfl⟩;refine t_v rR (qP rR (wl _ rR _ rR _ rR _ rR)) rR ?_;refine t_l rR (qy #[I 0,I 0,I 0,I 0] zeroValue177) rR ?_;rintro _ _ ⟨b3,rfl,rfl⟩;refine zwe rR (qq (cs:=#[I 0,I 0,I 0,I 0]) (vs:=wt (zaX s)) (wt (zaX s)).toArray sizeOf177 rR rR rR rR (by decide) (qC rR)) ?_;rintro _ _ rfl;refine zfr ?_;refine qf (gS (gM rfl (g_v (qW (r:=sk s 0) 0 underlying9 rfl rfl rfl (zeY (by omega))) rfl (g_v (zd2 rfl rfl) rfl (gM rfl (qK rfl rfl (fun hg=>qa 1 underlying177 rfl rfl sizeOf3 (by decide) rfl) rfl rfl (qK rfl rfl (fun hg=>qe (v:=I (zaX s).side) isAgg3 rfl rfl) rfl rfl (qK rfl rfl (fun hg=>yA rfl rfl) rfl rfl (g_v (zaH rfl rfl) rfl (gM rfl (qK rfl rfl (fun hg=>qa 2 underlying177 rfl rfl sizeOf3 (by decide) rfl) rfl rfl (qK rfl rfl (fun hg=>qe (v:=I (zaX s).size) isAgg3 rfl rfl) rfl rfl (qK rfl rfl (fun hg=>yA rfl rfl) rfl rfl (g_v (zaH rfl rfl) rfl (gM rfl (qK rfl rfl (fun hg=>qa 3 underlying177 rfl rfl sizeOf3 (by decide) rfl) rfl rfl (qK rfl rfl (fun hg=>qe (v:=I (zaX s).first) isAgg3 rfl rfl) rfl rfl (qK rfl rfl (fun hg=>qJ rfl rfl) rfl rfl (g_v (zaH rfl rfl) rfl (qb ?_))))))))))))))))))));refine qg rR (fun h34=>?_) (fun h34=>?_)
          · have hoff:zgd s:=by
              unfold zgd;simp at h34;rcases h34 with ((h | h) | h) | h
              · exact .inl (fun e=>h (by rw[e];rfl))
              · exact .inr (.inl (by omega))
              · exact .inr (.inr (.inl (by omega)))
              · exact .inr (.inr (.inr (by omega)))
            refine gS (g_v (qP rR (zgF)) rR ?_);refine yp (qq (cs:=#[I 0,I 0,I 0,I 0]) (vs:=wt HdM.no) (wt HdM.no).toArray sizeOf177 rR rR rR rR (by decide) (qC rR)) ?_;rintro _ _ rfl;refine qb ?_
            first
            | exact wy (wt HdM.no) (by unfold wD;rw[if_pos hoff]) rfl rfl isAgg177 sizeOf177 rfl qR
            | exact wy (wt (zaX s)) (by unfold wD;rw[if_neg hoff]) rfl rfl isAgg177 sizeOf177 rfl qR
          · have hoff:¬zgd s:=by
              unfold zgd;simp at h34;rintro (h | h | h | h)
              · exact h (UInt8.toNat_inj.1 (by rw[show (72:UInt8).toNat=72 from rfl];omega))
              · omega
              · omega
              · omega
            refine qh (gS (g_v (qI (vs:=wt (zaX s)) isAgg177 sizeOf177 rR rR qR) rR ?_));refine yp (qq (cs:=#[I 0,I 0,I 0,I 0]) (vs:=wt (zaX s)) (wt (zaX s)).toArray sizeOf177 rR rR rR rR (by decide) (qC rR)) ?_;rintro _ _ rfl;refine qb ?_
            first
            | exact wy (wt HdM.no) (by unfold wD;rw[if_pos hoff]) rfl rfl isAgg177 sizeOf177 rfl qR
            | exact wy (wt (zaX s)) (by unfold wD;rw[if_neg hoff]) rfl rfl isAgg177 sizeOf177 rfl qR
        · refine t_l rR (qy #[I 0,I 0,I 0,I 0] zeroValue177) rR ?_;rintro _ _ ⟨b3,rfl,rfl⟩;refine t_l rR (qi (Pre:=[]) call144 rR (qX ((s.take 17).drop 13) (by simp only[List.length_drop,List.length_take];omega))) rR ?_;rintro _ _ ⟨rfl,rfl⟩;refine t_v rR (qP rR (wl _ rR _ rR _ rR _ rR)) rR ?_;refine zwe rR (qq (cs:=#[I 0,I 0,I 0,I 0]) (vs:=wt (zaX s)) (wt (zaX s)).toArray sizeOf177 rR rR rR rR (by decide) (qC rR)) ?_;rintro _ _ rfl;refine zfr ?_;refine qf (gS (gM rfl (g_v (qW (r:=sk s 0) 0 underlying9 rfl rfl rfl (zeY (by omega))) rfl (g_v (zd2 rfl rfl) rfl (gM rfl (qK rfl rfl (fun hg=>qa 1 underlying177 rfl rfl sizeOf3 (by decide) rfl) rfl rfl (qK rfl rfl (fun hg=>qe (v:=I (zaX s).side) isAgg3 rfl rfl) rfl rfl (qK rfl rfl (fun hg=>yA rfl rfl) rfl rfl (g_v (zaH rfl rfl) rfl (gM rfl (qK rfl rfl (fun hg=>qa 2 underlying177 rfl rfl sizeOf3 (by decide) rfl) rfl rfl (qK rfl rfl (fun hg=>qe (v:=I (zaX s).size) isAgg3 rfl rfl) rfl rfl (qK rfl rfl (fun hg=>yA rfl rfl) rfl rfl (g_v (zaH rfl rfl) rfl (gM rfl (qK rfl rfl (fun hg=>qa 3 underlying177 rfl rfl sizeOf3 (by decide) rfl) rfl rfl (qK rfl rfl (fun hg=>qe (v:=I (zaX s).first) isAgg3 rfl rfl) rfl rfl (qK rfl rfl (fun hg=>qJ rfl rfl) rfl rfl (g_v (zaH rfl rfl) rfl (qb ?_))))))))))))))))))));refine qg rR (fun h34=>?_) (fun h34=>?_)
          · have hoff:zgd s:=by
              unfold zgd;simp at h34;rcases h34 with ((h | h) | h) | h
              · exact .inl (fun e=>h (by rw[e];rfl))
              · exact .inr (.inl (by omega))
              · exact .inr (.inr (.inl (by omega)))
              · exact .inr (.inr (.inr (by omega)))
            refine gS (g_v (qP rR (zgF)) rR ?_);refine yp (qq (cs:=#[I 0,I 0,I 0,I 0]) (vs:=wt HdM.no) (wt HdM.no).toArray sizeOf177 rR rR rR rR (by decide) (qC rR)) ?_;rintro _ _ rfl;refine qb ?_
            first
            | exact wy (wt HdM.no) (by unfold wD;rw[if_pos hoff]) rfl rfl isAgg177 sizeOf177 rfl qR
            | exact wy (wt (zaX s)) (by unfold wD;rw[if_neg hoff]) rfl rfl isAgg177 sizeOf177 rfl qR
          · have hoff:¬zgd s:=by
              unfold zgd;simp at h34;rintro (h | h | h | h)
              · exact h (UInt8.toNat_inj.1 (by rw[show (72:UInt8).toNat=72 from rfl];omega))
              · omega
              · omega
              · omega
            refine qh (gS (g_v (qI (vs:=wt (zaX s)) isAgg177 sizeOf177 rR rR qR) rR ?_));refine yp (qq (cs:=#[I 0,I 0,I 0,I 0]) (vs:=wt (zaX s)) (wt (zaX s)).toArray sizeOf177 rR rR rR rR (by decide) (qC rR)) ?_;rintro _ _ rfl;refine qb ?_
            first
            | exact wy (wt HdM.no) (by unfold wD;rw[if_pos hoff]) rfl rfl isAgg177 sizeOf177 rfl qR
            | exact wy (wt (zaX s)) (by unfold wD;rw[if_neg hoff]) rfl rfl isAgg177 sizeOf177 rfl qR
      · refine t_l rR (qy #[I 0,I 0,I 0,I 0] zeroValue177) rR ?_;rintro _ _ ⟨b3,rfl,rfl⟩;refine t_l rR (qi (Pre:=[]) call144 rR (qX ((s.take 13).drop 9) (by simp only[List.length_drop,List.length_take];omega))) rR ?_;rintro _ _ ⟨rfl,rfl⟩;refine t_l rR (qi (Pre:=[]) call144 rR (qX ((s.take 17).drop 13) (by simp only[List.length_drop,List.length_take];omega))) rR ?_;rintro _ _ ⟨rfl,rfl⟩;refine t_v rR (qP rR (wl _ rR _ rR _ rR _ rR)) rR ?_;refine zwe rR (qq (cs:=#[I 0,I 0,I 0,I 0]) (vs:=wt (zaX s)) (wt (zaX s)).toArray sizeOf177 rR rR rR rR (by decide) (qC rR)) ?_;rintro _ _ rfl;refine zfr ?_;refine qf (gS (gM rfl (g_v (qW (r:=sk s 0) 0 underlying9 rfl rfl rfl (zeY (by omega))) rfl (g_v (zd2 rfl rfl) rfl (gM rfl (qK rfl rfl (fun hg=>qa 1 underlying177 rfl rfl sizeOf3 (by decide) rfl) rfl rfl (qK rfl rfl (fun hg=>qe (v:=I (zaX s).side) isAgg3 rfl rfl) rfl rfl (qK rfl rfl (fun hg=>yA rfl rfl) rfl rfl (g_v (zaH rfl rfl) rfl (gM rfl (qK rfl rfl (fun hg=>qa 2 underlying177 rfl rfl sizeOf3 (by decide) rfl) rfl rfl (qK rfl rfl (fun hg=>qe (v:=I (zaX s).size) isAgg3 rfl rfl) rfl rfl (qK rfl rfl (fun hg=>yA rfl rfl) rfl rfl (g_v (zaH rfl rfl) rfl (gM rfl (qK rfl rfl (fun hg=>qa 3 underlying177 rfl rfl sizeOf3 (by decide) rfl) rfl rfl (qK rfl rfl (fun hg=>qe (v:=I (zaX s).first) isAgg3 rfl rfl) rfl rfl (qK rfl rfl (fun hg=>qJ rfl rfl) rfl rfl (g_v (zaH rfl rfl) rfl (qb ?_))))))))))))))))))));refine qg rR (fun h34=>?_) (fun h34=>?_)
        · have hoff:zgd s:=by
            unfold zgd;simp at h34;rcases h34 with ((h | h) | h) | h
            · exact .inl (fun e=>h (by rw[e];rfl))
            · exact .inr (.inl (by omega))
            · exact .inr (.inr (.inl (by omega)))
            · exact .inr (.inr (.inr (by omega)))
          refine gS (g_v (qP rR (zgF)) rR ?_);refine yp (qq (cs:=#[I 0,I 0,I 0,I 0]) (vs:=wt HdM.no) (wt HdM.no).toArray sizeOf177 rR rR rR rR (by decide) (qC rR)) ?_;rintro _ _ rfl;refine qb ?_
          first
          | exact wy (wt HdM.no) (by unfold wD;rw[if_pos hoff]) rfl rfl isAgg177 sizeOf177 rfl qR
          | exact wy (wt (zaX s)) (by unfold wD;rw[if_neg hoff]) rfl rfl isAgg177 sizeOf177 rfl qR
        · have hoff:¬zgd s:=by
            unfold zgd;simp at h34;rintro (h | h | h | h)
            · exact h (UInt8.toNat_inj.1 (by rw[show (72:UInt8).toNat=72 from rfl];omega))
            · omega
            · omega
            · omega
          refine qh (gS (g_v (qI (vs:=wt (zaX s)) isAgg177 sizeOf177 rR rR qR) rR ?_));refine yp (qq (cs:=#[I 0,I 0,I 0,I 0]) (vs:=wt (zaX s)) (wt (zaX s)).toArray sizeOf177 rR rR rR rR (by decide) (qC rR)) ?_;rintro _ _ rfl;refine qb ?_
          first
          | exact wy (wt HdM.no) (by unfold wD;rw[if_pos hoff]) rfl rfl isAgg177 sizeOf177 rfl qR
          | exact wy (wt (zaX s)) (by unfold wD;rw[if_neg hoff]) rfl rfl isAgg177 sizeOf177 rfl qR
    · refine t_l rR (qy #[I 0,I 0,I 0,I 0] zeroValue177) rR ?_;rintro _ _ ⟨b3,rfl,rfl⟩;refine t_l rR (qi (Pre:=[]) call144 rR (qX ((s.take 9).drop 5) (by simp only[List.length_drop,List.length_take];omega))) rR ?_;rintro _ _ ⟨rfl,rfl⟩;refine t_l rR (qi (Pre:=[]) call144 rR (qX ((s.take 13).drop 9) (by simp only[List.length_drop,List.length_take];omega))) rR ?_;rintro _ _ ⟨rfl,rfl⟩;refine t_l rR (qi (Pre:=[]) call144 rR (qX ((s.take 17).drop 13) (by simp only[List.length_drop,List.length_take];omega))) rR ?_;rintro _ _ ⟨rfl,rfl⟩;refine t_v rR (qP rR (wl _ rR _ rR _ rR _ rR)) rR ?_;refine zwe rR (qq (cs:=#[I 0,I 0,I 0,I 0]) (vs:=wt (zaX s)) (wt (zaX s)).toArray sizeOf177 rR rR rR rR (by decide) (qC rR)) ?_;rintro _ _ rfl;refine zfr ?_;refine qf (gS (gM rfl (g_v (qW (r:=sk s 0) 0 underlying9 rfl rfl rfl (zeY (by omega))) rfl (g_v (zd2 rfl rfl) rfl (gM rfl (qK rfl rfl (fun hg=>qa 1 underlying177 rfl rfl sizeOf3 (by decide) rfl) rfl rfl (qK rfl rfl (fun hg=>qe (v:=I (zaX s).side) isAgg3 rfl rfl) rfl rfl (qK rfl rfl (fun hg=>yA rfl rfl) rfl rfl (g_v (zaH rfl rfl) rfl (gM rfl (qK rfl rfl (fun hg=>qa 2 underlying177 rfl rfl sizeOf3 (by decide) rfl) rfl rfl (qK rfl rfl (fun hg=>qe (v:=I (zaX s).size) isAgg3 rfl rfl) rfl rfl (qK rfl rfl (fun hg=>yA rfl rfl) rfl rfl (g_v (zaH rfl rfl) rfl (gM rfl (qK rfl rfl (fun hg=>qa 3 underlying177 rfl rfl sizeOf3 (by decide) rfl) rfl rfl (qK rfl rfl (fun hg=>qe (v:=I (zaX s).first) isAgg3 rfl rfl) rfl rfl (qK rfl rfl (fun hg=>qJ rfl rfl) rfl rfl (g_v (zaH rfl rfl) rfl (qb ?_))))))))))))))))))));refine qg rR (fun h34=>?_) (fun h34=>?_)
      · have hoff:zgd s:=by
          unfold zgd;simp at h34;rcases h34 with ((h | h) | h) | h
          · exact .inl (fun e=>h (by rw[e];rfl))
          · exact .inr (.inl (by omega))
          · exact .inr (.inr (.inl (by omega)))
          · exact .inr (.inr (.inr (by omega)))
        refine gS (g_v (qP rR (zgF)) rR ?_);refine yp (qq (cs:=#[I 0,I 0,I 0,I 0]) (vs:=wt HdM.no) (wt HdM.no).toArray sizeOf177 rR rR rR rR (by decide) (qC rR)) ?_;rintro _ _ rfl;refine qb ?_
        first
        | exact wy (wt HdM.no) (by unfold wD;rw[if_pos hoff]) rfl rfl isAgg177 sizeOf177 rfl qR
        | exact wy (wt (zaX s)) (by unfold wD;rw[if_neg hoff]) rfl rfl isAgg177 sizeOf177 rfl qR
      · have hoff:¬zgd s:=by
          unfold zgd;simp at h34;rintro (h | h | h | h)
          · exact h (UInt8.toNat_inj.1 (by rw[show (72:UInt8).toNat=72 from rfl];omega))
          · omega
          · omega
          · omega
        refine qh (gS (g_v (qI (vs:=wt (zaX s)) isAgg177 sizeOf177 rR rR qR) rR ?_));refine yp (qq (cs:=#[I 0,I 0,I 0,I 0]) (vs:=wt (zaX s)) (wt (zaX s)).toArray sizeOf177 rR rR rR rR (by decide) (qC rR)) ?_;rintro _ _ rfl;refine qb ?_
        first
        | exact wy (wt HdM.no) (by unfold wD;rw[if_pos hoff]) rfl rfl isAgg177 sizeOf177 rfl qR
        | exact wy (wt (zaX s)) (by unfold wD;rw[if_neg hoff]) rfl rfl isAgg177 sizeOf177 rfl qR
  · refine t_l rR (qy #[I 0,I 0,I 0,I 0] zeroValue177) rR ?_;rintro _ _ ⟨b3,rfl,rfl⟩;refine t_l rR (qi (Pre:=[]) call144 rR (qX ((s.take 5).drop 1) (by simp only[List.length_drop,List.length_take];omega))) rR ?_;rintro _ _ ⟨rfl,rfl⟩;refine t_l rR (qi (Pre:=[]) call144 rR (qX ((s.take 9).drop 5) (by simp only[List.length_drop,List.length_take];omega))) rR ?_;rintro _ _ ⟨rfl,rfl⟩;refine t_l rR (qi (Pre:=[]) call144 rR (qX ((s.take 13).drop 9) (by simp only[List.length_drop,List.length_take];omega))) rR ?_;rintro _ _ ⟨rfl,rfl⟩;refine t_l rR (qi (Pre:=[]) call144 rR (qX ((s.take 17).drop 13) (by simp only[List.length_drop,List.length_take];omega))) rR ?_;rintro _ _ ⟨rfl,rfl⟩;refine t_v rR (qP rR (wl _ rR _ rR _ rR _ rR)) rR ?_;refine zwe rR (qq (cs:=#[I 0,I 0,I 0,I 0]) (vs:=wt (zaX s)) (wt (zaX s)).toArray sizeOf177 rR rR rR rR (by decide) (qC rR)) ?_;rintro _ _ rfl;refine zfr ?_;refine qf (gS (gM rfl (g_v (qW (r:=sk s 0) 0 underlying9 rfl rfl rfl (zeY (by omega))) rfl (g_v (zd2 rfl rfl) rfl (gM rfl (qK rfl rfl (fun hg=>qa 1 underlying177 rfl rfl sizeOf3 (by decide) rfl) rfl rfl (qK rfl rfl (fun hg=>qe (v:=I (zaX s).side) isAgg3 rfl rfl) rfl rfl (qK rfl rfl (fun hg=>yA rfl rfl) rfl rfl (g_v (zaH rfl rfl) rfl (gM rfl (qK rfl rfl (fun hg=>qa 2 underlying177 rfl rfl sizeOf3 (by decide) rfl) rfl rfl (qK rfl rfl (fun hg=>qe (v:=I (zaX s).size) isAgg3 rfl rfl) rfl rfl (qK rfl rfl (fun hg=>yA rfl rfl) rfl rfl (g_v (zaH rfl rfl) rfl (gM rfl (qK rfl rfl (fun hg=>qa 3 underlying177 rfl rfl sizeOf3 (by decide) rfl) rfl rfl (qK rfl rfl (fun hg=>qe (v:=I (zaX s).first) isAgg3 rfl rfl) rfl rfl (qK rfl rfl (fun hg=>qJ rfl rfl) rfl rfl (g_v (zaH rfl rfl) rfl (qb ?_))))))))))))))))))));refine qg rR (fun h34=>?_) (fun h34=>?_)
    · have hoff:zgd s:=by
        unfold zgd;simp at h34;rcases h34 with ((h | h) | h) | h
        · exact .inl (fun e=>h (by rw[e];rfl))
        · exact .inr (.inl (by omega))
        · exact .inr (.inr (.inl (by omega)))
        · exact .inr (.inr (.inr (by omega)))
      refine gS (g_v (qP rR (zgF)) rR ?_);refine yp (qq (cs:=#[I 0,I 0,I 0,I 0]) (vs:=wt HdM.no) (wt HdM.no).toArray sizeOf177 rR rR rR rR (by decide) (qC rR)) ?_;rintro _ _ rfl;refine qb ?_
      first
      | exact wy (wt HdM.no) (by unfold wD;rw[if_pos hoff]) rfl rfl isAgg177 sizeOf177 rfl qR
      | exact wy (wt (zaX s)) (by unfold wD;rw[if_neg hoff]) rfl rfl isAgg177 sizeOf177 rfl qR
    · have hoff:¬zgd s:=by
        unfold zgd;simp at h34;rintro (h | h | h | h)
        · exact h (UInt8.toNat_inj.1 (by rw[show (72:UInt8).toNat=72 from rfl];omega))
        · omega
        · omega
        · omega
      refine qh (gS (g_v (qI (vs:=wt (zaX s)) isAgg177 sizeOf177 rR rR qR) rR ?_));refine yp (qq (cs:=#[I 0,I 0,I 0,I 0]) (vs:=wt (zaX s)) (wt (zaX s)).toArray sizeOf177 rR rR rR rR (by decide) (qC rR)) ?_;rintro _ _ rfl;refine qb ?_
      first
      | exact wy (wt HdM.no) (by unfold wD;rw[if_pos hoff]) rfl rfl isAgg177 sizeOf177 rfl qR
      | exact wy (wt (zaX s)) (by unfold wD;rw[if_neg hoff]) rfl rfl isAgg177 sizeOf177 rfl qR
-- (*counterfoil/store.Store).Room is not in this seat
theorem ziV (bs bd:Nat)(h:HdM)(bl:Nat)(s:Option Addr)(cap:Nat)(rows:List ChangeM)(hr:rows.length≤400)(F:List HProp):Ct Tryz.prog 65 [ptr bs 0] ([pt bs (.cells (stC bd h bl s (rows.length) cap) 180 (0,0)),roL 3 s (chR rows)]++F) (RSl 104 3 rows.length (chR rows) (pt bs (.cells (stC bd h bl s (rows.length) cap) 180 (0,0))::roL 3 s (chR rows)::F)):=by
  show Ct Tryz.prog 65 [ptr bs 0] (pt bs (.cells (stC bd h bl s (rows.length) cap) 180 (0,0))::roL 3 s (chR rows)::F) _;refine Ct.of func65 rR 8 ntmps65 (by simp) fun w0=>?_;refine gS (gA rR (qb (gS (gM rR (g_v (qc rR) rR (g_v (qa 6 underlying180 rR rR sizeOf34 (by decide) rR) rR (g_v (qe (v:=sl s rows.length cap) isAgg34 rR rR) rR ?_)))))));refine g_l (qi (Pre:=[roL 3 s (chR rows)]) call111 rR (zdx rows s cap (by omega))) rR ?_;rintro _ _ ⟨s7,c7,rfl,rfl⟩;refine gA rR (qb ?_);exact wx rfl rfl rfl rfl
open Go Go.Sl Go.Proofs
theorem zwx:∃fn,Tryz.prog.funcs[200]? =some fn∧(fn.name== "runtime.NumGoroutine")=false∧fn.body.isNone=true∧Extern.findNext fn=none∧Extern.find fn=some Extern.AbiNoEscape.same:=
  ⟨(Tryz.prog.funcs[200]?).get (by kernel_rfl),(Option.some_get _).symm,by kernel_rfl,by kernel_rfl,by kernel_rfl,by kernel_rfl⟩
theorem zlA (v:Value)(w:World):(callFunc 200 [v].toArray).run Tryz.prog w= .ok (.value v) w:=by
  obtain ⟨fn,h1,h2,h3,h4,h5⟩:=zwx;rw[run_callFunc_extern h1 h2 h3 h4 h5]
  rfl
theorem zor (a b:Nat):[[By ((a % 256:Nat):Int)],[By ((b % 256:Nat):Int)],[By ((b / 256 % 256:Nat):Int)]]=qr [UInt8.ofNat a,UInt8.ofNat b,UInt8.ofNat (b / 256)]:=by
  simp only[qr,List.map_cons,List.map_nil,UInt8.toNat_ofNat']
theorem bldKV (k v:Bytes)(w:World):(Instr.build 104 #[(0,Str k),(1,Str v)]).run Tryz.prog w= .ok (.agg (yu ⟨k,v,false⟩).toArray) w:=by
  simp[Instr.build,zeroValue104,runUnderlying104,sizeOf9,sizeOf4,Instr.fill,qV,yu,show ∀s:Bytes,(Str s).cells=#[Str s] from fun _=>rfl]
theorem zkF {l:List ChangeM}{k:Nat}{x:ChangeM}(h:l[k]? =some x):yv (l.take (k+1))=yv (l.take k)++zqC x:=by rw[zfB h,zrt]
theorem zlh {l:List ChangeM}{k:Nat}{x:ChangeM}(h:l[k]? =some x):yv (l.drop k)=zqC x++yv (l.drop (k+1)):=by
  obtain ⟨hk,rfl⟩:=List.getElem?_eq_some_iff.1 h;rw[List.drop_eq_getElem_cons hk,zqP]
theorem zkW {l:List ChangeM}(h:∀r∈l,okR r)(k:Nat):(yv (l.take k)).length≤59*l.length:=by
  have:=zcO (l:=l.take k) fun r hr=>h r (List.mem_of_mem_take hr);rw[List.length_take] at this;omega
theorem zqV {l:List ChangeM}{k:Nat}{x:ChangeM}(hs:srt l)(hx:l[k]? =some x)(hg:x.gone=false):zaG (l.take k) [x]=l.take (k+1):=by
  have h:=znJ hs (k+1);rw[zfB hx] at h ⊢;exact zta h hg
theorem zd5 (bb:Nat)(p s:Option Addr)(n cap:Nat)(hp:p=none∨p=some ⟨bb,0,none⟩)(F:List HProp):Ct Tryz.prog 171 [ptr bb 0] ([pt bb (.cells #[(.pointer p),sl s n cap] 201 (0,0))]++F) (R1 (.tuple #[]) (pt bb (.cells #[ptr bb 0,sl s n cap] 201 (0,0))::F)):=by
  show Ct Tryz.prog 171 [ptr bb 0] (pt bb (.cells #[(.pointer p),sl s n cap] 201 (0,0))::F) _;refine Ct.of func171 rR 20 ntmps171 (by simp) fun w0=>?_;refine gS (gM rR (g_v (qc rR) rR (g_v (qa 0 underlying201 rR rR sizeOf198 (by decide) rR) rR (g_v (qe (v:=(.pointer p)) isAgg198 rR rR) rR (g_v (zgT underlying198 rR) rR (qb ?_))))));refine qg rR (fun h6=>?_) (fun h6=>?_)
  · refine qo (gM rR (gM rR (g_v (zwf underlying198 underlying271 sizeOf201 (by decide) rR (by simp)) rR ?_)));refine g_l (zpo (fun w=>zlA _ w) rR) rR ?_;rintro _ _ ⟨rfl,rfl⟩;refine g_v (zuS underlying271 underlying198 sizeOf201 (by decide) rR rR) rR (g_v (qc rR) rR (g_v (qa 0 underlying201 rR rR sizeOf198 (by decide) rR) rR ?_));refine yp (qH #[ptr bb 0,sl s n cap] sizeOf198 rR rR rR (by simp) rR) ?_;rintro _ _ rfl;refine qb ?_;refine zck rR rR ?_;exact rfl
  · have hps:p=some ⟨bb,0,none⟩:=by
      rcases hp with h | h
      · rw[h] at h6;cases h6
      · exact h
    rw[hps];refine gS (gM rR (g_v (qc rR) rR (g_v (qa 0 underlying201 rR rR sizeOf198 (by decide) rR) rR (g_v (qe (v:=ptr bb 0) isAgg198 rR rR) rR (gM rR (g_v (zoi underlying198 sizeOf201 rR rR) rR (qb ?_)))))));refine qg rR (fun h19=>?_) (fun h19=>?_)
    · cases h19
    · refine qh ?_;refine zck rR rR ?_;exact rfl
theorem zc0 (bb:Nat)(p s:Option Addr)(cap:Nat)(l t:Bytes)(hp:p=none∨p=some ⟨bb,0,none⟩)(hb:l.length+t.length≤1000000)(F:List HProp):Ct Tryz.prog 120 [ptr bb 0,Str t] ([pt bb (.cells #[(.pointer p),sl s l.length cap] 201 (0,0)),owL 5 1 s cap (qr (l))]++F) (fun v L'=>∃s' cap',v= .tuple #[I t.length, .nilIface]∧L'=pt bb (.cells #[ptr bb 0,sl s' (l++t).length cap'] 201 (0,0))::owL 5 1 s' cap' (qr (l++t))::F):=by
  show Ct Tryz.prog 120 [ptr bb 0,Str t] (pt bb (.cells #[(.pointer p),sl s l.length cap] 201 (0,0))::owL 5 1 s cap (qr (l))::F) _;refine Ct.of func120 rR 19 ntmps120 (by simp) fun w0=>?_;refine gS (gA rR (gA rR (qb (gS (gM rR ?_)))));refine g_l (qi (Pre:=[pt bb (.cells #[(.pointer p),sl s l.length cap] 201 (0,0))]) call171 rR (zd5 bb p s l.length cap hp)) rR ?_;rintro _ _ ⟨rfl,rfl⟩;refine qb (gS (gM rR (gM rR (g_v (qc rR) rR (g_v (qa 1 underlying201 rR rR sizeOf199 (by decide) rR) rR (g_v (qe (v:=sl s l.length cap) isAgg199 rR rR) rR (gM rR ?_)))))));refine g_l (zsA underlying199 underlying9 sizeOf5 zeroValue5 rR Tryz.typeInfo5 rR rR rR ⟨by omega,by decide,by decide⟩) rR ?_;rintro _ _ ⟨s14,c14,rfl,_,rfl⟩;refine g_v (qc rR) rR (g_v (qa 1 underlying201 rR rR sizeOf199 (by decide) rR) rR ?_);refine yp (qH #[ptr bb 0,sl s14 (l++t).length c14] sizeOf199 rR rR rR (by simp) rR) ?_;rintro _ _ rfl;refine qb (gS (gM rR (g_v (wi underlying9 rR) rR (gA rR (gA rR (qb ?_))))));exact ql (pt bb (.cells #[ptr bb 0,sl s14 (l++t).length c14] 201 (0,0))::owL 5 1 s14 c14 (qr (l++t))::F) rfl ⟨s14,c14,rfl,rfl⟩
theorem zfk (bb:Nat)(p s:Option Addr)(cap:Nat)(l:Bytes)(h0:l≠ []∨s=none)(hb:l.length≤1000000)(F:List HProp):Ct Tryz.prog 122 [ptr bb 0] ([pt bb (.cells #[(.pointer p),sl s l.length cap] 201 (0,0)),owL 5 1 s cap (qr (l))]++F) (R1 (Str l) (pt bb (.cells #[(.pointer p),sl s l.length cap] 201 (0,0))::F)):=by
  show Ct Tryz.prog 122 [ptr bb 0] (pt bb (.cells #[(.pointer p),sl s l.length cap] 201 (0,0))::owL 5 1 s cap (qr (l))::F) _;refine Ct.of func122 rR 14 ntmps122 (by simp) fun w0=>?_;refine gS (gA rR (qb (qf ?_)));refine yw (Lf:=[pt bb (.cells #[(.pointer p),sl s l.length cap] 201 (0,0))]) [(0,false),(1,false),(2,false),(3,false),(5,false),(6,false),(7,false),(8,false),(9,false),(4,true),(10,true),(11,false)] (by kernel_rfl) (by kernel_rfl) rR (by kernel_rfl) ?_;refine dM rR rR rR (d_v rR (qc rR) rR (d_v rR (qa 1 underlying201 rR rR sizeOf199 (by decide) rR) rR (d_v rR (qe (v:=sl s l.length cap) isAgg199 rR rR) rR (dM rR rR rR (d_v rR (qc rR) rR (d_v rR (qa 1 underlying201 rR rR sizeOf199 (by decide) rR) rR (d_v rR (qe (v:=sl s l.length cap) isAgg199 rR rR) rR (d_v rR (yo underlying199 rR) rR ?_))))))));refine d_l rR (l_usd (l:=l) rR h0) rR ?_;rintro _ _ ⟨rfl,rfl⟩;refine d_l rR (zxR (l:=l) underlying251 (zhf (sizeOf5 default)) rR rR rR h0 (by omega)) rR ?_;rintro _ _ ⟨rfl,rfl⟩;refine d_v rR (qx rR) rR ?_;refine yc ?_;refine qn rR rR ?_;exact rfl
theorem zkz (rows:List ChangeM)(s:Option Addr)(cap:Nat)(hl:rows.length≤400)(hok:∀r∈rows,okR r)(F:List HProp):Ct Tryz.prog 175 [sl s rows.length cap] ([roL 3 s (chR rows)]++F) (R1 (Str (yv rows)) (roL 3 s (chR rows)::F)):=by
  show Ct Tryz.prog 175 [sl s rows.length cap] (roL 3 s (chR rows)::F) _;refine Ct.of func175 rR 36 ntmps175 (by simp) fun w0=>?_;have hlen:=zkW hok;refine gS (gA rR (qb (gS ?_)));refine g_l (qy #[.pointer none,sl none 0 0] zeroValue201) rR ?_;rintro _ _ ⟨b3,rfl,rfl⟩;refine qb (qf (qf ?_));rw[show sl none 0 0=sl none (yv (rows.take 0)).length 0 from rfl];refine yG 5 1 (qr (yv (rows.take 0))) rR ?_;refine qo (gM rR (g_v (yo underlying34 rR) rR (gM rR (qb (qj ?_)))));refine qE (α:=Nat×Option Addr×Option Addr×Nat) (fun z=>z.1≤rows.length∧(z.2.1=none∨z.2.1=some ⟨b3,0,none⟩)∧(yv (rows.take z.1)≠ []∨z.2.2.1=none)) (fun z=>U [(3,ptr b3 0),(6,sl s rows.length cap),(7,I rows.length),(8,I z.1)]) (fun z=>pt b3 (.cells #[(.pointer z.2.1),sl z.2.2.1 (yv (rows.take z.1)).length z.2.2.2] 201 (0,0))::owL 5 1 z.2.2.1 z.2.2.2 (qr (yv (rows.take z.1)))::roL 3 s (chR rows)::F) (fun z=>rows.length - z.1) (0,none,none,0) ⟨by simp, .inl rfl, .inr rfl⟩ [3,6,7,8] rfl rR ?_;rintro ⟨k,p,sB,cB⟩ ⟨hk,hp,hne⟩;simp only[] at hk hp hne ⊢;refine gS (g_v (qJ rR rR) rR (qb (qf ?_)));refine qg rR (fun h9=>?_) (fun h9=>?_)
  · simp at h9;have hkn:k<rows.length:=(by omega);obtain ⟨x,hx⟩:∃x,rows[k]? =some x:=⟨_,List.getElem?_eq_getElem hkn⟩;have hkr:k<(chR rows).length:=(by rw[qO];exact hkn);have hxl:=zi6 (hok x (List.mem_of_getElem? hx));obtain ⟨_,_,hxk,hxv⟩:=zfD (hok x (List.mem_of_getElem? hx)).1;refine qh (qf (qj (gS (g_v (qA k underlying34 sizeOf104 rR rR rR hkn hkr) rR (g_v (ym (row:=yu x) isAgg104 sizeOf104 rR (zbg hx) rR) rR ?_)))));refine g_l (qy #[Str [],Str [],Bo false] zeroValue104) rR ?_;rintro _ _ ⟨b5,rfl,rfl⟩;refine yp (qq (cs:=#[Str [],Str [],Bo false]) (vs:=yu x) (yu x).toArray sizeOf104 rR rR rR rR (by decide) (qC rR)) ?_;rintro _ _ rfl;refine qb (qo (g_v (qa 0 underlying104 rR rR sizeOf9 (by decide) rR) rR (g_v (qe (v:=Str x.key) isAgg9 rR rR) rR (g_v (wi underlying9 rR) rR (g_v (yU (r:=((x.key.length % 256:Nat):Int)) underlying3 underlying5 rR (wu8 _)) rR (g_v (qa 1 underlying104 rR rR sizeOf9 (by decide) rR) rR (g_v (qe (v:=Str x.val) isAgg9 rR rR) rR (g_v (wi underlying9 rR) rR (g_v (yU (r:=((x.val.length % 256:Nat):Int)) underlying3 underlying5 rR (wu8 _)) rR (g_v (qa 1 underlying104 rR rR sizeOf9 (by decide) rR) rR (g_v (qe (v:=Str x.val) isAgg9 rR rR) rR (g_v (wi underlying9 rR) rR (g_v (zd4 (r:=((x.val.length / 256:Nat):Int)) rR rR (by decide) (zkq x.val.length 256)) rR (g_v (yU (r:=((x.val.length / 256 % 256:Nat):Int)) underlying3 underlying5 rR (wu8 _)) rR ?_))))))))))))));refine g_l (qs (qr ([UInt8.ofNat x.key.length,UInt8.ofNat x.val.length,UInt8.ofNat (x.val.length / 256)])) underlying199 sizeOf5 zeroValue5 rR rR (zor x.key.length x.val.length) (by simp[qr]) (by decide) (by decide)) rR ?_;rintro _ _ ⟨b25,rfl,rfl⟩;refine g_v (yL (l:=[UInt8.ofNat x.key.length,UInt8.ofNat x.val.length,UInt8.ofNat (x.val.length / 256)]) underlying199 underlying5 underlying9 rR rR rR) rR (g_v (qa 0 underlying104 rR rR sizeOf9 (by decide) rR) rR (g_v (qe (v:=Str x.key) isAgg9 rR rR) rR (g_v (wN rR rR (by simp <;> omega)) rR (g_v (qa 1 underlying104 rR rR sizeOf9 (by decide) rR) rR (g_v (qe (v:=Str x.val) isAgg9 rR rR) rR (g_v (wN rR rR (by simp <;> omega)) rR ?_))))));refine g_l (qi (Pre:=[pt b3 (.cells #[(.pointer p),sl sB (yv (rows.take k)).length cB] 201 (0,0)),owL 5 1 sB cB (qr (yv (rows.take k)))]) call120 rR (zc0 b3 p sB cB (yv (rows.take k)) (zqC x) hp (by have:=hlen k;have:=zi6 (hok x (List.mem_of_getElem? hx));omega))) rR ?_;rintro _ _ ⟨s33,c33,rfl,rfl⟩;rw[←zkF hx];refine qb (qF (qo (g_v (qu (r:=((k+1:Nat):Int)) rfl rfl (by rw[show (k:Int)+1=((k+1:Nat):Int) by omega];exact w64 (by omega))) rfl (gM rfl (qb ?_)))));refine qm (k+1,some ⟨b3,0,none⟩,s33,c33) ⟨by simp only[];omega, .inr rfl, .inl ?_⟩ (by simp only[];omega) [3,6,7,8] rfl rfl
    simp only[];rw[zkF hx];intro e;have:=congrArg List.length e;rw[List.length_append,List.length_nil] at this;omega
  · simp at h9;obtain rfl:k=rows.length:=(by omega);rw[List.take_length] at hne ⊢;refine qz rR ?_;refine gS ?_;refine g_l (qi (Pre:=[pt b3 (.cells #[(.pointer p),sl sB (yv rows).length cB] 201 (0,0)),owL 5 1 sB cB (qr (yv rows))]) call122 rR (zfk b3 p sB cB (yv rows) hne (by have:=hlen rows.length;rw[List.take_length] at this;omega))) rR ?_;rintro _ _ ⟨rfl,rfl⟩;refine gA rR (qb ?_);refine qn rR rR ?_;exact rfl
theorem zh1 (rows:List ChangeM)(hl:rows.length≤400)(hs:srt rows)(hok:∀r∈rows,okR r)(F:List HProp):Ct Tryz.prog 105 [Str (yv rows)] ([]++F) (fun v L'=>∃s cap,v= .tuple #[sl s rows.length cap,Bo true]∧L'=roL 3 s (chR rows)::F):=by
  show Ct Tryz.prog 105 [Str (yv rows)] (F) _;refine Ct.of func105 rR 64 ntmps105 (by simp) fun w0=>?_;have hlen:∀k,(yv (rows.drop k)).length≤59*400:=fun k=>by
    have:=zcO (l:=rows.drop k) fun r hr=>hok r (List.mem_of_mem_drop hr);rw[List.length_drop] at this;omega
  refine zlG 3 (chR (rows.take 0)) rR ?_;refine gS (gA rR (gA rR (qb (gS (gA rR (qb (qf (qj ?_))))))));refine qE (α:=Nat×Option Addr×Nat) (fun z=>z.1≤rows.length) (fun z=>U [(0,Str (yv (rows.drop z.1))),(4,sl z.2.1 (rows.take z.1).length z.2.2)]) (fun z=>roL 3 z.2.1 (chR (rows.take z.1))::F) (fun z=>rows.length - z.1) (0,none,0) (by simp) [0,4] rfl rR ?_;rintro ⟨k,sA,cA⟩ hk;simp only[] at hk ⊢;refine qf (gS (gM rR (g_v (zhj rR rR) rR (qb ?_))));refine qg rR (fun h9=>?_) (fun h9=>?_)
  · simp at h9;have hkn:k<rows.length:=by
      rcases Nat.lt_or_ge k rows.length with h | h
      · exact h
      · rw[List.drop_eq_nil_of_le h] at h9;exact absurd rfl h9
    obtain ⟨x,hx⟩:∃x,rows[k]? =some x:=⟨_,List.getElem?_eq_getElem hkn⟩;have hxo:=hok x (List.mem_of_getElem? hx);obtain ⟨hk0,hg1,hxk,hxv⟩:=zfD hxo.1;have hc0:=hxo.1;have hg0:=hxo.2;have hd:=zlh hx;have hdl:=hlen k;obtain ⟨x0,hx0,hx0e⟩:∃y:UInt8,y.toNat=x.key.length∧UInt8.ofNat x.key.length=y:=⟨_,zbH (by omega),rfl⟩;obtain ⟨x1,hx1,hx1e⟩:∃y:UInt8,y.toNat=x.val.length∧UInt8.ofNat x.val.length=y:=⟨_,zbH (by omega),rfl⟩;obtain ⟨x2,hx2,hx2e⟩:∃y:UInt8,y.toNat=0∧UInt8.ofNat (x.val.length / 256)=y:=⟨_,by rw[show x.val.length / 256=0 by omega];rfl,rfl⟩;rw[show zqC x++yv (rows.drop (k+1))=(x0::x1::x2::(x.key++(x.val++yv (rows.drop (k+1))))) by unfold zqC;rw[hx0e,hx1e,hx2e];simp] at hd;rw[hd] at hdl h9 ⊢;simp only[List.length_cons,List.length_append] at hdl;have hrest:(x0::x1::x2::(x.key++(x.val++yv (rows.drop (k+1))))).drop (x0.toNat+3+x1.toNat)=yv (rows.drop (k+1)):=by
      rw[hx0,hx1,show x.key.length+3+x.val.length=(x.key.length+x.val.length)+3 by omega];simp only[List.drop_succ_cons];rw[show x.key.length+x.val.length=(x.key++x.val).length by simp,←List.append_assoc,List.drop_left]
    have hkey:((x0::x1::x2::(x.key++(x.val++yv (rows.drop (k+1))))).take (x0.toNat+3)).drop 3=x.key:=by
      rw[hx0];simp only[List.take_succ_cons,List.drop_succ_cons,List.drop_zero];rw[List.take_left]
    have hval:((x0::x1::x2::(x.key++(x.val++yv (rows.drop (k+1))))).take (x0.toNat+3+x1.toNat)).drop (x0.toNat+3)=x.val:=by
      rw[hx0,hx1,show x.key.length+3+x.val.length=(x.key.length+x.val.length)+3 by omega];simp only[List.take_succ_cons,List.drop_succ_cons];rw[show x.key.length+x.val.length=(x.key++x.val).length by simp,←List.append_assoc,List.take_left,List.drop_left]
    have hbld:∀w,(Instr.build 104 #[(0,Str (((x0::x1::x2::(x.key++(x.val++yv (rows.drop (k+1))))).take (x0.toNat+3)).drop 3)),(1,Str (((x0::x1::x2::(x.key++(x.val++yv (rows.drop (k+1))))).take (x0.toNat+3+x1.toNat)).drop (x0.toNat+3)))]).run Tryz.prog w= .ok (.agg (yu x).toArray) w:=fun w=>by
      rw[hkey,hval,bldKV x.key x.val w];obtain ⟨xk,xv,xg⟩:=x;simp only at hg0;subst hg0
      rfl
    refine qh (qj (qf (qf ?_)));refine wS [(0,false),(1,false),(2,false),(3,false),(4,false),(5,false),(6,false),(7,false),(8,false),(9,false),(10,false),(11,false),(12,false),(13,false),(14,false),(15,false),(16,false),(17,false),(18,false),(19,false),(20,false)] (by kernel_rfl) (by kernel_rfl) rR (by kernel_rfl) ?_;refine dM rR rR rR (d_v rR (wi underlying9 rR) rR (d_v rR (qJ rR rR) rR (dM rR rR rR (qQ rR rR rR (decide_eq_false (by simp only[List.length_cons];omega)) (qp rR) rR (qQ rR rR rR (decide_eq_false (by simp only[List.length_cons];omega)) (qW (r:=x0) 0 underlying9 rR rR rR rR) rR (qQ rR rR rR (decide_eq_false (by simp only[List.length_cons];omega)) (yU (r:=((x0.toNat:Nat):Int)) underlying5 underlying3 rR (w64 (by omega))) rR (qQ rR rR rR (decide_eq_false (by simp only[List.length_cons];omega)) (qu rR rR (w64 (by omega))) rR (qQ rR rR rR (decide_eq_false (by simp only[List.length_cons];omega)) (qp rR) rR (qQ rR rR rR (decide_eq_false (by simp only[List.length_cons];omega)) (qW (r:=x1) 1 underlying9 rR rR rR rR) rR (qQ rR rR rR (decide_eq_false (by simp only[List.length_cons];omega)) (yU (r:=((x1.toNat:Nat):Int)) underlying5 underlying3 rR (w64 (by omega))) rR (qQ rR rR rR (decide_eq_false (by simp only[List.length_cons];omega)) (qu rR rR (w64 (by omega))) rR (qQ rR rR rR (decide_eq_false (by simp only[List.length_cons];omega)) (qp rR) rR (qQ rR rR rR (decide_eq_false (by simp only[List.length_cons];omega)) (qW (r:=x2) 2 underlying9 rR rR rR rR) rR (qQ rR rR rR (decide_eq_false (by simp only[List.length_cons];omega)) (yU (r:=((x2.toNat:Nat):Int)) underlying5 underlying3 rR (w64 (by omega))) rR (qQ rR rR rR (decide_eq_false (by simp only[List.length_cons];omega)) (zdk rR rR (w64 (by omega))) rR (qQ rR rR rR (decide_eq_false (by simp only[List.length_cons];omega)) (qu rR rR (w64 (by omega))) rR (qQ rR rR rR (decide_eq_false (by simp only[List.length_cons];omega)) (qp rR) rR (qQ rR rR rR (decide_eq_false (by simp only[List.length_cons];omega)) (wi underlying9 rR) rR (qQ rR rR rR (decide_eq_false (by simp only[List.length_cons];omega)) (yA rR rR) rR (d_v rR (zaH rR rR) rR ?_))))))))))))))))))));refine yc ?_;refine qg rR (fun h30=>?_) (fun h30=>?_)
    · exfalso;simp at h30;omega
    · refine qh (gS (gM rR (g_v (qW (r:=x0) 0 underlying9 rR rR rR rR) rR (g_v (yU (r:=((x0.toNat:Nat):Int)) underlying5 underlying3 rR (w64 (by omega))) rR (g_v (qu rR rR (w64 (by omega))) rR (gA rR (qb (qf ?_))))))));refine wS [(0,false),(1,false),(2,false),(3,false),(4,false),(5,false),(6,false),(7,false),(8,false),(9,false),(10,false)] (by kernel_rfl) (by kernel_rfl) rR (by kernel_rfl) ?_;refine dM rR rR rR (dM rR rR rR (d_v rR (qW (r:=x1) 1 underlying9 rR rR rR rR) rR (d_v rR (yU (r:=((x1.toNat:Nat):Int)) underlying5 underlying3 rR (w64 (by omega))) rR (d_v rR (qu rR rR (w64 (by omega))) rR (dM rR rR rR (d_v rR (qW (r:=x2) 2 underlying9 rR rR rR rR) rR (d_v rR (yU (r:=((x2.toNat:Nat):Int)) underlying5 underlying3 rR (w64 (by omega))) rR (d_v rR (zdk rR rR (w64 (by omega))) rR (d_v rR (qu rR rR (w64 (by omega))) rR (d_v rR (qx rR) rR ?_))))))))));refine yc ?_;refine qf ?_;refine wS [(0,false),(1,false),(2,false),(3,false),(4,false),(5,false),(6,false),(7,false),(8,true),(9,true)] (by kernel_rfl) (by kernel_rfl) rR (by kernel_rfl) ?_;refine dM rR rR rR (dM rR rR rR (d_v rR (zag (l:=3) (h:=x0.toNat+3) underlying9 rR rR rR rR (by omega) (by omega) (by simp;omega)) rR (dM rR rR rR (dM rR rR rR (dM rR rR rR (d_v rR (zag (l:=x0.toNat+3) (h:=x0.toNat+3+x1.toNat) underlying9 rR rR (by omega) rR (by omega) (by omega) (by simp;omega)) rR (d_v rR (qP rR hbld) rR ?_)))))));refine d_l rR (qy #[Str [],Str [],Bo false] zeroValue104) rR ?_;rintro _ _ ⟨b7,rfl,rfl⟩;refine zoK rR (qq (cs:=#[Str [],Str [],Bo false]) (vs:=yu x) (yu x).toArray sizeOf104 rR rR rR rR (by decide) (qC rR)) ?_;rintro _ _ rfl;refine yc ?_;refine qf (gS (g_v (qI (vs:=yu x) isAgg104 sizeOf104 rR rR qR) rR ?_));refine g_l (qi (Pre:=[]) call127 rR (zbl x)) rR ?_;rintro _ _ ⟨rfl,rfl⟩;rw[hc0];refine g_v (yf underlying37 rR) rR (qb ?_);refine qg rR (fun h55=>?_) (fun h55=>?_)
      · simp at h55
      · refine qh (gS (gM rR (g_v (qI (vs:=yu x) isAgg104 sizeOf104 rR rR qR) rR ?_)));refine g_l (qs [yu x] underlying34 sizeOf104 zeroValue104 rR rR rR (by simp[yu]) (by decide) (by decide)) rR ?_;rintro _ _ ⟨b58,rfl,rfl⟩;refine yB (T:=104) (cap:=1) (some ⟨b58,0,none⟩) ?_;rw[show [yu x]=chR [x] from rfl];refine g_l (qi (Pre:=[roL 3 sA (chR (rows.take k)),roL 3 (some ⟨b58,0,none⟩) (chR [x])]) call107 rR (zdp (rows.take k) [x] sA (some ⟨b58,0,none⟩) cA 1 (znJ hs k) (by rw[List.length_take];omega) (by simp))) rR ?_;rintro _ _ ⟨s59,c59,rfl,rfl⟩;rw[zqV hs hx hg0];refine yB (T:=104) (cap:=c59) s59 ?_;refine gA rR (qb (qo (gM rR (gM rR (g_v (zjY (l:=x0.toNat+3+x1.toNat) underlying9 rR rR (by omega) (by simp;omega)) rR (gA rR (qb (qF ?_))))))));rw[show (x0::x1::x2::(x.key++(x.val++yv (rows.drop (k+1))))).drop (x0.toNat+3+x1.toNat)=yv (rows.drop (k+1)) from hrest];exact qm (k+1,s59,c59) (by simp only[];omega) (by simp only[];omega) [0,4] rfl rfl
  · simp at h9;obtain rfl:k=rows.length:=by
      rcases Nat.lt_or_ge k rows.length with h | h
      · exfalso;obtain ⟨x,hx⟩:∃x,rows[k]? =some x:=⟨_,List.getElem?_eq_getElem h⟩;have:=zlh hx;rw[h9] at this;have h2:=zi6 (hok x (List.mem_of_getElem? hx));have h3:=congrArg List.length this;rw[List.length_append,List.length_nil] at h3;omega
      · omega
    rw[List.take_length];refine qz rR ?_;refine gS (gM rR (gA rR (gA rR (qb ?_))));exact ql (roL 3 sA (chR rows)::F) rfl ⟨sA,cA,rfl,rfl⟩
end Go.Proofs.YthdjckbjjfiopadGreatDoor
namespace Go.Proofs.YthdjckbjjfiopadGreatDoor
open Go.Sl Go.Proofs
def S80 (D:DiskM):Prop:=(∀x∈D.kept,x.length=80)∧(∀x∈D.now,x.length=80)∧∀t∈D.wait,t.2.length=80
theorem zug {L:List Bytes}{n:Nat}{s:Bytes}(h:∀x∈L,x.length=80)(hs:s.length=80):∀x∈L.set n s,x.length=80:=fun x hx=>by
  rcases List.mem_or_eq_of_mem_set hx with h' | h'
  · exact h x h'
  · rw[h'];exact hs
theorem zgl {D:DiskM}(h:S80 D):S80 (yZ D):=⟨by rw[wb];exact h.1,by rw[wB];exact h.2.1,by rw[ws];exact h.2.2⟩
theorem zxa {N:Nat}{D:DiskM}{x:Stp}(h:S80 D)(ho:zcm N x):S80 (stD D x):=by
  cases x with
  | none=>
    show S80 (yx D);unfold yx;split
    · have:=zgl h;exact ⟨this.2.1,this.2.1,fun t ht=>by cases ht⟩
    · exact zgl h
  | some y=>
    show S80 (yy D y.1 y.2);unfold yy;split
    · exact h
    · split
      · have:=zgl h;refine ⟨this.1,zug this.2.1 (zj5 ho.2),fun t ht=>?_⟩;simp only[ww,List.mem_append,List.mem_singleton] at ht;rcases ht with ht | rfl
        · exact this.2.2 t ht
        · exact zj5 ho.2
      · exact zgl h
theorem zen {N:Nat}:∀(l:List Stp) (D:DiskM),S80 D→(∀x∈l,zcm N x)→S80 (wg D l).2
  | [],D,h,_=>h
  | x::l,D,h,ho=>by
    have h1:=zxa h (ho x (List.mem_cons_self ..));by_cases h0:stE D x=0
    · rw[zcu h0];exact zen l _ h1 (fun y hy=>ho y (List.mem_cons_of_mem _ hy))
    · rw[zbu h0];exact h1
theorem zqq {from_ many first used N:Nat}{c:List ChangeM}{D:DiskM}(h:S80 D)(hN:from_+many≤N):S80 (zdd from_ many first used c D):=by
  unfold zdd;split
  · rename_i hv;exact zen _ _ h (zjF hN hv)
  · exact h
theorem zlF {keep:Int}{w:List (Nat×Bytes)}{K:List Bytes}(hK:∀x∈K,x.length=80)(hw:∀t∈w,t.2.length=80):∀k,∀x∈za3 keep w K k,x.length=80
  | 0=>hK
  | k+1=>by
    have ih:=zlF (keep:=keep) hK hw k;unfold za3;split
    · rename_i t ht;split
      · exact zug ih (hw t (List.mem_of_getElem? ht))
      · exact ih
    · exact ih
theorem znB (side:Nat)(t:Bytes):∀(f k:Nat),ckW side t k (f+1)=ckW side t k f++ [some (2+side*60+(k+f),wA t (k+f))]
  | 0,k=>rfl
  | f+1,k=>by
    rw[ckW,znB side t f (k+1),ckW,List.cons_append,show k+1+f=k+(f+1) by omega]
theorem zpg (side:Nat)(t:Bytes):∀(f g k:Nat),ckW side t k (f+g)=ckW side t k f++ckW side t (k+f) g
  | 0,g,k=>by rw[Nat.zero_add];rfl
  | f+1,g,k=>by
    rw[show f+1+g=(f+g)+1 by omega,ckW,zpg side t f g (k+1),ckW,List.cons_append,show k+1+f=k+(f+1) by omega]
theorem zb4 {t:Bytes}{k:Nat}:(wA t k).length=Nat.min 80 (t.length - 80*k):=by unfold wA;simp[List.length_take,List.length_drop]
theorem chunks_lt {t:Bytes}{k:Nat}:k<qZ t ↔ 80*k<t.length:=by unfold qZ;omega
theorem zub {side N:Nat}{t:Bytes}(hN:2+side*60+qZ t≤N):∀(f k:Nat),k+f≤qZ t→∀x∈ckW side t k f,zcm N x
  | 0,k,_,x,h=>by simp[ckW] at h
  | f+1,k,hk,x,h=>by
    rw[ckW] at h;rcases List.mem_cons.1 h with rfl | h
    · exact ⟨by simp only;omega,zkN t k⟩
    · exact zub hN f (k+1) (by omega) x h
theorem zuy {h:HdM}{t:Bytes}{N:Nat}(hN:2+h.side*60+qZ t≤N):∀x∈ckL h t,zcm N x:=by
  intro x hx;unfold ckL at hx;simp only[List.mem_append,List.mem_cons,List.not_mem_nil,or_false] at hx;rcases hx with hx | rfl | rfl | rfl
  · exact zub hN _ 0 (by omega) x hx
  · trivial
  · exact ⟨by simp only;omega,by rw[zhp];decide⟩
  · trivial
theorem zbE {l:List Stp}{x:Stp}{D D1:DiskM}(h:wg D l=(0,D1)):wg D (l++ [x])=(stE D1 x,stD D1 x):=by
  rw[zeo,h];simp only[if_true];by_cases h0:stE D1 x=0
  · rw[zcu h0,zfh,h0]
  · rw[zbu h0]
theorem zbF {l r:List Stp}{D D1:DiskM}{e:Int}(h:wg D l=(e,D1))(he:e≠0):wg D (l++r)=(e,D1):=by
  rw[zeo,h];simp only;rw[if_neg he]
theorem zt6 {l r:List Stp}{D D1:DiskM}(h:wg D l=(0,D1)):wg D (l++r)=wg D1 r:=by rw[zeo,h];rfl
theorem zx8:∀(l:List Stp) (D:DiskM),(∀x∈l,zcm D.now.length x)→(wg D l).1=0∨(wg D l).1=9
  | [],D,_=> .inl rfl
  | x::l,D,h=>by
    have hx:=h x (List.mem_cons_self ..);have hst:stE D x=0∨stE D x=9:=by
      cases x with
      | none=>exact zae D
      | some y=>
        show yO D y.1 y.2=0∨yO D y.1 y.2=9;unfold yO;rw[if_neg (by unfold zh5;have h1:=hx.1;have h2:=hx.2;omega)];exact zae D
    rcases hst with h0 | h0
    · rw[zcu h0];refine zx8 l _ fun y hy=>?_;have:=h y (List.mem_cons_of_mem _ hy);have hl:(stD D x).now.length=D.now.length:=by
        cases x with
        | none=>
          show (yx D).now.length=_;unfold yx;split <;> simp[zaO,wB]
        | some z=>
          show (yy D z.1 z.2).now.length=_;unfold yy;split
          · rfl
          · split <;> simp[ww,wB]
      rw[hl];exact this
    · rw[zbu (by rw[h0];decide)];exact .inr h0
def fmW:Nat→List Stp
  | 0=>[some (0,[])]
  | k+1=>fmW k++ [some (122+k,[])]
def hd1:HdM:=⟨1,0,0,1⟩
def fmT:List Stp:=[none,some (1,we hd1),none]
def fmL (N:Nat):List Stp:=fmW (N - 122)++fmT
theorem zpN:∀(g k:Nat),∃r,fmW (k+g)=fmW k++r
  | 0,k=>⟨[],by simp⟩
  | g+1,k=>by
    obtain ⟨r,hr⟩:=zpN g k;exact ⟨r++ [some (122+(k+g),[])],by rw[show k+(g+1)=(k+g)+1 by omega,fmW,hr,List.append_assoc]⟩
theorem ztf {k m:Nat}{D X:DiskM}{e:Int}(h:wg D (fmW k)=(e,X))(he:k=m∨e≠0)(hk:k≤m):wg D (fmW m)=(e,X):=by
  rcases he with rfl | he
  · exact h
  · obtain ⟨r,hr⟩:=zpN (m - k) k;rw[show m=k+(m - k) by omega,hr];exact zbF h he
theorem zgB:∀k,(fmW k).length=k+1
  | 0=>rfl
  | k+1=>by rw[fmW,List.length_append,zgB k];rfl
def CkR (D:DiskM)(h:HdM)(rows:List ChangeM)(many used:Nat)(e:Int)(D1:DiskM)(h1:HdM)(used1:Nat):Prop:=
  wg D (ckL (nxH h rows many) (yv rows))=(e,D1)∧((e≠0∧h1=h∧used1=used)∨(e=0∧h1=nxH h rows many∧used1≤many∧∃ds,wd (h.first+many) (zjz D1 122) many 0 [] [] 0=(ds,used1)))
def MidR (D:DiskM)(h:HdM)(rows:List ChangeM)(many used:Nat)(c:List ChangeM)(e:Int)(D1:DiskM)(h1:HdM)(used1:Nat):Prop:=
  (many - used<c.length+1∧CkR D h rows many used e D1 h1 used1)∨(¬many - used<c.length+1∧e=0∧D1=D∧h1=h∧used1=used)
def ztv (D:DiskM)(h:HdM)(rows:List ChangeM)(many used:Nat)(c:List ChangeM)(e:Int)(D2:DiskM)(h2:HdM)(used2:Nat)(rows2:List ChangeM):Prop:=
  (cmV many rows c≠0∧e=cmV many rows c∧D2=D∧h2=h∧used2=used∧rows2=rows)∨
  (cmV many rows c=0∧∃e1 D1 h1 used1,MidR D h rows many used c e1 D1 h1 used1∧((e1≠0∧e=e1∧D2=D1∧h2=h1∧used2=used1∧rows2=rows)∨
    (e1=0∧e=zgL 122 many h1.first used1 c D1∧D2=zdd 122 many h1.first used1 c D1∧h2=h1∧used2=zhg 122 many h1.first used1 c D1∧rows2=if e=0 then zaG rows c else rows)))
theorem zpn (h:HdM)(t:Bytes):(ckL h t).length=qZ t+3:=by simp[ckL,zja]
theorem zbS {rows:List ChangeM}(hl:rows.length≤80)(hr:∀r∈rows,okR r):qZ (yv rows)≤60:=by
  have:=zcO hr;unfold qZ;omega
theorem zrB {h:HdM}{rows:List ChangeM}{N:Nat}(hl:rows.length≤80)(hr:∀r∈rows,okR r)(hN:196≤N):∀x∈ckL (nxH h rows (N - 122)) (yv rows),zcm N x:=by
  have:=zbS hl hr;exact zuy (by show 2+(1 - h.side)*60+qZ (yv rows)≤N;omega)
theorem zqc {D:DiskM}{h:HdM}{rows:List ChangeM}{N used i:Nat}{c:List ChangeM}{e:Int}{D1:DiskM}{h1:HdM}{used1:Nat}(hm:MidR D h rows (N - 122) used c e D1 h1 used1)(hok:okW N i D)(hS:S80 D)(hl:rows.length≤80)(hr:∀r∈rows,okR r)(hN:196≤N)(hu:used≤N - 122):
    okW N (i+63) D1∧S80 D1∧used1≤N - 122∧h1.first≤h.first+N∧h1.ep≤h.ep+1∧(h.side≤1→h1.side≤1)∧h.first≤h1.first:=by
  rcases hm with ⟨_,hrun,hc⟩ | ⟨_,_,rfl,rfl,rfl⟩
  · have h1':=za4 (ckL (nxH h rows (N - 122)) (yv rows)) i D hok;rw[hrun,zpn] at h1';have h2':=zen _ D hS (zrB (h:=h) hl hr hN);rw[hrun] at h2';have:=zbS hl hr;refine ⟨zaW h1' (by omega),h2',?_⟩;rcases hc with ⟨_,rfl,rfl⟩ | ⟨_,rfl,hu1,_⟩
    · exact ⟨hu,by omega,by omega,id,Nat.le_refl _⟩
    · exact ⟨hu1,by simp only[nxH];omega,by simp only[nxH];omega,fun _=>by simp only[nxH];omega,by simp only[nxH];omega⟩
  · exact ⟨zaW hok (by omega),hS,hu,by omega,by omega,id,Nat.le_refl _⟩
open _root_.Go.Proofs.Tryz
open Go Go.Sl Go.Proofs
abbrev ckV (b:Nat)(t:Bytes)(k:Nat):Value:=sl (some ⟨b,80*k,none⟩) (wA t k).length (wA t k).length
def ckP (b2 b3 b cap:Nat)(t:Bytes):List HProp:=[pt b2 (.cells #[sl (some ⟨b,0,none⟩) t.length cap] 199 (0,0)),pt b3 (.cells #[I 80] 3 (0,0)),roL 1 (some ⟨b,0,none⟩) (qr t)]
theorem zoV {t:Bytes}{k:Nat}:(if (((t.length - 80*k:Nat):Nat):Int)<80 then ((t.length - 80*k:Nat):Int) else 80)=(((wA t k).length:Nat):Int):=by
  rw[zb4];by_cases h:t.length - 80*k<80
  · rw[if_pos (by omega),show Nat.min 80 (t.length - 80*k)=t.length - 80*k from Nat.min_eq_right (by omega)]
  · rw[if_neg (by omega),show Nat.min 80 (t.length - 80*k)=80 from Nat.min_eq_left (by omega)];rfl
theorem zxA {t:Bytes}{k b:Nat}(hk:80*k<t.length):sl (if 80*k+(wA t k).length=80*k then (some ⟨b,0,none⟩:Option Addr) else (some ⟨b,0,none⟩:Option Addr).map (·.add (80*k*1))) (80*k+(wA t k).length - 80*k) (80*k+(wA t k).length - 80*k)=ckV b t k:=by
  have hc:(wA t k).length≠0:=by
    rw[zb4];have h1:1≤Nat.min 80 (t.length - 80*k):=Nat.le_min.2 ⟨by decide,by omega⟩;omega
  rw[if_neg (by omega),Nat.add_sub_cancel_left,Option.map_some,zaV,Nat.zero_add,Nat.mul_one]
theorem zte (s:Option Addr)(n cap:Nat)(F:List HProp):Ct Tryz.prog 177 [sl s n cap,I 80] ([]++F) (fun v L'=>∃b2 b3,v= .func (.func 202) #[] #[ptr b2 0,ptr b3 0]∧L'=pt b2 (.cells #[sl s n cap] 199 (0,0))::pt b3 (.cells #[I 80] 3 (0,0))::F):=by
  show Ct Tryz.prog 177 [sl s n cap,I 80] (F) _;refine Ct.of func177 rR 9 ntmps177 (by simp) fun w0=>?_;refine gS ?_;refine g_l (wR #[sl s n cap] rfl rR) rR ?_;rintro _ _ ⟨b2,rfl,rfl⟩;refine g_l (wR #[I 80] rfl rR) rR ?_;rintro _ _ ⟨b3,rfl,rfl⟩;refine gA rR (qb (qf (gS (g_v (qe (v:=I 80) isAgg3 rR rR) rR (g_v (qJ rR rR) rR (qb ?_))))));refine qg rR (fun h6=>?_) (fun h6=>?_)
  · simp at h6
  · refine qh (gS (g_v (wQ rR rR) rR (gA rR (qb ?_))));exact ql (pt b2 (.cells #[sl s n cap] 199 (0,0))::pt b3 (.cells #[I 80] 3 (0,0))::F) rfl ⟨b2,b3,rfl,rfl⟩
theorem zpA (b2 b3 b cap l:Nat)(t:Bytes)(w0:World)(A:Nat→List HProp)(B:List HProp)(hcap:t.length≤cap)(hlen:t.length≤1000000)
    (hr:∀k,k<qZ t→zmc Tryz.prog l (ckV b t k) w0 (ckP b2 b3 b cap t++A k) (ckP b2 b3 b cap t++A (k+1)) (ckP b2 b3 b cap t++B)):
    ∀w,Sat w0 w (ckP b2 b3 b cap t++A 0)→Calls Tryz.prog 202 (.func (.yield l) #[] #[]:: [ptr b2 0,ptr b3 0]).toArray w fun e w'=>match e with
      | .returned _=>Sat w0 w' (ckP b2 b3 b cap t++A (qZ t))∨Sat w0 w' (ckP b2 b3 b cap t++B)
      | _=>False:=fun w hw=>by
  refine Calls.mono (zr0 func202 rR 31 ntmps202 (by simp) (L:=pt b2 (.cells #[sl (some ⟨b,0,none⟩) t.length cap] 199 (0,0))::pt b3 (.cells #[I 80] 3 (0,0))::roL 1 (some ⟨b,0,none⟩) (qr t)::A 0) (R:=fun v L'=>L'=ckP b2 b3 b cap t++A (qZ t)∨L'=ckP b2 b3 b cap t++B) ?_ w hw) fun e w' he=>?_;rotate_left
  · cases e with
    | returned v=>
        obtain ⟨L',h1,h2 | h2⟩:=he <;> subst h2
        · exact .inl h1
        · exact .inr h1
    | panicked ch=>exact he
    | outgrown=>exact he
  refine gS (gA rR (qb (qj ?_)));refine qE (α:=Nat) (fun k=>k≤qZ t) (fun k=>U [(0, .func (.yield l) #[] #[]),(1,ptr b2 0),(2,ptr b3 0),(4,I ((80*k:Nat):Int))]) (fun k=>pt b2 (.cells #[sl (some ⟨b,0,none⟩) t.length cap] 199 (0,0))::pt b3 (.cells #[I 80] 3 (0,0))::roL 1 (some ⟨b,0,none⟩) (qr t)::A k) (fun k=>qZ t - k) 0 (Nat.zero_le _) [0,1,2,4] rfl rR ?_;intro k hk;refine qf (gS (gM rR (g_v (qe (v:=sl (some ⟨b,0,none⟩) t.length cap) isAgg199 rR rR) rR (g_v (yo underlying199 rR) rR (g_v (qJ rR rR) rR (qb ?_))))));refine qg rR (fun h9=>?_) (fun h9=>?_)
  · simp at h9;have hkt:80*k<t.length:=(by omega);have hcl:=zb4 (t:=t) (k:=k);have hcl1:(wA t k).length≤80∧80*k+(wA t k).length≤t.length:=by
      have h1:Nat.min 80 (t.length - 80*k)≤80:=Nat.min_le_left ..;have h2:Nat.min 80 (t.length - 80*k)≤t.length - 80*k:=Nat.min_le_right ..;omega
    refine qh (qf (qj (qf ?_)));refine wS [(0,false),(1,false),(2,false),(3,false),(4,false),(5,false),(6,false)] (by kernel_rfl) (by kernel_rfl) rR (by kernel_rfl) ?_;refine d_v rR (qe (v:=I 80) isAgg3 rR rR) rR (d_v rR (qe (v:=sl (some ⟨b,0,none⟩) t.length cap) isAgg199 rR rR) rR (dM rR rR rR (d_v rR (zb7 (l:=80*k) underlying199 sizeOf5 rR rR rR (by omega)) rR (d_v rR (yo underlying199 rR) rR (d_v rR (v_min rR rR) rR (d_v rR (qx rR) rR ?_))))));refine yc ?_;rw[zoV];refine qf ?_;refine zxG ?_;refine y_v (qp rR) rR ?_;refine y_v (qe (v:=sl (some ⟨b,0,none⟩) t.length cap) isAgg199 rR rR) rR ?_;refine y_v (qp rR) rR ?_;refine y_v (qp rR) rR ?_;refine y_v (qp rR) rR ?_;refine y_v (qu (r:=((80*k+(wA t k).length:Nat):Int)) rfl rfl (by rw[show ((80*k:Nat):Int)+(((wA t k).length:Nat):Int)=((80*k+(wA t k).length:Nat):Int) by omega];exact w64 (by omega))) rfl ?_;refine y_v (qp rR) rR ?_;refine y_v (qp rR) rR ?_;refine y_v (qu (r:=((80*k+(wA t k).length:Nat):Int)) rfl rfl (by rw[show ((80*k:Nat):Int)+(((wA t k).length:Nat):Int)=((80*k+(wA t k).length:Nat):Int) by omega];exact w64 (by omega))) rfl ?_;refine y_v (zwX (l:=80*k) (h:=80*k+(wA t k).length) (q:=80*k+(wA t k).length) underlying199 sizeOf5 rR rR rR rR rR rR rR (by omega) (by omega) (by omega)) rR ?_;rw[zxA hkt];refine zvH (l:=l) (v:=ckV b t k) rR rR (hr k (chunks_lt.2 hkt)) rR ?_ ?_;rotate_left
    · refine y_v (wo rR) rR ?_;refine zym ?_;refine wV rR ?_;exact ql (ckP b2 b3 b cap t++B) rfl (.inr rfl)
    show G _ _ _ (pt b2 (.cells #[sl (some ⟨b,0,none⟩) t.length cap] 199 (0,0))::pt b3 (.cells #[I 80] 3 (0,0))::roL 1 (some ⟨b,0,none⟩) (qr t)::A (k+1));refine y_v (wo rR) rR ?_;refine zym ?_;refine yR rR ?_;refine qh (qF (qo (gM rfl (g_v (qe (v:=I 80) isAgg3 rfl rfl) rfl (g_v (qu (r:=((80*(k+1):Nat):Int)) rfl rfl (by rw[show ((80*k:Nat):Int)+80=((80*(k+1):Nat):Int) by omega];exact w64 (by omega))) rfl (gA rfl (qb ?_)))))));exact qm (k+1) (chunks_lt.2 hkt) (by have:=chunks_lt.2 hkt;omega) [0,1,2,4] rfl rfl
  · simp at h9;obtain rfl:k=qZ t:=by
      rcases Nat.lt_or_ge k (qZ t) with h | h
      · have:=chunks_lt.1 h;omega
      · omega
    refine qz rR ?_;exact g_end (vs:=[]) rfl (.inl rfl)
def zrW (T TT b:Nat)(φ:DiskM→Prop):HProp:=fun m=>∃D,φ D∧dsk T TT b D m
section
variable {c:Cx}{E:Env}{L F:List HProp}{K:List KI}{T TT b l:Nat}{Q:Post}{φ:DiskM→Prop}
theorem zkX {w0 w:World}(h:Sat w0 w (zrW T TT b φ::F)):∃D,φ D∧Sat w0 w (dsk T TT b D::F):=by
  have h1:Sat w0 w (hex (fun D=>zqv (zcZ (φ D)) (dsk T TT b D))::F):=h.weak fun m ⟨D,h1,h2⟩=>⟨D,fun _=>none,m,(fun _ _ _ h=>nomatch h),(fun _ _ h=>nomatch h),Res.sub.refl m,h1,h2⟩;obtain ⟨D,h2⟩:=h1.ex;exact ⟨D,h2.star.pure_.1,h2.star.pure_.2⟩
theorem zwT [R:Rem L (zrW T TT b φ) F](h:∀D,φ D→H c l Q K E (dsk T TT b D::F)):H c l Q K E L:=fun a w hE hS=>by
  obtain ⟨D,h1,h2⟩:=zkX (R.sat hS);exact h D h1 a w hE h2
theorem zw7 [R:Rem L (zrW T TT b φ) F](h:∀D,φ D→G c K E (dsk T TT b D::F)):G c K E L:=fun a w hE hS=>by
  obtain ⟨D,h1,h2⟩:=zkX (R.sat hS);exact h D h1 a w hE h2
theorem zvQ (D:DiskM)(hD:φ D)[R:Rem L (dsk T TT b D) F](h:H c l Q K E (zrW T TT b φ::F)):H c l Q K E L:=fun a w hE hS=>h a w hE ((R.sat hS).weak fun m hm=>⟨D,hD,hm⟩)
theorem zvm (D:DiskM)(hD:φ D)[R:Rem L (dsk T TT b D) F](h:G c K E (zrW T TT b φ::F)):G c K E L:=fun a w hE hS=>h a w hE ((R.sat hS).weak fun m hm=>⟨D,hD,hm⟩)
end
theorem zi7 (h:HdM):(wt h).length=4:=rfl
theorem zqs (e:Int):one (yK e)=true:=by unfold yK zbV;split <;> rfl
theorem zbL (bs bd:Nat)(h:HdM)(bl:Nat)(s:Option Addr)(cap:Nat)(rows:List ChangeM)(N i used:Nat)(D:DiskM)(hok:okW N i D)(hi:i≤100000)(hS:S80 D)(hN0:196≤N∧N≤260)(hh:h.ep≤1000000∧h.side≤1∧1≤h.first∧h.first≤1000000000)(hl:rows.length≤80)(hrw:∀r∈rows,okR r)(F:List HProp):Ct Tryz.prog 129 [ptr bs 0] ([pt bs (.cells (stC bd h bl s (rows.length) cap) 180 (0,0)),pt bl (.cells (lgC bd 122 (N - 122) h.first (used)) 222 (0,0)),dsk 140 142 bd (D),roL 3 s (chR rows)]++F) (fun v L'=>∃e D1,wg D (ckL (nxH h rows (N - 122)) (yv rows))=(e,D1)∧((e≠0∧v=yK e∧L'=pt bs (.cells (stC bd h bl s (rows.length) cap) 180 (0,0))::pt bl (.cells (lgC bd 122 (N - 122) h.first (used)) 222 (0,0))::dsk 140 142 bd (D1)::roL 3 s (chR rows)::F)∨(e=0∧∃bl' ds used',used'≤N - 122∧wd (h.first+(N - 122)) (zjz D1 122) (N - 122) 0 [] [] 0=(ds,used')∧v=yK 0∧L'=pt bs (.cells (stC bd (nxH h rows (N - 122)) bl' s (rows.length) cap) 180 (0,0))::pt bl' (.cells (lgC bd 122 (N - 122) (h.first+(N - 122)) (used')) 222 (0,0))::dsk 140 142 bd (D1)::roL 3 s (chR rows)::F))):=by
  show Ct Tryz.prog 129 [ptr bs 0] (pt bs (.cells (stC bd h bl s (rows.length) cap) 180 (0,0))::pt bl (.cells (lgC bd 122 (N - 122) h.first (used)) 222 (0,0))::dsk 140 142 bd (D)::roL 3 s (chR rows)::F) _;refine Ct.of func129 rR 113 ntmps129 (by simp) fun w0=>?_;have hal:=zcO hrw;have hcs:qZ (yv rows)≤60:=(by unfold qZ;omega);have hckl:∀x∈ckL (nxH h rows (N - 122)) (yv rows),zcm N x:=zuy (by show 2+(1 - h.side)*60+qZ (yv rows)≤N;omega);refine gS ?_;refine g_l (wR #[ptr bs 0] rfl rR) rR ?_;rintro _ _ ⟨b1,rfl,rfl⟩;refine g_l (zeP (.nilIface) zeroValue37 rR) rR ?_;rintro _ _ ⟨b2,rfl,rfl⟩;refine qb (gS (g_v (qe (v:=ptr bs 0) isAgg85 rR rR) rR (g_v (qc rR) rR (g_v (qa 6 underlying180 rR rR sizeOf34 (by decide) rR) rR (g_v (qe (v:=sl s rows.length cap) isAgg34 rR rR) rR ?_)))));refine g_l (qi (Pre:=[roL 3 s (chR rows)]) call175 rR (zkz rows s cap (by omega) hrw)) rR ?_;rintro _ _ ⟨rfl,rfl⟩;refine gA rR (qb (qf ?_));refine ziS (fun _:Nat=>True) (fun b4=>U [(1,ptr b1 0),(2,ptr b2 0),(3,Str (yv rows)),(4,ptr b4 0)]) (fun b4=>pt b4 (.cells (wt (nxH h rows (N - 122))).toArray 177 (0,0))::pt b2 (.cells #[.nilIface] 37 (0,0))::pt b1 (.cells #[ptr bs 0] 85 (0,0))::pt bs (.cells (stC bd h bl s (rows.length) cap) 180 (0,0))::pt bl (.cells (lgC bd 122 (N - 122) h.first (used)) 222 (0,0))::dsk 140 142 bd (D)::roL 3 s (chR rows)::F) ?_ ?_
  · refine zmt (Lf:=[pt b1 (.cells #[ptr bs 0] 85 (0,0)),pt bs (.cells (stC bd h bl s (rows.length) cap) 180 (0,0))]) (.q 0 (.q 1 (.q 2 (.q 3 (.q 4 (.q 5 (.q 6 (.q 7 (.q 8 (.q 9 (.q 10 (.q 11 (.q 12 (.q 13 (.q 14 (.q 15 (.q 16 (.q 17 (.alt (.l 18 (.q 19 (.l 20 (.l 21 (.nil))))) (.l 20 (.l 18 (.q 19 (.l 21 (.nil)))))))))))))))))))))))) (by kernel_rfl) (by kernel_rfl) (by kernel_rfl) ?_;refine t_v rR (qe (v:=ptr bs 0) isAgg85 rR rR) rR ?_;refine t_v rR (qc rR) rR ?_;refine t_v rR (qa 1 underlying180 rR rR sizeOf177 (by decide) rR) rR ?_;refine t_v rR (qa 0 underlying177 rR rR sizeOf3 (by decide) rR) rR ?_;refine t_v rR (qe (v:=I h.ep) isAgg3 rR rR) rR ?_;refine t_v rfl (qu (r:=((h.ep+1:Nat):Int)) rfl rfl (by rw[show (h.ep:Int)+(1:Int)=((h.ep+1:Nat):Int) by omega];exact w64 (by omega))) rfl ?_;refine t_v rR (qe (v:=ptr bs 0) isAgg85 rR rR) rR ?_;refine t_v rR (qc rR) rR ?_;refine t_v rR (qa 1 underlying180 rR rR sizeOf177 (by decide) rR) rR ?_;refine t_v rR (qa 1 underlying177 rR rR sizeOf3 (by decide) rR) rR ?_;refine t_v rR (qe (v:=I h.side) isAgg3 rR rR) rR ?_;refine t_v rfl (zce (r:=((1 - h.side:Nat):Int)) rfl rfl (by rw[show (1:Int) - (h.side:Int)=((1 - h.side:Nat):Int) by omega];exact w64 (by omega))) rfl ?_;refine t_v rR (qp rR) rR ?_;refine t_v rR (wi underlying9 rR) rR ?_;refine t_v rR (qe (v:=ptr bs 0) isAgg85 rR rR) rR ?_;refine t_v rR (qc rR) rR ?_;refine t_v rR (qa 5 underlying180 rR rR sizeOf178 (by decide) rR) rR ?_;refine t_v rR (qe (v:=ptr bl 0) isAgg178 rR rR) rR ?_;refine zh8 ?_ ?_
    · refine t_l rfl (qi (Pre:=[pt bl (.cells (lgC bd 122 (N - 122) h.first (used)) 222 (0,0))]) call176 rfl (zhz bl bd 122 (N - 122) h.first used ⟨by omega,by omega⟩)) rfl ?_;rintro _ _ ⟨rfl,rfl⟩;refine t_v rR (qP rR (wl _ rR _ rR _ rR _ rR)) rR ?_;refine t_l rR (qy #[I 0,I 0,I 0,I 0] zeroValue177) rR ?_;rintro _ _ ⟨b4,rfl,rfl⟩;refine zwe rR (qq (cs:=#[I 0,I 0,I 0,I 0]) (vs:=wt (nxH h rows (N - 122))) (wt (nxH h rows (N - 122))).toArray sizeOf177 rR rR rR rR (by decide) (qC (zi7 _))) ?_;rintro _ _ rfl;refine zfr ?_;exact zaq b4 trivial [1,2,3,4] rfl rfl
    · refine t_l rR (qy #[I 0,I 0,I 0,I 0] zeroValue177) rR ?_;rintro _ _ ⟨b4,rfl,rfl⟩;refine t_l rfl (qi (Pre:=[pt bl (.cells (lgC bd 122 (N - 122) h.first (used)) 222 (0,0))]) call176 rfl (zhz bl bd 122 (N - 122) h.first used ⟨by omega,by omega⟩)) rfl ?_;rintro _ _ ⟨rfl,rfl⟩;refine t_v rR (qP rR (wl _ rR _ rR _ rR _ rR)) rR ?_;refine zwe rR (qq (cs:=#[I 0,I 0,I 0,I 0]) (vs:=wt (nxH h rows (N - 122))) (wt (nxH h rows (N - 122))).toArray sizeOf177 rR rR rR rR (by decide) (qC (zi7 _))) ?_;rintro _ _ rfl;refine zfr ?_;exact zaq b4 trivial [1,2,3,4] rfl rfl
  intro b4 _;refine gS ?_;refine g_l (zeP (I 0) zeroValue3 rR) rR ?_;rintro _ _ ⟨b5,rfl,rfl⟩;refine yp (qH #[I ((0:Nat):Int)] sizeOf3 rR rR rR (by decide) rR) ?_;rintro _ _ rfl;refine qb (qf (gS (gM rR ?_)));refine g_l (zoh underlying9 underlying199 underlying5 rR) rR ?_;rintro _ _ ⟨b37,c37,rfl,hc37,rfl⟩;refine g_l (qi (Pre:=[]) call177 rR (zte (some ⟨b37,0,none⟩) (yv rows).length c37)) rR ?_;rintro _ _ ⟨b38,d38,rfl,rfl⟩;refine qb (qj ?_);obtain ⟨eN,DN,hN⟩:∃e X,wg D (ckW (1 - h.side) (yv rows) 0 ((qZ (yv rows))))=(e,X):=⟨_,_,rfl⟩;refine zvm (T:=140) (TT:=142) (b:=bd) (φ:=fun X=>wg D (ckW (1 - h.side) (yv rows) 0 (0))=(0,X)) D rR ?_;refine zbI (L2:=pt b38 (.cells #[sl (some ⟨b37,0,none⟩) (yv rows).length c37] 199 (0,0))::pt d38 (.cells #[I 80] 3 (0,0))::roL 1 (some ⟨b37,0,none⟩) (qr (yv rows))::zrW 140 142 bd (fun X=>wg D (ckW (1 - h.side) (yv rows) 0 (0))=(0,X))::pt b5 (.cells #[I ((0:Nat):Int)] 3 (0,0))::pt b2 (.cells #[.nilIface] 37 (0,0))::pt b1 (.cells #[ptr bs 0] 85 (0,0))::pt b4 (.cells (wt (nxH h rows (N - 122))).toArray 177 (0,0))::pt bs (.cells (stC bd h bl s (rows.length) cap) 180 (0,0))::pt bl (.cells (lgC bd 122 (N - 122) h.first (used)) 222 (0,0))::roL 3 s (chR rows)::F) ?_;refine zlZ (Pre:=[pt b38 (.cells #[sl (some ⟨b37,0,none⟩) (yv rows).length c37] 199 (0,0)),pt d38 (.cells #[I 80] 3 (0,0)),roL 1 (some ⟨b37,0,none⟩) (qr (yv rows))]) (A:=fun k=>zrW 140 142 bd (fun X=>wg D (ckW (1 - h.side) (yv rows) 0 (k))=(0,X))::pt b5 (.cells #[I ((k:Nat):Int)] 3 (0,0))::pt b2 (.cells #[.nilIface] 37 (0,0))::pt b1 (.cells #[ptr bs 0] 85 (0,0))::pt b4 (.cells (wt (nxH h rows (N - 122))).toArray 177 (0,0))::pt bs (.cells (stC bd h bl s (rows.length) cap) 180 (0,0))::pt bl (.cells (lgC bd 122 (N - 122) h.first (used)) 222 (0,0))::roL 3 s (chR rows)::F) (B:=zcZ (eN≠0)::dsk 140 142 bd (DN)::pt b2 (.cells #[yK eN] 37 (0,0))::pt b1 (.cells #[ptr bs 0] 85 (0,0))::pt b4 (.cells (wt (nxH h rows (N - 122))).toArray 177 (0,0))::pt bs (.cells (stC bd h bl s (rows.length) cap) 180 (0,0))::pt bl (.cells (lgC bd 122 (N - 122) h.first (used)) 222 (0,0))::roL 3 s (chR rows)::F) (N:=(qZ (yv rows))) (v:=ckV b37 (yv rows)) (cap:=[ptr b38 0,ptr d38 0]) rfl rfl rfl call202 (fun l A' B' hr w hw=>zpA b38 d38 b37 c37 l (yv rows) _ A' B' hc37 (by omega) hr w hw) rfl (fun l k a w hE=>has1 hE rfl) ?_ ?_ ?_
  · intro l D' O k hk;show H _ _ (zsb _ (pt b38 (.cells #[sl (some ⟨b37,0,none⟩) (yv rows).length c37] 199 (0,0))::pt d38 (.cells #[I 80] 3 (0,0))::roL 1 (some ⟨b37,0,none⟩) (qr (yv rows))::pt l O::pt D' dO::zrW 140 142 bd (fun X=>wg D (ckW (1 - h.side) (yv rows) 0 ((k+1)))=(0,X))::pt b5 (.cells #[I (((k+1):Nat):Int)] 3 (0,0))::pt b2 (.cells #[.nilIface] 37 (0,0))::pt b1 (.cells #[ptr bs 0] 85 (0,0))::pt b4 (.cells (wt (nxH h rows (N - 122))).toArray 177 (0,0))::pt bs (.cells (stC bd h bl s (rows.length) cap) 180 (0,0))::pt bl (.cells (lgC bd 122 (N - 122) h.first (used)) 222 (0,0))::roL 3 s (chR rows)::F) (pt b38 (.cells #[sl (some ⟨b37,0,none⟩) (yv rows).length c37] 199 (0,0))::pt d38 (.cells #[I 80] 3 (0,0))::roL 1 (some ⟨b37,0,none⟩) (qr (yv rows))::pt l O::pt D' dO::zcZ (eN≠0)::dsk 140 142 bd (DN)::pt b2 (.cells #[yK eN] 37 (0,0))::pt b1 (.cells #[ptr bs 0] 85 (0,0))::pt b4 (.cells (wt (nxH h rows (N - 122))).toArray 177 (0,0))::pt bs (.cells (stC bd h bl s (rows.length) cap) 180 (0,0))::pt bl (.cells (lgC bd 122 (N - 122) h.first (used)) 222 (0,0))::roL 3 s (chR rows)::F)) _ _ (pt b38 (.cells #[sl (some ⟨b37,0,none⟩) (yv rows).length c37] 199 (0,0))::pt d38 (.cells #[I 80] 3 (0,0))::roL 1 (some ⟨b37,0,none⟩) (qr (yv rows))::pt l O::pt D' dO::zrW 140 142 bd (fun X=>wg D (ckW (1 - h.side) (yv rows) 0 (k))=(0,X))::pt b5 (.cells #[I ((k:Nat):Int)] 3 (0,0))::pt b2 (.cells #[.nilIface] 37 (0,0))::pt b1 (.cells #[ptr bs 0] 85 (0,0))::pt b4 (.cells (wt (nxH h rows (N - 122))).toArray 177 (0,0))::pt bs (.cells (stC bd h bl s (rows.length) cap) 180 (0,0))::pt bl (.cells (lgC bd 122 (N - 122) h.first (used)) 222 (0,0))::roL 3 s (chR rows)::F);refine zwT (T:=140) (TT:=142) (b:=bd) (φ:=fun X=>wg D (ckW (1 - h.side) (yv rows) 0 (k))=(0,X)) ?_;intro Dk hDk;have hokk:=za4 (ckW (1 - h.side) (yv rows) 0 (k)) i D hok;rw[hDk,zja] at hokk;simp only at hokk;have hckl1:=zkN (yv rows) k;refine zxU (m:=80*k) (n:=80) (t:=(yv rows)) (b:=b37) ?_;rw[show (List.drop (80*k) (yv rows)).take 80=wA (yv rows) k from rfl];refine zvF ?_;refine zsT ?_;refine zx1 (Lf:=[pt b1 (.cells #[ptr bs 0] 85 (0,0)),pt b4 (.cells (wt (nxH h rows (N - 122))).toArray 177 (0,0)),pt b5 (.cells #[I ((k:Nat):Int)] 3 (0,0)),pt bs (.cells (stC bd h bl s (rows.length) cap) 180 (0,0)),roL 1 (some ⟨b37,80*k,none⟩) (qr (wA (yv rows) k))]) [(0,false),(1,false),(2,false),(3,false),(4,false),(5,false),(6,false),(7,false),(8,false),(9,false),(10,false),(11,false),(12,true),(13,false)] (α:=Unit) (fun _=>True) (fun _=>U [(2,ptr b2 0),(5,ptr b5 0),(7,yK (yO Dk ((2+(1 - h.side)*60+k:Nat):Int) (wA (yv rows) k)))]) (fun _=>pt b38 (.cells #[sl (some ⟨b37,0,none⟩) (yv rows).length c37] 199 (0,0))::pt d38 (.cells #[I 80] 3 (0,0))::roL 1 (some ⟨b37,0,none⟩) (qr (yv rows))::pt l O::pt D' dO::dsk 140 142 bd ((yy Dk ((2+(1 - h.side)*60+k:Nat):Int) (wA (yv rows) k)))::pt b5 (.cells #[I ((k:Nat):Int)] 3 (0,0))::pt b2 (.cells #[.nilIface] 37 (0,0))::pt b1 (.cells #[ptr bs 0] 85 (0,0))::pt b4 (.cells (wt (nxH h rows (N - 122))).toArray 177 (0,0))::pt bs (.cells (stC bd h bl s (rows.length) cap) 180 (0,0))::pt bl (.cells (lgC bd 122 (N - 122) h.first (used)) 222 (0,0))::roL 3 s (chR rows)::F) (by kernel_rfl) (by kernel_rfl) rfl (by kernel_rfl) (by kernel_rfl) ?_ ?_
    · refine d_v rfl (qe (v:=ptr bs 0) isAgg85 rfl rfl) rfl (d_v rfl (qc rfl) rfl (d_v rfl (qa 0 underlying180 rfl rfl sizeOf25 (by decide) rfl) rfl (d_v rfl (qe (v:=ptr bd 0) isAgg25 rfl rfl) rfl (d_v rfl (qa 1 underlying177 rfl rfl sizeOf3 (by decide) rfl) rfl (d_v rfl (qe (v:=I (((1 - h.side):Nat):Int)) isAgg3 rfl rfl) rfl (d_v rfl (zdk (r:=(((1 - h.side)*60:Nat):Int)) rfl rfl (by rw[show ((((1 - h.side):Nat):Int):Int)*(60:Int)=(((1 - h.side)*60:Nat):Int) by omega];exact w64 (by omega))) rfl (d_v rfl (qu (r:=((2+(1 - h.side)*60:Nat):Int)) rfl rfl (by rw[show (2:Int)+((((1 - h.side)*60:Nat):Int):Int)=((2+(1 - h.side)*60:Nat):Int) by omega];exact w64 (by omega))) rfl (d_v rfl (qe (v:=I (k:Int)) isAgg3 rfl rfl) rfl (d_v rfl (qu (r:=((2+(1 - h.side)*60+k:Nat):Int)) rfl rfl (by rw[show (((2+(1 - h.side)*60:Nat):Int):Int)+(k:Int)=((2+(1 - h.side)*60+k:Nat):Int) by omega];exact w64 (by omega))) rfl (dM rfl rfl rfl (d_v rfl (yL (l:=wA (yv rows) k) underlying199 underlying5 underlying9 rfl rfl rfl) rfl ?_)))))))))));refine d_l rR (qi (Pre:=[dsk 140 142 bd (Dk)]) call136 rR (wv bd Dk ((2+(1 - h.side)*60+k:Nat):Int) (wA (yv rows) k) hokk.2.2.1 (by have:=hokk.2.2.2.2;omega))) rR ?_;rintro _ _ ⟨rfl,rfl⟩;refine d_v rR (qx rR) rR ?_;refine yc ?_;exact zaq () trivial [2,5,7] rfl rfl
    intro _ _;obtain ⟨e1,he1⟩:∃e,yO Dk ((2+(1 - h.side)*60+k:Nat):Int) (wA (yv rows) k)=e:=⟨_,rfl⟩;obtain ⟨D1,hD1⟩:∃X,yy Dk ((2+(1 - h.side)*60+k:Nat):Int) (wA (yv rows) k)=X:=⟨_,rfl⟩;rw[he1,hD1];have hsn:wg D (ckW (1 - h.side) (yv rows) 0 (k+1))=(e1,D1):=by
      rw[znB,Nat.zero_add,zbE hDk,←he1,←hD1]
      rfl
    refine zsT ?_;refine zsT ?_;refine zuL (α:=Unit) (fun _=>True) (fun _=>U [(2,ptr b2 0),(5,ptr b5 0),(7,yK e1),(54,Bo (!decide (e1=0)))]) (fun _=>pt b38 (.cells #[sl (some ⟨b37,0,none⟩) (yv rows).length c37] 199 (0,0))::pt d38 (.cells #[I 80] 3 (0,0))::roL 1 (some ⟨b37,0,none⟩) (qr (yv rows))::pt l O::pt D' dO::dsk 140 142 bd (D1)::pt b5 (.cells #[I ((k:Nat):Int)] 3 (0,0))::pt b2 (.cells #[.nilIface] 37 (0,0))::pt b1 (.cells #[ptr bs 0] 85 (0,0))::pt b4 (.cells (wt (nxH h rows (N - 122))).toArray 177 (0,0))::pt bs (.cells (stC bd h bl s (rows.length) cap) 180 (0,0))::pt bl (.cells (lgC bd 122 (N - 122) h.first (used)) 222 (0,0))::roL 3 s (chR rows)::F) (by kernel_rfl) ?_ ?_
    · refine gM rR (g_v (yf underlying37 rR) rR (qb ?_));exact zaq () trivial [2,5,7,54] rfl rfl
    intro _ _;refine zwZ rR (fun h54=>?_) (fun h54=>?_)
    · have h54':e1≠0:=(by simpa using h54);have hNe:wg D (ckW (1 - h.side) (yv rows) 0 ((qZ (yv rows))))=(e1,D1):=by
        rw[show qZ (yv rows)=(k+1)+(qZ (yv rows) - (k+1)) by omega,zpg];exact zbF hsn h54'
      rw[hN] at hNe;injection hNe with hq1 hq2;obtain rfl:eN=e1:=hq1;obtain rfl:DN=D1:=hq2;refine zsT ?_;refine zuL (α:=Unit) (fun _=>True) (fun _=>U []) (fun _=>pt b38 (.cells #[sl (some ⟨b37,0,none⟩) (yv rows).length c37] 199 (0,0))::pt d38 (.cells #[I 80] 3 (0,0))::roL 1 (some ⟨b37,0,none⟩) (qr (yv rows))::pt l O::pt D' dO::dsk 140 142 bd (DN)::pt b5 (.cells #[I ((k:Nat):Int)] 3 (0,0))::pt b2 (.cells #[yK eN] 37 (0,0))::pt b1 (.cells #[ptr bs 0] 85 (0,0))::pt b4 (.cells (wt (nxH h rows (N - 122))).toArray 177 (0,0))::pt bs (.cells (stC bd h bl s (rows.length) cap) 180 (0,0))::pt bl (.cells (lgC bd 122 (N - 122) h.first (used)) 222 (0,0))::roL 3 s (chR rows)::F) (by kernel_rfl) ?_ ?_
      · refine gM rR ?_;refine yp (qH #[yK eN] sizeOf37 rR rR (zqs _) (by simp) rR) ?_;rintro _ _ rfl;refine qb ?_;exact zaq () trivial [] rfl rfl
      intro _ _;refine zrb (φ:=eN≠0) h54' ?_;exact h_ret
    · have h54':e1=0:=(by simpa using h54);refine zxX ?_;refine zuL (α:=Unit) (fun _=>True) (fun _=>U []) (fun _=>pt b38 (.cells #[sl (some ⟨b37,0,none⟩) (yv rows).length c37] 199 (0,0))::pt d38 (.cells #[I 80] 3 (0,0))::roL 1 (some ⟨b37,0,none⟩) (qr (yv rows))::pt l O::pt D' dO::dsk 140 142 bd (D1)::pt b5 (.cells #[I (((k+1):Nat):Int)] 3 (0,0))::pt b2 (.cells #[.nilIface] 37 (0,0))::pt b1 (.cells #[ptr bs 0] 85 (0,0))::pt b4 (.cells (wt (nxH h rows (N - 122))).toArray 177 (0,0))::pt bs (.cells (stC bd h bl s (rows.length) cap) 180 (0,0))::pt bl (.cells (lgC bd 122 (N - 122) h.first (used)) 222 (0,0))::roL 3 s (chR rows)::F) (by kernel_rfl) ?_ ?_
      · refine g_v (qe (v:=I (k:Int)) isAgg3 rfl rfl) rfl (g_v (qu (r:=((k+1:Nat):Int)) rfl rfl (by rw[show (k:Int)+(1:Int)=((k+1:Nat):Int) by omega];exact w64 (by omega))) rfl ?_);refine yp (qH #[I ((k+1:Nat):Int)] sizeOf3 rR rR rR (by simp) rR) ?_;rintro _ _ rfl;refine qb ?_;exact zaq () trivial [] rfl rfl
      intro _ _;refine h_blk ?_;refine zvQ (T:=140) (TT:=142) (b:=bd) (φ:=fun X=>wg D (ckW (1 - h.side) (yv rows) 0 ((k+1)))=(0,X)) D1 (by rw[hsn,h54']) ?_;exact h_end
  rotate_left
  · intro D';show G _ _ _ (pt D' dO::pt b38 (.cells #[sl (some ⟨b37,0,none⟩) (yv rows).length c37] 199 (0,0))::pt d38 (.cells #[I 80] 3 (0,0))::roL 1 (some ⟨b37,0,none⟩) (qr (yv rows))::zcZ (eN≠0)::dsk 140 142 bd (DN)::pt b2 (.cells #[yK eN] 37 (0,0))::pt b1 (.cells #[ptr bs 0] 85 (0,0))::pt b4 (.cells (wt (nxH h rows (N - 122))).toArray 177 (0,0))::pt bs (.cells (stC bd h bl s (rows.length) cap) 180 (0,0))::pt bl (.cells (lgC bd 122 (N - 122) h.first (used)) 222 (0,0))::roL 3 s (chR rows)::F);refine zwa (φ:=eN≠0) ?_;intro hne;exact zo1 (b:=b2) (o:=0) (v:=yK eN) (Lf:=pt bs (.cells (stC bd h bl s (rows.length) cap) 180 (0,0))::pt bl (.cells (lgC bd 122 (N - 122) h.first (used)) 222 (0,0))::dsk 140 142 bd (DN)::roL 3 s (chR rows)::F) rfl rfl rfl isAgg37 rfl ⟨eN,DN,zbF hN hne, .inl ⟨hne,rfl,rfl⟩⟩
  intro D';show G _ _ _ (pt D' dO::pt b38 (.cells #[sl (some ⟨b37,0,none⟩) (yv rows).length c37] 199 (0,0))::pt d38 (.cells #[I 80] 3 (0,0))::roL 1 (some ⟨b37,0,none⟩) (qr (yv rows))::zrW 140 142 bd (fun X=>wg D (ckW (1 - h.side) (yv rows) 0 ((qZ (yv rows))))=(0,X))::pt b5 (.cells #[I (((qZ (yv rows)):Nat):Int)] 3 (0,0))::pt b2 (.cells #[.nilIface] 37 (0,0))::pt b1 (.cells #[ptr bs 0] 85 (0,0))::pt b4 (.cells (wt (nxH h rows (N - 122))).toArray 177 (0,0))::pt bs (.cells (stC bd h bl s (rows.length) cap) 180 (0,0))::pt bl (.cells (lgC bd 122 (N - 122) h.first (used)) 222 (0,0))::roL 3 s (chR rows)::F);refine zw7 (T:=140) (TT:=142) (b:=bd) (φ:=fun X=>wg D (ckW (1 - h.side) (yv rows) 0 ((qZ (yv rows))))=(0,X)) ?_;intro D1 hD1;rw[hN] at hD1;injection hD1 with hq1 hq2;subst hq1;obtain rfl:DN=D1:=hq2;have hokN:=za4 (ckW (1 - h.side) (yv rows) 0 ((qZ (yv rows)))) i D hok;rw[hN,zja] at hokN;simp only at hokN;refine qF (gS (g_v (qe (v:=ptr bs 0) isAgg85 rR rR) rR (g_v (qc rR) rR (g_v (qa 0 underlying180 rR rR sizeOf25 (by decide) rR) rR (g_v (qe (v:=ptr bd 0) isAgg25 rR rR) rR ?_)))));refine g_l (qi (Pre:=[dsk 140 142 bd (DN)]) call137 rR (zao bd DN hokN.2.2.1 (by rw[hokN.1,hokN.2.1]) (by rw[hokN.2.1];omega))) rR ?_;rintro _ _ ⟨rfl,rfl⟩;refine gA rR (qb (qf (gS (gM rR (g_v (zab underlying37 rR) rR (qb ?_))))));refine ziS (α:=Int×DiskM) (fun z=>wg DN [none,some ((h.ep+1) % 2,we (nxH h rows (N - 122)))]=z) (fun z=>U [(1,ptr b1 0),(2,ptr b2 0),(4,ptr b4 0),(8,yK z.1)]) (fun z=>pt D' dO::dsk 140 142 bd (z.2)::pt b2 (.cells #[.nilIface] 37 (0,0))::pt b1 (.cells #[ptr bs 0] 85 (0,0))::pt b4 (.cells (wt (nxH h rows (N - 122))).toArray 177 (0,0))::pt bs (.cells (stC bd h bl s (rows.length) cap) 180 (0,0))::pt bl (.cells (lgC bd 122 (N - 122) h.first (used)) 222 (0,0))::roL 3 s (chR rows)::F) ?_ ?_
  · refine qg rR (fun h64=>?_) (fun h64=>?_)
    · have hs0:yV DN=0:=(by simpa using h64);have hokF:okW N (i+qZ (yv rows)+1) (yx DN):=zeL hokN;refine yw (Lf:=[pt b1 (.cells #[ptr bs 0] 85 (0,0)),pt b4 (.cells (wt (nxH h rows (N - 122))).toArray 177 (0,0)),pt bs (.cells (stC bd h bl s (rows.length) cap) 180 (0,0))]) [(0,false),(1,false),(2,false),(3,false),(4,false),(5,false),(6,false),(7,false),(8,true),(9,true),(10,false)] (by kernel_rfl) (by kernel_rfl) rR (by kernel_rfl) ?_;refine d_v rR (qe (v:=ptr bs 0) isAgg85 rR rR) rR (d_v rR (qc rR) rR (d_v rR (qa 0 underlying180 rR rR sizeOf25 (by decide) rR) rR (d_v rR (qe (v:=ptr bd 0) isAgg25 rR rR) rR (d_v rR (qa 0 underlying177 rR rR sizeOf3 (by decide) rR) rR (d_v rR (qe (v:=I ((h.ep+1:Nat):Int)) isAgg3 rR rR) rR (d_v rR (zoP (r:=(((h.ep+1) % 2:Nat):Int)) rR rR (by decide) rR) rR (d_v rR (qI (vs:=wt (nxH h rows (N - 122))) isAgg177 sizeOf177 rR rR qR) rR ?_)))))));refine d_l rR (qi (Pre:=[]) call138 rR (ze8 (nxH h rows (N - 122)))) rR ?_;rintro _ _ ⟨rfl,rfl⟩;refine d_l rR (qi (Pre:=[dsk 140 142 bd (yx DN)]) call136 rR (wv bd (yx DN) (((h.ep+1) % 2:Nat):Int) (we (nxH h rows (N - 122))) hokF.2.2.1 (by have:=hokF.2.2.2.2;omega))) rR ?_;rintro _ _ ⟨rfl,rfl⟩;refine d_v rR (qx rR) rR ?_;refine yc ?_;exact zaq (yO (yx DN) (((h.ep+1) % 2:Nat):Int) (we (nxH h rows (N - 122))),yy (yx DN) (((h.ep+1) % 2:Nat):Int) (we (nxH h rows (N - 122)))) (by rw[zdi hs0];exact zbE (l:=[]) rfl) [1,2,4,8] rfl rfl
    · have hs0:¬yV DN=0:=(by simpa using h64);refine qh ?_;exact zaq (yV DN,yx DN) (zcH hs0) [1,2,4,8] rfl rfl
  rintro ⟨e2,D2⟩ h2;simp only at h2 ⊢;have hok2:=za4 [none,some ((h.ep+1) % 2,we (nxH h rows (N - 122)))] _ DN hokN;rw[h2] at hok2;simp only[List.length_cons,List.length_nil] at hok2;refine qf (gS (gM rR (g_v (zab underlying37 rR) rR (qb ?_))));refine ziS (α:=Int×DiskM) (fun z=>wg DN [none,some ((h.ep+1) % 2,we (nxH h rows (N - 122))),none]=z∧(z.1=0→z.2.down=false)) (fun z=>U [(1,ptr b1 0),(2,ptr b2 0),(4,ptr b4 0),(8,yK z.1)]) (fun z=>pt D' dO::dsk 140 142 bd (z.2)::pt b2 (.cells #[.nilIface] 37 (0,0))::pt b1 (.cells #[ptr bs 0] 85 (0,0))::pt b4 (.cells (wt (nxH h rows (N - 122))).toArray 177 (0,0))::pt bs (.cells (stC bd h bl s (rows.length) cap) 180 (0,0))::pt bl (.cells (lgC bd 122 (N - 122) h.first (used)) 222 (0,0))::roL 3 s (chR rows)::F) ?_ ?_
  · refine qg rR (fun h76=>?_) (fun h76=>?_)
    · have h76':e2=0:=(by simpa using h76);refine qo (g_v (qe (v:=ptr bs 0) isAgg85 rR rR) rR (g_v (qc rR) rR (g_v (qa 0 underlying180 rR rR sizeOf25 (by decide) rR) rR (g_v (qe (v:=ptr bd 0) isAgg25 rR rR) rR ?_))));refine g_l (qi (Pre:=[dsk 140 142 bd (D2)]) call137 rR (zao bd D2 hok2.2.2.1 (by rw[hok2.1,hok2.2.1]) (by rw[hok2.2.1];omega))) rR ?_;rintro _ _ ⟨rfl,rfl⟩;refine gA rR (qb ?_);exact zaq (yV D2,yx D2) ⟨zbE (l:=[none,some ((h.ep+1) % 2,we (nxH h rows (N - 122)))]) (x:=none) (by rw[h2,h76']),fun h=>(zbG h).1.2.2⟩ [1,2,4,8] rfl rfl
    · have h76':¬e2=0:=(by simpa using h76);refine qh ?_;exact zaq (e2,D2) ⟨zbF (l:=[none,some ((h.ep+1) % 2,we (nxH h rows (N - 122)))]) (r:=[none]) h2 h76',fun h=>absurd h h76'⟩ [1,2,4,8] rfl rfl
  rintro ⟨e3,D3⟩ ⟨h3,hdn3⟩;simp only at h3 hdn3 ⊢;have hall:wg D (ckL (nxH h rows (N - 122)) (yv rows))=(e3,D3):=(zt6 hN).trans h3;have hok3:=za4 (ckL (nxH h rows (N - 122)) (yv rows)) i D hok;rw[hall] at hok3;simp only at hok3;have hS3:=zen (ckL (nxH h rows (N - 122)) (yv rows)) D hS hckl;rw[hall] at hS3;simp only at hS3;refine qf (gS (gM rR (g_v (yf underlying37 rR) rR (qb ?_))));refine qg rR (fun h83=>?_) (fun h83=>?_)
  · have h83':e3≠0:=(by simpa using h83);refine gS (gM rR ?_);refine yp (qH #[yK e3] sizeOf37 rR rR (zqs _) (by decide) rR) ?_;rintro _ _ rfl;refine qb ?_;exact zo1 (b:=b2) (o:=0) (v:=yK e3) (Lf:=pt bs (.cells (stC bd h bl s (rows.length) cap) 180 (0,0))::pt bl (.cells (lgC bd 122 (N - 122) h.first (used)) 222 (0,0))::dsk 140 142 bd (D3)::roL 3 s (chR rows)::F) rfl rfl rfl isAgg37 rfl ⟨e3,D3,hall, .inl ⟨h83',rfl,rfl⟩⟩
  · have h83':e3=0:=(by simpa using h83);subst h83'
    replace hdn3:=hdn3 rfl
    refine qh (qf ?_);refine yw (Lf:=[pt b1 (.cells #[ptr bs 0] 85 (0,0)),pt b4 (.cells (wt (nxH h rows (N - 122))).toArray 177 (0,0)),pt bs (.cells (stC bd h bl s (rows.length) cap) 180 (0,0))]) [(0,false),(1,false),(2,false),(3,false),(4,false),(5,false),(6,false),(7,false),(10,false),(11,false),(8,true),(9,false),(12,true),(13,false),(14,false),(15,false),(16,false),(17,false),(18,false),(19,false)] (by kernel_rfl) (by kernel_rfl) rR (by kernel_rfl) ?_;refine d_v rfl (qe (v:=ptr bs 0) isAgg85 rfl rfl) rfl (d_v rfl (qc rfl) rfl (d_v rfl (qa 0 underlying180 rfl rfl sizeOf25 (by decide) rfl) rfl (d_v rfl (qe (v:=ptr bd 0) isAgg25 rfl rfl) rfl (d_v rfl (qe (v:=ptr bs 0) isAgg85 rfl rfl) rfl (d_v rfl (qc rfl) rfl (d_v rfl (qa 0 underlying180 rfl rfl sizeOf25 (by decide) rfl) rfl (d_v rfl (qe (v:=ptr bd 0) isAgg25 rfl rfl) rfl (d_v rfl (qa 3 underlying177 rfl rfl sizeOf3 (by decide) rfl) rfl (d_v rfl (qe (v:=I ((h.first+(N - 122):Nat):Int)) isAgg3 rfl rfl) rfl ?_)))))))));refine d_l rR (qi (Pre:=[dsk 140 142 bd (D3)]) (R:=fun F=>R1 (I (D3.now.length:Int)) (dsk 140 142 bd (D3)::F)) call102 rR (yX bd D3)) rR ?_;rintro _ _ ⟨rfl,rfl⟩;refine d_v rfl (zce (r:=((N - 122:Nat):Int)) rfl rfl (by rw[hok3.2.1,show (N:Int) - 122=((N - 122:Nat):Int) by omega];exact w64 (by omega))) rfl ?_;refine d_l rfl (qi (Pre:=[dsk 140 142 bd (D3)]) call106 rfl (zhu bd D3 122 ((N - 122:Nat):Int) ((h.first+(N - 122):Nat):Int) hS3.2.1 ⟨by rw[hok3.2.1];omega,by omega⟩)) rfl ?_;rintro _ _ (⟨hbad,_,_⟩ | ⟨_,hdn,_,_⟩ | ⟨_,_,bl',gl,so,co,used',rfl,hul,_,hsc,rfl⟩)
    · exfalso;unfold zqo at hbad;rw[hok3.2.1] at hbad;omega
    · rw[hdn3] at hdn;cases hdn
    rw[show lgC bd ((122:Int)).toNat ((N - 122:Nat):Int).toNat ((h.first+(N - 122):Nat):Int).toNat used'=lgC bd 122 (N - 122) (h.first+(N - 122)) used' from rfl]
    replace hul:used'≤N - 122:=hul
    replace hsc:wd (h.first+(N - 122)) (zjz D3 122) (N - 122) 0 [] [] 0=(gl.map (·.1),used'):=hsc
    refine dM rR rR rR (d_v rR (qd (v:=ptr bl' 0) rR rR) rR (d_v rR (qd (v:=sl so gl.length co) rR rR) rR (d_v rR (qd (v:=yK 0) rR rR) rR (d_v rR (qx rR) rR (d_v rR (qx rR) rR (d_v rR (qx rR) rR ?_))))));refine yc ?_;refine qf (gS (gM rR (g_v (zab underlying37 rR) rR (qb ?_))));refine wV rR ?_;refine yw (Lf:=[pt b1 (.cells #[ptr bs 0] 85 (0,0)),pt b4 (.cells (wt (nxH h rows (N - 122))).toArray 177 (0,0))]) [(0,false),(1,false),(2,false),(3,false),(4,false),(5,false),(6,true),(7,false),(8,false),(9,true)] (by kernel_rfl) (by kernel_rfl) rR (by kernel_rfl) ?_;refine d_v rR (qe (v:=ptr bs 0) isAgg85 rR rR) rR (d_v rR (qe (v:=ptr bs 0) isAgg85 rR rR) rR (d_v rR (qI (vs:=wt (nxH h rows (N - 122))) isAgg177 sizeOf177 rR rR qR) rR (dM rR rR rR (d_v rR (qc rR) rR (d_v rR (qa 1 underlying180 rR rR sizeOf177 (by decide) rR) rR ?_)))));refine zoK rR (qq (cs:=stC bd h bl s rows.length cap) (vs:=wt (nxH h rows (N - 122))) (stC bd (nxH h rows (N - 122)) bl s rows.length cap) sizeOf177 rR rR rR rR (by simp) rR) ?_;rintro _ _ rfl;refine d_v rR (qc rR) rR (d_v rR (qa 5 underlying180 rR rR sizeOf178 (by decide) rR) rR ?_);refine zoK rR (qH (stC bd (nxH h rows (N - 122)) bl' s rows.length cap) sizeOf178 rR rR rR (by simp) rR) ?_;rintro _ _ rfl;refine yc ?_;refine gS (gM rR ?_);refine yp (qH #[yK 0] sizeOf37 rR rR rR (by decide) rR) ?_;rintro _ _ rfl;refine qb ?_;exact zo1 (b:=b2) (o:=0) (v:=yK 0) (Lf:=pt bs (.cells (stC bd (nxH h rows (N - 122)) bl' s (rows.length) cap) 180 (0,0))::pt bl' (.cells (lgC bd 122 (N - 122) (h.first+(N - 122)) (used')) 222 (0,0))::dsk 140 142 bd (D3)::roL 3 s (chR rows)::F) rfl rfl rfl isAgg37 rfl ⟨0,D3,hall, .inr ⟨rfl,bl',gl.map (·.1),used',hul,hsc,rfl,rfl⟩⟩
theorem zmQ {many:Nat}{rows c:List ChangeM}(h:72<c.length):cmV many rows c=2:=by unfold cmV;rw[if_pos h]
theorem zp5 {many:Nat}{rows c:List ChangeM}(h:c.length≤72)(hf:zeh c≠0):cmV many rows c=zeh c:=by unfold cmV;rw[if_neg (by omega),if_pos hf]
theorem znp {many:Nat}{rows c:List ChangeM}(h:c.length≤72)(hf:zeh c=0)(hb:80<(zaG rows c).length∨many<c.length+1):cmV many rows c=8:=by unfold cmV;rw[if_neg (by omega),if_neg (by simpa using hf),if_pos hb]
theorem zxq {many:Nat}{rows c:List ChangeM}(h:c.length≤72)(hf:zeh c=0)(hb:¬(80<(zaG rows c).length∨many<c.length+1)):cmV many rows c=0:=by unfold cmV;rw[if_neg (by omega),if_neg (by simpa using hf),if_neg hb]
theorem zdz (bs bd:Nat)(h:HdM)(bl:Nat)(s:Option Addr)(cap:Nat)(rows:List ChangeM)(N i used:Nat)(D:DiskM)(hok:okW N i D)(hi:i≤100000)(hS:S80 D)(hN0:196≤N∧N≤260)(hh:h.ep≤1000000∧h.side≤1∧1≤h.first∧h.first≤1000000000)(hl:rows.length≤80)(hrw:∀r∈rows,okR r)(hu:used≤N - 122)(hs:srt rows)(c:List ChangeM)(s':Option Addr)(cap':Nat)(hcl:c.length≤9223372036854775807)(F:List HProp):Ct Tryz.prog 81 [ptr bs 0,sl s' c.length cap'] ([pt bs (.cells (stC bd h bl s (rows.length) cap) 180 (0,0)),pt bl (.cells (lgC bd 122 (N - 122) h.first (used)) 222 (0,0)),dsk 140 142 bd (D),roL 3 s (chR rows),roL 3 s' (chR c)]++F) (fun v L'=>∃e D2 h2 used2 rows2 bl2 s2 cap2,ztv D h rows (N - 122) used c e D2 h2 used2 rows2∧v=yK e∧L'=pt bs (.cells (stC bd h2 bl2 s2 rows2.length cap2) 180 (0,0))::pt bl2 (.cells (lgC bd 122 (N - 122) h2.first used2) 222 (0,0))::dsk 140 142 bd (D2)::roL 3 s2 (chR rows2)::roL 3 s' (chR c)::F):=by
  show Ct Tryz.prog 81 [ptr bs 0,sl s' c.length cap'] (pt bs (.cells (stC bd h bl s (rows.length) cap) 180 (0,0))::pt bl (.cells (lgC bd 122 (N - 122) h.first (used)) 222 (0,0))::dsk 140 142 bd (D)::roL 3 s (chR rows)::roL 3 s' (chR c)::F) _;refine Ct.of func81 rR 76 ntmps81 (by simp) fun w0=>?_;refine gS (gA rR (qb (qf (gS (gM rR (g_v (yo underlying34 rR) rR (g_v (yA rR rR) rR (qb ?_))))))));refine qg rR (fun h13=>?_) (fun h13=>?_)
  · simp at h13;have hlong:72<c.length:=(by omega);refine gS (g_v (qB underlying108 rR rR) rR (gA rR (qb ?_)));exact ql (pt bs (.cells (stC bd h bl s (rows.length) cap) 180 (0,0))::pt bl (.cells (lgC bd 122 (N - 122) h.first (used)) 222 (0,0))::dsk 140 142 bd (D)::roL 3 s (chR rows)::roL 3 s' (chR c)::F) rfl ⟨2,D,h,used,rows,bl,s,cap, .inl ⟨by rw[zmQ hlong];decide,by rw[zmQ hlong],rfl,rfl,rfl,rfl⟩,rfl,rfl⟩
  · simp at h13;have hshort:c.length≤72:=(by omega);refine qh (qf (gS (gM rR (g_v (yo underlying34 rR) rR (gM rR (qb (qj ?_)))))));refine qE (α:=Nat) (fun k=>k≤c.length∧zeh c=zeh (c.drop k)) (fun k=>U [(0,ptr bs 0),(1,sl s' c.length cap'),(15,sl s' c.length cap'),(16,I c.length),(17,I (k:Int))]) (fun k=>pt bs (.cells (stC bd h bl s (rows.length) cap) 180 (0,0))::pt bl (.cells (lgC bd 122 (N - 122) h.first (used)) 222 (0,0))::dsk 140 142 bd (D)::roL 3 s (chR rows)::roL 3 s' (chR c)::F) (fun k=>c.length - k) 0 ⟨Nat.zero_le _,rfl⟩ [0,1,15,16,17] rfl rfl ?_;rintro k ⟨hk,hfk⟩;refine gS (g_v (qJ rR rR) rR (qb (qf ?_)));refine qg rR (fun h18=>?_) (fun h18=>?_)
    · simp at h18;have hkn:k<c.length:=(by omega);obtain ⟨x,hx⟩:∃x,c[k]? =some x:=⟨_,List.getElem?_eq_getElem hkn⟩;have hkr:k<(chR c).length:=(by rw[qO];exact hkn);have hfd:=zi0 hx;refine qh (qf (qj (gS (g_v (qA k underlying34 sizeOf104 rR rR rR hkn hkr) rR (g_v (ym (row:=yu x) isAgg104 sizeOf104 rR (zbg hx) rR) rR ?_)))));refine g_l (qy #[Str [],Str [],Bo false] zeroValue104) rR ?_;rintro _ _ ⟨b6,rfl,rfl⟩;refine yp (qq (cs:=#[Str [],Str [],Bo false]) (vs:=yu x) (yu x).toArray sizeOf104 rR rR rR rR (by decide) (qC rR)) ?_;rintro _ _ rfl;refine qb (gS (g_v (qI (vs:=yu (x)) isAgg104 sizeOf104 rR rR qR) rR ?_));refine g_l (qi (Pre:=[]) call127 rR (zbl x)) rR ?_;rintro _ _ ⟨rfl,rfl⟩;refine gA rR (qb (gS (gM rR (g_v (yf underlying37 rR) rR (qb ?_)))));refine qg rR (fun h24=>?_) (fun h24=>?_)
      · have hx0:¬zbt x=0:=(by simpa using h24);have hfx:zeh c=zbt x:=(by rw[hfk,hfd,if_neg hx0]);refine gS (gM rR (gA rR (qb ?_)));exact ql (pt bs (.cells (stC bd h bl s (rows.length) cap) 180 (0,0))::pt bl (.cells (lgC bd 122 (N - 122) h.first (used)) 222 (0,0))::dsk 140 142 bd (D)::roL 3 s (chR rows)::roL 3 s' (chR c)::F) rfl ⟨(zbt x),D,h,used,rows,bl,s,cap, .inl ⟨by rw[zp5 hshort (by rw[hfx];exact hx0),hfx];exact hx0,by rw[zp5 hshort (by rw[hfx];exact hx0),hfx],rfl,rfl,rfl,rfl⟩,rfl,rfl⟩
      · have hx0:zbt x=0:=(by simpa using h24);refine qh (qF (qo (g_v (qu (r:=((k+1:Nat):Int)) rfl rfl (by rw[show (k:Int)+1=((k+1:Nat):Int) by omega];exact w64 (by omega))) rfl (gM rfl (qb ?_)))));exact qm (k+1) ⟨by omega,by rw[hfk,hfd,if_pos hx0]⟩ (by omega) [0,1,15,16,17] rfl rfl
    · simp at h18;obtain rfl:k=c.length:=(by omega);rw[List.drop_length] at hfk;have hf0:zeh c=0:=hfk;refine qz rR ?_;refine gS (gM rR (g_v (qc rR) rR (g_v (qa 6 underlying180 rR rR sizeOf34 (by decide) rR) rR (g_v (qe (v:=sl s rows.length cap) isAgg34 rR rR) rR (gM rR ?_)))));refine g_l (qi (Pre:=[roL 3 s (chR rows),roL 3 s' (chR c)]) call107 rR (zdp rows c s s' cap cap' hs (by omega) (by omega))) rR ?_;rintro _ _ ⟨s32,c32,rfl,rfl⟩;refine yB (T:=104) (cap:=c32) s32 ?_;refine gA rfl (qb (qf (gS (gM rfl (g_v (yo underlying34 rfl) rfl (g_v (yA rfl rfl) rfl (gM rfl (qK rfl rfl (fun hg=>qp rfl) rfl rfl (qK rfl rfl (fun hg=>yo underlying34 rfl) rfl rfl (qK rfl rfl (fun hg=>qu (r:=((c.length+1:Nat):Int)) rfl rfl (by rw[show (c.length:Int)+1=((c.length+1:Nat):Int) by omega];exact w64 (by omega))) rfl rfl (qK rfl rfl (fun hg=>qp rfl) rfl rfl (qK rfl rfl (fun hg=>qc rfl) rfl rfl (qK rfl rfl (fun hg=>qa 0 underlying180 rfl rfl sizeOf25 (by decide) rfl) rfl rfl (qK rfl rfl (fun hg=>qe (v:=ptr bd 0) isAgg25 rfl rfl) rfl rfl ?_))))))))))))));refine g_gq rR rR (fun hg=>qi (Pre:=[dsk 140 142 bd (D)]) (R:=fun F=>R1 (I ((D).now.length:Int)) (dsk 140 142 bd (D)::F)) call102 rR (yX bd D)) rR rR ?_;refine qK rfl rfl (fun hg=>zce (r:=((N - 122:Nat):Int)) rfl rfl (by rw[hok.2.1,show (N:Int) - 122=((N - 122:Nat):Int) by omega];exact w64 (by omega))) rfl rfl (qK rfl rfl (fun hg=>yA rfl rfl) rfl rfl (g_v (zaH rfl rfl) rfl (qb ?_)));refine qg rR (fun h47=>?_) (fun h47=>?_)
      · simp at h47;have hfull:80<(zaG rows c).length∨N - 122<c.length+1:=(by omega);refine gS (g_v (qB underlying108 rR rR) rR (gA rR (qb ?_)));exact ql (pt bs (.cells (stC bd h bl s (rows.length) cap) 180 (0,0))::pt bl (.cells (lgC bd 122 (N - 122) h.first (used)) 222 (0,0))::dsk 140 142 bd (D)::roL 3 s (chR rows)::roL 3 s' (chR c)::F) rfl ⟨8,D,h,used,rows,bl,s,cap, .inl ⟨by rw[znp hshort hf0 hfull];decide,by rw[znp hshort hf0 hfull],rfl,rfl,rfl,rfl⟩,rfl,rfl⟩
      · simp at h47;have hfull:¬(80<(zaG rows c).length∨N - 122<c.length+1):=(by omega);have hcm:=zxq hshort hf0 hfull;refine qh (qf (gS (gM rfl (g_v (yo underlying34 rfl) rfl (g_v (qu (r:=((c.length+1:Nat):Int)) rfl rfl (by rw[show (c.length:Int)+1=((c.length+1:Nat):Int) by omega];exact w64 (by omega))) rfl (gM rfl (g_v (qc rfl) rfl (g_v (qa 5 underlying180 rfl rfl sizeOf178 (by decide) rfl) rfl (g_v (qe (v:=ptr bl 0) isAgg178 rfl rfl) rfl ?_)))))))));refine g_l (qi (Pre:=[pt bl (.cells (lgC bd 122 (N - 122) h.first (used)) 222 (0,0))]) call128 rfl (zg4 bl bd 122 (N - 122) h.first used ⟨hu,by omega⟩)) rfl ?_;rintro _ _ ⟨rfl,rfl⟩;refine g_v (yA rR rR) rR (qb ?_);refine ziS (α:=DiskM×HdM×Nat×Nat) (fun z=>MidR D h rows (N - 122) used c 0 z.1 z.2.1 z.2.2.1) (fun z=>U [(0,ptr bs 0),(1,sl s' c.length cap'),(8,sl s32 (zaG rows c).length c32)]) (fun z=>pt bs (.cells (stC bd z.2.1 z.2.2.2 s rows.length cap) 180 (0,0))::pt z.2.2.2 (.cells (lgC bd 122 (N - 122) z.2.1.first z.2.2.1) 222 (0,0))::dsk 140 142 bd (z.1)::roL 3 s (chR rows)::roL 3 s' (chR c)::roL 3 s32 (chR (zaG rows c))::F) ?_ ?_
        · refine qg rR (fun h57=>?_) (fun h57=>?_)
          · simp at h57;have hroom:N - 122 - used<c.length+1:=(by omega);refine gS (gM rR ?_);refine g_l (qi (Pre:=[pt bs (.cells (stC bd h bl s (rows.length) cap) 180 (0,0)),pt bl (.cells (lgC bd 122 (N - 122) h.first (used)) 222 (0,0)),dsk 140 142 bd (D),roL 3 s (chR rows)]) call129 rfl (zbL bs bd h bl s cap rows N i used D hok hi hS hN0 hh hl hrw)) rfl ?_;rintro _ _ ⟨e59,D59,hck,⟨hne,rfl,rfl⟩ | ⟨h0,bl9,ds9,used9,hu9,hsc9,rfl,rfl⟩⟩
            · refine gA rR (qb (gS (gM rR (g_v (yf underlying37 rR) rR (qb ?_)))));refine qg rR (fun h61=>?_) (fun h61=>?_)
              · refine gS (gM rR (gA rR (qb ?_)));exact ql (pt bs (.cells (stC bd h bl s (rows.length) cap) 180 (0,0))::pt bl (.cells (lgC bd 122 (N - 122) h.first (used)) 222 (0,0))::dsk 140 142 bd (D59)::roL 3 s (chR rows)::roL 3 s' (chR c)::F) rfl ⟨e59,D59,h,used,rows,bl,s,cap, .inr ⟨hcm,e59,D59,h,used, .inl ⟨hroom,hck, .inl ⟨hne,rfl,rfl⟩⟩, .inl ⟨hne,rfl,rfl,rfl,rfl,rfl⟩⟩,rfl,rfl⟩
              · exact absurd (by simpa using h61) hne
            · subst h0;refine gA rR (qb (gS (gM rR (g_v (yf underlying37 rR) rR (qb ?_)))));refine qg rR (fun h61=>?_) (fun h61=>?_)
              · simp at h61
              · refine qh ?_;rw[show h.first+(N - 122)=(nxH h rows (N - 122)).first from rfl];exact zaq (D59,(nxH h rows (N - 122)),used9,bl9) (.inl ⟨hroom,hck, .inr ⟨rfl,rfl,hu9,ds9,hsc9⟩⟩) [0,1,8] rfl rfl
          · simp at h57;have hroom:¬N - 122 - used<c.length+1:=(by omega);refine qh ?_;exact zaq (D,h,used,bl) (.inr ⟨hroom,rfl,rfl,rfl,rfl⟩) [0,1,8] rfl rfl
        rintro ⟨D1,h1,used1,bl1⟩ hmid;simp only[] at hmid ⊢;obtain ⟨hm1,hm2,hm3,hm4,hm5,hm6,hm7⟩:=zqc hmid hok hS hl hrw hN0.1 hu;refine gS (gM rR (g_v (qc rR) rR (g_v (qa 5 underlying180 rR rR sizeOf178 (by decide) rR) rR (g_v (qe (v:=ptr bl1 0) isAgg178 rR rR) rR (gM rR ?_)))));refine g_l (qi (Pre:=[pt bl1 (.cells (lgC bd 122 (N - 122) h1.first used1) 222 (0,0)),dsk 140 142 bd (D1),roL 3 s' (chR c)]) call130 rfl (zow bl1 bd 122 (N - 122) h1.first used1 c s' cap' N (i+63) D1 hm1 ⟨by omega,by omega⟩ ⟨by omega,by omega,by decide,hm3⟩ hcl)) rfl ?_;rintro _ _ ⟨rfl,rfl⟩;refine gA rR (qb (qf (gS (gM rR (g_v (zab underlying37 rR) rR (qb ?_))))));refine qg rR (fun h70=>?_) (fun h70=>?_)
        · have h70':zgL 122 (N - 122) h1.first used1 c D1=0:=(by simpa using h70);refine qo (gM rR (gM rR (g_v (qc rR) rR (g_v (qa 6 underlying180 rR rR sizeOf34 (by decide) rR) rR ?_))));refine yp (qH (stC bd h1 bl1 s32 (zaG rows c).length c32) sizeOf34 rR rR rR (by simp) rR) ?_;rintro _ _ rfl;refine qb (gS (gM rR (gA rR (qb ?_))))
          first
          | exact ql (pt bs (.cells (stC bd h1 bl1 s32 (zaG rows c).length c32) 180 (0,0))::pt bl1 (.cells (lgC bd 122 (N - 122) h1.first (zhg 122 (N - 122) h1.first used1 c D1)) 222 (0,0))::dsk 140 142 bd (zdd 122 (N - 122) h1.first used1 c D1)::roL 3 s32 (chR (zaG rows c))::roL 3 s' (chR c)::F) rfl ⟨_,zdd 122 (N - 122) h1.first used1 c D1,h1,zhg 122 (N - 122) h1.first used1 c D1,(zaG rows c),bl1,s32,c32, .inr ⟨hcm,0,D1,h1,used1,hmid, .inr ⟨rfl,rfl,rfl,rfl,rfl,(if_pos h70').symm⟩⟩,rfl,rfl⟩
          | exact ql (pt bs (.cells (stC bd h1 bl1 s rows.length cap) 180 (0,0))::pt bl1 (.cells (lgC bd 122 (N - 122) h1.first (zhg 122 (N - 122) h1.first used1 c D1)) 222 (0,0))::dsk 140 142 bd (zdd 122 (N - 122) h1.first used1 c D1)::roL 3 s (chR rows)::roL 3 s' (chR c)::F) rfl ⟨_,zdd 122 (N - 122) h1.first used1 c D1,h1,zhg 122 (N - 122) h1.first used1 c D1,rows,bl1,s,cap, .inr ⟨hcm,0,D1,h1,used1,hmid, .inr ⟨rfl,rfl,rfl,rfl,rfl,(if_neg h70').symm⟩⟩,rfl,rfl⟩
        · have h70':¬zgL 122 (N - 122) h1.first used1 c D1=0:=(by simpa using h70);refine qh (gS (gM rR (gA rR (qb ?_))))
          first
          | exact ql (pt bs (.cells (stC bd h1 bl1 s32 (zaG rows c).length c32) 180 (0,0))::pt bl1 (.cells (lgC bd 122 (N - 122) h1.first (zhg 122 (N - 122) h1.first used1 c D1)) 222 (0,0))::dsk 140 142 bd (zdd 122 (N - 122) h1.first used1 c D1)::roL 3 s32 (chR (zaG rows c))::roL 3 s' (chR c)::F) rfl ⟨_,zdd 122 (N - 122) h1.first used1 c D1,h1,zhg 122 (N - 122) h1.first used1 c D1,(zaG rows c),bl1,s32,c32, .inr ⟨hcm,0,D1,h1,used1,hmid, .inr ⟨rfl,rfl,rfl,rfl,rfl,(if_pos h70').symm⟩⟩,rfl,rfl⟩
          | exact ql (pt bs (.cells (stC bd h1 bl1 s rows.length cap) 180 (0,0))::pt bl1 (.cells (lgC bd 122 (N - 122) h1.first (zhg 122 (N - 122) h1.first used1 c D1)) 222 (0,0))::dsk 140 142 bd (zdd 122 (N - 122) h1.first used1 c D1)::roL 3 s (chR rows)::roL 3 s' (chR c)::F) rfl ⟨_,zdd 122 (N - 122) h1.first used1 c D1,h1,zhg 122 (N - 122) h1.first used1 c D1,rows,bl1,s,cap, .inr ⟨hcm,0,D1,h1,used1,hmid, .inr ⟨rfl,rfl,rfl,rfl,rfl,(if_neg h70').symm⟩⟩,rfl,rfl⟩
-- (*counterfoil/counterfoilref.Store).Commit is not in this seat
abbrev stV (bd:Nat)(h:HdM)(lv:Value)(s:Option Addr)(n cap:Nat):Array Value:=#[ptr bd 0,I h.ep,I h.side,I h.size,I h.first,lv,sl s n cap]
def txK (L:List Bytes)(side k:Nat):Bytes:=((L.drop (2+side*60)).take k).flatten
theorem zl4 {L:List Bytes}{side k:Nat}(h:2+side*60+k<L.length):txK L side k++L.getD (2+side*60+k) []=txK L side (k+1):=by
  unfold txK;have h1:(L.drop (2+side*60))[k]? =some (L.getD (2+side*60+k) []):=(by rw[List.getElem?_drop,zhT h]);rw[zfB h1,List.flatten_append];simp
theorem zrP {L:List Bytes}{side:Nat}(hS:∀x∈L,x.length=80):∀k,2+side*60+k≤L.length→(txK L side k).length=80*k
  | 0,_=>rfl
  | k+1,h=>by
    rw[←zl4 (by omega),List.length_append,zrP hS k (by omega),zeT (by omega) hS];omega
theorem zj6:∀(ds:Deeds) {r:List ChangeM},srt r→srt (ds.foldl zaG r)
  | [],r,h=>h
  | d::ds,r,h=>zj6 ds (zjo h d).1
abbrev zox (r0:List ChangeM)(gl:LogG)(k:Nat):List ChangeM:=((gl.map (·.1)).take k).foldl zaG r0
theorem zxf {r0:List ChangeM}{gl:LogG}{k:Nat}{x:List ChangeM×LocA}(h:gl[k]? =some x):zaG (zox r0 gl k) x.1=zox r0 gl (k+1):=by
  unfold zox;rw[zfB (a:=x.1) (by simp[h]),List.foldl_append]
  rfl
theorem zeZ (bd N:Nat)(D:DiskM)(hN:D.now.length=N)(hNb:N≤260)(hS:∀x∈D.now,x.length=80)(hx:HdM)(r0:List ChangeM)(ds:Deeds)(used:Nat)(hg:D.down=false→196≤N→(zfH D.now).ep≠0→Good D.now hx r0 ds used)(F:List HProp):Ct Tryz.prog 63 [ptr bd 0] ([dsk 140 142 bd (D)]++F) (fun v L'=>(D.down=true∧v= .tuple #[.pointer none,yK 9]∧L'=dsk 140 142 bd (D)::F)∨(D.down=false∧N<196∧v= .tuple #[.pointer none,yK 4]∧L'=dsk 140 142 bd (D)::F)∨(D.down=false∧196≤N∧(zfH D.now).ep=0∧v= .tuple #[.pointer none,yK 4]∧L'=dsk 140 142 bd (D)::F)∨(D.down=false∧196≤N∧(zfH D.now).ep≠0∧∃bs bl s cap,v= .tuple #[ptr bs 0,yK 0]∧L'=pt bs (.cells (stC bd hx bl s (cur r0 ds).length cap) 180 (0,0))::pt bl (.cells (lgC bd 122 (N - 122) hx.first used) 222 (0,0))::dsk 140 142 bd (D)::roL 3 s (chR (cur r0 ds))::F)):=by
  show Ct Tryz.prog 63 [ptr bd 0] (dsk 140 142 bd (D)::F) _;refine Ct.of func63 rR 144 ntmps63 (by simp) fun w0=>?_;refine gS (gA rR (gA rR (qb (qf (gS (gM rR ?_))))));refine g_l (qi (Pre:=[dsk 140 142 bd (D)]) call34 rR (zb3 bd D)) rR ?_;rintro _ _ ⟨rfl,rfl⟩;refine qb ?_;refine qg rR (fun h21=>?_) (fun h21=>?_)
  · refine gS (g_v (qB underlying108 rR rR) rR (gA rR (gA rR (qb ?_))));exact ql (dsk 140 142 bd (D)::F) rfl (.inl ⟨h21,rfl,rfl⟩)
  · have h21':D.down=false:=(by simpa using h21);refine qh (qf (gS (gM rR ?_)));refine g_l (qi (Pre:=[dsk 140 142 bd (D)]) (R:=fun F=>R1 (I ((D).now.length:Int)) (dsk 140 142 bd (D)::F)) call102 rR (yX bd D)) rR ?_;rintro _ _ ⟨rfl,rfl⟩;refine g_v (qJ rR rR) rR (qb ?_);refine qg rR (fun h25=>?_) (fun h25=>?_)
    · simp at h25;have h25':N<196:=(by omega);refine gS (g_v (qB underlying108 rR rR) rR (gA rR (gA rR (qb ?_))));exact ql (dsk 140 142 bd (D)::F) rfl (.inr (.inl ⟨h21',h25',rfl,rfl⟩))
    · simp at h25;have h25':196≤N:=(by omega);refine qh (gS (gM rR (g_v (qP rR (zsP _ rR)) rR ?_)));refine g_l (wR (stV bd (hdK D.now 0) (.pointer none) none 0 0) rR rR) rR ?_;rintro _ _ ⟨b29,rfl,rfl⟩;refine gA rR (qb (qf (gS (gM rR (qb (qj ?_))))));refine qE (α:=Nat) (fun k=>k≤2) (fun k=>U [(0,ptr bd 0),(4,ptr b29 0),(30,I (k:Int))]) (fun k=>pt b29 (.cells (stV bd (hdK D.now k) ((.pointer none)) none (0) 0) 180 (0,0))::dsk 140 142 bd (D)::F) (fun k=>2 - k) 0 (by decide) [0,4,30] rfl rR ?_;intro k hk;refine gS (g_v (qJ rR rR) rR (qb (qf ?_)));refine qg rR (fun h31=>?_) (fun h31=>?_)
      · simp at h31;have hk2:k<2:=(by omega);refine qh (qf (qj (gS (gM rR (gA rR (qb (gS (gM rR (gM rR ?_)))))))));refine g_l (qi (Pre:=[dsk 140 142 bd (D)]) call103 rR (zdn bd D ((k:Nat):Int))) rR ?_;rintro _ _ ⟨rfl,rfl⟩;rw[show zgR D ((k:Nat):Int)=(D.now.getD (k) [],0) from zgq h21' (by omega) (by rw[Int.toNat_natCast];exact zhT (by omega))];refine gM rR (g_v (qd (v:=Str (D.now.getD k [])) rR rR) rR (g_v (qd (v:=yK 0) rR rR) rR (gA rR (gA rR (qb (qf (gS (gM rR (g_v (yf underlying37 rR) rR (qb ?_))))))))));refine qg rR (fun h40=>?_) (fun h40=>?_)
        · simp at h40
        · refine qh (gS (gM rR ?_));refine g_l (qi (Pre:=[]) call104 rR (zg3 (D.now.getD k []) (zeT (by omega) hS))) rR ?_;rintro _ _ ⟨rfl,rfl⟩;refine g_l (qy #[I 0,I 0,I 0,I 0] zeroValue177) rR ?_;rintro _ _ ⟨b8,rfl,rfl⟩;refine yp (qq (cs:=#[I 0,I 0,I 0,I 0]) (vs:=wt (wD (D.now.getD k []))) (wt (wD (D.now.getD k []))).toArray sizeOf177 rR rR rR rR (by decide) (qC (zi7 _))) ?_;rintro _ _ rfl;refine qb (qf ?_);refine wS [(0,false),(1,false),(2,false),(3,false),(4,false),(5,false),(6,false),(7,false)] (by kernel_rfl) (by kernel_rfl) rR (by kernel_rfl) ?_;refine d_v rR (qa 0 underlying177 rR rR sizeOf3 (by decide) rR) rR (d_v rR (qe (v:=I (wD (D.now.getD k [])).ep) isAgg3 rR rR) rR (dM rR rR rR (d_v rR (qc rR) rR (d_v rR (qa 1 underlying180 rR rR sizeOf177 (by decide) rR) rR (d_v rR (qa 0 underlying177 rR rR sizeOf3 (by decide) rR) rR (d_v rR (qe (v:=I (hdK D.now k).ep) isAgg3 rR rR) rR (d_v rR (yA rR rR) rR ?_)))))));refine yc ?_;refine qg rR (fun h51=>?_) (fun h51=>?_)
          · have hgt:(hdK D.now k).ep<(wD (D.now.getD k [])).ep:=(by have:=of_decide_eq_true h51;omega);refine qo (gM rR (g_v (qI (vs:=wt (wD (D.now.getD k []))) isAgg177 sizeOf177 rR rR qR) rR (g_v (qc rR) rR (g_v (qa 1 underlying180 rR rR sizeOf177 (by decide) rR) rR ?_))));refine yp (qq (cs:=stV bd (hdK D.now k) (.pointer none) none 0 0) (vs:=wt (wD (D.now.getD k []))) (stV bd (wD (D.now.getD k [])) (.pointer none) none 0 0) sizeOf177 rR rR rR rR (by simp) rR) ?_;rintro _ _ rfl;refine qb (qF (qo (g_v (qu (r:=((k+1:Nat):Int)) rfl rfl (by rw[show (((k:Nat):Int):Int)+(1:Int)=((k+1:Nat):Int) by omega];exact w64 (by omega))) rfl (gM rfl (qb ?_)))));rw[show wD (D.now.getD k [])=hdK D.now (k+1) by rw[hdK,if_pos hgt]];exact qm (k+1) (by omega) (by omega) [0,4,30] rfl rfl
          · have hgt:¬(hdK D.now k).ep<(wD (D.now.getD k [])).ep:=(by have:=of_decide_eq_false h51;omega);refine qh (qF (qo (g_v (qu (r:=((k+1:Nat):Int)) rfl rfl (by rw[show (((k:Nat):Int):Int)+(1:Int)=((k+1:Nat):Int) by omega];exact w64 (by omega))) rfl (gM rfl (qb ?_)))));rw[show hdK D.now k=hdK D.now (k+1) by rw[hdK,if_neg hgt]];exact qm (k+1) (by omega) (by omega) [0,4,30] rfl rfl
      · simp at h31;obtain rfl:k=2:=(by omega);refine qz rR ?_;refine qf (gS (gM rR (g_v (qc rR) rR (g_v (qa 1 underlying180 rR rR sizeOf177 (by decide) rR) rR (g_v (qa 0 underlying177 rR rR sizeOf3 (by decide) rR) rR (g_v (qe (v:=I (hdK D.now 2).ep) isAgg3 rR rR) rR (g_v (wh rR rR) rR (qb ?_))))))));refine qg rR (fun h62=>?_) (fun h62=>?_)
        · simp at h62;have he0:(zfH D.now).ep=0:=(by show (hdK D.now 2).ep=0;omega);refine gS (g_v (qB underlying108 rR rR) rR (gA rR (gA rR (qb ?_))));exact ql (dsk 140 142 bd (D)::F) rfl (.inr (.inr (.inl ⟨h21',h25',he0,rfl,rfl⟩)))
        · simp at h62;have he0:(zfH D.now).ep≠0:=(by show (hdK D.now 2).ep≠0;omega);have hgd:=hg h21' h25' he0;rw[show hdK D.now 2=hx from hgd.best];refine qh (gS (gA rR (qb (qf (gS (gM rR (qb (qj ?_))))))));refine qE (α:=Nat) (fun k=>k≤60) (fun k=>U [(0,ptr bd 0),(4,ptr b29 0),(9,Str (txK D.now hx.side k)),(64,I (k:Int))]) (fun k=>pt b29 (.cells (stV bd (hx) ((.pointer none)) none (0) 0) 180 (0,0))::dsk 140 142 bd (D)::F) (fun k=>60 - k) 0 (by decide) [0,4,9,64] rfl rR ?_;intro k hk;have hside:=hgd.side;have htl:=zrP (side:=hx.side) hS k (by omega);refine gS (g_v (qJ rR rR) rR (qb (qf ?_)));refine qg rR (fun h65=>?_) (fun h65=>?_)
          · simp at h65;have hk60:k<60:=(by omega);have hsl:(D.now.getD (2+hx.side*60+k) []).length=80:=zeT (by omega) hS;refine qh (qf (qj (gS (gM rfl (gA rfl (qb (gS (gM rfl (gM rfl (g_v (qc rfl) rfl (g_v (qa 1 underlying180 rfl rfl sizeOf177 (by decide) rfl) rfl (g_v (qa 1 underlying177 rfl rfl sizeOf3 (by decide) rfl) rfl (g_v (qe (v:=I hx.side) isAgg3 rfl rfl) rfl (g_v (zdk (r:=((hx.side*60:Nat):Int)) rfl rfl (by rw[show (hx.side:Int)*(60:Int)=((hx.side*60:Nat):Int) by omega];exact w64 (by omega))) rfl (g_v (qu (r:=((2+hx.side*60:Nat):Int)) rfl rfl (by rw[show (2:Int)+(((hx.side*60:Nat):Int):Int)=((2+hx.side*60:Nat):Int) by omega];exact w64 (by omega))) rfl (gM rfl (g_v (qu (r:=((2+hx.side*60+k:Nat):Int)) rfl rfl (by rw[show (((2+hx.side*60:Nat):Int):Int)+(((k:Nat):Int):Int)=((2+hx.side*60+k:Nat):Int) by omega];exact w64 (by omega))) rfl ?_)))))))))))))))));refine g_l (qi (Pre:=[dsk 140 142 bd (D)]) call103 rR (zdn bd D (((2+hx.side*60+k):Nat):Int))) rR ?_;rintro _ _ ⟨rfl,rfl⟩;rw[show zgR D ((2+hx.side*60+k:Nat):Int)=(D.now.getD (2+hx.side*60+k) [],0) from zgq h21' (by omega) (by rw[Int.toNat_natCast];exact zhT (by omega))];refine gM rR (g_v (qd (v:=Str (D.now.getD (2+hx.side*60+k) [])) rR rR) rR (g_v (qd (v:=yK 0) rR rR) rR (gA rR (gA rR (qb (qf (gS (gM rR (g_v (yf underlying37 rR) rR (qb ?_))))))))));refine qg rR (fun h82=>?_) (fun h82=>?_)
            · simp at h82
            · refine qh (qo (gM rfl (gM rfl (g_v (wN rfl rfl (by rw[htl,hsl];omega)) rfl (gA rfl (qb (qF (qo (g_v (qu (r:=((k+1:Nat):Int)) rfl rfl (by rw[show (((k:Nat):Int):Int)+(1:Int)=((k+1:Nat):Int) by omega];exact w64 (by omega))) rfl (gM rfl (qb ?_)))))))))));rw[zl4 (by omega)];exact qm (k+1) (by omega) (by omega) [0,4,9,64] rfl rfl
          · simp at h65;obtain rfl:k=60:=(by omega);have hsz:hx.size≤(txK D.now hx.side 60).length:=by
              have h1:=hgd.size;have h2:=zcO hgd.hok;have h3:=hgd.len;omega
            refine qz rR ?_;refine gS (gM rR (gM rR (g_v (qc rR) rR (g_v (qa 1 underlying180 rR rR sizeOf177 (by decide) rR) rR (g_v (qa 2 underlying177 rR rR sizeOf3 (by decide) rR) rR (g_v (qe (v:=I hx.size) isAgg3 rR rR) rR (g_v (zwB (h:=hx.size) underlying9 rR rR rR hsz) rR ?_)))))));rw[show (txK D.now hx.side 60).take hx.size=yv r0 from hgd.text];refine g_l (qi (Pre:=[]) call105 rR (zh1 r0 (by have:=hgd.len;omega) hgd.hsrt hgd.hok)) rR ?_;rintro _ _ ⟨s96,c96,rfl,rfl⟩;refine gM rR (g_v (qd (v:=sl s96 r0.length c96) rR rR) rR (g_v (qd (v:=Bo true) rR rR) rR (gA rR (gA rR (qb (qf (gS (gM rR (g_v (wo rR) rR (qb ?_))))))))));refine qg rR (fun h100=>?_) (fun h100=>?_)
            · simp at h100
            · refine qh (qf ?_);refine yw (Lf:=[pt b29 (.cells (stV bd hx (.pointer none) none 0 0) 180 (0,0))]) [(0,false),(1,false),(4,false),(5,false),(6,false),(7,false),(8,false),(2,true),(3,false),(9,true),(10,false),(11,false),(12,false),(13,false),(14,false),(15,false),(16,false)] (by kernel_rfl) (by kernel_rfl) rR (by kernel_rfl) ?_;refine dM rfl rfl rfl (dM rfl rfl rfl (dM rfl rfl rfl (d_v rfl (qc rfl) rfl (d_v rfl (qa 1 underlying180 rfl rfl sizeOf177 (by decide) rfl) rfl (d_v rfl (qa 3 underlying177 rfl rfl sizeOf3 (by decide) rfl) rfl (d_v rfl (qe (v:=I hx.first) isAgg3 rfl rfl) rfl ?_))))));refine d_l rR (qi (Pre:=[dsk 140 142 bd (D)]) (R:=fun F=>R1 (I ((D).now.length:Int)) (dsk 140 142 bd (D)::F)) call102 rR (yX bd D)) rR ?_;rintro _ _ ⟨rfl,rfl⟩;refine d_v rfl (zce (r:=((N - 122:Nat):Int)) rfl rfl (by rw[hN,show (N:Int) - 122=((N - 122:Nat):Int) by omega];exact w64 (by omega))) rfl ?_;refine d_l rfl (qi (Pre:=[dsk 140 142 bd (D)]) call106 rfl (zhu bd D 122 ((N - 122:Nat):Int) hx.first hS ⟨by omega,by have:=hgd.first;omega⟩)) rfl ?_;rintro _ _ (⟨hbad,_,_⟩ | ⟨_,hdn,_,_⟩ | ⟨_,_,bl,gl,so,co,used',rfl,hul,hgll,hsc,rfl⟩)
              · exfalso;unfold zqo at hbad;have:=hgd.first;omega
              · rw[h21'] at hdn;cases hdn
              rw[show lgC bd ((122:Int)).toNat ((N - 122:Nat):Int).toNat (hx.first:Int).toNat used'=lgC bd 122 (N - 122) hx.first used' from rfl]
              replace hgll:gl.length≤N - 122:=hgll
              replace hsc:wd hx.first (zjz D 122) (N - 122) 0 [] [] 0=(gl.map (·.1),used'):=hsc
              have hlg:=hgd.log;rw[hN] at hlg;have hlg2:wd hx.first (zjz D 122) (N - 122) 0 [] [] 0=(ds,used):=hlg;rw[hsc] at hlg2;injection hlg2 with hq1 hq2;obtain rfl:used=used':=hq2.symm;have hfit:=hgd.fits;rw[←hq1] at hfit;have hlen72:∀y∈gl,y.1.length≤72:=fun y hy=>hgd.lens _ (by rw[←hq1];exact List.mem_map_of_mem hy);refine dM rR rR rR (d_v rR (qd (v:=ptr bl 0) rR rR) rR (d_v rR (qd (v:=sl so gl.length co) rR rR) rR (d_v rR (qd (v:=yK 0) rR rR) rR (d_v rR (qx rR) rR (d_v rR (qx rR) rR (d_v rR (qx rR) rR ?_))))));refine yc ?_;refine qf (gS (gM rR (g_v (yf underlying37 rR) rR (qb ?_))));refine qg rR (fun h117=>?_) (fun h117=>?_)
              · simp at h117
              · refine qh (gS (gM rR (gM rR (gM rR (gM rR (g_v (qc rR) rR (g_v (qa 5 underlying180 rR rR sizeOf178 (by decide) rR) rR ?_)))))));refine yp (qH (stV bd hx (ptr bl 0) none 0 0) sizeOf178 rR rR rR (by simp) rR) ?_;rintro _ _ rfl;refine g_v (qc rR) rR (g_v (qa 6 underlying180 rR rR sizeOf34 (by decide) rR) rR ?_);refine yp (qH (stV bd hx (ptr bl 0) s96 (zox r0 gl (0)).length c96) sizeOf34 rR rR rR (by simp) rR) ?_;rintro _ _ rfl;refine qb (qf (qf ?_));rw[show chR r0=chR (zox r0 gl 0) from rfl];refine qo (gM rR (g_v (yo underlying185 rR) rR (gM rR (qb (qj ?_)))));refine qE (α:=Nat×Option Addr×Nat) (fun z=>z.1≤gl.length) (fun z=>U [(4,ptr b29 0),(127,sl so gl.length co),(128,I gl.length),(129,I (z.1:Int))]) (fun z=>pt b29 (.cells (stV bd (hx) (ptr bl 0) z.2.1 ((zox r0 gl (z.1)).length) z.2.2) 180 (0,0))::roL 3 z.2.1 (chR (zox r0 gl (z.1)))::pt bl (.cells (lgC bd 122 (N - 122) hx.first used) 222 (0,0))::owL 34 1 so co (dR gl)::zlq gl::dsk 140 142 bd (D)::F) (fun z=>gl.length - z.1) (0,s96,c96) (by simp) [4,127,128,129] rfl rfl ?_;rintro ⟨k,sA,cA⟩ hk;simp only[] at hk ⊢;refine gS (g_v (qJ rR rR) rR (qb (qf ?_)));refine qg rR (fun h130=>?_) (fun h130=>?_)
                · simp at h130;have hkn:k<gl.length:=(by omega);obtain ⟨x,hx'⟩:∃x,gl[k]? =some x:=⟨_,List.getElem?_eq_getElem hkn⟩;refine qh (qf (qj (gS (g_v (qA k underlying185 sizeOf34 rR rR rR hkn (by rw[zt3];exact hkn)) rR (g_v (yd (v:=sl x.2.1 x.1.length x.2.2) isAgg34 rR (dR_at hx') rR) rR (gA rR (qb ?_)))))));refine ztG gl (List.mem_of_getElem? hx') ?_;refine qo (gM rR (gM rR (g_v (qc rR) rR (g_v (qa 6 underlying180 rR rR sizeOf34 (by decide) rR) rR (g_v (qe (v:=sl sA (zox r0 gl (k)).length cA) isAgg34 rR rR) rR (gM rR ?_))))));refine g_l (qi (Pre:=[roL 3 sA (chR (zox r0 gl (k))),roL 3 x.2.1 (chR x.1)]) call107 rR (zdp (zox r0 gl (k)) x.1 sA x.2.1 cA x.2.2 (zj6 _ hgd.hsrt) (Nat.le_trans (hfit k) (by decide)) (by have:=hlen72 x (List.mem_of_getElem? hx');omega))) rR ?_;rintro _ _ ⟨s139,c139,rfl,rfl⟩;rw[zxf hx'];refine yB (T:=104) (cap:=c139) s139 ?_;refine g_v (qc rR) rR (g_v (qa 6 underlying180 rR rR sizeOf34 (by decide) rR) rR ?_);refine yp (qH (stV bd hx (ptr bl 0) s139 (zox r0 gl (k+1)).length c139) sizeOf34 rR rR rR (by simp) rR) ?_;rintro _ _ rfl;refine qb (qF (qo (g_v (qu (r:=((k+1:Nat):Int)) rfl rfl (by rw[show (((k:Nat):Int):Int)+(1:Int)=((k+1:Nat):Int) by omega];exact w64 (by omega))) rfl (gM rfl (qb ?_)))));exact qm (k+1,s139,c139) (by simp only[];omega) (by simp only[];omega) [4,127,128,129] rfl rfl
                · simp at h130;obtain rfl:k=gl.length:=(by omega);have hcu:zox r0 gl gl.length=cur r0 ds:=(by unfold zox cur;rw[List.take_of_length_le (by simp),hq1]);rw[hcu];refine qz rR ?_;refine gS (gM rR (gA rR (gA rR (qb ?_))));exact ql (pt b29 (.cells (stC bd hx bl sA (cur r0 ds).length cA) 180 (0,0))::pt bl (.cells (lgC bd 122 (N - 122) hx.first used) 222 (0,0))::dsk 140 142 bd (D)::roL 3 sA (chR (cur r0 ds))::F) rfl (.inr (.inr (.inr ⟨h21',h25',he0,b29,bl,sA,cA,rfl,rfl⟩)))
theorem zhH (bd N i:Nat)(D:DiskM)(hok:okW N i D)(hi:i≤100000)(hN0:N≤260)(F:List HProp):Ct Tryz.prog 86 [ptr bd 0] ([dsk 140 142 bd (D)]++F) (fun v L'=>(N<196∧v=yK 8∧L'=dsk 140 142 bd (D)::F)∨(196≤N∧∃e D1,wg D (fmL N)=(e,D1)∧v=yK e∧L'=dsk 140 142 bd (D1)::F)):=by
  show Ct Tryz.prog 86 [ptr bd 0] (dsk 140 142 bd (D)::F) _;refine Ct.of func86 rR 39 ntmps86 (by simp) fun w0=>?_;refine gS (gA rR (qb (qf (gS (gM rR ?_)))));refine g_l (qi (Pre:=[dsk 140 142 bd (D)]) (R:=fun F=>R1 (I ((D).now.length:Int)) (dsk 140 142 bd (D)::F)) call102 rR (yX bd D)) rR ?_;rintro _ _ ⟨rfl,rfl⟩;refine g_v (qJ rR rR) rR (qb ?_);refine qg rR (fun h7=>?_) (fun h7=>?_)
  · simp at h7;have h7':N<196:=(by have:=hok.2.1;omega);refine gS (g_v (qB underlying108 rR rR) rR (gA rR (qb ?_)));exact ql (dsk 140 142 bd (D)::F) rfl (.inl ⟨h7',rfl,rfl⟩)
  · simp at h7;have h7':196≤N:=(by have:=hok.2.1;omega);refine qh (gS (gM rR ?_));refine g_l (qi (Pre:=[dsk 140 142 bd (D)]) call136 rR (wv bd D ((0:Nat):Int) [] hok.2.2.1 (by have:=hok.2.2.2.2;omega))) rR ?_;rintro _ _ ⟨rfl,rfl⟩;refine gA rR (qb (qf (gS (gA rR (qb (qj ?_))))));refine qE (α:=Nat×Int×DiskM) (fun z=>z.1≤N - 122∧wg D (fmW z.1)=(z.2.1,z.2.2)) (fun z=>U [(0,ptr bd 0),(3,yK z.2.1),(4,I ((122+z.1:Nat):Int))]) (fun z=>dsk 140 142 bd (z.2.2)::F) (fun z=>N - z.1) (0,yO D ((0:Nat):Int) [],yy D ((0:Nat):Int) []) ⟨Nat.zero_le _,zbE (l:=[]) rfl⟩ [0,3,4] rfl rR ?_;rintro ⟨k,e,X⟩ ⟨hk,hrun⟩;simp only[] at hk hrun ⊢;have hokk:=za4 (fmW k) i D hok;rw[hrun,zgB] at hokk;simp only at hokk;refine qf (gS (gM rR (gM rR ?_)));refine g_l (qi (Pre:=[dsk 140 142 bd (X)]) (R:=fun F=>R1 (I ((X).now.length:Int)) (dsk 140 142 bd (X)::F)) call102 rR (yX bd X)) rR ?_;rintro _ _ ⟨rfl,rfl⟩;refine g_v (qJ rR rR) rR (gM rR (qK rR rR (fun hg=>qp rR) rR rR (qK rR rR (fun hg=>zab underlying37 rR) rR rR (g_v (zas rR rR) rR (qb ?_)))));refine qg rR (fun h18=>?_) (fun h18=>?_)
    · simp at h18;have he0:e=0:=h18.2;have hkn:122+k<N:=(by have:=hokk.2.1;omega);refine qh (qf (qj (qo (gM rR (gM rR ?_)))));refine g_l (qi (Pre:=[dsk 140 142 bd (X)]) call136 rR (wv bd X ((122+k:Nat):Int) [] hokk.2.2.1 (by have:=hokk.2.2.2.2;omega))) rR ?_;rintro _ _ ⟨rfl,rfl⟩;refine gA rfl (qb (qF (qo (gM rfl (g_v (qu (r:=((122+(k+1):Nat):Int)) rfl rfl (by rw[show ((122+k:Nat):Int)+1=((122+(k+1):Nat):Int) by omega];exact w64 (by omega))) rfl (gA rfl (qb ?_)))))));exact qm (k+1,yO X ((122+k:Nat):Int) [],yy X ((122+k:Nat):Int) []) ⟨by simp only[];omega,by simp only[];rw[fmW,zbE (by rw[hrun,he0])];rfl⟩ (by simp only[];omega) [0,3,4] rfl rfl
    · simp at h18;have hst:k=N - 122∨e≠0:=by
        have:=hokk.2.1;by_cases he:e=0
        · left;by_cases hx:122+k<N
          · exact absurd he (h18 (by omega))
          · omega
        · exact .inr he
      have hf:=ztf hrun hst hk;refine qz rR ?_;refine qf (gS (gM rR (g_v (zab underlying37 rR) rR (qb ?_))));refine ziS (α:=Int×DiskM) (fun z=>wg D (fmW (N - 122)++ [none])=z) (fun z=>U [(0,ptr bd 0),(3,yK z.1)]) (fun z=>dsk 140 142 bd (z.2)::F) ?_ ?_
      · refine qg rR (fun h25=>?_) (fun h25=>?_)
        · have he:e=0:=(by simpa using h25);subst he;refine qo (gM rR ?_);refine g_l (qi (Pre:=[dsk 140 142 bd (X)]) call137 rR (zao bd X hokk.2.2.1 (by rw[hokk.1,hokk.2.1]) (by rw[hokk.2.1];omega))) rR ?_;rintro _ _ ⟨rfl,rfl⟩;refine gA rR (qb ?_);exact zaq (yV X,yx X) (zbE (x:=none) hf) [0,3] rfl rfl
        · have he:¬e=0:=(by simpa using h25);refine qh ?_;exact zaq (e,X) (zbF hf he) [0,3] rfl rfl
      rintro ⟨e1,X1⟩ h1;simp only at h1 ⊢;have hok1:=za4 (fmW (N - 122)++ [none]) i D hok;rw[h1,List.length_append,zgB] at hok1;simp only[List.length_cons,List.length_nil] at hok1;refine qf (gS (gM rR (g_v (zab underlying37 rR) rR (qb ?_))));refine ziS (α:=Int×DiskM) (fun z=>wg D (fmW (N - 122)++ [none]++ [some (1,we hd1)])=z) (fun z=>U [(0,ptr bd 0),(3,yK z.1)]) (fun z=>dsk 140 142 bd (z.2)::F) ?_ ?_
      · refine qg rR (fun h29=>?_) (fun h29=>?_)
        · have he1:e1=0:=(by simpa using h29);subst he1;refine qo (gM rR (g_v (qP rR (wl _ rR _ rR _ rR _ rR)) rR ?_));refine g_l (qi (Pre:=[]) call138 rR (ze8 hd1)) rR ?_;rintro _ _ ⟨rfl,rfl⟩;refine g_l (qi (Pre:=[dsk 140 142 bd (X1)]) call136 rR (wv bd X1 ((1:Nat):Int) (we hd1) hok1.2.2.1 (by have:=hok1.2.2.2.2;omega))) rR ?_;rintro _ _ ⟨rfl,rfl⟩;refine gA rR (qb ?_);exact zaq (yO X1 ((1:Nat):Int) (we hd1),yy X1 ((1:Nat):Int) (we hd1)) (zbE h1) [0,3] rfl rfl
        · have he1:¬e1=0:=(by simpa using h29);refine qh ?_;exact zaq (e1,X1) (zbF h1 he1) [0,3] rfl rfl
      rintro ⟨e2,X2⟩ h2;simp only at h2 ⊢;have hok2:=za4 (fmW (N - 122)++ [none]++ [some (1,we hd1)]) i D hok;rw[h2,List.length_append,List.length_append,zgB] at hok2;simp only[List.length_cons,List.length_nil] at hok2;refine qf (gS (gM rR (g_v (zab underlying37 rR) rR (qb ?_))));refine ziS (α:=Int×DiskM) (fun z=>wg D (fmL N)=z) (fun z=>U [(0,ptr bd 0),(3,yK z.1)]) (fun z=>dsk 140 142 bd (z.2)::F) ?_ ?_
      · refine qg rR (fun h35=>?_) (fun h35=>?_)
        · have he2:e2=0:=(by simpa using h35);subst he2;refine qo (gM rR ?_);refine g_l (qi (Pre:=[dsk 140 142 bd (X2)]) call137 rR (zao bd X2 hok2.2.2.1 (by rw[hok2.1,hok2.2.1]) (by rw[hok2.2.1];omega))) rR ?_;rintro _ _ ⟨rfl,rfl⟩;refine gA rR (qb ?_);exact zaq (yV X2,yx X2) (by have:=zbE (x:=none) h2;rw[List.append_assoc,List.append_assoc] at this;exact this) [0,3] rfl rfl
        · have he2:¬e2=0:=(by simpa using h35);refine qh ?_;exact zaq (e2,X2) (by have:=zbF (r:=[none]) h2 he2;rw[List.append_assoc,List.append_assoc] at this;exact this) [0,3] rfl rfl
      rintro ⟨e3,X3⟩ h3;simp only at h3 ⊢;refine gS (gM rR (gA rR (qb ?_)));exact ql (dsk 140 142 bd (X3)::F) rfl (.inr ⟨h7',e3,X3,h3,rfl,rfl⟩)
end Go.Proofs.YthdjckbjjfiopadGreatDoor
namespace Go.Proofs.YthdjckbjjfiopadGreatDoor
open Go.Sl Go.Proofs
theorem zw0 {l:List ChangeM}{c:ChangeM}(h:∀r∈l,okR r)(hc:zbt c=0):∀r∈apS l c,okR r:=by
  intro r hr;unfold apS at hr;simp only[List.mem_append] at hr;rcases hr with (hr | hr) | hr
  · exact h r (List.mem_filter.1 hr).1
  · split at hr
    · cases hr
    · rename_i hg;rw[List.mem_singleton] at hr;subst hr;exact ⟨hc,by simpa using hg⟩
  · exact h r (List.mem_filter.1 hr).1
theorem zqU:∀(c:List ChangeM) {l:List ChangeM},(∀r∈l,okR r)→(∀x∈c,zbt x=0)→∀r∈zaG l c,okR r
  | [],l,h,_=>h
  | x::c,l,h,hc=>zqU c (zw0 h (hc x (by simp))) fun y hy=>hc y (List.mem_cons_of_mem _ hy)
theorem zro:∀(ds:Deeds) {l:List ChangeM},(∀r∈l,okR r)→(∀d∈ds,∀x∈d,zbt x=0)→∀r∈cur l ds,okR r
  | [],l,h,_=>h
  | d::ds,l,h,hc=>zro ds (zqU d h (hc d (by simp))) fun e he=>hc e (List.mem_cons_of_mem _ he)
theorem zgp (r0:List ChangeM)(ds:Deeds)(c:List ChangeM):cur r0 (ds++ [c])=zaG (cur r0 ds) c:=by unfold cur;rw[List.foldl_append];rfl
theorem Good.srtC {L:List Bytes}{h:HdM}{r0:List ChangeM}{ds:Deeds}{used:Nat}(g:Good L h r0 ds used):srt (cur r0 ds):=zj6 ds g.hsrt
theorem Good.okC {L:List Bytes}{h:HdM}{r0:List ChangeM}{ds:Deeds}{used:Nat}(g:Good L h r0 ds used):∀r∈cur r0 ds,okR r:=zro ds g.hok g.chk
theorem Good.lenC {L:List Bytes}{h:HdM}{r0:List ChangeM}{ds:Deeds}{used:Nat}(g:Good L h r0 ds used):(cur r0 ds).length≤80:=by
  have:=g.fits ds.length;rw[List.take_length] at this;exact this
def zh2 (a b:HdM):HdM:=if (if HdM.no.ep<a.ep then a else HdM.no).ep<b.ep then b else if HdM.no.ep<a.ep then a else HdM.no
theorem zhh (L:List Bytes):zfH L=zh2 (wD (L.getD 0 [])) (wD (L.getD 1 [])):=rfl
theorem znO {L L':List Bytes}(h0:L'.getD 0 []=L.getD 0 [])(h1:L'.getD 1 []=L.getD 1 []):zfH L'=zfH L:=by rw[zhh,zhh,h0,h1]
theorem zvo:HdM.no.ep=0:=rfl
theorem zm4 (a b:HdM):a.ep≤(zh2 a b).ep∧b.ep≤(zh2 a b).ep:=by
  unfold zh2;by_cases h1:HdM.no.ep<a.ep
  · simp only[if_pos h1];by_cases h2:a.ep<b.ep
    · rw[if_pos h2];omega
    · rw[if_neg h2];omega
  · simp only[if_neg h1];have:=zvo;by_cases h2:HdM.no.ep<b.ep
    · rw[if_pos h2];omega
    · rw[if_neg h2];omega
theorem zvk {a b h:HdM}(hh:(zh2 a b).ep<h.ep):zh2 h b=h:=by
  have:=zm4 a b;have:=zvo;unfold zh2;rw[if_pos (show HdM.no.ep<h.ep by omega),if_neg (by omega)]
theorem zuY {a b h:HdM}(hh:(zh2 a b).ep<h.ep):zh2 a h=h:=by
  have:=zm4 a b;have:=zvo;unfold zh2;rw[if_pos];split <;> omega
theorem zrv {L L':List Bytes}{side:Nat}(hl:L'.length=L.length):∀k,2+side*60+k≤L.length→(∀m,2+side*60≤m→m<2+side*60+k→L'.getD m []=L.getD m [])→txK L' side k=txK L side k
  | 0,_,_=>rfl
  | k+1,hk,h=>by
    rw[←zl4 (by omega),←zl4 (L:=L) (by omega),zrv hl k (by omega) (fun m a b=>h m a (by omega)),h _ (by omega) (by omega)]
theorem zns {L L':List Bytes}{h:HdM}{r0:List ChangeM}{ds ds':Deeds}{used used':Nat}(g:Good L h r0 ds used)(hl:L'.length=L.length)(h122:122≤L.length)(hlow:∀m,m<2→L'.getD m []=L.getD m [])(htx:∀m,2+h.side*60≤m→m<2+h.side*60+60→L'.getD m []=L.getD m [])
    (hlog:wd h.first (zf7 L' 122) (L.length - 122) 0 [] [] 0=(ds',used')) (h1:∀d∈ds',d.length≤72) (h2:∀d∈ds',∀x∈d,zbt x=0) (h3:∀k,((ds'.take k).foldl zaG r0).length≤80):Good L' h r0 ds' used':=by
  have hs:=g.side;have ht:txK L' h.side 60=txK L h.side 60:=zrv hl 60 (by omega) htx;exact ⟨(znO (hlow 0 (by decide)) (hlow 1 (by decide))).trans g.best,g.ep,g.side,g.first,g.size,by
    have:=g.text;show (txK L' h.side 60).take h.size=_;rw[ht];exact this,g.hsrt,g.hok,g.len,by rw[hl];exact hlog,h1,h2,h3⟩
theorem zrH {L L':List Bytes}{h:HdM}{r0:List ChangeM}{ds:Deeds}{used:Nat}(g:Good L h r0 ds used)(hl:L'.length=L.length)(h122:122≤L.length)(hlow:∀m,m<2→L'.getD m []=L.getD m [])(htx:∀m,2+h.side*60≤m→m<2+h.side*60+60→L'.getD m []=L.getD m [])(hlg:∀m,122≤m→L'.getD m []=L.getD m []):Good L' h r0 ds used:=
  zns g hl h122 hlow htx (by
    have:zf7 L' 122=zf7 L 122:=funext fun i=>hlg _ (by omega);rw[this];exact g.log) g.lens g.chk g.fits
def zob (B:Nat)(s:Bytes):Prop:=∀n,B≤n→n<4294967296→zaK n s=none
theorem zp1 {B B':Nat}{s:Bytes}(h:zob B s)(hB:B≤B'):zob B' s:=fun n h1 h2=>h n (by omega) h2
theorem zis (B:Nat):zob B (yi []):=fun n _ _=>zcC n
theorem zsu {m n:Nat}(hm:m<4294967296)(hn:n<4294967296)(h:qN m=qN n):m=n:=by rw[←zdP hm,h,zdP hn]
theorem zkB {B m:Nat}{k:UInt8}{s:Bytes}(hm:m<B)(hB:B≤4294967296):zob B (yi (wE k m s)):=fun n h1 h2=>by
  unfold zaK;rw[if_neg];intro h;have e:((yi (wE k m s)).take 5).drop 1=qN m:=by
    unfold yi wE qN;simp[List.take]
  rw[e] at h;have:=zsu (by omega) h2 h.1;omega
structure AllP (P:Nat→Bytes→Prop) (D:DiskM):Prop where
  now:∀m,P m (D.now.getD m [])
  kept:∀m,P m (D.kept.getD m [])
  wait:∀t∈D.wait,P t.1 t.2
def okP (P:Nat→Bytes→Prop):Stp→Prop
  | some x=>P x.1 (yi x.2)
  | none=>True
theorem AllP.step {P:Nat→Bytes→Prop}{D:DiskM}(h:AllP P D):AllP P (yZ D):=⟨by rw[wB];exact h.now,by rw[wb];exact h.kept,by rw[ws];exact h.wait⟩
theorem AllP.st {P:Nat→Bytes→Prop}{D:DiskM}{x:Stp}(h:AllP P D)(hx:okP P x):AllP P (stD D x):=by
  cases x with
  | none=>
    show AllP P (yx D);unfold yx;split
    · exact ⟨h.step.now,h.step.now,fun t ht=>by cases ht⟩
    · exact h.step
  | some y=>
    show AllP P (yy D y.1 y.2);unfold yy;split
    · exact h
    · split
      · refine ⟨fun m=>?_,h.step.kept,fun t ht=>?_⟩
        · show P m (((yZ D).now.set ((y.1:Int)).toNat (yi y.2)).getD m []);rw[yM];split
          · rename_i hc;rw[←hc.1,Int.toNat_natCast];exact hx
          · exact h.step.now m
        · simp only[ww,List.mem_append,List.mem_singleton] at ht;rcases ht with ht | rfl
          · exact h.step.wait t ht
          · simp only[Int.toNat_natCast];exact hx
      · exact h.step
theorem AllP.run {P:Nat→Bytes→Prop}:∀(l:List Stp) {D:DiskM},AllP P D→(∀x∈l,okP P x)→AllP P (wg D l).2
  | [],D,h,_=>h
  | x::l,D,h,ho=>by
    have h1:=h.st (ho x (List.mem_cons_self ..));by_cases h0:stE D x=0
    · rw[zcu h0];exact AllP.run l h1 fun y hy=>ho y (List.mem_cons_of_mem _ hy)
    · rw[zbu h0];exact h1
theorem AllP.rest {P:Nat→Bytes→Prop}{D:DiskM}(h:AllP P D)(keep:Int)(m:Nat):P m ((zam keep D).getD m []):=by
  rcases zfe (keep:=keep) (w:=D.wait) (K:=D.kept) D.wait.length m with e | ⟨t,ht,e1,e2⟩
  · show P m ((za3 keep D.wait D.kept D.wait.length).getD m []);rw[e];exact h.kept m
  · show P m ((za3 keep D.wait D.kept D.wait.length).getD m []);rw[e2,←e1];exact h.wait t ht
theorem AllP.calm {P:Nat→Bytes→Prop}{D:DiskM}(hk:D.kept=D.now)(hw:D.wait=[])(h:∀m,P m (D.now.getD m [])):AllP P D:=⟨h,by rw[hk];exact h,by rw[hw];intro t ht;cases ht⟩
theorem zgG (keep:Int)(D:DiskM):(zam keep D).length=D.kept.length:=zal ..
theorem zjS:∀(l:List Stp) {D D':DiskM},(∀x∈l,zcm D.now.length x)→wg D l=(0,D')→D'.now=zav D.now l
  | [],D,D',_,h=>by injection h with _ h;rw[←h];rfl
  | none::l,D,D',ho,h=>by
    by_cases h0:yV D=0
    · rw[zdi h0] at h;have hn:=(zbG h0).2;have:=zjS l (D:=yx D) (fun x hx=>by rw[hn];exact ho x (List.mem_cons_of_mem _ hx)) h;rw[this,hn];rfl
    · rw[zcH h0] at h;injection h with h _;exact absurd h h0
  | some y::l,D,D',ho,h=>by
    obtain ⟨n,s⟩:=y;have hy:=ho _ (List.mem_cons_self ..);have hb:¬zh5 D (n:Int) s:=(by unfold zh5;have h1:=hy.1;have h2:=hy.2;simp only at h1 h2;omega);by_cases h0:yO D (n:Int) s=0
    · rw[zft h0] at h;have hs:yV D=0:=(by unfold yO at h0;rw[if_neg hb] at h0;exact h0);have hn:(yy D (n:Int) s).now=D.now.set n (yi s):=by
        unfold yy;rw[if_neg hb,if_pos hs];show (yZ D).now.set ((n:Int)).toNat _=_;rw[wB,Int.toNat_natCast]
      have:=zjS l (D:=yy D (n:Int) s) (fun x hx=>by rw[hn,List.length_set];exact ho x (List.mem_cons_of_mem _ hx)) h;rw[this,hn];rfl
    · rw[zdH h0] at h;injection h with h _;exact absurd h h0
theorem zs4 {side:Nat}{t:Bytes}:∀(f k:Nat) (L:List Bytes) (m:Nat),(zav L (ckW side t k f)).getD m []=if 2+side*60+k≤m∧m<2+side*60+k+f∧m<L.length then yi (wA t (m - (2+side*60))) else L.getD m []
  | 0,k,L,m=>by rw[if_neg (by omega)];rfl
  | f+1,k,L,m=>by
    rw[ckW,zav,zs4 f (k+1),List.length_set,yM];by_cases h1:2+side*60+(k+1)≤m∧m<2+side*60+(k+1)+f∧m<L.length
    · rw[if_pos h1,if_pos (by omega)]
    · rw[if_neg h1];by_cases h2:2+side*60+k=m∧2+side*60+k<L.length
      · rw[if_pos h2,if_pos (by omega),show m - (2+side*60)=k by omega]
      · rw[if_neg h2,if_neg (by omega)]
theorem zmf {t:Bytes}{k:Nat}(h:80*(k+1)≤t.length):yi (wA t k)=wA t k:=by
  have:(wA t k).length=80:=(by rw[zb4,show Nat.min 80 (t.length - 80*k)=80 from Nat.min_eq_left (by omega)]);unfold yi;rw[this];simp[zbK]
theorem ziM {t:Bytes}{k:Nat}:t.take (80*k)++wA t k=t.take (80*(k+1)):=by
  unfold wA;rw[show 80*(k+1)=80*k+80 by omega,List.take_add]
theorem zly {L:List Bytes}{side:Nat}{t:Bytes}(hL:2+side*60+60≤L.length)(hs:∀k,k<qZ t→L.getD (2+side*60+k) []=yi (wA t k))(h60:qZ t≤60):∀k,80*k≤t.length→txK L side k=t.take (80*k)
  | 0,_=>rfl
  | k+1,h=>by
    have hk:k<qZ t:=chunks_lt.2 (by omega);rw[←zl4 (by omega),zly hL hs h60 k (by omega),hs k hk,zmf h,ziM]
theorem zp9 {L:List Bytes}{side:Nat}(hL:2+side*60+60≤L.length):∀(g k:Nat),k+g≤60→∃r,txK L side (k+g)=txK L side k++r
  | 0,k,_=>⟨[],by simp⟩
  | g+1,k,h=>by
    obtain ⟨r,hr⟩:=zp9 hL g k (by omega);exact ⟨r++L.getD (2+side*60+(k+g)) [],by rw[show k+(g+1)=(k+g)+1 by omega,←zl4 (by omega),hr,List.append_assoc]⟩
theorem zya {L:List Bytes}{side:Nat}{t:Bytes}(hL:2+side*60+60≤L.length)(hs:∀k,k<qZ t→L.getD (2+side*60+k) []=yi (wA t k))(h60:qZ t≤60):(txK L side 60).take t.length=t:=by
  have hq:∃r,txK L side (qZ t)=t++r:=by
    by_cases he:80*qZ t=t.length
    · exact ⟨[],by rw[zly hL hs h60 _ (by omega),he,List.take_length,List.append_nil]⟩
    · obtain ⟨q,hq⟩:∃q,qZ t=q+1:=⟨qZ t - 1,by unfold qZ at*;omega⟩;have h1:80*q<t.length:=chunks_lt.1 (by omega);refine ⟨zbK (80 - (wA t q).length),?_⟩;rw[hq,←zl4 (by omega),zly hL hs h60 q (by omega),hs q (by omega)];unfold yi;rw[←List.append_assoc,ziM,List.take_of_length_le (by unfold qZ at*;omega)]
  obtain ⟨r,hr⟩:=hq;obtain ⟨r2,hr2⟩:=zp9 hL (60 - qZ t) (qZ t) (by omega);rw[show qZ t+(60 - qZ t)=60 by omega] at hr2;rw[hr2,hr,List.append_assoc,List.take_left]
theorem zsU {L:List Bytes}{h:HdM}{i:Nat}(hi:i<2)(hL:2≤L.length)(hb:(zfH L).ep<h.ep)(ho:wD (yi (we h))=h):zfH (L.set i (yi (we h)))=h:=by
  rw[zhh,yM,yM];rw[zhh] at hb
  match i,hi with
  | 0,_=>
    rw[if_pos ⟨rfl,by omega⟩,if_neg (fun hc=>absurd hc.1 (by decide)),ho];exact zvk hb
  | 1,_=>
    rw[if_neg (fun hc=>absurd hc.1 (by decide)),if_pos ⟨rfl,by omega⟩,ho];exact zuY hb
theorem ztt {L:List Bytes}{h:HdM}{r0:List ChangeM}{ds:Deeds}{used:Nat}(g:Good L h r0 ds used)(hL:196≤L.length∧L.length≤260)(hep:h.ep≤1000000)(hfi:h.first≤900000000)(hnb:∀m,122≤m→m<L.length→zob (h.first+(L.length - 122)) (L.getD m [])):
    Good ((zav L (ckW (1 - h.side) (yv (cur r0 ds)) 0 (qZ (yv (cur r0 ds))))).set ((h.ep+1) % 2) (yi (we (nxH h (cur r0 ds) (L.length - 122))))) (nxH h (cur r0 ds) (L.length - 122)) (cur r0 ds) [] 0:=by
  have hc60:=zbS g.lenC g.okC;have hal:=zcO g.okC;have hlc:=g.lenC;have hs:=g.side;generalize hL2:zav L (ckW (1 - h.side) (yv (cur r0 ds)) 0 (qZ (yv (cur r0 ds))))=L2;have hl2:L2.length=L.length:=(by rw[←hL2,zay]);have hat:∀m,L2.getD m []=if 2+(1 - h.side)*60≤m∧m<2+(1 - h.side)*60+qZ (yv (cur r0 ds))∧m<L.length then yi (wA (yv (cur r0 ds)) (m - (2+(1 - h.side)*60))) else L.getD m []:=fun m=>by rw[←hL2,zs4];rfl
  have hho:wD (yi (we (nxH h (cur r0 ds) (L.length - 122))))=nxH h (cur r0 ds) (L.length - 122):=ziv (by simp only[nxH];omega) (by simp only[nxH];omega) (by simp only[nxH];omega) (by have:=g.first;simp only[nxH];omega);have hset:∀m,2≤m→(L2.set ((h.ep+1) % 2) (yi (we (nxH h (cur r0 ds) (L.length - 122))))).getD m []=L2.getD m []:=fun m hm=>(by rw[yM,if_neg (by omega)]);have hbest:zfH L2=h:=(znO (by rw[hat,if_neg (by omega)]) (by rw[hat,if_neg (by omega)])).trans g.best;refine ⟨zsU (by omega) (by omega) (by rw[hbest];simp only[nxH];omega) hho,by simp only[nxH];omega,by simp only[nxH];omega,by have:=g.first;simp only[nxH];omega,rfl,?_,g.srtC,g.okC,g.lenC,?_,(fun d hd=>by cases hd),(fun d hd=>by cases hd),fun k=>by rw[List.take_nil];exact g.lenC⟩
  · show (txK _ (1 - h.side) 60).take (yv (cur r0 ds)).length=_;refine zya (by rw[List.length_set];omega) (fun k hk=>?_) hc60;rw[hset _ (by omega),hat,if_pos ⟨by omega,by omega,by omega⟩,Nat.add_sub_cancel_left]
  · rw[List.length_set,hl2];have h0:zf7 (L2.set ((h.ep+1) % 2) (yi (we (nxH h (cur r0 ds) (L.length - 122))))) 122 0=L.getD 122 []:=by
      show List.getD _ _ _=_;rw[hset _ (by omega),hat,if_neg (by omega)]
    obtain ⟨m,hm⟩:∃m,L.length - 122=m+1:=⟨L.length - 123,by omega⟩;rw[show L.length - 122=m+1 from hm];refine zhR ?_;show zaK (h.first+(m+1)+0) (zf7 _ 122 0)=none;rw[←hm,h0];exact hnb 122 (Nat.le_refl _) (by omega) _ (by omega) (by omega)
theorem zvJ {h:HdM}{t:Bytes}{L:List Bytes}(hc:qZ t≤60):∀x∈ckW (1 - h.side) t 0 (qZ t),okP (fun m s=>(m<2+(1 - h.side)*60∨2+(1 - h.side)*60+60≤m)→s=L.getD m []) x:=by
  have:∀(f k:Nat),k+f≤60→∀x∈ckW (1 - h.side) t k f,okP (fun m s=>(m<2+(1 - h.side)*60∨2+(1 - h.side)*60+60≤m)→s=L.getD m []) x:=by
    intro f
    induction f with
    | zero=>intro k _ x hx;simp[ckW] at hx
    | succ f ih=>
      intro k hk x hx;rw[ckW] at hx;rcases List.mem_cons.1 hx with rfl | hx
      · intro hm;simp only at hm;omega
      · exact ih (k+1) (by omega) x hx
  exact this _ 0 (by omega)
theorem zpX {L L':List Bytes}{h:HdM}{r0:List ChangeM}{ds:Deeds}{used:Nat}(g:Good L h r0 ds used)(hl:L'.length=L.length)(h122:122≤L.length)(hP:∀m,(m<2+(1 - h.side)*60∨2+(1 - h.side)*60+60≤m)→L'.getD m []=L.getD m []):Good L' h r0 ds used:=by
  have hs:=g.side;refine zrH g hl h122 (fun m hm=>hP m (by omega)) (fun m h1 h2=>hP m ?_) (fun m hm=>hP m (by omega));have:h.side=0∨h.side=1:=(by omega);rcases this with e | e <;> rw[e] at h1 h2 ⊢ <;> omega
theorem zo5 {many first used:Nat}:∀(c:List ChangeM) (k:Nat),used+k+c.length≤many→first+many≤4294967296→∀x∈zfN 122 first used k c,okP (fun m s=>122≤m∧zob (first+many) s) x
  | [],k,_,_,x,h=>by simp[zfN] at h
  | y::c,k,hk,hf,x,h=>by
    rw[zfN] at h;simp only[List.length_cons] at hk;rcases List.mem_cons.1 h with rfl | h
    · exact ⟨by simp only;omega,zkB (by omega) hf⟩
    · exact zo5 c (k+1) (by omega) hf x h
theorem zu6 {many first used:Nat}{c:List ChangeM}(hu:used+c.length+1≤many)(hf:first+many≤4294967296):∀x∈zfC 122 many first used c,okP (fun m s=>122≤m∧zob (first+many) s) x:=by
  intro x hx;unfold zfC zia at hx;simp only[List.mem_append,List.mem_cons,List.not_mem_nil,or_false] at hx;rcases hx with (hx | hx) | rfl | rfl | rfl
  · exact zo5 c 0 (by omega) hf x hx
  · unfold zjV at hx;split at hx
    · simp only[List.mem_singleton] at hx;subst hx;exact ⟨by simp only;omega,zis _⟩
    · simp at hx
  · trivial
  · exact ⟨by simp only;omega,zkB (by omega) hf⟩
  · trivial
theorem zgY {r0:List ChangeM}{ds:Deeds}{c:List ChangeM}(h:∀k,((ds.take k).foldl zaG r0).length≤80)(hc:(zaG (cur r0 ds) c).length≤80):∀k,(((ds++ [c]).take k).foldl zaG r0).length≤80:=fun k=>by
  rcases Nat.lt_or_ge ds.length k with hk | hk
  · rw[List.take_of_length_le (by simp;omega),show (ds++ [c]).foldl zaG r0=zaG (cur r0 ds) c from zgp r0 ds c];exact hc
  · rw[List.take_append_of_le_length hk];exact h k
theorem zdS {α:Type}{p:α→Prop}{l:List α}{c:α}(h:∀d∈l,p d)(hc:p c):∀d∈l++ [c],p d:=fun d hd=>by
  rcases List.mem_append.1 hd with hd | hd
  · exact h d hd
  · rw[List.mem_singleton] at hd;rw[hd];exact hc
structure Inv (N:Nat) (D:DiskM) (h:HdM) (r0:List ChangeM) (ds:Deeds) (used:Nat):Prop where
  len:D.now.length=N
  big:196≤N∧N≤260
  good:Good D.now h r0 ds used
  num:∀m,122≤m→m<N→zob (h.first+(N - 122)) (D.now.getD m [])
theorem Inv.used_le {N:Nat}{D:DiskM}{h:HdM}{r0:List ChangeM}{ds:Deeds}{used:Nat}(I:Inv N D h r0 ds used):used≤N - 122:=by
  have:=zkd I.good.log;rw[I.len] at this;exact this
theorem Inv.now {N:Nat}{D D':DiskM}{h:HdM}{r0:List ChangeM}{ds:Deeds}{used:Nat}(I:Inv N D h r0 ds used)(hn:D'.now=D.now):Inv N D' h r0 ds used:=⟨by rw[hn];exact I.len,I.big,by rw[hn];exact I.good,by rw[hn];exact I.num⟩
theorem zjG (h:HdM)(t:Bytes)(L:List Bytes):zav L (ckL h t)=(zav L (ckW h.side t 0 (qZ t))).set (h.ep % 2) (yi (we h)):=by unfold ckL;rw[za6];rfl
theorem Inv.new {N:Nat}{D D1:DiskM}{h:HdM}{r0:List ChangeM}{ds:Deeds}{used:Nat}(I:Inv N D h r0 ds used)(hep:h.ep≤1000000)(hf:h.first≤900000000)(hn:D1.now=zav D.now (ckL (nxH h (cur r0 ds) (N - 122)) (yv (cur r0 ds)))):
    Inv N D1 (nxH h (cur r0 ds) (N - 122)) (cur r0 ds) [] 0:=by
  have hl:=I.len;have g:=ztt I.good (by rw[hl];exact I.big) hep hf (by rw[hl];exact I.num);rw[hl] at g;rw[zjG] at hn;have hc60:=zbS I.good.lenC I.good.okC;refine ⟨by rw[hn,List.length_set,zay,hl],I.big,by rw[hn];exact g,fun m h1 h2=>?_⟩;rw[hn,yM,if_neg (by simp only[nxH];omega),zs4,if_neg (by simp only[nxH];omega)];exact zp1 (I.num m h1 h2) (by simp only[nxH];omega)
theorem zvI {N:Nat}{D:DiskM}{h:HdM}{r0:List ChangeM}{ds:Deeds}{used:Nat}(hu:upW D)(I:Inv N D h r0 ds used)(hep:h.ep≤1000000)(hf:h.first≤900000000):
    ∃D1,wg D (ckL (nxH h (cur r0 ds) (N - 122)) (yv (cur r0 ds)))=(0,D1)∧upW D1∧Inv N D1 (nxH h (cur r0 ds) (N - 122)) (cur r0 ds) [] 0:=by
  obtain ⟨r1,r2,r3⟩:=zeC _ D hu (by rw[I.len];exact zrB (h:=h) I.good.lenC I.good.okC I.big.1);exact ⟨_,Prod.ext r1 rfl,r2,I.new hep hf r3⟩
theorem zeU {first many:Nat}{sec:Nat→Bytes}{a b:Deeds}{u v:Nat}(h1:wd first sec many 0 [] [] 0=(a,u))(h2:wd first sec many 0 [] [] 0=(b,v)):a=b∧u=v:=by
  rw[h1] at h2;injection h2 with e1 e2;exact ⟨e1,e2⟩
theorem Inv.add {N:Nat}{D D1:DiskM}{h:HdM}{r0:List ChangeM}{ds ds':Deeds}{used used':Nat}(I:Inv N D h r0 ds used)(hl:D1.now.length=N)(hP:∀m,(m<122→D1.now.getD m []=D.now.getD m [])∧(122≤m→m<N→zob (h.first+(N - 122)) (D1.now.getD m [])))
    (hlog:wd h.first (zf7 D1.now 122) (N - 122) 0 [] [] 0=(ds',used')) (h1:∀d∈ds',d.length≤72) (h2:∀d∈ds',∀x∈d,zbt x=0) (h3:∀k,((ds'.take k).foldl zaG r0).length≤80):Inv N D1 h r0 ds' used':=by
  have hb:=I.big;have hs:=I.good.side;exact ⟨hl,I.big,zns I.good (by rw[hl,I.len]) (by rw[I.len];omega) (fun m hm=>(hP m).1 (by omega)) (fun m a b=>(hP m).1 (by omega)) (by rw[I.len];exact hlog) h1 h2 h3,fun m a b=>(hP m).2 a b⟩
theorem addP {N:Nat}{D:DiskM}{h:HdM}{r0:List ChangeM}{ds:Deeds}{used:Nat}{c:List ChangeM}(I:Inv N D h r0 ds used)(hf:h.first≤900000000)(hv:zgs (N - 122) used c=0):∀x∈zfC 122 (N - 122) h.first used c,okP (fun m s=>(m<122→s=D.now.getD m [])∧(122≤m→m<N→zob (h.first+(N - 122)) s)) x:=by
  obtain ⟨v1,v2,v3⟩:=zew hv;have hb:=I.big;intro x hx;have:=zu6 (many:=N - 122) (first:=h.first) (used:=used) (c:=c) (by omega) (by omega) x hx;cases x with
  | none=>trivial
  | some y=>exact ⟨fun hm=>absurd this.1 (by omega),fun _ _=>this.2⟩
theorem zw6 {N:Nat}{D:DiskM}{h:HdM}{r0:List ChangeM}{ds:Deeds}{used:Nat}{c:List ChangeM}(hu:upW D)(h80:∀x∈D.now,x.length=80)(I:Inv N D h r0 ds used)(hf:h.first≤900000000)(hv:zgs (N - 122) used c=0)(hfit:(zaG (cur r0 ds) c).length≤80):
    zgL 122 (N - 122) h.first used c D=0∧upW (zdd 122 (N - 122) h.first used c D)∧zhg 122 (N - 122) h.first used c D=used+c.length+1∧Inv N (zdd 122 (N - 122) h.first used c D) h r0 (ds++ [c]) (used+c.length+1):=by
  obtain ⟨v1,v2,v3⟩:=zew hv;have hb:=I.big;have hlog:=I.good.log;rw[I.len] at hlog;obtain ⟨a1,a2,a3,a4,a5⟩:=zyG hu h80 (by rw[I.len];omega) hv hlog;refine ⟨a1,a2,by unfold zhg;rw[if_pos a1],?_⟩;have hall:AllP (fun m s=>(m<122→s=D.now.getD m [])∧(122≤m→m<N→zob (h.first+(N - 122)) s)) {D with kept:=D.now,wait:=[]}:=AllP.calm rfl rfl fun m=>⟨fun _=>rfl,fun h1 h2=>I.num m h1 h2⟩;have hD:zdd 122 (N - 122) h.first used c D=(wg D (zfC 122 (N - 122) h.first used c)).2:=(by unfold zdd;rw[if_pos hv]);have hok:∀x∈zfC 122 (N - 122) h.first used c,zcm D.now.length x:=(by rw[I.len];exact zjF (by omega) hv);have hrn:=(zeC _ D hu hok).2.2;have hrn2:=(zeC _ ({D with kept:=D.now,wait:=[]}:DiskM) hu hok).2.2;have hP:=(hall.run (zfC 122 (N - 122) h.first used c) (addP I hf hv)).now;rw[hrn2] at hP;rw[←hrn,←hD] at hP;exact I.add (by rw[a4,I.len]) hP a5 (zdS I.good.lens v1) (zdS I.good.chk v3) (zgY I.good.fits hfit)
theorem cm0 {many:Nat}{rows c:List ChangeM}(h:cmV many rows c=0):c.length≤72∧zeh c=0∧(zaG rows c).length≤80∧c.length+1≤many:=by
  unfold cmV at h;split at h
  · cases h
  · split at h
    · rename_i h1 h2;exact absurd h h2
    · split at h
      · cases h
      · rename_i h1 h2 h3;exact ⟨by omega,by simpa using h2,by omega,by omega⟩
theorem zuh {N:Nat}{D:DiskM}{h:HdM}{r0:List ChangeM}{ds:Deeds}{used:Nat}{c:List ChangeM}{e:Int}{D2:DiskM}{h2:HdM}{used2:Nat}{rows2:List ChangeM}(hu:upW D)(hS:S80 D)(I:Inv N D h r0 ds used)(hep:h.ep≤1000000)(hf:h.first≤800000000)(hc:ztv D h (cur r0 ds) (N - 122) used c e D2 h2 used2 rows2):
    e=cmV (N - 122) (cur r0 ds) c∧upW D2∧S80 D2∧h2.ep≤h.ep+1∧h2.first≤h.first+N∧rows2=(if cmV (N - 122) (cur r0 ds) c=0 then zaG (cur r0 ds) c else cur r0 ds)∧
      used2=(if cmV (N - 122) (cur r0 ds) c=0 then (if N - 122 - used<c.length+1 then 0 else used)+c.length+1 else used)∧∃r0' ds',Inv N D2 h2 r0' ds' used2∧cur r0' ds'=rows2:=by
  have hb:=I.big;rcases hc with ⟨hne,rfl,rfl,rfl,rfl,rfl⟩ | ⟨h0,e1,D1,h1,used1,hmid,hrest⟩
  · exact ⟨rfl,hu,hS,by omega,by omega,by rw[if_neg hne],by rw[if_neg hne],r0,ds,I,rfl⟩
  · obtain ⟨c1,c2,c3,c4⟩:=cm0 h0;have hm:e1=0∧upW D1∧S80 D1∧h1.ep≤h.ep+1∧h1.first≤h.first+N∧used1=(if N - 122 - used<c.length+1 then 0 else used)∧∃r1 d1,Inv N D1 h1 r1 d1 used1∧cur r1 d1=cur r0 ds:=by
      rcases hmid with ⟨hroom,hrun,hck⟩ | ⟨hroom,rfl,rfl,rfl,rfl⟩
      · obtain ⟨D1',hr1,hu1,I1⟩:=zvI hu I hep (by omega);rw[hr1] at hrun;injection hrun with q1 q2;subst q1 q2;have h80:=zen _ D hS (zrB (h:=h) I.good.lenC I.good.okC I.big.1);rw[hr1] at h80;rcases hck with ⟨hx,_⟩ | ⟨_,rfl,hu1',d',hsc⟩
        · exact absurd rfl hx
        · have hlog:=I1.good.log;rw[I1.len] at hlog;have:=(zeU hsc hlog).2;subst this;exact ⟨rfl,hu1,h80,by simp only[nxH];omega,by simp only[nxH];omega,by rw[if_pos hroom],_,_,I1,rfl⟩
      · exact ⟨rfl,hu,hS,by omega,by omega,by rw[if_neg hroom],r0,ds,I,rfl⟩
    obtain ⟨rfl,hu1,hS1,m1,m2,m3,r1,d1,I1,hcur⟩:=hm;rcases hrest with ⟨hx,_⟩ | ⟨_,rfl,rfl,rfl,rfl,rfl⟩
    · exact absurd rfl hx
    · have hv:zgs (N - 122) used1 c=0:=(by rw[zlL c1 (by rw[m3];split <;> omega)];exact c2);obtain ⟨a1,a2,a3,a4⟩:=zw6 (c:=c) hu1 hS1.2.1 I1 (by omega) hv (by rw[hcur];exact c3);refine ⟨by rw[a1,h0],a2,zqq hS1 (N:=N) (by omega),m1,m2,by rw[if_pos a1,if_pos h0],by rw[a3,if_pos h0,m3],r1,d1++ [c],by rw[a3];exact a4,?_⟩;rw[if_pos a1,zgp,hcur]
theorem zr5 {N i:Nat}{D:DiskM}(h:okW N i D)(from_ many first used:Nat)(c:List ChangeM):okW N (i+200) (zdd from_ many first used c D):=by
  unfold zdd;split
  · rename_i hv;obtain ⟨h1,_,_⟩:=zew hv;refine zaW (za4 _ _ _ h) ?_;have:=znX from_ many first used c
    simp only[zfC,List.length_append,List.length_cons,List.length_nil];omega
  · exact zaW h (by omega)
theorem zuw {N i:Nat}{D:DiskM}{h:HdM}{r0:List ChangeM}{ds:Deeds}{used:Nat}{c:List ChangeM}{e:Int}{D2:DiskM}{h2:HdM}{used2:Nat}{rows2:List ChangeM}(hok:okW N i D)(hS:S80 D)(I:Inv N D h r0 ds used)(hc:ztv D h (cur r0 ds) (N - 122) used c e D2 h2 used2 rows2):okW N (i+263) D2:=by
  rcases hc with ⟨_,_,rfl,_⟩ | ⟨_,e1,D1,h1,used1,hmid,hr⟩
  · exact zaW hok (by omega)
  · have hm:=(zqc hmid hok hS I.good.lenC I.good.okC I.big.1 I.used_le).1;rcases hr with ⟨_,_,rfl,_⟩ | ⟨_,_,rfl,_⟩
    · exact zaW hm (by omega)
    · exact zaW (zr5 hm _ _ _ _ _) (by omega)
theorem zny:∀(k:Nat) (L:List Bytes) (m:Nat),(zav L (fmW k)).getD m []=if (m=0∨(122≤m∧m<122+k))∧m<L.length then yi [] else L.getD m []
  | 0,L,m=>by
    show (L.set 0 (yi [])).getD m []=_;rw[yM];by_cases h:m=0
    · subst h;by_cases h2:0<L.length
      · rw[if_pos ⟨rfl,h2⟩,if_pos ⟨.inl rfl,h2⟩]
      · rw[if_neg (fun hc=>h2 hc.2),if_neg (fun hc=>h2 hc.2)]
    · rw[if_neg (fun hc=>h hc.1.symm),if_neg (by omega)]
  | k+1,L,m=>by
    rw[fmW,za6];show ((zav L (fmW k)).set (122+k) (yi [])).getD m []=_;rw[yM,zay,zny k L m];by_cases h:122+k=m∧122+k<L.length
    · rw[if_pos h,if_pos ⟨.inr (by omega),by omega⟩]
    · rw[if_neg h];by_cases h2:(m=0∨(122≤m∧m<122+k))∧m<L.length
      · rw[if_pos h2,if_pos ⟨by omega,h2.2⟩]
      · rw[if_neg h2,if_neg (by omega)]
theorem zue {N:Nat}(hN:196≤N):∀k,122+k≤N→∀x∈fmW k,zcm N x
  | 0,_,x,h=>by
    rw[fmW,List.mem_singleton] at h;subst h;exact ⟨by simp only;omega,by simp⟩
  | k+1,hk,x,h=>by
    rw[fmW] at h;rcases List.mem_append.1 h with h | h
    · exact zue hN k (by omega) x h
    · rw[List.mem_singleton] at h;subst h;exact ⟨by simp only;omega,by simp⟩
theorem zkt {N:Nat}(hN:196≤N):∀x∈fmL N,zcm N x:=fun x hx=>by
  unfold fmL fmT at hx;simp only[List.mem_append,List.mem_cons,List.not_mem_nil,or_false] at hx;rcases hx with hx | rfl | rfl | rfl
  · exact zue hN _ (by omega) x hx
  · trivial
  · exact ⟨by simp only;omega,by rw[zhp];decide⟩
  · trivial
theorem zlC:wD (yi [])=HdM.no:=by
  unfold wD;rw[if_pos];left;decide
theorem zto {L:List Bytes}(hN:196≤L.length):Good (zav L (fmL L.length)) hd1 [] [] 0:=by
  have e:zav L (fmL L.length)=(zav L (fmW (L.length - 122))).set 1 (yi (we hd1)):=(by unfold fmL;rw[za6];rfl);rw[e];have hat:=zny (L.length - 122) L;have hl:(zav L (fmW (L.length - 122))).length=L.length:=zay ..;generalize zav L (fmW (L.length - 122))=M at hat hl ⊢;have hh:wD (yi (we hd1))=hd1:=ziv (by decide) (by decide) (by decide) (by decide);refine ⟨?_,by decide,by decide,by decide,rfl,?_,List.Pairwise.nil,(fun r hr=>by cases hr),by decide,?_,(fun d hd=>by cases hd),(fun d hd=>by cases hd),fun k=>by rw[List.take_nil];decide⟩
  · rw[zhh,yM,yM,if_neg (fun hc=>absurd hc.1 (by decide)),if_pos ⟨rfl,by omega⟩,hat,if_pos ⟨.inl rfl,by omega⟩,zlC,hh]
    rfl
  · show List.take 0 _=_
    rfl
  · rw[List.length_set,hl];obtain ⟨m,hm⟩:∃m,L.length - 122=m+1:=⟨L.length - 123,by omega⟩;rw[hm];refine zhR ?_;show zaK _ ((M.set 1 (yi (we hd1))).getD (122+0) [])=none;rw[yM,if_neg (by omega),hat,if_pos ⟨.inr (by omega),by omega⟩];exact zcC _
theorem zqW {N:Nat}{D D1:DiskM}(hN:196≤N∧N≤260)(hl:D.now.length=N)(hn:D1.now=zav D.now (fmL N)):Inv N D1 hd1 [] [] 0:=by
  have e:zav D.now (fmL N)=(zav D.now (fmW (N - 122))).set 1 (yi (we hd1)):=(by unfold fmL;rw[za6];rfl);have g:=zto (L:=D.now) (by rw[hl];exact hN.1);rw[hl] at g;refine ⟨by rw[hn,zay,hl],hN,by rw[hn];exact g,fun m h1 h2=>?_⟩;rw[hn,e,yM,if_neg (by omega),zny,if_pos ⟨.inr (by omega),by omega⟩];exact zis _
theorem zjp {N:Nat}:∀(l:List Stp) {D:DiskM},D.now.length=N→D.kept.length=N→(wg D l).2.now.length=N∧(wg D l).2.kept.length=N
  | [],D,h1,h2=>⟨h1,h2⟩
  | x::l,D,h1,h2=>by
    have hs:(stD D x).now.length=N∧(stD D x).kept.length=N:=by
      cases x with
      | none=>
        show (yx D).now.length=N∧(yx D).kept.length=N;unfold yx;split <;> simp[zaO,wB,wb,h1,h2]
      | some z=>
        show (yy D z.1 z.2).now.length=N∧(yy D z.1 z.2).kept.length=N;unfold yy;split
        · exact ⟨h1,h2⟩
        · split <;> simp[ww,wB,wb,h1,h2]
    by_cases h0:stE D x=0
    · rw[zcu h0];exact zjp l hs.1 hs.2
    · rw[zbu h0];exact hs
theorem zkO {l:List Stp}{D D2:DiskM}(ho:∀x∈l,zcm D.now.length x)(h:wg D (l++ [none])=(0,D2)):calm D2∧D2.now=zav D.now l:=by
  cases h1:wg D l with
  | mk e1 D1=>
    by_cases he:e1=0
    · subst he;rw[zbE h1] at h;injection h with q1 q2;have hc:=zbG (D:=D1) q1;rw[←q2];exact ⟨hc.1,hc.2.trans (zjS l ho h1)⟩
    · rw[zbF h1 he] at h;injection h with q1 _;exact absurd q1 he
def Cal (N:Nat)(D:DiskM)(h:HdM)(r0:List ChangeM)(ds:Deeds)(used:Nat):Prop:=calm D∧Inv N D h r0 ds used∧zjc 122 (N - 122) h.first D.now ds used
def Fell (N:Nat)(D:DiskM)(E Fi:Nat)(φ:List ChangeM→Prop):Prop:=∀keep,∃h r0 ds used,Inv N (zar keep D) h r0 ds used∧φ (cur r0 ds)∧h.ep≤E∧h.first≤Fi∧zjc 122 (N - 122) h.first (zam keep D) ds used
theorem ztB {B j first:Nat}{s:Bytes}(h:zob B s)(h1:B≤first+j)(h2:first+j<4294967296):¬zkP first j s:=fun ⟨t,ht⟩=>by rw[h _ h1 h2] at ht;cases ht
theorem znE {N:Nat}{D D1:DiskM}{h:HdM}{r0:List ChangeM}{ds:Deeds}{used:Nat}(I:Inv N D h r0 ds used)(hf:h.first≤900000000)(hn:D1.now=zav D.now (ckL (nxH h (cur r0 ds) (N - 122)) (yv (cur r0 ds))))(I1:Inv N D1 (nxH h (cur r0 ds) (N - 122)) (cur r0 ds) [] 0):zjc 122 (N - 122) (nxH h (cur r0 ds) (N - 122)).first D1.now [] 0:=by
  have hlg:=I1.good.log;rw[I1.len] at hlg;have hb:=I.big;have hc60:=zbS I.good.lenC I.good.okC;refine ⟨hlg,fun j _ hj=>?_⟩;have e:zf7 D1.now 122 j=D.now.getD (122+j) []:=by
    show List.getD _ _ _=_;rw[hn,zjG,yM,if_neg (by simp only[nxH];omega),zs4,if_neg (by simp only[nxH];omega)]
  rw[e];exact ztB (I.num (122+j) (by omega) (by omega)) (by simp only[nxH];omega) (by simp only[nxH];omega)
theorem zjh {N:Nat}{D:DiskM}{h:HdM}{r0:List ChangeM}{ds:Deeds}{used:Nat}(hq:calm D)(I:Inv N D h r0 ds used)(hsf:zjc 122 (N - 122) h.first D.now ds used)(hep:h.ep≤1000000)(hf:h.first≤900000000){e:Int}{D1:DiskM}(hr:wg D (ckL (nxH h (cur r0 ds) (N - 122)) (yv (cur r0 ds)))=(e,D1)):
    (e=0∧Cal N D1 (nxH h (cur r0 ds) (N - 122)) (cur r0 ds) [] 0)∨(e=9∧Fell N D1 (h.ep+1) (h.first+N) (fun x=>x=cur r0 ds)):=by
  have hb:=I.big;have hl:=I.len;have hs:=I.good.side;have hc60:=zbS I.good.lenC I.good.okC;have hokA:∀x∈ckL (nxH h (cur r0 ds) (N - 122)) (yv (cur r0 ds)),zcm D.now.length x:=(by rw[hl];exact zrB (h:=h) I.good.lenC I.good.okC hb.1);have hall:AllP (fun m s=>(m<2+(1 - h.side)*60∨2+(1 - h.side)*60+60≤m)→s=D.now.getD m []) D:=AllP.calm hq.1 hq.2.1 fun m _=>rfl;have invH:∀D':DiskM,D'.now.length=N→(∀m,(m<2+(1 - h.side)*60∨2+(1 - h.side)*60+60≤m)→D'.now.getD m []=D.now.getD m [])→Inv N D' h r0 ds used:=fun D' hl' hP=>
    ⟨hl',hb,zpX I.good (by rw[hl',hl]) (by rw[hl];omega) hP,fun m h1 h2=>by rw[hP m (by omega)];exact I.num m h1 h2⟩
  have e0:ckL (nxH h (cur r0 ds) (N - 122)) (yv (cur r0 ds))=(ckW (1 - h.side) (yv (cur r0 ds)) 0 (qZ (yv (cur r0 ds)))++ [none])++ [some ((h.ep+1) % 2,we (nxH h (cur r0 ds) (N - 122))),none]:=(by rw[List.append_assoc];rfl);have hokW:∀x∈ckW (1 - h.side) (yv (cur r0 ds)) 0 (qZ (yv (cur r0 ds))),zcm D.now.length x:=fun x hx=>hokA x (by rw[e0];simp[hx]);have fell:∀D':DiskM,(∀keep,∃h' r0' ds' used',Inv N (zar keep D') h' r0' ds' used'∧cur r0' ds'=cur r0 ds∧h'.ep≤h.ep+1∧h'.first≤h.first+N∧zjc 122 (N - 122) h'.first (zam keep D') ds' used')→Fell N D' (h.ep+1) (h.first+N) (fun x=>x=cur r0 ds):=fun D' H=>H;have sOld:∀K:List Bytes,(∀m,(m<2+(1 - h.side)*60∨2+(1 - h.side)*60+60≤m)→K.getD m []=D.now.getD m [])→zjc 122 (N - 122) h.first K ds used:=fun K hK=>
    zmn hsf (fun j _=>hK (122+j) (by omega)) (fun j _ _=> .inl (hK (122+j) (by omega)))
  have old:∀D':DiskM,(∀keep,(zam keep D').length=N∧∀m,(m<2+(1 - h.side)*60∨2+(1 - h.side)*60+60≤m)→(zam keep D').getD m []=D.now.getD m [])→Fell N D' (h.ep+1) (h.first+N) (fun x=>x=cur r0 ds):=fun D' H=>
    fell D' fun keep=>⟨h,r0,ds,used,invH (zar keep D') (H keep).1 (H keep).2,rfl,by omega,by omega,sOld _ (H keep).2⟩
  rw[e0] at hr;cases hr1:wg D (ckW (1 - h.side) (yv (cur r0 ds)) 0 (qZ (yv (cur r0 ds)))++ [none]) with
  | mk e1 D2=>
    have hP2:=hall.run (ckW (1 - h.side) (yv (cur r0 ds)) 0 (qZ (yv (cur r0 ds)))++ [none]) (fun x hx=>by
      rcases List.mem_append.1 hx with hx | hx
      · exact zvJ hc60 x hx
      · rw[List.mem_singleton] at hx;subst hx;trivial)
    have hln:=zjp (ckW (1 - h.side) (yv (cur r0 ds)) 0 (qZ (yv (cur r0 ds)))++ [none]) hl (by rw[hq.1];exact hl);have he9:=zx8 (ckW (1 - h.side) (yv (cur r0 ds)) 0 (qZ (yv (cur r0 ds)))++ [none]) D (fun x hx=>hokA x (by rw[e0];exact List.mem_append_left _ hx));rw[hr1] at hP2 hln he9;simp only at hP2 hln he9;by_cases he:e1=0
    · subst he;obtain ⟨hq2,hn2⟩:=zkO hokW hr1;rw[zt6 hr1] at hr;have hbad:¬zh5 D2 (((h.ep+1) % 2:Nat):Int) (we (nxH h (cur r0 ds) (N - 122))):=(by unfold zh5;rw[zhp,hln.1];omega);by_cases h0:yV D2=0
      · have hwe:yO D2 (((h.ep+1) % 2:Nat):Int) (we (nxH h (cur r0 ds) (N - 122)))=0:=(by unfold yO;rw[if_neg hbad,h0]);have hwd:yy D2 (((h.ep+1) % 2:Nat):Int) (we (nxH h (cur r0 ds) (N - 122)))=ww (yZ D2) (((h.ep+1) % 2:Nat):Int) (we (nxH h (cur r0 ds) (N - 122))):=(by unfold yy;rw[if_neg hbad,if_pos h0]);rw[zft hwe,hwd] at hr;generalize hD3:ww (yZ D2) (((h.ep+1) % 2:Nat):Int) (we (nxH h (cur r0 ds) (N - 122)))=D3 at hr;have k3:D3.kept=D2.now:=(by rw[←hD3,←hq2.1];exact wb D2);have n3:D3.now=zav D.now (ckL (nxH h (cur r0 ds) (N - 122)) (yv (cur r0 ds))):=by
          rw[←hD3,zjG];show (yZ D2).now.set ((((h.ep+1) % 2:Nat):Int)).toNat _=_;rw[wB,Int.toNat_natCast,hn2]
          rfl
        have w3:D3.wait=[((h.ep+1) % 2,yi (we (nxH h (cur r0 ds) (N - 122))))]:=by
          rw[←hD3];show (yZ D2).wait++_=_;rw[ws,hq2.2.1,Int.toNat_natCast]
          rfl
        have hkn:D2.now.set ((h.ep+1) % 2) (yi (we (nxH h (cur r0 ds) (N - 122))))=zav D.now (ckL (nxH h (cur r0 ds) (N - 122)) (yv (cur r0 ds))):=(by rw[zjG,hn2];rfl);by_cases h3:yV D3=0
        · rw[zdi h3,zfh] at hr;injection hr with q1 q2;have hfc:=zbG h3;left;rw[←q2];have I1:=I.new (D1:=yx D3) hep hf (hfc.2.trans n3);exact ⟨q1.symm,hfc.1,I1,znE I hf (hfc.2.trans n3) I1⟩
        · rw[zcH h3] at hr;injection hr with q1 q2;have h9:yV D3=9:=(zae D3).resolve_left h3;right;refine ⟨by rw[←q1,h9],fell D1 fun keep=>?_⟩;have k4:D1.kept=D2.now:=(by rw[←q2];unfold yx;rw[if_neg h3,wb,k3]);have w4:D1.wait=[((h.ep+1) % 2,yi (we (nxH h (cur r0 ds) (N - 122))))]:=(by rw[←q2];unfold yx;rw[if_neg h3,ws,w3]);have hrl:zam keep D1=if kb keep 0=true then D2.now.set ((h.ep+1) % 2) (yi (we (nxH h (cur r0 ds) (N - 122)))) else D2.now:=by
            unfold zam;rw[k4,w4]
            rfl
          by_cases hk:kb keep 0=true
          · rw[if_pos hk,hkn] at hrl;exact ⟨_,_,_,_,I.new (D1:=zar keep D1) hep hf hrl,rfl,by simp only[nxH];omega,by simp only[nxH];omega,znE (D1:=zar keep D1) I hf hrl (I.new (D1:=zar keep D1) hep hf hrl)⟩
          · rw[if_neg hk] at hrl;exact ⟨h,r0,ds,used,invH (zar keep D1) (by show (zam keep D1).length=N;rw[hrl];exact hln.1) (fun m hm=>by show (zam keep D1).getD m []=_;rw[hrl];exact hP2.now m hm),rfl,by omega,by omega,sOld _ (fun m hm=>by rw[hrl];exact hP2.now m hm)⟩
      · have hwe:yO D2 (((h.ep+1) % 2:Nat):Int) (we (nxH h (cur r0 ds) (N - 122)))=yV D2:=(by unfold yO;rw[if_neg hbad]);have hwd:yy D2 (((h.ep+1) % 2:Nat):Int) (we (nxH h (cur r0 ds) (N - 122)))=yZ D2:=(by unfold yy;rw[if_neg hbad,if_neg h0]);rw[zdH (by rw[hwe];exact h0),hwe,hwd] at hr;injection hr with q1 q2;have h9:yV D2=9:=(zae D2).resolve_left h0;right;refine ⟨by rw[←q1,h9],old D1 fun keep=>?_⟩;have hrl:zam keep D1=D2.now:=by
          rw[←q2];unfold zam;rw[wb,ws,hq2.2.1,hq2.1]
          rfl
        rw[hrl];exact ⟨hln.1,hP2.now⟩
    · rw[zbF hr1 he] at hr;injection hr with q1 q2;right;refine ⟨by rw[←q1];exact he9.resolve_left he,old D1 fun keep=>?_⟩;rw[←q2];exact ⟨by rw[zgG];exact hln.2,hP2.rest keep⟩
theorem zxF {N:Nat}{D:DiskM}{h:HdM}{r0:List ChangeM}{ds:Deeds}{used:Nat}{c:List ChangeM}(C:Cal N D h r0 ds used)(hf:h.first≤900000000)(hv:zgs (N - 122) used c=0)(hfit:(zaG (cur r0 ds) c).length≤80):
    (zgL 122 (N - 122) h.first used c D=0∧Cal N (zdd 122 (N - 122) h.first used c D) h r0 (ds++ [c]) (zhg 122 (N - 122) h.first used c D))∨
    (zgL 122 (N - 122) h.first used c D=9∧Fell N (zdd 122 (N - 122) h.first used c D) h.ep h.first (fun x=>x=cur r0 ds∨x=zaG (cur r0 ds) c)):=by
  obtain ⟨hq,I,hs⟩:=C;obtain ⟨v1,v2,v3⟩:=zew hv;have hb:=I.big;have hl:=I.len;cases hr:wg D (zfC 122 (N - 122) h.first used c) with
  | mk e D'=>
    have hE:zgL 122 (N - 122) h.first used c D=e:=(by unfold zgL;rw[if_pos hv,hr]);have hD:zdd 122 (N - 122) h.first used c D=D':=(by unfold zdd;rw[if_pos hv,hr]);have hall:AllP (fun m s=>(m<122→s=D.now.getD m [])∧(122≤m→m<N→zob (h.first+(N - 122)) s)) D:=AllP.calm hq.1 hq.2.1 fun m=>⟨fun _=>rfl,fun h1 h2=>I.num m h1 h2⟩;have hP:=hall.run (zfC 122 (N - 122) h.first used c) (addP I hf hv);have hln:=zjp (zfC 122 (N - 122) h.first used c) hl (by rw[hq.1];exact hl);rw[hr] at hP hln;simp only at hP hln;rw[hE,hD];rcases zpQ hq (by rw[hl];omega) hv hs hr with ⟨h0,h1,h2⟩ | ⟨h0,h1⟩
    · left;refine ⟨h0,h1,?_,?_⟩
      · rw[show zhg 122 (N - 122) h.first used c D=used+c.length+1 by unfold zhg;rw[hE,if_pos h0]];exact I.add hln.1 hP.now h2.1 (zdS I.good.lens v1) (zdS I.good.chk v3) (zgY I.good.fits hfit)
      · rw[show zhg 122 (N - 122) h.first used c D=used+c.length+1 by unfold zhg;rw[hE,if_pos h0]];exact h2
    · right;refine ⟨h0,fun keep=>?_⟩;obtain ⟨u,hu | hu⟩:=h1 keep
      · exact ⟨h,r0,ds,u,I.add (D1:=zar keep D') ((zgG keep D').trans hln.2) (hP.rest keep) hu.1 I.good.lens I.good.chk I.good.fits, .inl rfl,Nat.le_refl _,Nat.le_refl _,hu⟩
      · exact ⟨h,r0,ds++ [c],u,I.add (D1:=zar keep D') ((zgG keep D').trans hln.2) (hP.rest keep) hu.1 (zdS I.good.lens v1) (zdS I.good.chk v3) (zgY I.good.fits hfit), .inr (zgp r0 ds c),Nat.le_refl _,Nat.le_refl _,hu⟩
theorem zvn (many:Nat)(rows c:List ChangeM):cmV many rows c≠9:=by
  have hflt:∀(c:List ChangeM),zeh c=0∨zeh c=2∨zeh c=3:=by
    intro c
    induction c with
    | nil=>exact .inl rfl
    | cons x c ih=>
      unfold zeh;split
      · exact ih
      · unfold zbt;split;simp;split <;> simp
  unfold cmV;split
  · decide
  · split
    · rcases hflt c with h | h | h <;> rw[h] <;> decide
    · split <;> decide
theorem zr3 {N:Nat}{D:DiskM}{h:HdM}{r0:List ChangeM}{ds:Deeds}{used:Nat}(C:Cal N D h r0 ds used):Fell N D h.ep h.first (fun x=>x=cur r0 ds):=fun keep=>by
  obtain ⟨hq,I,hsafe⟩:=C;have e:zam keep D=D.now:=(by unfold zam;rw[hq.2.1,hq.1];rfl);exact ⟨h,r0,ds,used,I.now (D':=zar keep D) e,rfl,Nat.le_refl _,Nat.le_refl _,by rw[e];exact hsafe⟩
theorem Fell.mono {N:Nat}{D:DiskM}{E E' Fi Fi':Nat}{φ ψ:List ChangeM→Prop}(h:Fell N D E Fi φ)(h1:E≤E')(h2:Fi≤Fi')(h3:∀x,φ x→ψ x):Fell N D E' Fi' ψ:=fun keep=>by
  obtain ⟨h',r',d',u',i',p',e',f',s'⟩:=h keep;exact ⟨h',r',d',u',i',h3 _ p',by omega,by omega,s'⟩
theorem zwl {N i:Nat}{D:DiskM}{h:HdM}{r0:List ChangeM}{ds:Deeds}{used:Nat}{c:List ChangeM}{e:Int}{D2:DiskM}{h2:HdM}{used2:Nat}{rows2:List ChangeM}(hok:okW N i D)(hS:S80 D)(I:Inv N D h r0 ds used)(hc:ztv D h (cur r0 ds) (N - 122) used c e D2 h2 used2 rows2):S80 D2:=by
  have hb:=I.big;rcases hc with ⟨_,_,rfl,_⟩ | ⟨_,e1,D1,h1,used1,hmid,hr⟩
  · exact hS
  · have hm:=(zqc hmid hok hS I.good.lenC I.good.okC I.big.1 I.used_le).2.1;rcases hr with ⟨_,_,rfl,_⟩ | ⟨_,_,rfl,_⟩
    · exact hm
    · exact zqq hm (N:=N) (by omega)
theorem zui {N i:Nat}{D:DiskM}{h:HdM}{r0:List ChangeM}{ds:Deeds}{used:Nat}{e:Int}{D1:DiskM}(hok:okW N i D)(hS:S80 D)(I:Inv N D h r0 ds used)(hr:wg D (ckL (nxH h (cur r0 ds) (N - 122)) (yv (cur r0 ds)))=(e,D1)):okW N (i+63) D1∧S80 D1:=by
  have h1:=za4 (ckL (nxH h (cur r0 ds) (N - 122)) (yv (cur r0 ds))) i D hok;have h2:=zen _ D hS (zrB (h:=h) I.good.lenC I.good.okC I.big.1);have hc:=zbS I.good.lenC I.good.okC;rw[hr,zpn] at h1;rw[hr] at h2;exact ⟨zaW h1 (by omega),h2⟩
theorem zu8 {N:Nat}{D D1:DiskM}(hN:196≤N∧N≤260)(hl:D.now.length=N)(hr:wg D (fmL N)=(0,D1)):Cal N D1 hd1 [] [] 0:=by
  have e:fmL N=(fmW (N - 122)++ [none,some (1,we hd1)])++ [none]:=(by unfold fmL fmT;rw[List.append_assoc];rfl);have hok:=zkt hN.1;have hr2:=hr;rw[e] at hr2;have hf:=zkO (D:=D) (fun x hx=>by rw[hl];exact hok x (by rw[e];exact List.mem_append_left _ hx)) hr2;have hn:=zjS (fmL N) (D:=D) (by rw[hl];exact hok) hr;have I:=zqW hN hl hn;have hlg:=I.good.log;rw[I.len] at hlg;refine ⟨hf.1,I,hlg,fun j _ hj=>?_⟩;have e2:zav D.now (fmL N)=(zav D.now (fmW (N - 122))).set 1 (yi (we hd1)):=(by unfold fmL;rw[za6];rfl);have e3:zf7 D1.now 122 j=yi []:=by
    show List.getD _ _ _=_;rw[hn,e2,yM,if_neg (by omega),zny,if_pos ⟨.inr (by omega),by omega⟩]
  rw[e3];rintro ⟨t,ht⟩;rw[zcC] at ht;cases ht
open _root_.Go.Proofs.Tryz
def zmM (p:PutM):Bool:=decide (p.data.length≤20)
def zfx (x:ActM):Bool:=(decide (x.s.length≤100) && decide (x.puts.length≤24) && zde x.changes 90) && x.puts.all zmM
def zbY (l:List ActM)(most:Int):Bool:=decide ((l.length:Int)≤most) && l.all zfx
theorem zh3 (l:List ActM)(f:Nat→ActZ)(s:Option Addr)(cap:Nat)(most:Int)(hl:l.length≤9223372036854775807)(hls:∀x∈l,x.puts.length≤9223372036854775807∧x.changes.length≤9223372036854775807)(F:List HProp):Ct Tryz.prog 19 [sl s l.length cap,I most] ([acts s l f]++F) (R1 (Bo (zbY l most)) (acts s l f::F)):=by
  show Ct Tryz.prog 19 [sl s l.length cap,I most] (acts s l f::F) _;refine Ct.of func19 rR 63 ntmps19 (by simp) fun w0=>?_;refine gS (gA rR (qb (qf (gS (gM rR (g_v (yo underlying22 rR) rR (gM rR (g_v (yA rR rR) rR (qb ?_)))))))));refine qg rR (fun h10=>?_) (fun h10=>?_)
  · simp at h10;refine gS (gA rR (qb ?_));refine qn rR rR ?_;show Bo false=_;rw[show zbY l most=false by unfold zbY;rw[decide_eq_false (by omega)];rfl]
  · simp at h10;refine qh (qf (gS (gA rR (qb (qj ?_)))));refine qE (α:=Nat) (fun k=>k≤l.length∧(l.take k).all zfx=true) (fun k=>U [(0,sl s l.length cap),(5,I k)]) (fun _=>acts s l f::F) (fun k=>l.length - k) 0 (by simp) [0,5] rfl rR ?_;rintro k ⟨hk,hall⟩;refine qf (gS (gM rR (gM rR (g_v (yo underlying22 rR) rR (g_v (qJ rR rR) rR (qb ?_))))));refine qg rR (fun h14=>?_) (fun h14=>?_)
    · simp at h14;have hkn:k<l.length:=(by omega);obtain ⟨x,hx⟩:∃x,l[k]? =some x:=⟨_,List.getElem?_eq_getElem hkn⟩;have hkr:k<(zoT l f).length:=(by rw[zmO];exact hkn);have hb:=hls x (List.mem_of_getElem? hx);refine qh (qf (qj (qf (qf ?_))));refine zkw s l f k hx ?_;refine qo (gM rR (gM rR (g_v (qA k underlying22 sizeOf58 rR rR rR hkn hkr) rR (g_v (ye (j:=k) 1 underlying58 rR rR sizeOf9 (by decide) rR hkr) rR (g_v (wC (v:=Str x.s) isAgg9 rR (zcR hx) rR) rR (g_v (wi underlying9 rR) rR (g_v (yA rR rR) rR (gM rR (qK rR rR (fun hg=>qp rR) rR rR (qK rR rR (fun hg=>qp rR) rR rR (qK rR rR (fun hg=>qA k underlying22 sizeOf58 rR rR rR hkn hkr) rR rR (qK rR rR (fun hg=>ye (j:=k) 7 underlying58 rR rR sizeOf23 (by decide) rR hkr) rR rR (qK rR rR (fun hg=>wC (v:=sl (f k).1.1 x.puts.length (f k).1.2) isAgg23 rR (zcR hx) rR) rR rR (qK rR rR (fun hg=>yo underlying23 rR) rR rR (qK rR rR (fun hg=>yA rR rR) rR rR (g_v (zaH rR rR) rR (gM rR (qK rR rR (fun hg=>qp rR) rR rR (qK rR rR (fun hg=>qp rR) rR rR (qK rR rR (fun hg=>qA k underlying22 sizeOf58 rR rR rR hkn hkr) rR rR (qK rR rR (fun hg=>ye (j:=k) 8 underlying58 rR rR sizeOf34 (by decide) rR hkr) rR rR (qK rR rR (fun hg=>wC (v:=sl (f k).2.1 x.changes.length (f k).2.2) isAgg34 rR (zcR hx) rR) rR rR ?_))))))))))))))))))))));refine g_gq rR rR (fun hg=>qi (Pre:=[roL 3 (f k).2.1 (chR x.changes)]) (R:=fun F=>R1 (Bo (zde x.changes 90)) (roL 3 (f k).2.1 (chR x.changes)::F)) call48 rR (zfE x.changes (f k).2.1 (f k).2.2 90 hb.2)) rR rR ?_;refine qK rR rR (fun hg=>wo rR) rR rR (g_v (zaH rR rR) rR (qb ?_));refine qg rR (fun h41=>?_) (fun h41=>?_)
      · simp at h41;refine gS (gA rR (qb ?_));refine qn rR rR ?_;show Bo false=_;rw[show zbY l most=false by unfold zbY;rw[zgA hx (by unfold zfx;by_cases hq:zde x.changes 90=true <;> simp[hq] at h41 ⊢;intro h1 h2;omega)];simp]
      · simp at h41;have hlc:zde x.changes 90=true:=h41.2;refine qh (qf ?_);refine zpk s l f k hx ?_;refine qo (gA rR (qb (qj ?_)));refine qE (α:=Nat) (fun j=>j≤x.puts.length∧(x.puts.take j).all zmM=true) (fun j=>U [(0,sl s l.length cap),(5,I k),(6,I j)]) (fun _=>roL 2 (f k).1.1 (zbx x.puts)::acts s l f::F) (fun j=>x.puts.length - j) 0 (by simp) [0,5,6] rfl rR ?_;rintro j ⟨hj,hpall⟩;refine qf (gS (gM rR (gM rR (gM rR (g_v (qA k underlying22 sizeOf58 rR rR rR hkn hkr) rR (g_v (ye (j:=k) 7 underlying58 rR rR sizeOf23 (by decide) rR hkr) rR (g_v (wC (v:=sl (f k).1.1 x.puts.length (f k).1.2) isAgg23 rR (zcR hx) rR) rR (g_v (yo underlying23 rR) rR (g_v (qJ rR rR) rR (qb ?_))))))))));refine qg rR (fun h49=>?_) (fun h49=>?_)
        · simp at h49;have hjn:j<x.puts.length:=(by omega);obtain ⟨p,hp⟩:∃p,x.puts[j]? =some p:=⟨_,List.getElem?_eq_getElem hjn⟩;have hjr:j<(zbx x.puts).length:=(by rw[zbA];exact hjn);refine qh (qf (qj (gS (gM rR (gM rR (g_v (qA k underlying22 sizeOf58 rR rR rR hkn hkr) rR (g_v (ye (j:=k) 7 underlying58 rR rR sizeOf23 (by decide) rR hkr) rR (g_v (wC (v:=sl (f k).1.1 x.puts.length (f k).1.2) isAgg23 rR (zcR hx) rR) rR (gM rR (g_v (qA j underlying23 sizeOf44 rR rR rR hjn hjr) rR (g_v (ye (j:=j) 1 underlying44 rR rR sizeOf9 (by decide) rR hjr) rR (g_v (wC (v:=Str p.data) isAgg9 rR (ziW hp) rR) rR (g_v (wi underlying9 rR) rR (g_v (yA rR rR) rR (qb ?_)))))))))))))));refine qg rR (fun h62=>?_) (fun h62=>?_)
          · simp at h62;refine gS (gA rR (qb ?_));refine qn rR rR ?_;show Bo false=_;rw[show zbY l most=false by unfold zbY;rw[zgA hx (by unfold zfx;rw[zgA hp (by simp[zmM];omega)];simp)];simp]
          · simp at h62;refine qh (qF (qo (gM rR (g_v (qu rR rR (w64 (by omega))) rR (gA rR (qb ?_))))));exact qm (j+1) ⟨by omega,zjL hpall hp (by simp[zmM];omega)⟩ (by omega) [0,5,6] rfl rfl
        · simp at h49;obtain rfl:j=x.puts.length:=(by omega);rw[List.take_length] at hpall;refine qz rR ?_;refine qF (qo (gM rR (g_v (qu rR rR (w64 (by omega))) rR (gA rR (qb ?_)))));exact qm (k+1) ⟨by omega,zjL hall hx (by unfold zfx;rw[hlc,hpall];simp;omega)⟩ (by omega) [0,5] rfl rfl
    · simp at h14;obtain rfl:k=l.length:=(by omega);rw[List.take_length] at hall;refine qz rR ?_;refine gS (gA rR (qb ?_));refine qn rR rR ?_;show Bo true=_;rw[show zbY l most=true by unfold zbY;rw[hall,decide_eq_true (by omega)];rfl]
end Go.Proofs.YthdjckbjjfiopadGreatDoor
