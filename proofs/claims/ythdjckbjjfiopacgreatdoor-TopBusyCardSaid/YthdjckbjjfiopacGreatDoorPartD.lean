/- Several texts in one: walks and rules used by them. No condition. -/
import Derived.Test.YthdjckbjjfiopacGreatDoorPartC
import Derived.Test.YthdjckbjjfiopacGreatDoorPartA
import Derived.Test.YthdjckbjjfiopacGreatDoorProg
import Derived.Test.YthdjckbjjfiopacGreatDoorPartB
import Derived.KernelRfl
import GoSem.Extern.AbiNoEscape
set_option linter.unusedSimpArgs false
set_option linter.unusedVariables false
namespace Go.Proofs.YthdjckbjjfiopacGreatDoor
open Go.Sl Go.Proofs
structure HdM where
  ep:Nat
  side:Nat
  size:Nat
  first:Nat
deriving DecidableEq
def HdM.no:HdM:=⟨0,0,0,0⟩
def ws (h:HdM):List Value:=[I h.ep,I h.side,I h.size,I h.first]
def wg (h:HdM):Bytes:=[72]++qM h.ep++qM h.side++qM h.size++qM h.first
def unN (s:Bytes):Nat:=(sk s 0).toNat+2 ^ 8*(sk s 1).toNat+2 ^ 16*(sk s 2).toNat+2 ^ 24*(sk s 3).toNat
def zaS (s:Bytes):HdM:=⟨unN ((s.take 5).drop 1),unN ((s.take 9).drop 5),unN ((s.take 13).drop 9),unN ((s.take 17).drop 13)⟩
def zgd (s:Bytes):Prop:=sk s 0≠72∨1<(zaS s).side∨4800<(zaS s).size∨(zaS s).first<1
instance (s:Bytes):Decidable (zgd s):=by unfold zgd;infer_instance
def wx (s:Bytes):HdM:=if zgd s then HdM.no else zaS s
theorem zrs (x:UInt8):x.toNat<256:=x.toNat_lt
theorem zds {n:Nat}(h:n<4294967296):unN (qM n)=n:=by
  unfold unN qM;simp only[sk,List.getElem?_cons_zero,List.getElem?_cons_succ,Option.getD_some,UInt8.toNat_ofNat'];omega
theorem zhB (h:HdM):(wg h).length=17:=by simp[wg,qM]
theorem zo3 {h:HdM}(h1:h.ep<4294967296)(h2:h.side<4294967296)(h3:h.size<4294967296)(h4:h.first<4294967296):zaS (yi (wg h))=h∧sk (yi (wg h)) 0=72:=by
  have e:yi (wg h)=72::(qM h.ep++(qM h.side++(qM h.size++(qM h.first++zbF (80 - (wg h).length))))):=by
    unfold yi wg;simp
  rw[e];generalize zbF (80 - (wg h).length)=z;have l:∀n,(qM n).length=4:=fun n=>rfl;refine ⟨?_,rfl⟩;unfold zaS;have f1:(List.drop 1 (List.take 5 (72::(qM h.ep++(qM h.side++(qM h.size++(qM h.first++z)))))))=qM h.ep:=(by simp[qM]);have f2:(List.drop 5 (List.take 9 (72::(qM h.ep++(qM h.side++(qM h.size++(qM h.first++z)))))))=qM h.side:=(by simp[qM]);have f3:(List.drop 9 (List.take 13 (72::(qM h.ep++(qM h.side++(qM h.size++(qM h.first++z)))))))=qM h.size:=(by simp[qM]);have f4:(List.drop 13 (List.take 17 (72::(qM h.ep++(qM h.side++(qM h.size++(qM h.first++z)))))))=qM h.first:=(by simp[qM]);rw[f1,f2,f3,f4,zds h1,zds h2,zds h3,zds h4]
theorem zh3 {h:HdM}(h1:h.ep<4294967296)(h2:h.side≤1)(h3:h.size≤4800)(h4:1≤h.first∧h.first<4294967296):wx (yi (wg h))=h:=by
  obtain ⟨e1,e2⟩:=zo3 (h:=h) h1 (by omega) (by omega) h4.2;unfold wx;rw[if_neg,e1];unfold zgd;rw[e1,e2];rintro (h | h | h | h)
  · exact h rfl
  · omega
  · omega
  · omega
def zqh (r:ChangeM):Bytes:=[UInt8.ofNat r.key.length,UInt8.ofNat r.val.length,UInt8.ofNat (r.val.length / 256)]++r.key++r.val
def yu (l:List ChangeM):Bytes:=l.flatMap zqh
def okR (r:ChangeM):Prop:=zbv r=0∧r.gone=false
theorem ziy {r:ChangeM}(h:okR r):(zqh r).length≤59∧4≤(zqh r).length:=by
  obtain ⟨hk,_,h1,h2⟩:=zfi h.1;unfold zqh;have:r.key.length≠0:=fun e=>hk (List.length_eq_zero_iff.1 e);simp;omega
theorem zcE:∀{l:List ChangeM},(∀r∈l,okR r)→(yu l).length≤59*l.length
  | [],_=>by simp[yu]
  | r::l,h=>by
    have h1:=ziy (h r (by simp));have h2:=zcE (l:=l) fun x hx=>h x (List.mem_cons_of_mem _ hx);simp only[yu,List.flatMap_cons,List.length_append,List.length_cons] at h2 ⊢;omega
theorem zoQ (r:ChangeM)(l:List ChangeM):yu (r::l)=zqh r++yu l:=rfl
theorem zpZ (l:List ChangeM)(r:ChangeM):yu (l++ [r])=yu l++zqh r:=by simp[yu]
theorem zr7 {l:List ChangeM}{r:ChangeM}(h:srt (l++ [r]))(hr:r.gone=false):apS l r=l++ [r]:=by
  have h1:=List.pairwise_append.1 h;unfold apS;rw[zmk (fun x hx=>h1.2.2 x hx r (by simp)),zsi (fun x hx=>zdf (h1.2.2 x hx r (by simp))),hr];simp
theorem znl {l:List ChangeM}(h:srt l)(k:Nat):srt (l.take k):=h.sublist (List.take_sublist k l)
def wz (t:Bytes)(k:Nat):Bytes:=(t.drop (80*k)).take 80
def yb (t:Bytes):Nat:=(t.length+79) / 80
def ckW (side:Nat)(t:Bytes):Nat→Nat→List Stp
  | k,0=>[]
  | k,f+1=>some (2+side*60+k,wz t k)::ckW side t (k+1) f
theorem ziM (side:Nat)(t:Bytes):∀f k,(ckW side t k f).length=f
  | 0,_=>rfl
  | f+1,k=>by simp[ckW,ziM side t f]
def ckL (h:HdM)(t:Bytes):List Stp:=ckW h.side t 0 (yb t)++ [none,some (h.ep % 2,wg h),none]
def nxH (h:HdM)(rows:List ChangeM)(many:Nat):HdM:=⟨h.ep+1,1 - h.side,(yu rows).length,h.first+many⟩
theorem zjS (t:Bytes)(k:Nat):(wz t k).length≤80:=by unfold wz;rw[List.length_take];omega
def hdK (L:List Bytes):Nat→HdM
  | 0=>HdM.no
  | k+1=>if (hdK L k).ep<(wx (L.getD k [])).ep then wx (L.getD k []) else hdK L k
def zfg (L:List Bytes):HdM:=hdK L 2
def txt (L:List Bytes)(side:Nat):Bytes:=((L.drop (2+side*60)).take 60).flatten
structure Good (L:List Bytes) (h:HdM) (r0:List ChangeM) (ds:Deeds) (used:Nat):Prop where
  best:zfg L=h
  ep:1≤h.ep
  side:h.side≤1
  first:1≤h.first∧h.first≤1000000000
  size:h.size=(yu r0).length
  text:(txt L h.side).take h.size=yu r0
  hsrt:srt r0
  hok:∀r∈r0,okR r
  len:r0.length≤80
  log:wa h.first (fun i=>L.getD (122+i) []) (L.length - 122) 0 [] [] 0=(ds,used)
  lens:∀d∈ds,d.length≤72
  chk:∀d∈ds,∀x∈d,zbv x=0
  fits:∀k,((ds.take k).foldl zaA r0).length≤80
def cur (r0:List ChangeM)(ds:Deeds):List ChangeM:=ds.foldl zaA r0
def cmV (many:Nat)(rows c:List ChangeM):Int:=if 72<c.length then 2 else if zhv c≠0 then zhv c else if 80<(zaA rows c).length∨many<c.length+1 then 8 else 0
open _root_.Go.Proofs.Tryz
theorem zgu (w:World):(Instr.build 176 #[]).run Tryz.prog w= .ok (.agg #[I 0,I 0,I 0,I 0]) w:=by
  simp[Instr.build,zeroValue176,runUnderlying176,Instr.fill,qV,sl]
theorem shlN (q x:Nat)(hq:q≤24)(hx:x<256):IntKind.i64.wrap ((x:Int)*2 ^ (min ((q:Nat):Int).toNat IntKind.i64.bits))=((2 ^ q*x:Nat):Int):=by
  rw[show ((q:Nat):Int).toNat=q from rfl,show min q IntKind.i64.bits=q from Nat.min_eq_left (by show q≤64;omega)];have h2:2 ^ q*x<2 ^ 24*256:=Nat.lt_of_le_of_lt (Nat.mul_le_mul_right x (Nat.pow_le_pow_right (by decide) hq)) (Nat.mul_lt_mul_of_pos_left hx (by decide));rw[show (x:Int)*2 ^ q=((2 ^ q*x:Nat):Int) by rw[Nat.mul_comm];push_cast;rfl];exact w64 (by omega)
abbrev stC (bd:Nat)(h:HdM)(bl:Nat)(s:Option Addr)(n cap:Nat):Array Value:=#[ptr bd 0,I h.ep,I h.side,I h.size,I h.first,ptr bl 0,sl s n cap]
theorem zby (n:Nat)(F:List HProp):Ct Tryz.prog 216 [I n] ([]++F) (R1 (Str (qM n)) F):=by
  show Ct Tryz.prog 216 [I n] (F) _;refine Ct.of func216 rR 16 ntmps216 (by simp) fun w0=>?_;refine gS (gA rR (qb (gS (gM rR (g_v (yT (r:=((n % 256:Nat):Int)) underlying3 underlying5 rR (wu8 _)) rR (gM rR (g_v (zd7 (r:=((n / 256:Nat):Int)) rR rR (by decide) (zjR n 256)) rR (g_v (yT (r:=((n / 256 % 256:Nat):Int)) underlying3 underlying5 rR (wu8 _)) rR (gM rR (g_v (zd7 (r:=((n / 65536:Nat):Int)) rR rR (by decide) (zjR n 65536)) rR (g_v (yT (r:=((n / 65536 % 256:Nat):Int)) underlying3 underlying5 rR (wu8 _)) rR (gM rR (g_v (zd7 (r:=((n / 16777216:Nat):Int)) rR rR (by decide) (zjR n 16777216)) rR (g_v (yT (r:=((n / 16777216 % 256:Nat):Int)) underlying3 underlying5 rR (wu8 _)) rR ?_))))))))))))));refine g_l (qs (qq (qM n)) underlying193 sizeOf5 zeroValue5 rR rR (zio n) (by simp[qq]) (by decide) (by decide)) rR ?_;rintro _ _ ⟨b14,rfl,rfl⟩;refine g_v (yI (l:=qM n) underlying193 underlying5 underlying9 rR rR rR) rR (gA rR (qb ?_));refine qm rR rR ?_;exact rfl
theorem qX (s:Bytes)(hs:s.length=4)(F:List HProp):Ct Tryz.prog 156 [Str s] ([]++F) (R1 (I (unN s)) F):=by
  show Ct Tryz.prog 156 [Str s] (F) _;refine Ct.of func156 rR 21 ntmps156 (by simp) fun w0=>?_;have h0:=zrs (sk s 0);have h1:=zrs (sk s 1);have h2:=zrs (sk s 2);have h3:=zrs (sk s 3);refine gS (gA rR (qb (qf ?_)));refine zae [(0,false),(1,false),(2,false),(3,false),(4,false),(5,false),(6,false),(7,false),(8,false),(9,false),(10,false),(11,false),(12,false),(13,false),(14,false),(15,false),(16,false),(17,false),(18,false)] (by kernel_rfl) (by kernel_rfl) rR (by kernel_rfl) ?_;refine dM rR rR rR (d_v rR (qW (r:=sk s 0) 0 underlying9 rR rR rR (zeu (by omega))) rR (d_v rR (yT (r:=(((sk s 0).toNat:Nat):Int)) underlying5 underlying3 rR (w64 (by omega))) rR (dM rR rR rR (d_v rR (qW (r:=sk s 1) 1 underlying9 rR rR rR (zeu (by omega))) rR (d_v rR (yT (r:=(((sk s 1).toNat:Nat):Int)) underlying5 underlying3 rR (w64 (by omega))) rR (d_v rR (zvz (r:=((2 ^ 8*(sk s 1).toNat:Nat):Int)) rR rR (by decide) (shlN 8 _ (by decide) (by omega))) rR (d_v rR (zvk (sk s 0).toNat 8 _ rR rR (by omega) (by omega)) rR (dM rR rR rR (d_v rR (qW (r:=sk s 2) 2 underlying9 rR rR rR (zeu (by omega))) rR (d_v rR (yT (r:=(((sk s 2).toNat:Nat):Int)) underlying5 underlying3 rR (w64 (by omega))) rR (d_v rR (zvz (r:=((2 ^ 16*(sk s 2).toNat:Nat):Int)) rR rR (by decide) (shlN 16 _ (by decide) (by omega))) rR (d_v rR (zvk ((sk s 0).toNat+2 ^ 8*(sk s 1).toNat) 16 _ rR rR (by omega) (by omega)) rR (dM rR rR rR (d_v rR (qW (r:=sk s 3) 3 underlying9 rR rR rR (zeu (by omega))) rR (d_v rR (yT (r:=(((sk s 3).toNat:Nat):Int)) underlying5 underlying3 rR (w64 (by omega))) rR (d_v rR (zvz (r:=((2 ^ 24*(sk s 3).toNat:Nat):Int)) rR rR (by decide) (shlN 24 _ (by decide) (by omega))) rR (d_v rR (zvk ((sk s 0).toNat+2 ^ 8*(sk s 1).toNat+2 ^ 16*(sk s 2).toNat) 24 _ rR rR (by omega) (by omega)) rR (d_v rR (qx rR) rR ?_))))))))))))))))));refine yg ?_;refine qm rR rR ?_;exact rfl
theorem zeH (h:HdM)(F:List HProp):Ct Tryz.prog 184 [.agg (ws h).toArray] ([]++F) (R1 (Str (wg h)) F):=by
  show Ct Tryz.prog 184 [.agg (ws h).toArray] (F) _;refine Ct.of func184 rR 19 ntmps184 (by simp) fun w0=>?_;refine gS ?_;refine g_l (wQ (ws h).toArray rR rR) rR ?_;rintro _ _ ⟨b1,rfl,rfl⟩;refine gA rR (qb (qf ?_));refine zae [(0,false),(1,false),(4,false),(5,false),(8,false),(9,false),(12,false),(13,false),(2,true),(3,false),(6,true),(7,false),(10,true),(11,false),(14,true),(15,false),(16,false)] (by kernel_rfl) (by kernel_rfl) rR (by kernel_rfl) ?_;refine d_v rfl (qa 0 underlying176 rfl rfl sizeOf3 (by decide) rfl) rfl (d_v rfl (qe (v:=I h.ep) isAgg3 rfl rfl) rfl (d_v rfl (qa 1 underlying176 rfl rfl sizeOf3 (by decide) rfl) rfl (d_v rfl (qe (v:=I h.side) isAgg3 rfl rfl) rfl (d_v rfl (qa 2 underlying176 rfl rfl sizeOf3 (by decide) rfl) rfl (d_v rfl (qe (v:=I h.size) isAgg3 rfl rfl) rfl (d_v rfl (qa 3 underlying176 rfl rfl sizeOf3 (by decide) rfl) rfl (d_v rfl (qe (v:=I h.first) isAgg3 rfl rfl) rfl ?_)))))));refine d_l rR (qi (Pre:=[]) call216 rR (zby h.ep)) rR ?_;rintro _ _ ⟨rfl,rfl⟩;refine d_v rR (wJ rR rR (by simp[qM])) rR ?_;refine d_l rR (qi (Pre:=[]) call216 rR (zby h.side)) rR ?_;rintro _ _ ⟨rfl,rfl⟩;refine d_v rR (wJ rR rR (by simp[qM])) rR ?_;refine d_l rR (qi (Pre:=[]) call216 rR (zby h.size)) rR ?_;rintro _ _ ⟨rfl,rfl⟩;refine d_v rR (wJ rR rR (by simp[qM])) rR ?_;refine d_l rfl (qi (Pre:=[]) call216 rfl (zby h.first)) rfl ?_;rintro _ _ ⟨rfl,rfl⟩;refine d_v rR (wJ rR rR (by simp[qM])) rR (d_v rR (qx rR) rR ?_);refine yg ?_;refine qm rR rR ?_;exact rfl
theorem zg1 (s:Bytes)(hs:s.length=80)(F:List HProp):Ct Tryz.prog 103 [Str s] ([]++F) (R1 (.agg (ws (wx s)).toArray) F):=by
  show Ct Tryz.prog 103 [Str s] (F) _;refine Ct.of func103 rR 37 ntmps103 (by simp) fun w0=>?_;refine gS ?_;refine g_l (qy #[I 0,I 0,I 0,I 0] zeroValue176) rR ?_;rintro _ _ ⟨b2,rfl,rfl⟩;refine qb (qf ?_);refine zmc (Lf:=[]) (.q 0 (.q 1 (.q 3 (.q 4 (.q 6 (.q 7 (.q 9 (.q 10 (.alt (.l 2 (.alt (.l 5 (.alt (.l 8 (.alt (.l 11 (.q 12 (.l 13 (.l 14 (.nil))))) (.l 13 (.l 11 (.q 12 (.l 14 (.nil))))))) (.l 13 (.l 8 (.l 11 (.q 12 (.l 14 (.nil)))))))) (.l 13 (.l 5 (.l 8 (.l 11 (.q 12 (.l 14 (.nil))))))))) (.l 13 (.l 2 (.l 5 (.l 8 (.l 11 (.q 12 (.l 14 (.nil))))))))))))))))) (by kernel_rfl) (by kernel_rfl) (by kernel_rfl) ?_;refine t_v rR (qn rR) rR ?_;refine t_v rR (zai (l:=1) (h:=5) underlying9 rR rR rR rR rR (by decide) (by omega)) rR ?_;refine t_v rR (qn rR) rR ?_;refine t_v rR (zai (l:=5) (h:=9) underlying9 rR rR rR rR rR (by decide) (by omega)) rR ?_;refine t_v rR (qn rR) rR ?_;refine t_v rR (zai (l:=9) (h:=13) underlying9 rR rR rR rR rR (by decide) (by omega)) rR ?_;refine t_v rR (qn rR) rR ?_;refine t_v rR (zai (l:=13) (h:=17) underlying9 rR rR rR rR rR (by decide) (by omega)) rR ?_;refine zhV ?_ ?_
  · refine t_l rR (qi (Pre:=[]) call156 rR (qX ((s.take 5).drop 1) (by simp only[List.length_drop,List.length_take];omega))) rR ?_;rintro _ _ ⟨rfl,rfl⟩;refine zhV ?_ ?_
    · refine t_l rR (qi (Pre:=[]) call156 rR (qX ((s.take 9).drop 5) (by simp only[List.length_drop,List.length_take];omega))) rR ?_;rintro _ _ ⟨rfl,rfl⟩;refine zhV ?_ ?_
      · refine t_l rR (qi (Pre:=[]) call156 rR (qX ((s.take 13).drop 9) (by simp only[List.length_drop,List.length_take];omega))) rR ?_;rintro _ _ ⟨rfl,rfl⟩;refine zhV ?_ ?_
        · refine t_l rR (qi (Pre:=[]) call156 rR (qX ((s.take 17).drop 13) (by simp only[List.length_drop,List.length_take];omega))) rR ?_;rintro _ _ ⟨rfl,rfl⟩;refine t_v rR (qO rR (wl _ rR _ rR _ rR _ rR)) rR ?_;refine t_l rR (qy #[I 0,I 0,I 0,I 0] zeroValue176) rR ?_;rintro _ _ ⟨b3,rfl,rfl⟩;refine zve rR (qr (cs:=#[I 0,I 0,I 0,I 0]) (vs:=ws (zaS s)) (ws (zaS s)).toArray sizeOf176 rR rR rR rR (by decide) (qB rR)) ?_;rintro _ _ rfl;refine zfm ?_;refine qf (gS (gM rfl (g_v (qW (r:=sk s 0) 0 underlying9 rfl rfl rfl (zeu (by omega))) rfl (g_v (zdV rfl rfl) rfl (gM rfl (qI rfl rfl (fun hg=>qa 1 underlying176 rfl rfl sizeOf3 (by decide) rfl) rfl rfl (qI rfl rfl (fun hg=>qe (v:=I (zaS s).side) isAgg3 rfl rfl) rfl rfl (qI rfl rfl (fun hg=>yw rfl rfl) rfl rfl (g_v (zar rfl rfl) rfl (gM rfl (qI rfl rfl (fun hg=>qa 2 underlying176 rfl rfl sizeOf3 (by decide) rfl) rfl rfl (qI rfl rfl (fun hg=>qe (v:=I (zaS s).size) isAgg3 rfl rfl) rfl rfl (qI rfl rfl (fun hg=>yw rfl rfl) rfl rfl (g_v (zar rfl rfl) rfl (gM rfl (qI rfl rfl (fun hg=>qa 3 underlying176 rfl rfl sizeOf3 (by decide) rfl) rfl rfl (qI rfl rfl (fun hg=>qe (v:=I (zaS s).first) isAgg3 rfl rfl) rfl rfl (qI rfl rfl (fun hg=>qN rfl rfl) rfl rfl (g_v (zar rfl rfl) rfl (qb ?_))))))))))))))))))));refine qg rR (fun h34=>?_) (fun h34=>?_)
          · have hoff:zgd s:=by
              unfold zgd;simp at h34;rcases h34 with ((h | h) | h) | h
              · exact .inl (fun e=>h (by rw[e];rfl))
              · exact .inr (.inl (by omega))
              · exact .inr (.inr (.inl (by omega)))
              · exact .inr (.inr (.inr (by omega)))
            refine gS (g_v (qO rR (zgu)) rR ?_);refine yr (qr (cs:=#[I 0,I 0,I 0,I 0]) (vs:=ws HdM.no) (ws HdM.no).toArray sizeOf176 rR rR rR rR (by decide) (qB rR)) ?_;rintro _ _ rfl;refine qb ?_
            first
            | exact ww (ws HdM.no) (by unfold wx;rw[if_pos hoff]) rfl rfl isAgg176 sizeOf176 rfl qR
            | exact ww (ws (zaS s)) (by unfold wx;rw[if_neg hoff]) rfl rfl isAgg176 sizeOf176 rfl qR
          · have hoff:¬zgd s:=by
              unfold zgd;simp at h34;rintro (h | h | h | h)
              · exact h (UInt8.toNat_inj.1 (by rw[show (72:UInt8).toNat=72 from rfl];omega))
              · omega
              · omega
              · omega
            refine qh (gS (g_v (qH (vs:=ws (zaS s)) isAgg176 sizeOf176 rR rR qR) rR ?_));refine yr (qr (cs:=#[I 0,I 0,I 0,I 0]) (vs:=ws (zaS s)) (ws (zaS s)).toArray sizeOf176 rR rR rR rR (by decide) (qB rR)) ?_;rintro _ _ rfl;refine qb ?_
            first
            | exact ww (ws HdM.no) (by unfold wx;rw[if_pos hoff]) rfl rfl isAgg176 sizeOf176 rfl qR
            | exact ww (ws (zaS s)) (by unfold wx;rw[if_neg hoff]) rfl rfl isAgg176 sizeOf176 rfl qR
        · refine t_l rR (qy #[I 0,I 0,I 0,I 0] zeroValue176) rR ?_;rintro _ _ ⟨b3,rfl,rfl⟩;refine t_l rR (qi (Pre:=[]) call156 rR (qX ((s.take 17).drop 13) (by simp only[List.length_drop,List.length_take];omega))) rR ?_;rintro _ _ ⟨rfl,rfl⟩;refine t_v rR (qO rR (wl _ rR _ rR _ rR _ rR)) rR ?_;refine zve rR (qr (cs:=#[I 0,I 0,I 0,I 0]) (vs:=ws (zaS s)) (ws (zaS s)).toArray sizeOf176 rR rR rR rR (by decide) (qB rR)) ?_;rintro _ _ rfl;refine zfm ?_;refine qf (gS (gM rfl (g_v (qW (r:=sk s 0) 0 underlying9 rfl rfl rfl (zeu (by omega))) rfl (g_v (zdV rfl rfl) rfl (gM rfl (qI rfl rfl (fun hg=>qa 1 underlying176 rfl rfl sizeOf3 (by decide) rfl) rfl rfl (qI rfl rfl (fun hg=>qe (v:=I (zaS s).side) isAgg3 rfl rfl) rfl rfl (qI rfl rfl (fun hg=>yw rfl rfl) rfl rfl (g_v (zar rfl rfl) rfl (gM rfl (qI rfl rfl (fun hg=>qa 2 underlying176 rfl rfl sizeOf3 (by decide) rfl) rfl rfl (qI rfl rfl (fun hg=>qe (v:=I (zaS s).size) isAgg3 rfl rfl) rfl rfl (qI rfl rfl (fun hg=>yw rfl rfl) rfl rfl (g_v (zar rfl rfl) rfl (gM rfl (qI rfl rfl (fun hg=>qa 3 underlying176 rfl rfl sizeOf3 (by decide) rfl) rfl rfl (qI rfl rfl (fun hg=>qe (v:=I (zaS s).first) isAgg3 rfl rfl) rfl rfl (qI rfl rfl (fun hg=>qN rfl rfl) rfl rfl (g_v (zar rfl rfl) rfl (qb ?_))))))))))))))))))));refine qg rR (fun h34=>?_) (fun h34=>?_)
          · have hoff:zgd s:=by
              unfold zgd;simp at h34;rcases h34 with ((h | h) | h) | h
              · exact .inl (fun e=>h (by rw[e];rfl))
              · exact .inr (.inl (by omega))
              · exact .inr (.inr (.inl (by omega)))
              · exact .inr (.inr (.inr (by omega)))
            refine gS (g_v (qO rR (zgu)) rR ?_);refine yr (qr (cs:=#[I 0,I 0,I 0,I 0]) (vs:=ws HdM.no) (ws HdM.no).toArray sizeOf176 rR rR rR rR (by decide) (qB rR)) ?_;rintro _ _ rfl;refine qb ?_
            first
            | exact ww (ws HdM.no) (by unfold wx;rw[if_pos hoff]) rfl rfl isAgg176 sizeOf176 rfl qR
            | exact ww (ws (zaS s)) (by unfold wx;rw[if_neg hoff]) rfl rfl isAgg176 sizeOf176 rfl qR
          · have hoff:¬zgd s:=by
              unfold zgd;simp at h34;rintro (h | h | h | h)
              · exact h (UInt8.toNat_inj.1 (by rw[show (72:UInt8).toNat=72 from rfl];omega))
              · omega
              · omega
              · omega
            refine qh (gS (g_v (qH (vs:=ws (zaS s)) isAgg176 sizeOf176 rR rR qR) rR ?_));refine yr (qr (cs:=#[I 0,I 0,I 0,I 0]) (vs:=ws (zaS s)) (ws (zaS s)).toArray sizeOf176 rR rR rR rR (by decide) (qB rR)) ?_;rintro _ _ rfl;refine qb ?_
            first
            | exact ww (ws HdM.no) (by unfold wx;rw[if_pos hoff]) rfl rfl isAgg176 sizeOf176 rfl qR
            | exact ww (ws (zaS s)) (by unfold wx;rw[if_neg hoff]) rfl rfl isAgg176 sizeOf176 rfl qR
      · refine t_l rR (qy #[I 0,I 0,I 0,I 0] zeroValue176) rR ?_;rintro _ _ ⟨b3,rfl,rfl⟩;refine t_l rR (qi (Pre:=[]) call156 rR (qX ((s.take 13).drop 9) (by simp only[List.length_drop,List.length_take];omega))) rR ?_;rintro _ _ ⟨rfl,rfl⟩;refine t_l rR (qi (Pre:=[]) call156 rR (qX ((s.take 17).drop 13) (by simp only[List.length_drop,List.length_take];omega))) rR ?_;rintro _ _ ⟨rfl,rfl⟩;refine t_v rR (qO rR (wl _ rR _ rR _ rR _ rR)) rR ?_;refine zve rR (qr (cs:=#[I 0,I 0,I 0,I 0]) (vs:=ws (zaS s)) (ws (zaS s)).toArray sizeOf176 rR rR rR rR (by decide) (qB rR)) ?_;rintro _ _ rfl;refine zfm ?_;refine qf (gS (gM rfl (g_v (qW (r:=sk s 0) 0 underlying9 rfl rfl rfl (zeu (by omega))) rfl (g_v (zdV rfl rfl) rfl (gM rfl (qI rfl rfl (fun hg=>qa 1 underlying176 rfl rfl sizeOf3 (by decide) rfl) rfl rfl (qI rfl rfl (fun hg=>qe (v:=I (zaS s).side) isAgg3 rfl rfl) rfl rfl (qI rfl rfl (fun hg=>yw rfl rfl) rfl rfl (g_v (zar rfl rfl) rfl (gM rfl (qI rfl rfl (fun hg=>qa 2 underlying176 rfl rfl sizeOf3 (by decide) rfl) rfl rfl (qI rfl rfl (fun hg=>qe (v:=I (zaS s).size) isAgg3 rfl rfl) rfl rfl (qI rfl rfl (fun hg=>yw rfl rfl) rfl rfl (g_v (zar rfl rfl) rfl (gM rfl (qI rfl rfl (fun hg=>qa 3 underlying176 rfl rfl sizeOf3 (by decide) rfl) rfl rfl (qI rfl rfl (fun hg=>qe (v:=I (zaS s).first) isAgg3 rfl rfl) rfl rfl (qI rfl rfl (fun hg=>qN rfl rfl) rfl rfl (g_v (zar rfl rfl) rfl (qb ?_))))))))))))))))))));refine qg rR (fun h34=>?_) (fun h34=>?_)
        · have hoff:zgd s:=by
            unfold zgd;simp at h34;rcases h34 with ((h | h) | h) | h
            · exact .inl (fun e=>h (by rw[e];rfl))
            · exact .inr (.inl (by omega))
            · exact .inr (.inr (.inl (by omega)))
            · exact .inr (.inr (.inr (by omega)))
          refine gS (g_v (qO rR (zgu)) rR ?_);refine yr (qr (cs:=#[I 0,I 0,I 0,I 0]) (vs:=ws HdM.no) (ws HdM.no).toArray sizeOf176 rR rR rR rR (by decide) (qB rR)) ?_;rintro _ _ rfl;refine qb ?_
          first
          | exact ww (ws HdM.no) (by unfold wx;rw[if_pos hoff]) rfl rfl isAgg176 sizeOf176 rfl qR
          | exact ww (ws (zaS s)) (by unfold wx;rw[if_neg hoff]) rfl rfl isAgg176 sizeOf176 rfl qR
        · have hoff:¬zgd s:=by
            unfold zgd;simp at h34;rintro (h | h | h | h)
            · exact h (UInt8.toNat_inj.1 (by rw[show (72:UInt8).toNat=72 from rfl];omega))
            · omega
            · omega
            · omega
          refine qh (gS (g_v (qH (vs:=ws (zaS s)) isAgg176 sizeOf176 rR rR qR) rR ?_));refine yr (qr (cs:=#[I 0,I 0,I 0,I 0]) (vs:=ws (zaS s)) (ws (zaS s)).toArray sizeOf176 rR rR rR rR (by decide) (qB rR)) ?_;rintro _ _ rfl;refine qb ?_
          first
          | exact ww (ws HdM.no) (by unfold wx;rw[if_pos hoff]) rfl rfl isAgg176 sizeOf176 rfl qR
          | exact ww (ws (zaS s)) (by unfold wx;rw[if_neg hoff]) rfl rfl isAgg176 sizeOf176 rfl qR
    · refine t_l rR (qy #[I 0,I 0,I 0,I 0] zeroValue176) rR ?_;rintro _ _ ⟨b3,rfl,rfl⟩;refine t_l rR (qi (Pre:=[]) call156 rR (qX ((s.take 9).drop 5) (by simp only[List.length_drop,List.length_take];omega))) rR ?_;rintro _ _ ⟨rfl,rfl⟩;refine t_l rR (qi (Pre:=[]) call156 rR (qX ((s.take 13).drop 9) (by simp only[List.length_drop,List.length_take];omega))) rR ?_;rintro _ _ ⟨rfl,rfl⟩;refine t_l rR (qi (Pre:=[]) call156 rR (qX ((s.take 17).drop 13) (by simp only[List.length_drop,List.length_take];omega))) rR ?_;rintro _ _ ⟨rfl,rfl⟩;refine t_v rR (qO rR (wl _ rR _ rR _ rR _ rR)) rR ?_;refine zve rR (qr (cs:=#[I 0,I 0,I 0,I 0]) (vs:=ws (zaS s)) (ws (zaS s)).toArray sizeOf176 rR rR rR rR (by decide) (qB rR)) ?_;rintro _ _ rfl;refine zfm ?_;refine qf (gS (gM rfl (g_v (qW (r:=sk s 0) 0 underlying9 rfl rfl rfl (zeu (by omega))) rfl (g_v (zdV rfl rfl) rfl (gM rfl (qI rfl rfl (fun hg=>qa 1 underlying176 rfl rfl sizeOf3 (by decide) rfl) rfl rfl (qI rfl rfl (fun hg=>qe (v:=I (zaS s).side) isAgg3 rfl rfl) rfl rfl (qI rfl rfl (fun hg=>yw rfl rfl) rfl rfl (g_v (zar rfl rfl) rfl (gM rfl (qI rfl rfl (fun hg=>qa 2 underlying176 rfl rfl sizeOf3 (by decide) rfl) rfl rfl (qI rfl rfl (fun hg=>qe (v:=I (zaS s).size) isAgg3 rfl rfl) rfl rfl (qI rfl rfl (fun hg=>yw rfl rfl) rfl rfl (g_v (zar rfl rfl) rfl (gM rfl (qI rfl rfl (fun hg=>qa 3 underlying176 rfl rfl sizeOf3 (by decide) rfl) rfl rfl (qI rfl rfl (fun hg=>qe (v:=I (zaS s).first) isAgg3 rfl rfl) rfl rfl (qI rfl rfl (fun hg=>qN rfl rfl) rfl rfl (g_v (zar rfl rfl) rfl (qb ?_))))))))))))))))))));refine qg rR (fun h34=>?_) (fun h34=>?_)
      · have hoff:zgd s:=by
          unfold zgd;simp at h34;rcases h34 with ((h | h) | h) | h
          · exact .inl (fun e=>h (by rw[e];rfl))
          · exact .inr (.inl (by omega))
          · exact .inr (.inr (.inl (by omega)))
          · exact .inr (.inr (.inr (by omega)))
        refine gS (g_v (qO rR (zgu)) rR ?_);refine yr (qr (cs:=#[I 0,I 0,I 0,I 0]) (vs:=ws HdM.no) (ws HdM.no).toArray sizeOf176 rR rR rR rR (by decide) (qB rR)) ?_;rintro _ _ rfl;refine qb ?_
        first
        | exact ww (ws HdM.no) (by unfold wx;rw[if_pos hoff]) rfl rfl isAgg176 sizeOf176 rfl qR
        | exact ww (ws (zaS s)) (by unfold wx;rw[if_neg hoff]) rfl rfl isAgg176 sizeOf176 rfl qR
      · have hoff:¬zgd s:=by
          unfold zgd;simp at h34;rintro (h | h | h | h)
          · exact h (UInt8.toNat_inj.1 (by rw[show (72:UInt8).toNat=72 from rfl];omega))
          · omega
          · omega
          · omega
        refine qh (gS (g_v (qH (vs:=ws (zaS s)) isAgg176 sizeOf176 rR rR qR) rR ?_));refine yr (qr (cs:=#[I 0,I 0,I 0,I 0]) (vs:=ws (zaS s)) (ws (zaS s)).toArray sizeOf176 rR rR rR rR (by decide) (qB rR)) ?_;rintro _ _ rfl;refine qb ?_
        first
        | exact ww (ws HdM.no) (by unfold wx;rw[if_pos hoff]) rfl rfl isAgg176 sizeOf176 rfl qR
        | exact ww (ws (zaS s)) (by unfold wx;rw[if_neg hoff]) rfl rfl isAgg176 sizeOf176 rfl qR
  · refine t_l rR (qy #[I 0,I 0,I 0,I 0] zeroValue176) rR ?_;rintro _ _ ⟨b3,rfl,rfl⟩;refine t_l rR (qi (Pre:=[]) call156 rR (qX ((s.take 5).drop 1) (by simp only[List.length_drop,List.length_take];omega))) rR ?_;rintro _ _ ⟨rfl,rfl⟩;refine t_l rR (qi (Pre:=[]) call156 rR (qX ((s.take 9).drop 5) (by simp only[List.length_drop,List.length_take];omega))) rR ?_;rintro _ _ ⟨rfl,rfl⟩;refine t_l rR (qi (Pre:=[]) call156 rR (qX ((s.take 13).drop 9) (by simp only[List.length_drop,List.length_take];omega))) rR ?_;rintro _ _ ⟨rfl,rfl⟩;refine t_l rR (qi (Pre:=[]) call156 rR (qX ((s.take 17).drop 13) (by simp only[List.length_drop,List.length_take];omega))) rR ?_;rintro _ _ ⟨rfl,rfl⟩;refine t_v rR (qO rR (wl _ rR _ rR _ rR _ rR)) rR ?_;refine zve rR (qr (cs:=#[I 0,I 0,I 0,I 0]) (vs:=ws (zaS s)) (ws (zaS s)).toArray sizeOf176 rR rR rR rR (by decide) (qB rR)) ?_;rintro _ _ rfl;refine zfm ?_;refine qf (gS (gM rfl (g_v (qW (r:=sk s 0) 0 underlying9 rfl rfl rfl (zeu (by omega))) rfl (g_v (zdV rfl rfl) rfl (gM rfl (qI rfl rfl (fun hg=>qa 1 underlying176 rfl rfl sizeOf3 (by decide) rfl) rfl rfl (qI rfl rfl (fun hg=>qe (v:=I (zaS s).side) isAgg3 rfl rfl) rfl rfl (qI rfl rfl (fun hg=>yw rfl rfl) rfl rfl (g_v (zar rfl rfl) rfl (gM rfl (qI rfl rfl (fun hg=>qa 2 underlying176 rfl rfl sizeOf3 (by decide) rfl) rfl rfl (qI rfl rfl (fun hg=>qe (v:=I (zaS s).size) isAgg3 rfl rfl) rfl rfl (qI rfl rfl (fun hg=>yw rfl rfl) rfl rfl (g_v (zar rfl rfl) rfl (gM rfl (qI rfl rfl (fun hg=>qa 3 underlying176 rfl rfl sizeOf3 (by decide) rfl) rfl rfl (qI rfl rfl (fun hg=>qe (v:=I (zaS s).first) isAgg3 rfl rfl) rfl rfl (qI rfl rfl (fun hg=>qN rfl rfl) rfl rfl (g_v (zar rfl rfl) rfl (qb ?_))))))))))))))))))));refine qg rR (fun h34=>?_) (fun h34=>?_)
    · have hoff:zgd s:=by
        unfold zgd;simp at h34;rcases h34 with ((h | h) | h) | h
        · exact .inl (fun e=>h (by rw[e];rfl))
        · exact .inr (.inl (by omega))
        · exact .inr (.inr (.inl (by omega)))
        · exact .inr (.inr (.inr (by omega)))
      refine gS (g_v (qO rR (zgu)) rR ?_);refine yr (qr (cs:=#[I 0,I 0,I 0,I 0]) (vs:=ws HdM.no) (ws HdM.no).toArray sizeOf176 rR rR rR rR (by decide) (qB rR)) ?_;rintro _ _ rfl;refine qb ?_
      first
      | exact ww (ws HdM.no) (by unfold wx;rw[if_pos hoff]) rfl rfl isAgg176 sizeOf176 rfl qR
      | exact ww (ws (zaS s)) (by unfold wx;rw[if_neg hoff]) rfl rfl isAgg176 sizeOf176 rfl qR
    · have hoff:¬zgd s:=by
        unfold zgd;simp at h34;rintro (h | h | h | h)
        · exact h (UInt8.toNat_inj.1 (by rw[show (72:UInt8).toNat=72 from rfl];omega))
        · omega
        · omega
        · omega
      refine qh (gS (g_v (qH (vs:=ws (zaS s)) isAgg176 sizeOf176 rR rR qR) rR ?_));refine yr (qr (cs:=#[I 0,I 0,I 0,I 0]) (vs:=ws (zaS s)) (ws (zaS s)).toArray sizeOf176 rR rR rR rR (by decide) (qB rR)) ?_;rintro _ _ rfl;refine qb ?_
      first
      | exact ww (ws HdM.no) (by unfold wx;rw[if_pos hoff]) rfl rfl isAgg176 sizeOf176 rfl qR
      | exact ww (ws (zaS s)) (by unfold wx;rw[if_neg hoff]) rfl rfl isAgg176 sizeOf176 rfl qR
-- (*counterfoil/store.Store).Room is not in this seat
theorem zix (bs bd:Nat)(h:HdM)(bl:Nat)(s:Option Addr)(cap:Nat)(rows:List ChangeM)(hr:rows.length≤400)(F:List HProp):Ct Tryz.prog 75 [ptr bs 0] ([pt bs (.cells (stC bd h bl s (rows.length) cap) 179 (0,0)),roL 3 s (chR rows)]++F) (RSl 58 3 rows.length (chR rows) (pt bs (.cells (stC bd h bl s (rows.length) cap) 179 (0,0))::roL 3 s (chR rows)::F)):=by
  show Ct Tryz.prog 75 [ptr bs 0] (pt bs (.cells (stC bd h bl s (rows.length) cap) 179 (0,0))::roL 3 s (chR rows)::F) _;refine Ct.of func75 rR 8 ntmps75 (by simp) fun w0=>?_;refine gS (gA rR (qb (gS (gM rR (g_v (qc rR) rR (g_v (qa 6 underlying179 rR rR sizeOf33 (by decide) rR) rR (g_v (qe (v:=sl s rows.length cap) isAgg33 rR rR) rR ?_)))))));refine g_l (qi (Pre:=[roL 3 s (chR rows)]) call107 rR (zc9 rows s cap (by omega))) rR ?_;rintro _ _ ⟨s7,c7,rfl,rfl⟩;refine gA rR (qb ?_);exact wv rfl rfl rfl rfl
open Go Go.Sl Go.Proofs
theorem zuN:∃fn,Tryz.prog.funcs[206]? =some fn∧(fn.name== "runtime.NumGoroutine")=false∧fn.body.isNone=true∧Extern.findNext fn=none∧Extern.find fn=some Extern.AbiNoEscape.same:=
  ⟨(Tryz.prog.funcs[206]?).get (by kernel_rfl),(Option.some_get _).symm,by kernel_rfl,by kernel_rfl,by kernel_rfl,by kernel_rfl⟩
theorem zlX (v:Value)(w:World):(callFunc 206 [v].toArray).run Tryz.prog w= .ok (.value v) w:=by
  obtain ⟨fn,h1,h2,h3,h4,h5⟩:=zuN;rw[run_callFunc_extern h1 h2 h3 h4 h5]
  rfl
theorem zn1 (a b:Nat):[[By ((a % 256:Nat):Int)],[By ((b % 256:Nat):Int)],[By ((b / 256 % 256:Nat):Int)]]=qq [UInt8.ofNat a,UInt8.ofNat b,UInt8.ofNat (b / 256)]:=by
  simp only[qq,List.map_cons,List.map_nil,UInt8.toNat_ofNat']
theorem bldKV (k v:Bytes)(w:World):(Instr.build 58 #[(0,Str k),(1,Str v)]).run Tryz.prog w= .ok (.agg (yp ⟨k,v,false⟩).toArray) w:=by
  simp[Instr.build,zeroValue58,runUnderlying58,sizeOf9,sizeOf4,Instr.fill,qV,yp,show ∀s:Bytes,(Str s).cells=#[Str s] from fun _=>rfl]
theorem zjM {l:List ChangeM}{k:Nat}{x:ChangeM}(h:l[k]? =some x):yu (l.take (k+1))=yu (l.take k)++zqh x:=by rw[zfc h,zpZ]
theorem zj1 {l:List ChangeM}{k:Nat}{x:ChangeM}(h:l[k]? =some x):yu (l.drop k)=zqh x++yu (l.drop (k+1)):=by
  obtain ⟨hk,rfl⟩:=List.getElem?_eq_some_iff.1 h;rw[List.drop_eq_getElem_cons hk,zoQ]
theorem zkK {l:List ChangeM}(h:∀r∈l,okR r)(k:Nat):(yu (l.take k)).length≤59*l.length:=by
  have:=zcE (l:=l.take k) fun r hr=>h r (List.mem_of_mem_take hr);rw[List.length_take] at this;omega
theorem zq1 {l:List ChangeM}{k:Nat}{x:ChangeM}(hs:srt l)(hx:l[k]? =some x)(hg:x.gone=false):zaA (l.take k) [x]=l.take (k+1):=by
  have h:=znl hs (k+1);rw[zfc hx] at h ⊢;exact zr7 h hg
theorem zdT (bb:Nat)(p s:Option Addr)(n cap:Nat)(hp:p=none∨p=some ⟨bb,0,none⟩)(F:List HProp):Ct Tryz.prog 169 [ptr bb 0] ([pt bb (.cells #[(.pointer p),sl s n cap] 195 (0,0))]++F) (R1 (.tuple #[]) (pt bb (.cells #[ptr bb 0,sl s n cap] 195 (0,0))::F)):=by
  show Ct Tryz.prog 169 [ptr bb 0] (pt bb (.cells #[(.pointer p),sl s n cap] 195 (0,0))::F) _;refine Ct.of func169 rR 20 ntmps169 (by simp) fun w0=>?_;refine gS (gM rR (g_v (qc rR) rR (g_v (qa 0 underlying195 rR rR sizeOf192 (by decide) rR) rR (g_v (qe (v:=(.pointer p)) isAgg192 rR rR) rR (g_v (zg6 underlying192 rR) rR (qb ?_))))));refine qg rR (fun h6=>?_) (fun h6=>?_)
  · refine qp (gM rR (gM rR (g_v (zt9 underlying192 underlying271 sizeOf195 (by decide) rR (by simp)) rR ?_)));refine g_l (zpp (fun w=>zlX _ w) rR) rR ?_;rintro _ _ ⟨rfl,rfl⟩;refine g_v (ztQ underlying271 underlying192 sizeOf195 (by decide) rR rR) rR (g_v (qc rR) rR (g_v (qa 0 underlying195 rR rR sizeOf192 (by decide) rR) rR ?_));refine yr (qK #[ptr bb 0,sl s n cap] sizeOf192 rR rR rR (by simp) rR) ?_;rintro _ _ rfl;refine qb ?_;refine zcW rR rR ?_;exact rfl
  · have hps:p=some ⟨bb,0,none⟩:=by
      rcases hp with h | h
      · rw[h] at h6;cases h6
      · exact h
    rw[hps];refine gS (gM rR (g_v (qc rR) rR (g_v (qa 0 underlying195 rR rR sizeOf192 (by decide) rR) rR (g_v (qe (v:=ptr bb 0) isAgg192 rR rR) rR (gM rR (g_v (znF underlying192 sizeOf195 rR rR) rR (qb ?_)))))));refine qg rR (fun h19=>?_) (fun h19=>?_)
    · cases h19
    · refine qh ?_;refine zcW rR rR ?_;exact rfl
theorem zcO (bb:Nat)(p s:Option Addr)(cap:Nat)(l t:Bytes)(hp:p=none∨p=some ⟨bb,0,none⟩)(hb:l.length+t.length≤1000000)(F:List HProp):Ct Tryz.prog 115 [ptr bb 0,Str t] ([pt bb (.cells #[(.pointer p),sl s l.length cap] 195 (0,0)),owL 5 1 s cap (qq (l))]++F) (fun v L'=>∃s' cap',v= .tuple #[I t.length, .nilIface]∧L'=pt bb (.cells #[ptr bb 0,sl s' (l++t).length cap'] 195 (0,0))::owL 5 1 s' cap' (qq (l++t))::F):=by
  show Ct Tryz.prog 115 [ptr bb 0,Str t] (pt bb (.cells #[(.pointer p),sl s l.length cap] 195 (0,0))::owL 5 1 s cap (qq (l))::F) _;refine Ct.of func115 rR 19 ntmps115 (by simp) fun w0=>?_;refine gS (gA rR (gA rR (qb (gS (gM rR ?_)))));refine g_l (qi (Pre:=[pt bb (.cells #[(.pointer p),sl s l.length cap] 195 (0,0))]) call169 rR (zdT bb p s l.length cap hp)) rR ?_;rintro _ _ ⟨rfl,rfl⟩;refine qb (gS (gM rR (gM rR (g_v (qc rR) rR (g_v (qa 1 underlying195 rR rR sizeOf193 (by decide) rR) rR (g_v (qe (v:=sl s l.length cap) isAgg193 rR rR) rR (gM rR ?_)))))));refine g_l (zsh underlying193 underlying9 sizeOf5 zeroValue5 rR Tryz.typeInfo5 rR rR rR ⟨by omega,by decide,by decide⟩) rR ?_;rintro _ _ ⟨s14,c14,rfl,_,rfl⟩;refine g_v (qc rR) rR (g_v (qa 1 underlying195 rR rR sizeOf193 (by decide) rR) rR ?_);refine yr (qK #[ptr bb 0,sl s14 (l++t).length c14] sizeOf193 rR rR rR (by simp) rR) ?_;rintro _ _ rfl;refine qb (gS (gM rR (g_v (we underlying9 rR) rR (gA rR (gA rR (qb ?_))))));exact ql (pt bb (.cells #[ptr bb 0,sl s14 (l++t).length c14] 195 (0,0))::owL 5 1 s14 c14 (qq (l++t))::F) rfl ⟨s14,c14,rfl,rfl⟩
theorem zfk (bb:Nat)(p s:Option Addr)(cap:Nat)(l:Bytes)(h0:l≠ []∨s=none)(hb:l.length≤1000000)(F:List HProp):Ct Tryz.prog 117 [ptr bb 0] ([pt bb (.cells #[(.pointer p),sl s l.length cap] 195 (0,0)),owL 5 1 s cap (qq (l))]++F) (R1 (Str l) (pt bb (.cells #[(.pointer p),sl s l.length cap] 195 (0,0))::F)):=by
  show Ct Tryz.prog 117 [ptr bb 0] (pt bb (.cells #[(.pointer p),sl s l.length cap] 195 (0,0))::owL 5 1 s cap (qq (l))::F) _;refine Ct.of func117 rR 14 ntmps117 (by simp) fun w0=>?_;refine gS (gA rR (qb (qf ?_)));refine yv (Lf:=[pt bb (.cells #[(.pointer p),sl s l.length cap] 195 (0,0))]) [(0,false),(1,false),(2,false),(3,false),(5,false),(6,false),(7,false),(8,false),(9,false),(4,true),(10,true),(11,false)] (by kernel_rfl) (by kernel_rfl) rR (by kernel_rfl) ?_;refine dM rR rR rR (d_v rR (qc rR) rR (d_v rR (qa 1 underlying195 rR rR sizeOf193 (by decide) rR) rR (d_v rR (qe (v:=sl s l.length cap) isAgg193 rR rR) rR (dM rR rR rR (d_v rR (qc rR) rR (d_v rR (qa 1 underlying195 rR rR sizeOf193 (by decide) rR) rR (d_v rR (qe (v:=sl s l.length cap) isAgg193 rR rR) rR (d_v rR (yq underlying193 rR) rR ?_))))))));refine d_l rR (l_usd (l:=l) rR h0) rR ?_;rintro _ _ ⟨rfl,rfl⟩;refine d_l rR (zwL (l:=l) underlying240 (zhA (sizeOf5 default)) rR rR rR h0 (by omega)) rR ?_;rintro _ _ ⟨rfl,rfl⟩;refine d_v rR (qx rR) rR ?_;refine yg ?_;refine qm rR rR ?_;exact rfl
theorem zkn (rows:List ChangeM)(s:Option Addr)(cap:Nat)(hl:rows.length≤400)(hok:∀r∈rows,okR r)(F:List HProp):Ct Tryz.prog 193 [sl s rows.length cap] ([roL 3 s (chR rows)]++F) (R1 (Str (yu rows)) (roL 3 s (chR rows)::F)):=by
  show Ct Tryz.prog 193 [sl s rows.length cap] (roL 3 s (chR rows)::F) _;refine Ct.of func193 rR 36 ntmps193 (by simp) fun w0=>?_;have hlen:=zkK hok;refine gS (gA rR (qb (gS ?_)));refine g_l (qy #[.pointer none,sl none 0 0] zeroValue195) rR ?_;rintro _ _ ⟨b3,rfl,rfl⟩;refine qb (qf (qf ?_));rw[show sl none 0 0=sl none (yu (rows.take 0)).length 0 from rfl];refine yK 5 1 (qq (yu (rows.take 0))) rR ?_;refine qp (gM rR (g_v (yq underlying33 rR) rR (gM rR (qb (qk ?_)))));refine qF (α:=Nat×Option Addr×Option Addr×Nat) (fun z=>z.1≤rows.length∧(z.2.1=none∨z.2.1=some ⟨b3,0,none⟩)∧(yu (rows.take z.1)≠ []∨z.2.2.1=none)) (fun z=>U [(3,ptr b3 0),(6,sl s rows.length cap),(7,I rows.length),(8,I z.1)]) (fun z=>pt b3 (.cells #[(.pointer z.2.1),sl z.2.2.1 (yu (rows.take z.1)).length z.2.2.2] 195 (0,0))::owL 5 1 z.2.2.1 z.2.2.2 (qq (yu (rows.take z.1)))::roL 3 s (chR rows)::F) (fun z=>rows.length - z.1) (0,none,none,0) ⟨by simp, .inl rfl, .inr rfl⟩ [3,6,7,8] rfl rR ?_;rintro ⟨k,p,sB,cB⟩ ⟨hk,hp,hne⟩;simp only[] at hk hp hne ⊢;refine gS (g_v (qN rR rR) rR (qb (qf ?_)));refine qg rR (fun h9=>?_) (fun h9=>?_)
  · simp at h9;have hkn:k<rows.length:=(by omega);obtain ⟨x,hx⟩:∃x,rows[k]? =some x:=⟨_,List.getElem?_eq_getElem hkn⟩;have hkr:k<(chR rows).length:=(by rw[qQ];exact hkn);have hxl:=ziy (hok x (List.mem_of_getElem? hx));obtain ⟨_,_,hxk,hxv⟩:=zfi (hok x (List.mem_of_getElem? hx)).1;refine qh (qf (qk (gS (g_v (qC k underlying33 sizeOf58 rR rR rR hkn hkr) rR (g_v (yn (row:=yp x) isAgg58 sizeOf58 rR (za9 hx) rR) rR ?_)))));refine g_l (qy #[Str [],Str [],Bo false] zeroValue58) rR ?_;rintro _ _ ⟨b5,rfl,rfl⟩;refine yr (qr (cs:=#[Str [],Str [],Bo false]) (vs:=yp x) (yp x).toArray sizeOf58 rR rR rR rR (by decide) (qB rR)) ?_;rintro _ _ rfl;refine qb (qp (g_v (qa 0 underlying58 rR rR sizeOf9 (by decide) rR) rR (g_v (qe (v:=Str x.key) isAgg9 rR rR) rR (g_v (we underlying9 rR) rR (g_v (yT (r:=((x.key.length % 256:Nat):Int)) underlying3 underlying5 rR (wu8 _)) rR (g_v (qa 1 underlying58 rR rR sizeOf9 (by decide) rR) rR (g_v (qe (v:=Str x.val) isAgg9 rR rR) rR (g_v (we underlying9 rR) rR (g_v (yT (r:=((x.val.length % 256:Nat):Int)) underlying3 underlying5 rR (wu8 _)) rR (g_v (qa 1 underlying58 rR rR sizeOf9 (by decide) rR) rR (g_v (qe (v:=Str x.val) isAgg9 rR rR) rR (g_v (we underlying9 rR) rR (g_v (zd7 (r:=((x.val.length / 256:Nat):Int)) rR rR (by decide) (zjR x.val.length 256)) rR (g_v (yT (r:=((x.val.length / 256 % 256:Nat):Int)) underlying3 underlying5 rR (wu8 _)) rR ?_))))))))))))));refine g_l (qs (qq ([UInt8.ofNat x.key.length,UInt8.ofNat x.val.length,UInt8.ofNat (x.val.length / 256)])) underlying193 sizeOf5 zeroValue5 rR rR (zn1 x.key.length x.val.length) (by simp[qq]) (by decide) (by decide)) rR ?_;rintro _ _ ⟨b25,rfl,rfl⟩;refine g_v (yI (l:=[UInt8.ofNat x.key.length,UInt8.ofNat x.val.length,UInt8.ofNat (x.val.length / 256)]) underlying193 underlying5 underlying9 rR rR rR) rR (g_v (qa 0 underlying58 rR rR sizeOf9 (by decide) rR) rR (g_v (qe (v:=Str x.key) isAgg9 rR rR) rR (g_v (wJ rR rR (by simp <;> omega)) rR (g_v (qa 1 underlying58 rR rR sizeOf9 (by decide) rR) rR (g_v (qe (v:=Str x.val) isAgg9 rR rR) rR (g_v (wJ rR rR (by simp <;> omega)) rR ?_))))));refine g_l (qi (Pre:=[pt b3 (.cells #[(.pointer p),sl sB (yu (rows.take k)).length cB] 195 (0,0)),owL 5 1 sB cB (qq (yu (rows.take k)))]) call115 rR (zcO b3 p sB cB (yu (rows.take k)) (zqh x) hp (by have:=hlen k;have:=ziy (hok x (List.mem_of_getElem? hx));omega))) rR ?_;rintro _ _ ⟨s33,c33,rfl,rfl⟩;rw[←zjM hx];refine qb (qG (qp (g_v (qu (r:=((k+1:Nat):Int)) rfl rfl (by rw[show (k:Int)+1=((k+1:Nat):Int) by omega];exact w64 (by omega))) rfl (gM rfl (qb ?_)))));refine qo (k+1,some ⟨b3,0,none⟩,s33,c33) ⟨by simp only[];omega, .inr rfl, .inl ?_⟩ (by simp only[];omega) [3,6,7,8] rfl rfl
    simp only[];rw[zjM hx];intro e;have:=congrArg List.length e;rw[List.length_append,List.length_nil] at this;omega
  · simp at h9;obtain rfl:k=rows.length:=(by omega);rw[List.take_length] at hne ⊢;refine qz rR ?_;refine gS ?_;refine g_l (qi (Pre:=[pt b3 (.cells #[(.pointer p),sl sB (yu rows).length cB] 195 (0,0)),owL 5 1 sB cB (qq (yu rows))]) call117 rR (zfk b3 p sB cB (yu rows) hne (by have:=hlen rows.length;rw[List.take_length] at this;omega))) rR ?_;rintro _ _ ⟨rfl,rfl⟩;refine gA rR (qb ?_);refine qm rR rR ?_;exact rfl
theorem zhX (rows:List ChangeM)(hl:rows.length≤400)(hs:srt rows)(hok:∀r∈rows,okR r)(F:List HProp):Ct Tryz.prog 104 [Str (yu rows)] ([]++F) (fun v L'=>∃s cap,v= .tuple #[sl s rows.length cap,Bo true]∧L'=roL 3 s (chR rows)::F):=by
  show Ct Tryz.prog 104 [Str (yu rows)] (F) _;refine Ct.of func104 rR 64 ntmps104 (by simp) fun w0=>?_;have hlen:∀k,(yu (rows.drop k)).length≤59*400:=fun k=>by
    have:=zcE (l:=rows.drop k) fun r hr=>hok r (List.mem_of_mem_drop hr);rw[List.length_drop] at this;omega
  refine zlA 3 (chR (rows.take 0)) rR ?_;refine gS (gA rR (gA rR (qb (gS (gA rR (qb (qf (qk ?_))))))));refine qF (α:=Nat×Option Addr×Nat) (fun z=>z.1≤rows.length) (fun z=>U [(0,Str (yu (rows.drop z.1))),(4,sl z.2.1 (rows.take z.1).length z.2.2)]) (fun z=>roL 3 z.2.1 (chR (rows.take z.1))::F) (fun z=>rows.length - z.1) (0,none,0) (by simp) [0,4] rfl rR ?_;rintro ⟨k,sA,cA⟩ hk;simp only[] at hk ⊢;refine qf (gS (gM rR (g_v (zil rR rR) rR (qb ?_))));refine qg rR (fun h9=>?_) (fun h9=>?_)
  · simp at h9;have hkn:k<rows.length:=by
      rcases Nat.lt_or_ge k rows.length with h | h
      · exact h
      · rw[List.drop_eq_nil_of_le h] at h9;exact absurd rfl h9
    obtain ⟨x,hx⟩:∃x,rows[k]? =some x:=⟨_,List.getElem?_eq_getElem hkn⟩;have hxo:=hok x (List.mem_of_getElem? hx);obtain ⟨hk0,hg1,hxk,hxv⟩:=zfi hxo.1;have hc0:=hxo.1;have hg0:=hxo.2;have hd:=zj1 hx;have hdl:=hlen k;obtain ⟨x0,hx0,hx0e⟩:∃y:UInt8,y.toNat=x.key.length∧UInt8.ofNat x.key.length=y:=⟨_,zbG (by omega),rfl⟩;obtain ⟨x1,hx1,hx1e⟩:∃y:UInt8,y.toNat=x.val.length∧UInt8.ofNat x.val.length=y:=⟨_,zbG (by omega),rfl⟩;obtain ⟨x2,hx2,hx2e⟩:∃y:UInt8,y.toNat=0∧UInt8.ofNat (x.val.length / 256)=y:=⟨_,by rw[show x.val.length / 256=0 by omega];rfl,rfl⟩;rw[show zqh x++yu (rows.drop (k+1))=(x0::x1::x2::(x.key++(x.val++yu (rows.drop (k+1))))) by unfold zqh;rw[hx0e,hx1e,hx2e];simp] at hd;rw[hd] at hdl h9 ⊢;simp only[List.length_cons,List.length_append] at hdl;have hrest:(x0::x1::x2::(x.key++(x.val++yu (rows.drop (k+1))))).drop (x0.toNat+3+x1.toNat)=yu (rows.drop (k+1)):=by
      rw[hx0,hx1,show x.key.length+3+x.val.length=(x.key.length+x.val.length)+3 by omega];simp only[List.drop_succ_cons];rw[show x.key.length+x.val.length=(x.key++x.val).length by simp,←List.append_assoc,List.drop_left]
    have hkey:((x0::x1::x2::(x.key++(x.val++yu (rows.drop (k+1))))).take (x0.toNat+3)).drop 3=x.key:=by
      rw[hx0];simp only[List.take_succ_cons,List.drop_succ_cons,List.drop_zero];rw[List.take_left]
    have hval:((x0::x1::x2::(x.key++(x.val++yu (rows.drop (k+1))))).take (x0.toNat+3+x1.toNat)).drop (x0.toNat+3)=x.val:=by
      rw[hx0,hx1,show x.key.length+3+x.val.length=(x.key.length+x.val.length)+3 by omega];simp only[List.take_succ_cons,List.drop_succ_cons];rw[show x.key.length+x.val.length=(x.key++x.val).length by simp,←List.append_assoc,List.take_left,List.drop_left]
    have hbld:∀w,(Instr.build 58 #[(0,Str (((x0::x1::x2::(x.key++(x.val++yu (rows.drop (k+1))))).take (x0.toNat+3)).drop 3)),(1,Str (((x0::x1::x2::(x.key++(x.val++yu (rows.drop (k+1))))).take (x0.toNat+3+x1.toNat)).drop (x0.toNat+3)))]).run Tryz.prog w= .ok (.agg (yp x).toArray) w:=fun w=>by
      rw[hkey,hval,bldKV x.key x.val w];obtain ⟨xk,xv,xg⟩:=x;simp only at hg0;subst hg0
      rfl
    refine qh (qk (qf (qf ?_)));refine zae [(0,false),(1,false),(2,false),(3,false),(4,false),(5,false),(6,false),(7,false),(8,false),(9,false),(10,false),(11,false),(12,false),(13,false),(14,false),(15,false),(16,false),(17,false),(18,false),(19,false),(20,false)] (by kernel_rfl) (by kernel_rfl) rR (by kernel_rfl) ?_;refine dM rR rR rR (d_v rR (we underlying9 rR) rR (d_v rR (qN rR rR) rR (dM rR rR rR (qP rR rR rR (decide_eq_false (by simp only[List.length_cons];omega)) (qn rR) rR (qP rR rR rR (decide_eq_false (by simp only[List.length_cons];omega)) (qW (r:=x0) 0 underlying9 rR rR rR rR) rR (qP rR rR rR (decide_eq_false (by simp only[List.length_cons];omega)) (yT (r:=((x0.toNat:Nat):Int)) underlying5 underlying3 rR (w64 (by omega))) rR (qP rR rR rR (decide_eq_false (by simp only[List.length_cons];omega)) (qu rR rR (w64 (by omega))) rR (qP rR rR rR (decide_eq_false (by simp only[List.length_cons];omega)) (qn rR) rR (qP rR rR rR (decide_eq_false (by simp only[List.length_cons];omega)) (qW (r:=x1) 1 underlying9 rR rR rR rR) rR (qP rR rR rR (decide_eq_false (by simp only[List.length_cons];omega)) (yT (r:=((x1.toNat:Nat):Int)) underlying5 underlying3 rR (w64 (by omega))) rR (qP rR rR rR (decide_eq_false (by simp only[List.length_cons];omega)) (qu rR rR (w64 (by omega))) rR (qP rR rR rR (decide_eq_false (by simp only[List.length_cons];omega)) (qn rR) rR (qP rR rR rR (decide_eq_false (by simp only[List.length_cons];omega)) (qW (r:=x2) 2 underlying9 rR rR rR rR) rR (qP rR rR rR (decide_eq_false (by simp only[List.length_cons];omega)) (yT (r:=((x2.toNat:Nat):Int)) underlying5 underlying3 rR (w64 (by omega))) rR (qP rR rR rR (decide_eq_false (by simp only[List.length_cons];omega)) (zcY rR rR (w64 (by omega))) rR (qP rR rR rR (decide_eq_false (by simp only[List.length_cons];omega)) (qu rR rR (w64 (by omega))) rR (qP rR rR rR (decide_eq_false (by simp only[List.length_cons];omega)) (qn rR) rR (qP rR rR rR (decide_eq_false (by simp only[List.length_cons];omega)) (we underlying9 rR) rR (qP rR rR rR (decide_eq_false (by simp only[List.length_cons];omega)) (yw rR rR) rR (d_v rR (zar rR rR) rR ?_))))))))))))))))))));refine yg ?_;refine qg rR (fun h30=>?_) (fun h30=>?_)
    · exfalso;simp at h30;omega
    · refine qh (gS (gM rR (g_v (qW (r:=x0) 0 underlying9 rR rR rR rR) rR (g_v (yT (r:=((x0.toNat:Nat):Int)) underlying5 underlying3 rR (w64 (by omega))) rR (g_v (qu rR rR (w64 (by omega))) rR (gA rR (qb (qf ?_))))))));refine zae [(0,false),(1,false),(2,false),(3,false),(4,false),(5,false),(6,false),(7,false),(8,false),(9,false),(10,false)] (by kernel_rfl) (by kernel_rfl) rR (by kernel_rfl) ?_;refine dM rR rR rR (dM rR rR rR (d_v rR (qW (r:=x1) 1 underlying9 rR rR rR rR) rR (d_v rR (yT (r:=((x1.toNat:Nat):Int)) underlying5 underlying3 rR (w64 (by omega))) rR (d_v rR (qu rR rR (w64 (by omega))) rR (dM rR rR rR (d_v rR (qW (r:=x2) 2 underlying9 rR rR rR rR) rR (d_v rR (yT (r:=((x2.toNat:Nat):Int)) underlying5 underlying3 rR (w64 (by omega))) rR (d_v rR (zcY rR rR (w64 (by omega))) rR (d_v rR (qu rR rR (w64 (by omega))) rR (d_v rR (qx rR) rR ?_))))))))));refine yg ?_;refine qf ?_;refine zae [(0,false),(1,false),(2,false),(3,false),(4,false),(5,false),(6,false),(7,false),(8,true),(9,true)] (by kernel_rfl) (by kernel_rfl) rR (by kernel_rfl) ?_;refine dM rR rR rR (dM rR rR rR (d_v rR (zai (l:=3) (h:=x0.toNat+3) underlying9 rR rR rR rR (by omega) (by omega) (by simp;omega)) rR (dM rR rR rR (dM rR rR rR (dM rR rR rR (d_v rR (zai (l:=x0.toNat+3) (h:=x0.toNat+3+x1.toNat) underlying9 rR rR (by omega) rR (by omega) (by omega) (by simp;omega)) rR (d_v rR (qO rR hbld) rR ?_)))))));refine d_l rR (qy #[Str [],Str [],Bo false] zeroValue58) rR ?_;rintro _ _ ⟨b7,rfl,rfl⟩;refine zoc rR (qr (cs:=#[Str [],Str [],Bo false]) (vs:=yp x) (yp x).toArray sizeOf58 rR rR rR rR (by decide) (qB rR)) ?_;rintro _ _ rfl;refine yg ?_;refine qf (gS (g_v (qH (vs:=yp x) isAgg58 sizeOf58 rR rR qR) rR ?_));refine g_l (qi (Pre:=[]) call152 rR (za8 x)) rR ?_;rintro _ _ ⟨rfl,rfl⟩;rw[hc0];refine g_v (qY underlying29 rR) rR (qb ?_);refine qg rR (fun h55=>?_) (fun h55=>?_)
      · simp at h55
      · refine qh (gS (gM rR (g_v (qH (vs:=yp x) isAgg58 sizeOf58 rR rR qR) rR ?_)));refine g_l (qs [yp x] underlying33 sizeOf58 zeroValue58 rR rR rR (by simp[yp]) (by decide) (by decide)) rR ?_;rintro _ _ ⟨b58,rfl,rfl⟩;refine yM (T:=58) (cap:=1) (some ⟨b58,0,none⟩) ?_;rw[show [yp x]=chR [x] from rfl];refine g_l (qi (Pre:=[roL 3 sA (chR (rows.take k)),roL 3 (some ⟨b58,0,none⟩) (chR [x])]) call106 rR (zdp (rows.take k) [x] sA (some ⟨b58,0,none⟩) cA 1 (znl hs k) (by rw[List.length_take];omega) (by simp))) rR ?_;rintro _ _ ⟨s59,c59,rfl,rfl⟩;rw[zq1 hs hx hg0];refine yM (T:=58) (cap:=c59) s59 ?_;refine gA rR (qb (qp (gM rR (gM rR (g_v (zjz (l:=x0.toNat+3+x1.toNat) underlying9 rR rR (by omega) (by simp;omega)) rR (gA rR (qb (qG ?_))))))));rw[show (x0::x1::x2::(x.key++(x.val++yu (rows.drop (k+1))))).drop (x0.toNat+3+x1.toNat)=yu (rows.drop (k+1)) from hrest];exact qo (k+1,s59,c59) (by simp only[];omega) (by simp only[];omega) [0,4] rfl rfl
  · simp at h9;obtain rfl:k=rows.length:=by
      rcases Nat.lt_or_ge k rows.length with h | h
      · exfalso;obtain ⟨x,hx⟩:∃x,rows[k]? =some x:=⟨_,List.getElem?_eq_getElem h⟩;have:=zj1 hx;rw[h9] at this;have h2:=ziy (hok x (List.mem_of_getElem? hx));have h3:=congrArg List.length this;rw[List.length_append,List.length_nil] at h3;omega
      · omega
    rw[List.take_length];refine qz rR ?_;refine gS (gM rR (gA rR (gA rR (qb ?_))));exact ql (roL 3 sA (chR rows)::F) rfl ⟨sA,cA,rfl,rfl⟩
end Go.Proofs.YthdjckbjjfiopacGreatDoor
namespace Go.Proofs.YthdjckbjjfiopacGreatDoor
open Go.Sl Go.Proofs
def S80 (D:DiskM):Prop:=(∀x∈D.kept,x.length=80)∧(∀x∈D.now,x.length=80)∧∀t∈D.wait,t.2.length=80
theorem zxl {L:List Bytes}{n:Nat}{s:Bytes}(h:∀x∈L,x.length=80)(hs:s.length=80):∀x∈L.set n s,x.length=80:=fun x hx=>by
  rcases List.mem_or_eq_of_mem_set hx with h' | h'
  · exact h x h'
  · rw[h'];exact hs
theorem zgb {D:DiskM}(h:S80 D):S80 (wd D):=⟨by rw[yX];exact h.1,by rw[wA];exact h.2.1,by rw[wq];exact h.2.2⟩
theorem zxd {N:Nat}{D:DiskM}{x:Stp}(h:S80 D)(ho:zcn N x):S80 (stD D x):=by
  cases x with
  | none=>
    show S80 (yx D);unfold yx;split
    · have:=zgb h;exact ⟨this.2.1,this.2.1,fun t ht=>by cases ht⟩
    · exact zgb h
  | some y=>
    show S80 (yy D y.1 y.2);unfold yy;split
    · exact h
    · split
      · have:=zgb h;refine ⟨this.1,zxl this.2.1 (zjj ho.2),fun t ht=>?_⟩;simp only[wu,List.mem_append,List.mem_singleton] at ht;rcases ht with ht | rfl
        · exact this.2.2 t ht
        · exact zjj ho.2
      · exact zgb h
theorem zee {N:Nat}:∀(l:List Stp) (D:DiskM),S80 D→(∀x∈l,zcn N x)→S80 (wh D l).2
  | [],D,h,_=>h
  | x::l,D,h,ho=>by
    have h1:=zxd h (ho x (List.mem_cons_self ..));by_cases h0:stE D x=0
    · rw[zcK h0];exact zee l _ h1 (fun y hy=>ho y (List.mem_cons_of_mem _ hy))
    · rw[zbI h0];exact h1
theorem zq7 {from_ many first used N:Nat}{c:List ChangeM}{D:DiskM}(h:S80 D)(hN:from_+many≤N):S80 (zdI from_ many first used c D):=by
  unfold zdI;split
  · rename_i hv;exact zee _ _ h (zjo hN hv)
  · exact h
theorem zm3 (side:Nat)(t:Bytes):∀(f k:Nat),ckW side t k (f+1)=ckW side t k f++ [some (2+side*60+(k+f),wz t (k+f))]
  | 0,k=>rfl
  | f+1,k=>by
    rw[ckW,zm3 side t f (k+1),ckW,List.cons_append,show k+1+f=k+(f+1) by omega]
theorem zqL (side:Nat)(t:Bytes):∀(f g k:Nat),ckW side t k (f+g)=ckW side t k f++ckW side t (k+f) g
  | 0,g,k=>by rw[Nat.zero_add];rfl
  | f+1,g,k=>by
    rw[show f+1+g=(f+g)+1 by omega,ckW,zqL side t f g (k+1),ckW,List.cons_append,show k+1+f=k+(f+1) by omega]
theorem zbY {t:Bytes}{k:Nat}:(wz t k).length=Nat.min 80 (t.length - 80*k):=by unfold wz;simp[List.length_take,List.length_drop]
theorem chunks_lt {t:Bytes}{k:Nat}:k<yb t ↔ 80*k<t.length:=by unfold yb;omega
theorem ztc {side N:Nat}{t:Bytes}(hN:2+side*60+yb t≤N):∀(f k:Nat),k+f≤yb t→∀x∈ckW side t k f,zcn N x
  | 0,k,_,x,h=>by simp[ckW] at h
  | f+1,k,hk,x,h=>by
    rw[ckW] at h;rcases List.mem_cons.1 h with rfl | h
    · exact ⟨by simp only;omega,zjS t k⟩
    · exact ztc hN f (k+1) (by omega) x h
theorem zs8 {h:HdM}{t:Bytes}{N:Nat}(hN:2+h.side*60+yb t≤N):∀x∈ckL h t,zcn N x:=by
  intro x hx;unfold ckL at hx;simp only[List.mem_append,List.mem_cons,List.not_mem_nil,or_false] at hx;rcases hx with hx | rfl | rfl | rfl
  · exact ztc hN _ 0 (by omega) x hx
  · trivial
  · exact ⟨by simp only;omega,by rw[zhB];decide⟩
  · trivial
theorem zbD {l:List Stp}{x:Stp}{D D1:DiskM}(h:wh D l=(0,D1)):wh D (l++ [x])=(stE D1 x,stD D1 x):=by
  rw[zea,h];simp only[if_true];by_cases h0:stE D1 x=0
  · rw[zcK h0,ze4,h0]
  · rw[zbI h0]
theorem zbB {l r:List Stp}{D D1:DiskM}{e:Int}(h:wh D l=(e,D1))(he:e≠0):wh D (l++r)=(e,D1):=by
  rw[zea,h];simp only;rw[if_neg he]
theorem zsZ {l r:List Stp}{D D1:DiskM}(h:wh D l=(0,D1)):wh D (l++r)=wh D1 r:=by rw[zea,h];rfl
theorem zwu:∀(l:List Stp) (D:DiskM),(∀x∈l,zcn D.now.length x)→(wh D l).1=0∨(wh D l).1=9
  | [],D,_=> .inl rfl
  | x::l,D,h=>by
    have hx:=h x (List.mem_cons_self ..);have hst:stE D x=0∨stE D x=9:=by
      cases x with
      | none=>exact zaj D
      | some y=>
        show yO D y.1 y.2=0∨yO D y.1 y.2=9;unfold yO;rw[if_neg (by unfold zij;have h1:=hx.1;have h2:=hx.2;omega)];exact zaj D
    rcases hst with h0 | h0
    · rw[zcK h0];refine zwu l _ fun y hy=>?_;have:=h y (List.mem_cons_of_mem _ hy);have hl:(stD D x).now.length=D.now.length:=by
        cases x with
        | none=>
          show (yx D).now.length=_;unfold yx;split <;> simp[zaM,wA]
        | some z=>
          show (yy D z.1 z.2).now.length=_;unfold yy;split
          · rfl
          · split <;> simp[wu,wA]
      rw[hl];exact this
    · rw[zbI (by rw[h0];decide)];exact .inr h0
def fmW:Nat→List Stp
  | 0=>[some (0,[])]
  | k+1=>fmW k++ [some (122+k,[])]
def hd1:HdM:=⟨1,0,0,1⟩
def fmT:List Stp:=[none,some (1,wg hd1),none]
def fmL (N:Nat):List Stp:=fmW (N - 122)++fmT
theorem zps:∀(g k:Nat),∃r,fmW (k+g)=fmW k++r
  | 0,k=>⟨[],by simp⟩
  | g+1,k=>by
    obtain ⟨r,hr⟩:=zps g k;exact ⟨r++ [some (122+(k+g),[])],by rw[show k+(g+1)=(k+g)+1 by omega,fmW,hr,List.append_assoc]⟩
theorem zsm {k m:Nat}{D X:DiskM}{e:Int}(h:wh D (fmW k)=(e,X))(he:k=m∨e≠0)(hk:k≤m):wh D (fmW m)=(e,X):=by
  rcases he with rfl | he
  · exact h
  · obtain ⟨r,hr⟩:=zps (m - k) k;rw[show m=k+(m - k) by omega,hr];exact zbB h he
theorem zhu:∀k,(fmW k).length=k+1
  | 0=>rfl
  | k+1=>by rw[fmW,List.length_append,zhu k];rfl
def CkR (D:DiskM)(h:HdM)(rows:List ChangeM)(many used:Nat)(e:Int)(D1:DiskM)(h1:HdM)(used1:Nat):Prop:=
  wh D (ckL (nxH h rows many) (yu rows))=(e,D1)∧((e≠0∧h1=h∧used1=used)∨(e=0∧h1=nxH h rows many∧used1≤many∧∃ds,wa (h.first+many) (zjG D1 122) many 0 [] [] 0=(ds,used1)))
def MidR (D:DiskM)(h:HdM)(rows:List ChangeM)(many used:Nat)(c:List ChangeM)(e:Int)(D1:DiskM)(h1:HdM)(used1:Nat):Prop:=
  (many - used<c.length+1∧CkR D h rows many used e D1 h1 used1)∨(¬many - used<c.length+1∧e=0∧D1=D∧h1=h∧used1=used)
def zte (D:DiskM)(h:HdM)(rows:List ChangeM)(many used:Nat)(c:List ChangeM)(e:Int)(D2:DiskM)(h2:HdM)(used2:Nat)(rows2:List ChangeM):Prop:=
  (cmV many rows c≠0∧e=cmV many rows c∧D2=D∧h2=h∧used2=used∧rows2=rows)∨
  (cmV many rows c=0∧∃e1 D1 h1 used1,MidR D h rows many used c e1 D1 h1 used1∧((e1≠0∧e=e1∧D2=D1∧h2=h1∧used2=used1∧rows2=rows)∨
    (e1=0∧e=zhC 122 many h1.first used1 c D1∧D2=zdI 122 many h1.first used1 c D1∧h2=h1∧used2=zgI 122 many h1.first used1 c D1∧rows2=if e=0 then zaA rows c else rows)))
theorem zqn (h:HdM)(t:Bytes):(ckL h t).length=yb t+3:=by simp[ckL,ziM]
theorem zbT {rows:List ChangeM}(hl:rows.length≤80)(hr:∀r∈rows,okR r):yb (yu rows)≤60:=by
  have:=zcE hr;unfold yb;omega
theorem zp4 {h:HdM}{rows:List ChangeM}{N:Nat}(hl:rows.length≤80)(hr:∀r∈rows,okR r)(hN:196≤N):∀x∈ckL (nxH h rows (N - 122)) (yu rows),zcn N x:=by
  have:=zbT hl hr;exact zs8 (by show 2+(1 - h.side)*60+yb (yu rows)≤N;omega)
theorem zpz {D:DiskM}{h:HdM}{rows:List ChangeM}{N used i:Nat}{c:List ChangeM}{e:Int}{D1:DiskM}{h1:HdM}{used1:Nat}(hm:MidR D h rows (N - 122) used c e D1 h1 used1)(hok:okW N i D)(hS:S80 D)(hl:rows.length≤80)(hr:∀r∈rows,okR r)(hN:196≤N)(hu:used≤N - 122):
    okW N (i+63) D1∧S80 D1∧used1≤N - 122∧h1.first≤h.first+N∧h1.ep≤h.ep+1∧(h.side≤1→h1.side≤1)∧h.first≤h1.first:=by
  rcases hm with ⟨_,hrun,hc⟩ | ⟨_,_,rfl,rfl,rfl⟩
  · have h1':=zaV (ckL (nxH h rows (N - 122)) (yu rows)) i D hok;rw[hrun,zqn] at h1';have h2':=zee _ D hS (zp4 (h:=h) hl hr hN);rw[hrun] at h2';have:=zbT hl hr;refine ⟨zbn h1' (by omega),h2',?_⟩;rcases hc with ⟨_,rfl,rfl⟩ | ⟨_,rfl,hu1,_⟩
    · exact ⟨hu,by omega,by omega,id,Nat.le_refl _⟩
    · exact ⟨hu1,by simp only[nxH];omega,by simp only[nxH];omega,fun _=>by simp only[nxH];omega,by simp only[nxH];omega⟩
  · exact ⟨zbn hok (by omega),hS,hu,by omega,by omega,id,Nat.le_refl _⟩
open _root_.Go.Proofs.Tryz
open Go Go.Sl Go.Proofs
abbrev ckV (b:Nat)(t:Bytes)(k:Nat):Value:=sl (some ⟨b,80*k,none⟩) (wz t k).length (wz t k).length
def ckP (b2 b3 b cap:Nat)(t:Bytes):List HProp:=[pt b2 (.cells #[sl (some ⟨b,0,none⟩) t.length cap] 193 (0,0)),pt b3 (.cells #[I 80] 3 (0,0)),roL 1 (some ⟨b,0,none⟩) (qq t)]
theorem zqP {t:Bytes}{k:Nat}:(if (((t.length - 80*k:Nat):Nat):Int)<80 then ((t.length - 80*k:Nat):Int) else 80)=(((wz t k).length:Nat):Int):=by
  rw[zbY];by_cases h:t.length - 80*k<80
  · rw[if_pos (by omega),show Nat.min 80 (t.length - 80*k)=t.length - 80*k from Nat.min_eq_right (by omega)]
  · rw[if_neg (by omega),show Nat.min 80 (t.length - 80*k)=80 from Nat.min_eq_left (by omega)];rfl
theorem zwr {t:Bytes}{k b:Nat}(hk:80*k<t.length):sl (if 80*k+(wz t k).length=80*k then (some ⟨b,0,none⟩:Option Addr) else (some ⟨b,0,none⟩:Option Addr).map (·.add (80*k*1))) (80*k+(wz t k).length - 80*k) (80*k+(wz t k).length - 80*k)=ckV b t k:=by
  have hc:(wz t k).length≠0:=by
    rw[zbY];have h1:1≤Nat.min 80 (t.length - 80*k):=Nat.le_min.2 ⟨by decide,by omega⟩;omega
  rw[if_neg (by omega),Nat.add_sub_cancel_left,Option.map_some,zaH,Nat.zero_add,Nat.mul_one]
theorem zr3 (s:Option Addr)(n cap:Nat)(F:List HProp):Ct Tryz.prog 195 [sl s n cap,I 80] ([]++F) (fun v L'=>∃b2 b3,v= .func (.func 220) #[] #[ptr b2 0,ptr b3 0]∧L'=pt b2 (.cells #[sl s n cap] 193 (0,0))::pt b3 (.cells #[I 80] 3 (0,0))::F):=by
  show Ct Tryz.prog 195 [sl s n cap,I 80] (F) _;refine Ct.of func195 rR 9 ntmps195 (by simp) fun w0=>?_;refine gS ?_;refine g_l (wQ #[sl s n cap] rfl rR) rR ?_;rintro _ _ ⟨b2,rfl,rfl⟩;refine g_l (wQ #[I 80] rfl rR) rR ?_;rintro _ _ ⟨b3,rfl,rfl⟩;refine gA rR (qb (qf (gS (g_v (qe (v:=I 80) isAgg3 rR rR) rR (g_v (qN rR rR) rR (qb ?_))))));refine qg rR (fun h6=>?_) (fun h6=>?_)
  · simp at h6
  · refine qh (gS (g_v (wN rR rR) rR (gA rR (qb ?_))));exact ql (pt b2 (.cells #[sl s n cap] 193 (0,0))::pt b3 (.cells #[I 80] 3 (0,0))::F) rfl ⟨b2,b3,rfl,rfl⟩
theorem zqt (b2 b3 b cap l:Nat)(t:Bytes)(w0:World)(A:Nat→List HProp)(B:List HProp)(hcap:t.length≤cap)(hlen:t.length≤1000000)
    (hr:∀k,k<yb t→zlI Tryz.prog l (ckV b t k) w0 (ckP b2 b3 b cap t++A k) (ckP b2 b3 b cap t++A (k+1)) (ckP b2 b3 b cap t++B)):
    ∀w,Sat w0 w (ckP b2 b3 b cap t++A 0)→Calls Tryz.prog 220 (.func (.yield l) #[] #[]:: [ptr b2 0,ptr b3 0]).toArray w fun e w'=>match e with
      | .returned _=>Sat w0 w' (ckP b2 b3 b cap t++A (yb t))∨Sat w0 w' (ckP b2 b3 b cap t++B)
      | _=>False:=fun w hw=>by
  refine Calls.mono (zrM func220 rR 31 ntmps220 (by simp) (L:=pt b2 (.cells #[sl (some ⟨b,0,none⟩) t.length cap] 193 (0,0))::pt b3 (.cells #[I 80] 3 (0,0))::roL 1 (some ⟨b,0,none⟩) (qq t)::A 0) (R:=fun v L'=>L'=ckP b2 b3 b cap t++A (yb t)∨L'=ckP b2 b3 b cap t++B) ?_ w hw) fun e w' he=>?_;rotate_left
  · cases e with
    | returned v=>
        obtain ⟨L',h1,h2 | h2⟩:=he <;> subst h2
        · exact .inl h1
        · exact .inr h1
    | panicked ch=>exact he
    | outgrown=>exact he
  refine gS (gA rR (qb (qk ?_)));refine qF (α:=Nat) (fun k=>k≤yb t) (fun k=>U [(0, .func (.yield l) #[] #[]),(1,ptr b2 0),(2,ptr b3 0),(4,I ((80*k:Nat):Int))]) (fun k=>pt b2 (.cells #[sl (some ⟨b,0,none⟩) t.length cap] 193 (0,0))::pt b3 (.cells #[I 80] 3 (0,0))::roL 1 (some ⟨b,0,none⟩) (qq t)::A k) (fun k=>yb t - k) 0 (Nat.zero_le _) [0,1,2,4] rfl rR ?_;intro k hk;refine qf (gS (gM rR (g_v (qe (v:=sl (some ⟨b,0,none⟩) t.length cap) isAgg193 rR rR) rR (g_v (yq underlying193 rR) rR (g_v (qN rR rR) rR (qb ?_))))));refine qg rR (fun h9=>?_) (fun h9=>?_)
  · simp at h9;have hkt:80*k<t.length:=(by omega);have hcl:=zbY (t:=t) (k:=k);have hcl1:(wz t k).length≤80∧80*k+(wz t k).length≤t.length:=by
      have h1:Nat.min 80 (t.length - 80*k)≤80:=Nat.min_le_left ..;have h2:Nat.min 80 (t.length - 80*k)≤t.length - 80*k:=Nat.min_le_right ..;omega
    refine qh (qf (qk (qf ?_)));refine zae [(0,false),(1,false),(2,false),(3,false),(4,false),(5,false),(6,false)] (by kernel_rfl) (by kernel_rfl) rR (by kernel_rfl) ?_;refine d_v rR (qe (v:=I 80) isAgg3 rR rR) rR (d_v rR (qe (v:=sl (some ⟨b,0,none⟩) t.length cap) isAgg193 rR rR) rR (dM rR rR rR (d_v rR (zb4 (l:=80*k) underlying193 sizeOf5 rR rR rR (by omega)) rR (d_v rR (yq underlying193 rR) rR (d_v rR (v_min rR rR) rR (d_v rR (qx rR) rR ?_))))));refine yg ?_;rw[zqP];refine qf ?_;refine zwN ?_;refine y_v (qn rR) rR ?_;refine y_v (qe (v:=sl (some ⟨b,0,none⟩) t.length cap) isAgg193 rR rR) rR ?_;refine y_v (qn rR) rR ?_;refine y_v (qn rR) rR ?_;refine y_v (qn rR) rR ?_;refine y_v (qu (r:=((80*k+(wz t k).length:Nat):Int)) rfl rfl (by rw[show ((80*k:Nat):Int)+(((wz t k).length:Nat):Int)=((80*k+(wz t k).length:Nat):Int) by omega];exact w64 (by omega))) rfl ?_;refine y_v (qn rR) rR ?_;refine y_v (qn rR) rR ?_;refine y_v (qu (r:=((80*k+(wz t k).length:Nat):Int)) rfl rfl (by rw[show ((80*k:Nat):Int)+(((wz t k).length:Nat):Int)=((80*k+(wz t k).length:Nat):Int) by omega];exact w64 (by omega))) rfl ?_;refine y_v (zwJ (l:=80*k) (h:=80*k+(wz t k).length) (q:=80*k+(wz t k).length) underlying193 sizeOf5 rR rR rR rR rR rR rR (by omega) (by omega) (by omega)) rR ?_;rw[zwr hkt];refine zu4 (l:=l) (v:=ckV b t k) rR rR (hr k (chunks_lt.2 hkt)) rR ?_ ?_;rotate_left
    · refine y_v (wn rR) rR ?_;refine zw4 ?_;refine wK rR ?_;exact ql (ckP b2 b3 b cap t++B) rfl (.inr rfl)
    show G _ _ _ (pt b2 (.cells #[sl (some ⟨b,0,none⟩) t.length cap] 193 (0,0))::pt b3 (.cells #[I 80] 3 (0,0))::roL 1 (some ⟨b,0,none⟩) (qq t)::A (k+1));refine y_v (wn rR) rR ?_;refine zw4 ?_;refine wb rR ?_;refine qh (qG (qp (gM rfl (g_v (qe (v:=I 80) isAgg3 rfl rfl) rfl (g_v (qu (r:=((80*(k+1):Nat):Int)) rfl rfl (by rw[show ((80*k:Nat):Int)+80=((80*(k+1):Nat):Int) by omega];exact w64 (by omega))) rfl (gA rfl (qb ?_)))))));exact qo (k+1) (chunks_lt.2 hkt) (by have:=chunks_lt.2 hkt;omega) [0,1,2,4] rfl rfl
  · simp at h9;obtain rfl:k=yb t:=by
      rcases Nat.lt_or_ge k (yb t) with h | h
      · have:=chunks_lt.1 h;omega
      · omega
    refine qz rR ?_;exact g_end (vs:=[]) rfl (.inl rfl)
def zrf (T TT b:Nat)(φ:DiskM→Prop):HProp:=fun m=>∃D,φ D∧dsk T TT b D m
section
variable {c:Cx}{E:Env}{L F:List HProp}{K:List KI}{T TT b l:Nat}{Q:Post}{φ:DiskM→Prop}
theorem zjV {w0 w:World}(h:Sat w0 w (zrf T TT b φ::F)):∃D,φ D∧Sat w0 w (dsk T TT b D::F):=by
  have h1:Sat w0 w (hex (fun D=>zpC (zcQ (φ D)) (dsk T TT b D))::F):=h.weak fun m ⟨D,h1,h2⟩=>⟨D,fun _=>none,m,(fun _ _ _ h=>nomatch h),(fun _ _ h=>nomatch h),Res.sub.refl m,h1,h2⟩;obtain ⟨D,h2⟩:=h1.ex;exact ⟨D,h2.star.pure_.1,h2.star.pure_.2⟩
theorem zwI [R:Rem L (zrf T TT b φ) F](h:∀D,φ D→H c l Q K E (dsk T TT b D::F)):H c l Q K E L:=fun a w hE hS=>by
  obtain ⟨D,h1,h2⟩:=zjV (R.sat hS);exact h D h1 a w hE h2
theorem zxx [R:Rem L (zrf T TT b φ) F](h:∀D,φ D→G c K E (dsk T TT b D::F)):G c K E L:=fun a w hE hS=>by
  obtain ⟨D,h1,h2⟩:=zjV (R.sat hS);exact h D h1 a w hE h2
theorem zuY (D:DiskM)(hD:φ D)[R:Rem L (dsk T TT b D) F](h:H c l Q K E (zrf T TT b φ::F)):H c l Q K E L:=fun a w hE hS=>h a w hE ((R.sat hS).weak fun m hm=>⟨D,hD,hm⟩)
theorem zuz (D:DiskM)(hD:φ D)[R:Rem L (dsk T TT b D) F](h:G c K E (zrf T TT b φ::F)):G c K E L:=fun a w hE hS=>h a w hE ((R.sat hS).weak fun m hm=>⟨D,hD,hm⟩)
end
theorem zjd (h:HdM):(ws h).length=4:=rfl
theorem zqv (e:Int):one (yE e)=true:=by unfold yE zbU;split <;> rfl
theorem zbK (bs bd:Nat)(h:HdM)(bl:Nat)(s:Option Addr)(cap:Nat)(rows:List ChangeM)(N i used:Nat)(D:DiskM)(hok:okW N i D)(hi:i≤100000)(hS:S80 D)(hN0:196≤N∧N≤260)(hh:h.ep≤1000000∧h.side≤1∧1≤h.first∧h.first≤1000000000)(hl:rows.length≤80)(hrw:∀r∈rows,okR r)(F:List HProp):Ct Tryz.prog 154 [ptr bs 0] ([pt bs (.cells (stC bd h bl s (rows.length) cap) 179 (0,0)),pt bl (.cells (lgC bd 122 (N - 122) h.first (used)) 228 (0,0)),dsk 219 285 bd (D),roL 3 s (chR rows)]++F) (fun v L'=>∃e D1,wh D (ckL (nxH h rows (N - 122)) (yu rows))=(e,D1)∧((e≠0∧v=yE e∧L'=pt bs (.cells (stC bd h bl s (rows.length) cap) 179 (0,0))::pt bl (.cells (lgC bd 122 (N - 122) h.first (used)) 228 (0,0))::dsk 219 285 bd (D1)::roL 3 s (chR rows)::F)∨(e=0∧∃bl' ds used',used'≤N - 122∧wa (h.first+(N - 122)) (zjG D1 122) (N - 122) 0 [] [] 0=(ds,used')∧v=yE 0∧L'=pt bs (.cells (stC bd (nxH h rows (N - 122)) bl' s (rows.length) cap) 179 (0,0))::pt bl' (.cells (lgC bd 122 (N - 122) (h.first+(N - 122)) (used')) 228 (0,0))::dsk 219 285 bd (D1)::roL 3 s (chR rows)::F))):=by
  show Ct Tryz.prog 154 [ptr bs 0] (pt bs (.cells (stC bd h bl s (rows.length) cap) 179 (0,0))::pt bl (.cells (lgC bd 122 (N - 122) h.first (used)) 228 (0,0))::dsk 219 285 bd (D)::roL 3 s (chR rows)::F) _;refine Ct.of func154 rR 113 ntmps154 (by simp) fun w0=>?_;have hal:=zcE hrw;have hcs:yb (yu rows)≤60:=(by unfold yb;omega);have hckl:∀x∈ckL (nxH h rows (N - 122)) (yu rows),zcn N x:=zs8 (by show 2+(1 - h.side)*60+yb (yu rows)≤N;omega);refine gS ?_;refine g_l (wQ #[ptr bs 0] rfl rR) rR ?_;rintro _ _ ⟨b1,rfl,rfl⟩;refine g_l (zez (.nilIface) zeroValue29 rR) rR ?_;rintro _ _ ⟨b2,rfl,rfl⟩;refine qb (gS (g_v (qe (v:=ptr bs 0) isAgg121 rR rR) rR (g_v (qc rR) rR (g_v (qa 6 underlying179 rR rR sizeOf33 (by decide) rR) rR (g_v (qe (v:=sl s rows.length cap) isAgg33 rR rR) rR ?_)))));refine g_l (qi (Pre:=[roL 3 s (chR rows)]) call193 rR (zkn rows s cap (by omega) hrw)) rR ?_;rintro _ _ ⟨rfl,rfl⟩;refine gA rR (qb (qf ?_));refine zjO (fun _:Nat=>True) (fun b4=>U [(1,ptr b1 0),(2,ptr b2 0),(3,Str (yu rows)),(4,ptr b4 0)]) (fun b4=>pt b4 (.cells (ws (nxH h rows (N - 122))).toArray 176 (0,0))::pt b2 (.cells #[.nilIface] 29 (0,0))::pt b1 (.cells #[ptr bs 0] 121 (0,0))::pt bs (.cells (stC bd h bl s (rows.length) cap) 179 (0,0))::pt bl (.cells (lgC bd 122 (N - 122) h.first (used)) 228 (0,0))::dsk 219 285 bd (D)::roL 3 s (chR rows)::F) ?_ ?_
  · refine zmc (Lf:=[pt b1 (.cells #[ptr bs 0] 121 (0,0)),pt bs (.cells (stC bd h bl s (rows.length) cap) 179 (0,0))]) (.q 0 (.q 1 (.q 2 (.q 3 (.q 4 (.q 5 (.q 6 (.q 7 (.q 8 (.q 9 (.q 10 (.q 11 (.q 12 (.q 13 (.q 14 (.q 15 (.q 16 (.q 17 (.alt (.l 18 (.q 19 (.l 20 (.l 21 (.nil))))) (.l 20 (.l 18 (.q 19 (.l 21 (.nil)))))))))))))))))))))))) (by kernel_rfl) (by kernel_rfl) (by kernel_rfl) ?_;refine t_v rR (qe (v:=ptr bs 0) isAgg121 rR rR) rR ?_;refine t_v rR (qc rR) rR ?_;refine t_v rR (qa 1 underlying179 rR rR sizeOf176 (by decide) rR) rR ?_;refine t_v rR (qa 0 underlying176 rR rR sizeOf3 (by decide) rR) rR ?_;refine t_v rR (qe (v:=I h.ep) isAgg3 rR rR) rR ?_;refine t_v rfl (qu (r:=((h.ep+1:Nat):Int)) rfl rfl (by rw[show (h.ep:Int)+(1:Int)=((h.ep+1:Nat):Int) by omega];exact w64 (by omega))) rfl ?_;refine t_v rR (qe (v:=ptr bs 0) isAgg121 rR rR) rR ?_;refine t_v rR (qc rR) rR ?_;refine t_v rR (qa 1 underlying179 rR rR sizeOf176 (by decide) rR) rR ?_;refine t_v rR (qa 1 underlying176 rR rR sizeOf3 (by decide) rR) rR ?_;refine t_v rR (qe (v:=I h.side) isAgg3 rR rR) rR ?_;refine t_v rfl (zce (r:=((1 - h.side:Nat):Int)) rfl rfl (by rw[show (1:Int) - (h.side:Int)=((1 - h.side:Nat):Int) by omega];exact w64 (by omega))) rfl ?_;refine t_v rR (qn rR) rR ?_;refine t_v rR (we underlying9 rR) rR ?_;refine t_v rR (qe (v:=ptr bs 0) isAgg121 rR rR) rR ?_;refine t_v rR (qc rR) rR ?_;refine t_v rR (qa 5 underlying179 rR rR sizeOf177 (by decide) rR) rR ?_;refine t_v rR (qe (v:=ptr bl 0) isAgg177 rR rR) rR ?_;refine zhV ?_ ?_
    · refine t_l rfl (qi (Pre:=[pt bl (.cells (lgC bd 122 (N - 122) h.first (used)) 228 (0,0))]) call194 rfl (zgY bl bd 122 (N - 122) h.first used ⟨by omega,by omega⟩)) rfl ?_;rintro _ _ ⟨rfl,rfl⟩;refine t_v rR (qO rR (wl _ rR _ rR _ rR _ rR)) rR ?_;refine t_l rR (qy #[I 0,I 0,I 0,I 0] zeroValue176) rR ?_;rintro _ _ ⟨b4,rfl,rfl⟩;refine zve rR (qr (cs:=#[I 0,I 0,I 0,I 0]) (vs:=ws (nxH h rows (N - 122))) (ws (nxH h rows (N - 122))).toArray sizeOf176 rR rR rR rR (by decide) (qB (zjd _))) ?_;rintro _ _ rfl;refine zfm ?_;exact zaD b4 trivial [1,2,3,4] rfl rfl
    · refine t_l rR (qy #[I 0,I 0,I 0,I 0] zeroValue176) rR ?_;rintro _ _ ⟨b4,rfl,rfl⟩;refine t_l rfl (qi (Pre:=[pt bl (.cells (lgC bd 122 (N - 122) h.first (used)) 228 (0,0))]) call194 rfl (zgY bl bd 122 (N - 122) h.first used ⟨by omega,by omega⟩)) rfl ?_;rintro _ _ ⟨rfl,rfl⟩;refine t_v rR (qO rR (wl _ rR _ rR _ rR _ rR)) rR ?_;refine zve rR (qr (cs:=#[I 0,I 0,I 0,I 0]) (vs:=ws (nxH h rows (N - 122))) (ws (nxH h rows (N - 122))).toArray sizeOf176 rR rR rR rR (by decide) (qB (zjd _))) ?_;rintro _ _ rfl;refine zfm ?_;exact zaD b4 trivial [1,2,3,4] rfl rfl
  intro b4 _;refine gS ?_;refine g_l (zez (I 0) zeroValue3 rR) rR ?_;rintro _ _ ⟨b5,rfl,rfl⟩;refine yr (qK #[I ((0:Nat):Int)] sizeOf3 rR rR rR (by decide) rR) ?_;rintro _ _ rfl;refine qb (qf (gS (gM rR ?_)));refine g_l (zn8 underlying9 underlying193 underlying5 rR) rR ?_;rintro _ _ ⟨b37,c37,rfl,hc37,rfl⟩;refine g_l (qi (Pre:=[]) call195 rR (zr3 (some ⟨b37,0,none⟩) (yu rows).length c37)) rR ?_;rintro _ _ ⟨b38,d38,rfl,rfl⟩;refine qb (qk ?_);obtain ⟨eN,DN,hN⟩:∃e X,wh D (ckW (1 - h.side) (yu rows) 0 ((yb (yu rows))))=(e,X):=⟨_,_,rfl⟩;refine zuz (T:=219) (TT:=285) (b:=bd) (φ:=fun X=>wh D (ckW (1 - h.side) (yu rows) 0 (0))=(0,X)) D rR ?_;refine zcd (L2:=pt b38 (.cells #[sl (some ⟨b37,0,none⟩) (yu rows).length c37] 193 (0,0))::pt d38 (.cells #[I 80] 3 (0,0))::roL 1 (some ⟨b37,0,none⟩) (qq (yu rows))::zrf 219 285 bd (fun X=>wh D (ckW (1 - h.side) (yu rows) 0 (0))=(0,X))::pt b5 (.cells #[I ((0:Nat):Int)] 3 (0,0))::pt b2 (.cells #[.nilIface] 29 (0,0))::pt b1 (.cells #[ptr bs 0] 121 (0,0))::pt b4 (.cells (ws (nxH h rows (N - 122))).toArray 176 (0,0))::pt bs (.cells (stC bd h bl s (rows.length) cap) 179 (0,0))::pt bl (.cells (lgC bd 122 (N - 122) h.first (used)) 228 (0,0))::roL 3 s (chR rows)::F) ?_;refine zlo (Pre:=[pt b38 (.cells #[sl (some ⟨b37,0,none⟩) (yu rows).length c37] 193 (0,0)),pt d38 (.cells #[I 80] 3 (0,0)),roL 1 (some ⟨b37,0,none⟩) (qq (yu rows))]) (A:=fun k=>zrf 219 285 bd (fun X=>wh D (ckW (1 - h.side) (yu rows) 0 (k))=(0,X))::pt b5 (.cells #[I ((k:Nat):Int)] 3 (0,0))::pt b2 (.cells #[.nilIface] 29 (0,0))::pt b1 (.cells #[ptr bs 0] 121 (0,0))::pt b4 (.cells (ws (nxH h rows (N - 122))).toArray 176 (0,0))::pt bs (.cells (stC bd h bl s (rows.length) cap) 179 (0,0))::pt bl (.cells (lgC bd 122 (N - 122) h.first (used)) 228 (0,0))::roL 3 s (chR rows)::F) (B:=zcQ (eN≠0)::dsk 219 285 bd (DN)::pt b2 (.cells #[yE eN] 29 (0,0))::pt b1 (.cells #[ptr bs 0] 121 (0,0))::pt b4 (.cells (ws (nxH h rows (N - 122))).toArray 176 (0,0))::pt bs (.cells (stC bd h bl s (rows.length) cap) 179 (0,0))::pt bl (.cells (lgC bd 122 (N - 122) h.first (used)) 228 (0,0))::roL 3 s (chR rows)::F) (N:=(yb (yu rows))) (v:=ckV b37 (yu rows)) (cap:=[ptr b38 0,ptr d38 0]) rfl rfl rfl call220 (fun l A' B' hr w hw=>zqt b38 d38 b37 c37 l (yu rows) _ A' B' hc37 (by omega) hr w hw) rfl (fun l k a w hE=>has1 hE rfl) ?_ ?_ ?_
  · intro l D' O k hk;show H _ _ (zsz _ (pt b38 (.cells #[sl (some ⟨b37,0,none⟩) (yu rows).length c37] 193 (0,0))::pt d38 (.cells #[I 80] 3 (0,0))::roL 1 (some ⟨b37,0,none⟩) (qq (yu rows))::pt l O::pt D' dO::zrf 219 285 bd (fun X=>wh D (ckW (1 - h.side) (yu rows) 0 ((k+1)))=(0,X))::pt b5 (.cells #[I (((k+1):Nat):Int)] 3 (0,0))::pt b2 (.cells #[.nilIface] 29 (0,0))::pt b1 (.cells #[ptr bs 0] 121 (0,0))::pt b4 (.cells (ws (nxH h rows (N - 122))).toArray 176 (0,0))::pt bs (.cells (stC bd h bl s (rows.length) cap) 179 (0,0))::pt bl (.cells (lgC bd 122 (N - 122) h.first (used)) 228 (0,0))::roL 3 s (chR rows)::F) (pt b38 (.cells #[sl (some ⟨b37,0,none⟩) (yu rows).length c37] 193 (0,0))::pt d38 (.cells #[I 80] 3 (0,0))::roL 1 (some ⟨b37,0,none⟩) (qq (yu rows))::pt l O::pt D' dO::zcQ (eN≠0)::dsk 219 285 bd (DN)::pt b2 (.cells #[yE eN] 29 (0,0))::pt b1 (.cells #[ptr bs 0] 121 (0,0))::pt b4 (.cells (ws (nxH h rows (N - 122))).toArray 176 (0,0))::pt bs (.cells (stC bd h bl s (rows.length) cap) 179 (0,0))::pt bl (.cells (lgC bd 122 (N - 122) h.first (used)) 228 (0,0))::roL 3 s (chR rows)::F)) _ _ (pt b38 (.cells #[sl (some ⟨b37,0,none⟩) (yu rows).length c37] 193 (0,0))::pt d38 (.cells #[I 80] 3 (0,0))::roL 1 (some ⟨b37,0,none⟩) (qq (yu rows))::pt l O::pt D' dO::zrf 219 285 bd (fun X=>wh D (ckW (1 - h.side) (yu rows) 0 (k))=(0,X))::pt b5 (.cells #[I ((k:Nat):Int)] 3 (0,0))::pt b2 (.cells #[.nilIface] 29 (0,0))::pt b1 (.cells #[ptr bs 0] 121 (0,0))::pt b4 (.cells (ws (nxH h rows (N - 122))).toArray 176 (0,0))::pt bs (.cells (stC bd h bl s (rows.length) cap) 179 (0,0))::pt bl (.cells (lgC bd 122 (N - 122) h.first (used)) 228 (0,0))::roL 3 s (chR rows)::F);refine zwI (T:=219) (TT:=285) (b:=bd) (φ:=fun X=>wh D (ckW (1 - h.side) (yu rows) 0 (k))=(0,X)) ?_;intro Dk hDk;have hokk:=zaV (ckW (1 - h.side) (yu rows) 0 (k)) i D hok;rw[hDk,ziM] at hokk;simp only at hokk;have hckl1:=zjS (yu rows) k;refine zw7 (m:=80*k) (n:=80) (t:=(yu rows)) (b:=b37) ?_;rw[show (List.drop (80*k) (yu rows)).take 80=wz (yu rows) k from rfl];refine ztP ?_;refine zsb ?_;refine zww (Lf:=[pt b1 (.cells #[ptr bs 0] 121 (0,0)),pt b4 (.cells (ws (nxH h rows (N - 122))).toArray 176 (0,0)),pt b5 (.cells #[I ((k:Nat):Int)] 3 (0,0)),pt bs (.cells (stC bd h bl s (rows.length) cap) 179 (0,0)),roL 1 (some ⟨b37,80*k,none⟩) (qq (wz (yu rows) k))]) [(0,false),(1,false),(2,false),(3,false),(4,false),(5,false),(6,false),(7,false),(8,false),(9,false),(10,false),(11,false),(12,true),(13,false)] (α:=Unit) (fun _=>True) (fun _=>U [(2,ptr b2 0),(5,ptr b5 0),(7,yE (yO Dk ((2+(1 - h.side)*60+k:Nat):Int) (wz (yu rows) k)))]) (fun _=>pt b38 (.cells #[sl (some ⟨b37,0,none⟩) (yu rows).length c37] 193 (0,0))::pt d38 (.cells #[I 80] 3 (0,0))::roL 1 (some ⟨b37,0,none⟩) (qq (yu rows))::pt l O::pt D' dO::dsk 219 285 bd ((yy Dk ((2+(1 - h.side)*60+k:Nat):Int) (wz (yu rows) k)))::pt b5 (.cells #[I ((k:Nat):Int)] 3 (0,0))::pt b2 (.cells #[.nilIface] 29 (0,0))::pt b1 (.cells #[ptr bs 0] 121 (0,0))::pt b4 (.cells (ws (nxH h rows (N - 122))).toArray 176 (0,0))::pt bs (.cells (stC bd h bl s (rows.length) cap) 179 (0,0))::pt bl (.cells (lgC bd 122 (N - 122) h.first (used)) 228 (0,0))::roL 3 s (chR rows)::F) (by kernel_rfl) (by kernel_rfl) rfl (by kernel_rfl) (by kernel_rfl) ?_ ?_
    · refine d_v rfl (qe (v:=ptr bs 0) isAgg121 rfl rfl) rfl (d_v rfl (qc rfl) rfl (d_v rfl (qa 0 underlying179 rfl rfl sizeOf61 (by decide) rfl) rfl (d_v rfl (qe (v:=ptr bd 0) isAgg61 rfl rfl) rfl (d_v rfl (qa 1 underlying176 rfl rfl sizeOf3 (by decide) rfl) rfl (d_v rfl (qe (v:=I (((1 - h.side):Nat):Int)) isAgg3 rfl rfl) rfl (d_v rfl (zcY (r:=(((1 - h.side)*60:Nat):Int)) rfl rfl (by rw[show ((((1 - h.side):Nat):Int):Int)*(60:Int)=(((1 - h.side)*60:Nat):Int) by omega];exact w64 (by omega))) rfl (d_v rfl (qu (r:=((2+(1 - h.side)*60:Nat):Int)) rfl rfl (by rw[show (2:Int)+((((1 - h.side)*60:Nat):Int):Int)=((2+(1 - h.side)*60:Nat):Int) by omega];exact w64 (by omega))) rfl (d_v rfl (qe (v:=I (k:Int)) isAgg3 rfl rfl) rfl (d_v rfl (qu (r:=((2+(1 - h.side)*60+k:Nat):Int)) rfl rfl (by rw[show (((2+(1 - h.side)*60:Nat):Int):Int)+(k:Int)=((2+(1 - h.side)*60+k:Nat):Int) by omega];exact w64 (by omega))) rfl (dM rfl rfl rfl (d_v rfl (yI (l:=wz (yu rows) k) underlying193 underlying5 underlying9 rfl rfl rfl) rfl ?_)))))))))));refine d_l rR (qi (Pre:=[dsk 219 285 bd (Dk)]) call182 rR (wt bd Dk ((2+(1 - h.side)*60+k:Nat):Int) (wz (yu rows) k) hokk.2.2.1 (by have:=hokk.2.2.2.2;omega))) rR ?_;rintro _ _ ⟨rfl,rfl⟩;refine d_v rR (qx rR) rR ?_;refine yg ?_;exact zaD () trivial [2,5,7] rfl rfl
    intro _ _;obtain ⟨e1,he1⟩:∃e,yO Dk ((2+(1 - h.side)*60+k:Nat):Int) (wz (yu rows) k)=e:=⟨_,rfl⟩;obtain ⟨D1,hD1⟩:∃X,yy Dk ((2+(1 - h.side)*60+k:Nat):Int) (wz (yu rows) k)=X:=⟨_,rfl⟩;rw[he1,hD1];have hsn:wh D (ckW (1 - h.side) (yu rows) 0 (k+1))=(e1,D1):=by
      rw[zm3,Nat.zero_add,zbD hDk,←he1,←hD1]
      rfl
    refine zsb ?_;refine zsb ?_;refine ztO (α:=Unit) (fun _=>True) (fun _=>U [(2,ptr b2 0),(5,ptr b5 0),(7,yE e1),(54,Bo (!decide (e1=0)))]) (fun _=>pt b38 (.cells #[sl (some ⟨b37,0,none⟩) (yu rows).length c37] 193 (0,0))::pt d38 (.cells #[I 80] 3 (0,0))::roL 1 (some ⟨b37,0,none⟩) (qq (yu rows))::pt l O::pt D' dO::dsk 219 285 bd (D1)::pt b5 (.cells #[I ((k:Nat):Int)] 3 (0,0))::pt b2 (.cells #[.nilIface] 29 (0,0))::pt b1 (.cells #[ptr bs 0] 121 (0,0))::pt b4 (.cells (ws (nxH h rows (N - 122))).toArray 176 (0,0))::pt bs (.cells (stC bd h bl s (rows.length) cap) 179 (0,0))::pt bl (.cells (lgC bd 122 (N - 122) h.first (used)) 228 (0,0))::roL 3 s (chR rows)::F) (by kernel_rfl) ?_ ?_
    · refine gM rR (g_v (qY underlying29 rR) rR (qb ?_));exact zaD () trivial [2,5,7,54] rfl rfl
    intro _ _;refine zvX rR (fun h54=>?_) (fun h54=>?_)
    · have h54':e1≠0:=(by simpa using h54);have hNe:wh D (ckW (1 - h.side) (yu rows) 0 ((yb (yu rows))))=(e1,D1):=by
        rw[show yb (yu rows)=(k+1)+(yb (yu rows) - (k+1)) by omega,zqL];exact zbB hsn h54'
      rw[hN] at hNe;injection hNe with hq1 hq2;obtain rfl:eN=e1:=hq1;obtain rfl:DN=D1:=hq2;refine zsb ?_;refine ztO (α:=Unit) (fun _=>True) (fun _=>U []) (fun _=>pt b38 (.cells #[sl (some ⟨b37,0,none⟩) (yu rows).length c37] 193 (0,0))::pt d38 (.cells #[I 80] 3 (0,0))::roL 1 (some ⟨b37,0,none⟩) (qq (yu rows))::pt l O::pt D' dO::dsk 219 285 bd (DN)::pt b5 (.cells #[I ((k:Nat):Int)] 3 (0,0))::pt b2 (.cells #[yE eN] 29 (0,0))::pt b1 (.cells #[ptr bs 0] 121 (0,0))::pt b4 (.cells (ws (nxH h rows (N - 122))).toArray 176 (0,0))::pt bs (.cells (stC bd h bl s (rows.length) cap) 179 (0,0))::pt bl (.cells (lgC bd 122 (N - 122) h.first (used)) 228 (0,0))::roL 3 s (chR rows)::F) (by kernel_rfl) ?_ ?_
      · refine gM rR ?_;refine yr (qK #[yE eN] sizeOf29 rR rR (zqv _) (by simp) rR) ?_;rintro _ _ rfl;refine qb ?_;exact zaD () trivial [] rfl rfl
      intro _ _;refine zpx (φ:=eN≠0) h54' ?_;exact h_ret
    · have h54':e1=0:=(by simpa using h54);refine zv5 ?_;refine ztO (α:=Unit) (fun _=>True) (fun _=>U []) (fun _=>pt b38 (.cells #[sl (some ⟨b37,0,none⟩) (yu rows).length c37] 193 (0,0))::pt d38 (.cells #[I 80] 3 (0,0))::roL 1 (some ⟨b37,0,none⟩) (qq (yu rows))::pt l O::pt D' dO::dsk 219 285 bd (D1)::pt b5 (.cells #[I (((k+1):Nat):Int)] 3 (0,0))::pt b2 (.cells #[.nilIface] 29 (0,0))::pt b1 (.cells #[ptr bs 0] 121 (0,0))::pt b4 (.cells (ws (nxH h rows (N - 122))).toArray 176 (0,0))::pt bs (.cells (stC bd h bl s (rows.length) cap) 179 (0,0))::pt bl (.cells (lgC bd 122 (N - 122) h.first (used)) 228 (0,0))::roL 3 s (chR rows)::F) (by kernel_rfl) ?_ ?_
      · refine g_v (qe (v:=I (k:Int)) isAgg3 rfl rfl) rfl (g_v (qu (r:=((k+1:Nat):Int)) rfl rfl (by rw[show (k:Int)+(1:Int)=((k+1:Nat):Int) by omega];exact w64 (by omega))) rfl ?_);refine yr (qK #[I ((k+1:Nat):Int)] sizeOf3 rR rR rR (by simp) rR) ?_;rintro _ _ rfl;refine qb ?_;exact zaD () trivial [] rfl rfl
      intro _ _;refine h_blk ?_;refine zuY (T:=219) (TT:=285) (b:=bd) (φ:=fun X=>wh D (ckW (1 - h.side) (yu rows) 0 ((k+1)))=(0,X)) D1 (by rw[hsn,h54']) ?_;exact h_end
  rotate_left
  · intro D';show G _ _ _ (pt D' dO::pt b38 (.cells #[sl (some ⟨b37,0,none⟩) (yu rows).length c37] 193 (0,0))::pt d38 (.cells #[I 80] 3 (0,0))::roL 1 (some ⟨b37,0,none⟩) (qq (yu rows))::zcQ (eN≠0)::dsk 219 285 bd (DN)::pt b2 (.cells #[yE eN] 29 (0,0))::pt b1 (.cells #[ptr bs 0] 121 (0,0))::pt b4 (.cells (ws (nxH h rows (N - 122))).toArray 176 (0,0))::pt bs (.cells (stC bd h bl s (rows.length) cap) 179 (0,0))::pt bl (.cells (lgC bd 122 (N - 122) h.first (used)) 228 (0,0))::roL 3 s (chR rows)::F);refine ztW (φ:=eN≠0) ?_;intro hne;exact zpF (b:=b2) (o:=0) (v:=yE eN) (Lf:=pt bs (.cells (stC bd h bl s (rows.length) cap) 179 (0,0))::pt bl (.cells (lgC bd 122 (N - 122) h.first (used)) 228 (0,0))::dsk 219 285 bd (DN)::roL 3 s (chR rows)::F) rfl rfl rfl isAgg29 rfl ⟨eN,DN,zbB hN hne, .inl ⟨hne,rfl,rfl⟩⟩
  intro D';show G _ _ _ (pt D' dO::pt b38 (.cells #[sl (some ⟨b37,0,none⟩) (yu rows).length c37] 193 (0,0))::pt d38 (.cells #[I 80] 3 (0,0))::roL 1 (some ⟨b37,0,none⟩) (qq (yu rows))::zrf 219 285 bd (fun X=>wh D (ckW (1 - h.side) (yu rows) 0 ((yb (yu rows))))=(0,X))::pt b5 (.cells #[I (((yb (yu rows)):Nat):Int)] 3 (0,0))::pt b2 (.cells #[.nilIface] 29 (0,0))::pt b1 (.cells #[ptr bs 0] 121 (0,0))::pt b4 (.cells (ws (nxH h rows (N - 122))).toArray 176 (0,0))::pt bs (.cells (stC bd h bl s (rows.length) cap) 179 (0,0))::pt bl (.cells (lgC bd 122 (N - 122) h.first (used)) 228 (0,0))::roL 3 s (chR rows)::F);refine zxx (T:=219) (TT:=285) (b:=bd) (φ:=fun X=>wh D (ckW (1 - h.side) (yu rows) 0 ((yb (yu rows))))=(0,X)) ?_;intro D1 hD1;rw[hN] at hD1;injection hD1 with hq1 hq2;subst hq1;obtain rfl:DN=D1:=hq2;have hokN:=zaV (ckW (1 - h.side) (yu rows) 0 ((yb (yu rows)))) i D hok;rw[hN,ziM] at hokN;simp only at hokN;refine qG (gS (g_v (qe (v:=ptr bs 0) isAgg121 rR rR) rR (g_v (qc rR) rR (g_v (qa 0 underlying179 rR rR sizeOf61 (by decide) rR) rR (g_v (qe (v:=ptr bd 0) isAgg61 rR rR) rR ?_)))));refine g_l (qi (Pre:=[dsk 219 285 bd (DN)]) call183 rR (zak bd DN hokN.2.2.1 (by rw[hokN.1,hokN.2.1]) (by rw[hokN.2.1];omega))) rR ?_;rintro _ _ ⟨rfl,rfl⟩;refine gA rR (qb (qf (gS (gM rR (g_v (wE underlying29 rR) rR (qb ?_))))));refine zjO (α:=Int×DiskM) (fun z=>wh DN [none,some ((h.ep+1) % 2,wg (nxH h rows (N - 122)))]=z) (fun z=>U [(1,ptr b1 0),(2,ptr b2 0),(4,ptr b4 0),(8,yE z.1)]) (fun z=>pt D' dO::dsk 219 285 bd (z.2)::pt b2 (.cells #[.nilIface] 29 (0,0))::pt b1 (.cells #[ptr bs 0] 121 (0,0))::pt b4 (.cells (ws (nxH h rows (N - 122))).toArray 176 (0,0))::pt bs (.cells (stC bd h bl s (rows.length) cap) 179 (0,0))::pt bl (.cells (lgC bd 122 (N - 122) h.first (used)) 228 (0,0))::roL 3 s (chR rows)::F) ?_ ?_
  · refine qg rR (fun h64=>?_) (fun h64=>?_)
    · have hs0:wc DN=0:=(by simpa using h64);have hokF:okW N (i+yb (yu rows)+1) (yx DN):=zeM hokN;refine yv (Lf:=[pt b1 (.cells #[ptr bs 0] 121 (0,0)),pt b4 (.cells (ws (nxH h rows (N - 122))).toArray 176 (0,0)),pt bs (.cells (stC bd h bl s (rows.length) cap) 179 (0,0))]) [(0,false),(1,false),(2,false),(3,false),(4,false),(5,false),(6,false),(7,false),(8,true),(9,true),(10,false)] (by kernel_rfl) (by kernel_rfl) rR (by kernel_rfl) ?_;refine d_v rR (qe (v:=ptr bs 0) isAgg121 rR rR) rR (d_v rR (qc rR) rR (d_v rR (qa 0 underlying179 rR rR sizeOf61 (by decide) rR) rR (d_v rR (qe (v:=ptr bd 0) isAgg61 rR rR) rR (d_v rR (qa 0 underlying176 rR rR sizeOf3 (by decide) rR) rR (d_v rR (qe (v:=I ((h.ep+1:Nat):Int)) isAgg3 rR rR) rR (d_v rR (ztB (r:=(((h.ep+1) % 2:Nat):Int)) rR rR (by decide) rR) rR (d_v rR (qH (vs:=ws (nxH h rows (N - 122))) isAgg176 sizeOf176 rR rR qR) rR ?_)))))));refine d_l rR (qi (Pre:=[]) call184 rR (zeH (nxH h rows (N - 122)))) rR ?_;rintro _ _ ⟨rfl,rfl⟩;refine d_l rR (qi (Pre:=[dsk 219 285 bd (yx DN)]) call182 rR (wt bd (yx DN) (((h.ep+1) % 2:Nat):Int) (wg (nxH h rows (N - 122))) hokF.2.2.1 (by have:=hokF.2.2.2.2;omega))) rR ?_;rintro _ _ ⟨rfl,rfl⟩;refine d_v rR (qx rR) rR ?_;refine yg ?_;exact zaD (yO (yx DN) (((h.ep+1) % 2:Nat):Int) (wg (nxH h rows (N - 122))),yy (yx DN) (((h.ep+1) % 2:Nat):Int) (wg (nxH h rows (N - 122)))) (by rw[zde hs0];exact zbD (l:=[]) rfl) [1,2,4,8] rfl rfl
    · have hs0:¬wc DN=0:=(by simpa using h64);refine qh ?_;exact zaD (wc DN,yx DN) (zcG hs0) [1,2,4,8] rfl rfl
  rintro ⟨e2,D2⟩ h2;simp only at h2 ⊢;have hok2:=zaV [none,some ((h.ep+1) % 2,wg (nxH h rows (N - 122)))] _ DN hokN;rw[h2] at hok2;simp only[List.length_cons,List.length_nil] at hok2;refine qf (gS (gM rR (g_v (wE underlying29 rR) rR (qb ?_))));refine zjO (α:=Int×DiskM) (fun z=>wh DN [none,some ((h.ep+1) % 2,wg (nxH h rows (N - 122))),none]=z∧(z.1=0→z.2.down=false)) (fun z=>U [(1,ptr b1 0),(2,ptr b2 0),(4,ptr b4 0),(8,yE z.1)]) (fun z=>pt D' dO::dsk 219 285 bd (z.2)::pt b2 (.cells #[.nilIface] 29 (0,0))::pt b1 (.cells #[ptr bs 0] 121 (0,0))::pt b4 (.cells (ws (nxH h rows (N - 122))).toArray 176 (0,0))::pt bs (.cells (stC bd h bl s (rows.length) cap) 179 (0,0))::pt bl (.cells (lgC bd 122 (N - 122) h.first (used)) 228 (0,0))::roL 3 s (chR rows)::F) ?_ ?_
  · refine qg rR (fun h76=>?_) (fun h76=>?_)
    · have h76':e2=0:=(by simpa using h76);refine qp (g_v (qe (v:=ptr bs 0) isAgg121 rR rR) rR (g_v (qc rR) rR (g_v (qa 0 underlying179 rR rR sizeOf61 (by decide) rR) rR (g_v (qe (v:=ptr bd 0) isAgg61 rR rR) rR ?_))));refine g_l (qi (Pre:=[dsk 219 285 bd (D2)]) call183 rR (zak bd D2 hok2.2.2.1 (by rw[hok2.1,hok2.2.1]) (by rw[hok2.2.1];omega))) rR ?_;rintro _ _ ⟨rfl,rfl⟩;refine gA rR (qb ?_);exact zaD (wc D2,yx D2) ⟨zbD (l:=[none,some ((h.ep+1) % 2,wg (nxH h rows (N - 122)))]) (x:=none) (by rw[h2,h76']),fun h=>(zbE h).1.2.2⟩ [1,2,4,8] rfl rfl
    · have h76':¬e2=0:=(by simpa using h76);refine qh ?_;exact zaD (e2,D2) ⟨zbB (l:=[none,some ((h.ep+1) % 2,wg (nxH h rows (N - 122)))]) (r:=[none]) h2 h76',fun h=>absurd h h76'⟩ [1,2,4,8] rfl rfl
  rintro ⟨e3,D3⟩ ⟨h3,hdn3⟩;simp only at h3 hdn3 ⊢;have hall:wh D (ckL (nxH h rows (N - 122)) (yu rows))=(e3,D3):=(zsZ hN).trans h3;have hok3:=zaV (ckL (nxH h rows (N - 122)) (yu rows)) i D hok;rw[hall] at hok3;simp only at hok3;have hS3:=zee (ckL (nxH h rows (N - 122)) (yu rows)) D hS hckl;rw[hall] at hS3;simp only at hS3;refine qf (gS (gM rR (g_v (qY underlying29 rR) rR (qb ?_))));refine qg rR (fun h83=>?_) (fun h83=>?_)
  · have h83':e3≠0:=(by simpa using h83);refine gS (gM rR ?_);refine yr (qK #[yE e3] sizeOf29 rR rR (zqv _) (by decide) rR) ?_;rintro _ _ rfl;refine qb ?_;exact zpF (b:=b2) (o:=0) (v:=yE e3) (Lf:=pt bs (.cells (stC bd h bl s (rows.length) cap) 179 (0,0))::pt bl (.cells (lgC bd 122 (N - 122) h.first (used)) 228 (0,0))::dsk 219 285 bd (D3)::roL 3 s (chR rows)::F) rfl rfl rfl isAgg29 rfl ⟨e3,D3,hall, .inl ⟨h83',rfl,rfl⟩⟩
  · have h83':e3=0:=(by simpa using h83);subst h83'
    replace hdn3:=hdn3 rfl
    refine qh (qf ?_);refine yv (Lf:=[pt b1 (.cells #[ptr bs 0] 121 (0,0)),pt b4 (.cells (ws (nxH h rows (N - 122))).toArray 176 (0,0)),pt bs (.cells (stC bd h bl s (rows.length) cap) 179 (0,0))]) [(0,false),(1,false),(2,false),(3,false),(4,false),(5,false),(6,false),(7,false),(10,false),(11,false),(8,true),(9,false),(12,true),(13,false),(14,false),(15,false),(16,false),(17,false),(18,false),(19,false)] (by kernel_rfl) (by kernel_rfl) rR (by kernel_rfl) ?_;refine d_v rfl (qe (v:=ptr bs 0) isAgg121 rfl rfl) rfl (d_v rfl (qc rfl) rfl (d_v rfl (qa 0 underlying179 rfl rfl sizeOf61 (by decide) rfl) rfl (d_v rfl (qe (v:=ptr bd 0) isAgg61 rfl rfl) rfl (d_v rfl (qe (v:=ptr bs 0) isAgg121 rfl rfl) rfl (d_v rfl (qc rfl) rfl (d_v rfl (qa 0 underlying179 rfl rfl sizeOf61 (by decide) rfl) rfl (d_v rfl (qe (v:=ptr bd 0) isAgg61 rfl rfl) rfl (d_v rfl (qa 3 underlying176 rfl rfl sizeOf3 (by decide) rfl) rfl (d_v rfl (qe (v:=I ((h.first+(N - 122):Nat):Int)) isAgg3 rfl rfl) rfl ?_)))))))));refine d_l rR (qi (Pre:=[dsk 219 285 bd (D3)]) (R:=fun F=>R1 (I (D3.now.length:Int)) (dsk 219 285 bd (D3)::F)) call101 rR (yU bd D3)) rR ?_;rintro _ _ ⟨rfl,rfl⟩;refine d_v rfl (zce (r:=((N - 122:Nat):Int)) rfl rfl (by rw[hok3.2.1,show (N:Int) - 122=((N - 122:Nat):Int) by omega];exact w64 (by omega))) rfl ?_;refine d_l rfl (qi (Pre:=[dsk 219 285 bd (D3)]) call105 rfl (zhg bd D3 122 ((N - 122:Nat):Int) ((h.first+(N - 122):Nat):Int) hS3.2.1 ⟨by rw[hok3.2.1];omega,by omega⟩)) rfl ?_;rintro _ _ (⟨hbad,_,_⟩ | ⟨_,hdn,_,_⟩ | ⟨_,_,bl',gl,so,co,used',rfl,hul,_,hsc,rfl⟩)
    · exfalso;unfold zqX at hbad;rw[hok3.2.1] at hbad;omega
    · rw[hdn3] at hdn;cases hdn
    rw[show lgC bd ((122:Int)).toNat ((N - 122:Nat):Int).toNat ((h.first+(N - 122):Nat):Int).toNat used'=lgC bd 122 (N - 122) (h.first+(N - 122)) used' from rfl]
    replace hul:used'≤N - 122:=hul
    replace hsc:wa (h.first+(N - 122)) (zjG D3 122) (N - 122) 0 [] [] 0=(gl.map (·.1),used'):=hsc
    refine dM rR rR rR (d_v rR (qd (v:=ptr bl' 0) rR rR) rR (d_v rR (qd (v:=sl so gl.length co) rR rR) rR (d_v rR (qd (v:=yE 0) rR rR) rR (d_v rR (qx rR) rR (d_v rR (qx rR) rR (d_v rR (qx rR) rR ?_))))));refine yg ?_;refine qf (gS (gM rR (g_v (wE underlying29 rR) rR (qb ?_))));refine wK rR ?_;refine yv (Lf:=[pt b1 (.cells #[ptr bs 0] 121 (0,0)),pt b4 (.cells (ws (nxH h rows (N - 122))).toArray 176 (0,0))]) [(0,false),(1,false),(2,false),(3,false),(4,false),(5,false),(6,true),(7,false),(8,false),(9,true)] (by kernel_rfl) (by kernel_rfl) rR (by kernel_rfl) ?_;refine d_v rR (qe (v:=ptr bs 0) isAgg121 rR rR) rR (d_v rR (qe (v:=ptr bs 0) isAgg121 rR rR) rR (d_v rR (qH (vs:=ws (nxH h rows (N - 122))) isAgg176 sizeOf176 rR rR qR) rR (dM rR rR rR (d_v rR (qc rR) rR (d_v rR (qa 1 underlying179 rR rR sizeOf176 (by decide) rR) rR ?_)))));refine zoc rR (qr (cs:=stC bd h bl s rows.length cap) (vs:=ws (nxH h rows (N - 122))) (stC bd (nxH h rows (N - 122)) bl s rows.length cap) sizeOf176 rR rR rR rR (by simp) rR) ?_;rintro _ _ rfl;refine d_v rR (qc rR) rR (d_v rR (qa 5 underlying179 rR rR sizeOf177 (by decide) rR) rR ?_);refine zoc rR (qK (stC bd (nxH h rows (N - 122)) bl' s rows.length cap) sizeOf177 rR rR rR (by simp) rR) ?_;rintro _ _ rfl;refine yg ?_;refine gS (gM rR ?_);refine yr (qK #[yE 0] sizeOf29 rR rR rR (by decide) rR) ?_;rintro _ _ rfl;refine qb ?_;exact zpF (b:=b2) (o:=0) (v:=yE 0) (Lf:=pt bs (.cells (stC bd (nxH h rows (N - 122)) bl' s (rows.length) cap) 179 (0,0))::pt bl' (.cells (lgC bd 122 (N - 122) (h.first+(N - 122)) (used')) 228 (0,0))::dsk 219 285 bd (D3)::roL 3 s (chR rows)::F) rfl rfl rfl isAgg29 rfl ⟨0,D3,hall, .inr ⟨rfl,bl',gl.map (·.1),used',hul,hsc,rfl,rfl⟩⟩
theorem zmE {many:Nat}{rows c:List ChangeM}(h:72<c.length):cmV many rows c=2:=by unfold cmV;rw[if_pos h]
theorem zq0 {many:Nat}{rows c:List ChangeM}(h:c.length≤72)(hf:zhv c≠0):cmV many rows c=zhv c:=by unfold cmV;rw[if_neg (by omega),if_pos hf]
theorem zmH {many:Nat}{rows c:List ChangeM}(h:c.length≤72)(hf:zhv c=0)(hb:80<(zaA rows c).length∨many<c.length+1):cmV many rows c=8:=by unfold cmV;rw[if_neg (by omega),if_neg (by simpa using hf),if_pos hb]
theorem zvP {many:Nat}{rows c:List ChangeM}(h:c.length≤72)(hf:zhv c=0)(hb:¬(80<(zaA rows c).length∨many<c.length+1)):cmV many rows c=0:=by unfold cmV;rw[if_neg (by omega),if_neg (by simpa using hf),if_neg hb]
theorem zc5 (bs bd:Nat)(h:HdM)(bl:Nat)(s:Option Addr)(cap:Nat)(rows:List ChangeM)(N i used:Nat)(D:DiskM)(hok:okW N i D)(hi:i≤100000)(hS:S80 D)(hN0:196≤N∧N≤260)(hh:h.ep≤1000000∧h.side≤1∧1≤h.first∧h.first≤1000000000)(hl:rows.length≤80)(hrw:∀r∈rows,okR r)(hu:used≤N - 122)(hs:srt rows)(c:List ChangeM)(s':Option Addr)(cap':Nat)(hcl:c.length≤9223372036854775807)(F:List HProp):Ct Tryz.prog 99 [ptr bs 0,sl s' c.length cap'] ([pt bs (.cells (stC bd h bl s (rows.length) cap) 179 (0,0)),pt bl (.cells (lgC bd 122 (N - 122) h.first (used)) 228 (0,0)),dsk 219 285 bd (D),roL 3 s (chR rows),roL 3 s' (chR c)]++F) (fun v L'=>∃e D2 h2 used2 rows2 bl2 s2 cap2,zte D h rows (N - 122) used c e D2 h2 used2 rows2∧v=yE e∧L'=pt bs (.cells (stC bd h2 bl2 s2 rows2.length cap2) 179 (0,0))::pt bl2 (.cells (lgC bd 122 (N - 122) h2.first used2) 228 (0,0))::dsk 219 285 bd (D2)::roL 3 s2 (chR rows2)::roL 3 s' (chR c)::F):=by
  show Ct Tryz.prog 99 [ptr bs 0,sl s' c.length cap'] (pt bs (.cells (stC bd h bl s (rows.length) cap) 179 (0,0))::pt bl (.cells (lgC bd 122 (N - 122) h.first (used)) 228 (0,0))::dsk 219 285 bd (D)::roL 3 s (chR rows)::roL 3 s' (chR c)::F) _;refine Ct.of func99 rR 76 ntmps99 (by simp) fun w0=>?_;refine gS (gA rR (qb (qf (gS (gM rR (g_v (yq underlying33 rR) rR (g_v (yw rR rR) rR (qb ?_))))))));refine qg rR (fun h13=>?_) (fun h13=>?_)
  · simp at h13;have hlong:72<c.length:=(by omega);refine gS (g_v (qA underlying89 rR rR) rR (gA rR (qb ?_)));exact ql (pt bs (.cells (stC bd h bl s (rows.length) cap) 179 (0,0))::pt bl (.cells (lgC bd 122 (N - 122) h.first (used)) 228 (0,0))::dsk 219 285 bd (D)::roL 3 s (chR rows)::roL 3 s' (chR c)::F) rfl ⟨2,D,h,used,rows,bl,s,cap, .inl ⟨by rw[zmE hlong];decide,by rw[zmE hlong],rfl,rfl,rfl,rfl⟩,rfl,rfl⟩
  · simp at h13;have hshort:c.length≤72:=(by omega);refine qh (qf (gS (gM rR (g_v (yq underlying33 rR) rR (gM rR (qb (qk ?_)))))));refine qF (α:=Nat) (fun k=>k≤c.length∧zhv c=zhv (c.drop k)) (fun k=>U [(0,ptr bs 0),(1,sl s' c.length cap'),(15,sl s' c.length cap'),(16,I c.length),(17,I (k:Int))]) (fun k=>pt bs (.cells (stC bd h bl s (rows.length) cap) 179 (0,0))::pt bl (.cells (lgC bd 122 (N - 122) h.first (used)) 228 (0,0))::dsk 219 285 bd (D)::roL 3 s (chR rows)::roL 3 s' (chR c)::F) (fun k=>c.length - k) 0 ⟨Nat.zero_le _,rfl⟩ [0,1,15,16,17] rfl rfl ?_;rintro k ⟨hk,hfk⟩;refine gS (g_v (qN rR rR) rR (qb (qf ?_)));refine qg rR (fun h18=>?_) (fun h18=>?_)
    · simp at h18;have hkn:k<c.length:=(by omega);obtain ⟨x,hx⟩:∃x,c[k]? =some x:=⟨_,List.getElem?_eq_getElem hkn⟩;have hkr:k<(chR c).length:=(by rw[qQ];exact hkn);have hfd:=zjC hx;refine qh (qf (qk (gS (g_v (qC k underlying33 sizeOf58 rR rR rR hkn hkr) rR (g_v (yn (row:=yp x) isAgg58 sizeOf58 rR (za9 hx) rR) rR ?_)))));refine g_l (qy #[Str [],Str [],Bo false] zeroValue58) rR ?_;rintro _ _ ⟨b6,rfl,rfl⟩;refine yr (qr (cs:=#[Str [],Str [],Bo false]) (vs:=yp x) (yp x).toArray sizeOf58 rR rR rR rR (by decide) (qB rR)) ?_;rintro _ _ rfl;refine qb (gS (g_v (qH (vs:=yp (x)) isAgg58 sizeOf58 rR rR qR) rR ?_));refine g_l (qi (Pre:=[]) call152 rR (za8 x)) rR ?_;rintro _ _ ⟨rfl,rfl⟩;refine gA rR (qb (gS (gM rR (g_v (qY underlying29 rR) rR (qb ?_)))));refine qg rR (fun h24=>?_) (fun h24=>?_)
      · have hx0:¬zbv x=0:=(by simpa using h24);have hfx:zhv c=zbv x:=(by rw[hfk,hfd,if_neg hx0]);refine gS (gM rR (gA rR (qb ?_)));exact ql (pt bs (.cells (stC bd h bl s (rows.length) cap) 179 (0,0))::pt bl (.cells (lgC bd 122 (N - 122) h.first (used)) 228 (0,0))::dsk 219 285 bd (D)::roL 3 s (chR rows)::roL 3 s' (chR c)::F) rfl ⟨(zbv x),D,h,used,rows,bl,s,cap, .inl ⟨by rw[zq0 hshort (by rw[hfx];exact hx0),hfx];exact hx0,by rw[zq0 hshort (by rw[hfx];exact hx0),hfx],rfl,rfl,rfl,rfl⟩,rfl,rfl⟩
      · have hx0:zbv x=0:=(by simpa using h24);refine qh (qG (qp (g_v (qu (r:=((k+1:Nat):Int)) rfl rfl (by rw[show (k:Int)+1=((k+1:Nat):Int) by omega];exact w64 (by omega))) rfl (gM rfl (qb ?_)))));exact qo (k+1) ⟨by omega,by rw[hfk,hfd,if_pos hx0]⟩ (by omega) [0,1,15,16,17] rfl rfl
    · simp at h18;obtain rfl:k=c.length:=(by omega);rw[List.drop_length] at hfk;have hf0:zhv c=0:=hfk;refine qz rR ?_;refine gS (gM rR (g_v (qc rR) rR (g_v (qa 6 underlying179 rR rR sizeOf33 (by decide) rR) rR (g_v (qe (v:=sl s rows.length cap) isAgg33 rR rR) rR (gM rR ?_)))));refine g_l (qi (Pre:=[roL 3 s (chR rows),roL 3 s' (chR c)]) call106 rR (zdp rows c s s' cap cap' hs (by omega) (by omega))) rR ?_;rintro _ _ ⟨s32,c32,rfl,rfl⟩;refine yM (T:=58) (cap:=c32) s32 ?_;refine gA rfl (qb (qf (gS (gM rfl (g_v (yq underlying33 rfl) rfl (g_v (yw rfl rfl) rfl (gM rfl (qI rfl rfl (fun hg=>qn rfl) rfl rfl (qI rfl rfl (fun hg=>yq underlying33 rfl) rfl rfl (qI rfl rfl (fun hg=>qu (r:=((c.length+1:Nat):Int)) rfl rfl (by rw[show (c.length:Int)+1=((c.length+1:Nat):Int) by omega];exact w64 (by omega))) rfl rfl (qI rfl rfl (fun hg=>qn rfl) rfl rfl (qI rfl rfl (fun hg=>qc rfl) rfl rfl (qI rfl rfl (fun hg=>qa 0 underlying179 rfl rfl sizeOf61 (by decide) rfl) rfl rfl (qI rfl rfl (fun hg=>qe (v:=ptr bd 0) isAgg61 rfl rfl) rfl rfl ?_))))))))))))));refine g_gq rR rR (fun hg=>qi (Pre:=[dsk 219 285 bd (D)]) (R:=fun F=>R1 (I ((D).now.length:Int)) (dsk 219 285 bd (D)::F)) call101 rR (yU bd D)) rR rR ?_;refine qI rfl rfl (fun hg=>zce (r:=((N - 122:Nat):Int)) rfl rfl (by rw[hok.2.1,show (N:Int) - 122=((N - 122:Nat):Int) by omega];exact w64 (by omega))) rfl rfl (qI rfl rfl (fun hg=>yw rfl rfl) rfl rfl (g_v (zar rfl rfl) rfl (qb ?_)));refine qg rR (fun h47=>?_) (fun h47=>?_)
      · simp at h47;have hfull:80<(zaA rows c).length∨N - 122<c.length+1:=(by omega);refine gS (g_v (qA underlying89 rR rR) rR (gA rR (qb ?_)));exact ql (pt bs (.cells (stC bd h bl s (rows.length) cap) 179 (0,0))::pt bl (.cells (lgC bd 122 (N - 122) h.first (used)) 228 (0,0))::dsk 219 285 bd (D)::roL 3 s (chR rows)::roL 3 s' (chR c)::F) rfl ⟨8,D,h,used,rows,bl,s,cap, .inl ⟨by rw[zmH hshort hf0 hfull];decide,by rw[zmH hshort hf0 hfull],rfl,rfl,rfl,rfl⟩,rfl,rfl⟩
      · simp at h47;have hfull:¬(80<(zaA rows c).length∨N - 122<c.length+1):=(by omega);have hcm:=zvP hshort hf0 hfull;refine qh (qf (gS (gM rfl (g_v (yq underlying33 rfl) rfl (g_v (qu (r:=((c.length+1:Nat):Int)) rfl rfl (by rw[show (c.length:Int)+1=((c.length+1:Nat):Int) by omega];exact w64 (by omega))) rfl (gM rfl (g_v (qc rfl) rfl (g_v (qa 5 underlying179 rfl rfl sizeOf177 (by decide) rfl) rfl (g_v (qe (v:=ptr bl 0) isAgg177 rfl rfl) rfl ?_)))))))));refine g_l (qi (Pre:=[pt bl (.cells (lgC bd 122 (N - 122) h.first (used)) 228 (0,0))]) call153 rfl (zhf bl bd 122 (N - 122) h.first used ⟨hu,by omega⟩)) rfl ?_;rintro _ _ ⟨rfl,rfl⟩;refine g_v (yw rR rR) rR (qb ?_);refine zjO (α:=DiskM×HdM×Nat×Nat) (fun z=>MidR D h rows (N - 122) used c 0 z.1 z.2.1 z.2.2.1) (fun z=>U [(0,ptr bs 0),(1,sl s' c.length cap'),(8,sl s32 (zaA rows c).length c32)]) (fun z=>pt bs (.cells (stC bd z.2.1 z.2.2.2 s rows.length cap) 179 (0,0))::pt z.2.2.2 (.cells (lgC bd 122 (N - 122) z.2.1.first z.2.2.1) 228 (0,0))::dsk 219 285 bd (z.1)::roL 3 s (chR rows)::roL 3 s' (chR c)::roL 3 s32 (chR (zaA rows c))::F) ?_ ?_
        · refine qg rR (fun h57=>?_) (fun h57=>?_)
          · simp at h57;have hroom:N - 122 - used<c.length+1:=(by omega);refine gS (gM rR ?_);refine g_l (qi (Pre:=[pt bs (.cells (stC bd h bl s (rows.length) cap) 179 (0,0)),pt bl (.cells (lgC bd 122 (N - 122) h.first (used)) 228 (0,0)),dsk 219 285 bd (D),roL 3 s (chR rows)]) call154 rfl (zbK bs bd h bl s cap rows N i used D hok hi hS hN0 hh hl hrw)) rfl ?_;rintro _ _ ⟨e59,D59,hck,⟨hne,rfl,rfl⟩ | ⟨h0,bl9,ds9,used9,hu9,hsc9,rfl,rfl⟩⟩
            · refine gA rR (qb (gS (gM rR (g_v (qY underlying29 rR) rR (qb ?_)))));refine qg rR (fun h61=>?_) (fun h61=>?_)
              · refine gS (gM rR (gA rR (qb ?_)));exact ql (pt bs (.cells (stC bd h bl s (rows.length) cap) 179 (0,0))::pt bl (.cells (lgC bd 122 (N - 122) h.first (used)) 228 (0,0))::dsk 219 285 bd (D59)::roL 3 s (chR rows)::roL 3 s' (chR c)::F) rfl ⟨e59,D59,h,used,rows,bl,s,cap, .inr ⟨hcm,e59,D59,h,used, .inl ⟨hroom,hck, .inl ⟨hne,rfl,rfl⟩⟩, .inl ⟨hne,rfl,rfl,rfl,rfl,rfl⟩⟩,rfl,rfl⟩
              · exact absurd (by simpa using h61) hne
            · subst h0;refine gA rR (qb (gS (gM rR (g_v (qY underlying29 rR) rR (qb ?_)))));refine qg rR (fun h61=>?_) (fun h61=>?_)
              · simp at h61
              · refine qh ?_;rw[show h.first+(N - 122)=(nxH h rows (N - 122)).first from rfl];exact zaD (D59,(nxH h rows (N - 122)),used9,bl9) (.inl ⟨hroom,hck, .inr ⟨rfl,rfl,hu9,ds9,hsc9⟩⟩) [0,1,8] rfl rfl
          · simp at h57;have hroom:¬N - 122 - used<c.length+1:=(by omega);refine qh ?_;exact zaD (D,h,used,bl) (.inr ⟨hroom,rfl,rfl,rfl,rfl⟩) [0,1,8] rfl rfl
        rintro ⟨D1,h1,used1,bl1⟩ hmid;simp only[] at hmid ⊢;obtain ⟨hm1,hm2,hm3,hm4,hm5,hm6,hm7⟩:=zpz hmid hok hS hl hrw hN0.1 hu;refine gS (gM rR (g_v (qc rR) rR (g_v (qa 5 underlying179 rR rR sizeOf177 (by decide) rR) rR (g_v (qe (v:=ptr bl1 0) isAgg177 rR rR) rR (gM rR ?_)))));refine g_l (qi (Pre:=[pt bl1 (.cells (lgC bd 122 (N - 122) h1.first used1) 228 (0,0)),dsk 219 285 bd (D1),roL 3 s' (chR c)]) call155 rfl (znI bl1 bd 122 (N - 122) h1.first used1 c s' cap' N (i+63) D1 hm1 ⟨by omega,by omega⟩ ⟨by omega,by omega,by decide,hm3⟩ hcl)) rfl ?_;rintro _ _ ⟨rfl,rfl⟩;refine gA rR (qb (qf (gS (gM rR (g_v (wE underlying29 rR) rR (qb ?_))))));refine qg rR (fun h70=>?_) (fun h70=>?_)
        · have h70':zhC 122 (N - 122) h1.first used1 c D1=0:=(by simpa using h70);refine qp (gM rR (gM rR (g_v (qc rR) rR (g_v (qa 6 underlying179 rR rR sizeOf33 (by decide) rR) rR ?_))));refine yr (qK (stC bd h1 bl1 s32 (zaA rows c).length c32) sizeOf33 rR rR rR (by simp) rR) ?_;rintro _ _ rfl;refine qb (gS (gM rR (gA rR (qb ?_))))
          first
          | exact ql (pt bs (.cells (stC bd h1 bl1 s32 (zaA rows c).length c32) 179 (0,0))::pt bl1 (.cells (lgC bd 122 (N - 122) h1.first (zgI 122 (N - 122) h1.first used1 c D1)) 228 (0,0))::dsk 219 285 bd (zdI 122 (N - 122) h1.first used1 c D1)::roL 3 s32 (chR (zaA rows c))::roL 3 s' (chR c)::F) rfl ⟨_,zdI 122 (N - 122) h1.first used1 c D1,h1,zgI 122 (N - 122) h1.first used1 c D1,(zaA rows c),bl1,s32,c32, .inr ⟨hcm,0,D1,h1,used1,hmid, .inr ⟨rfl,rfl,rfl,rfl,rfl,(if_pos h70').symm⟩⟩,rfl,rfl⟩
          | exact ql (pt bs (.cells (stC bd h1 bl1 s rows.length cap) 179 (0,0))::pt bl1 (.cells (lgC bd 122 (N - 122) h1.first (zgI 122 (N - 122) h1.first used1 c D1)) 228 (0,0))::dsk 219 285 bd (zdI 122 (N - 122) h1.first used1 c D1)::roL 3 s (chR rows)::roL 3 s' (chR c)::F) rfl ⟨_,zdI 122 (N - 122) h1.first used1 c D1,h1,zgI 122 (N - 122) h1.first used1 c D1,rows,bl1,s,cap, .inr ⟨hcm,0,D1,h1,used1,hmid, .inr ⟨rfl,rfl,rfl,rfl,rfl,(if_neg h70').symm⟩⟩,rfl,rfl⟩
        · have h70':¬zhC 122 (N - 122) h1.first used1 c D1=0:=(by simpa using h70);refine qh (gS (gM rR (gA rR (qb ?_))))
          first
          | exact ql (pt bs (.cells (stC bd h1 bl1 s32 (zaA rows c).length c32) 179 (0,0))::pt bl1 (.cells (lgC bd 122 (N - 122) h1.first (zgI 122 (N - 122) h1.first used1 c D1)) 228 (0,0))::dsk 219 285 bd (zdI 122 (N - 122) h1.first used1 c D1)::roL 3 s32 (chR (zaA rows c))::roL 3 s' (chR c)::F) rfl ⟨_,zdI 122 (N - 122) h1.first used1 c D1,h1,zgI 122 (N - 122) h1.first used1 c D1,(zaA rows c),bl1,s32,c32, .inr ⟨hcm,0,D1,h1,used1,hmid, .inr ⟨rfl,rfl,rfl,rfl,rfl,(if_pos h70').symm⟩⟩,rfl,rfl⟩
          | exact ql (pt bs (.cells (stC bd h1 bl1 s rows.length cap) 179 (0,0))::pt bl1 (.cells (lgC bd 122 (N - 122) h1.first (zgI 122 (N - 122) h1.first used1 c D1)) 228 (0,0))::dsk 219 285 bd (zdI 122 (N - 122) h1.first used1 c D1)::roL 3 s (chR rows)::roL 3 s' (chR c)::F) rfl ⟨_,zdI 122 (N - 122) h1.first used1 c D1,h1,zgI 122 (N - 122) h1.first used1 c D1,rows,bl1,s,cap, .inr ⟨hcm,0,D1,h1,used1,hmid, .inr ⟨rfl,rfl,rfl,rfl,rfl,(if_neg h70').symm⟩⟩,rfl,rfl⟩
-- (*counterfoil/counterfoilref.Store).Commit is not in this seat
abbrev stV (bd:Nat)(h:HdM)(lv:Value)(s:Option Addr)(n cap:Nat):Array Value:=#[ptr bd 0,I h.ep,I h.side,I h.size,I h.first,lv,sl s n cap]
def txK (L:List Bytes)(side k:Nat):Bytes:=((L.drop (2+side*60)).take k).flatten
theorem zk9 {L:List Bytes}{side k:Nat}(h:2+side*60+k<L.length):txK L side k++L.getD (2+side*60+k) []=txK L side (k+1):=by
  unfold txK;have h1:(L.drop (2+side*60))[k]? =some (L.getD (2+side*60+k) []):=(by rw[List.getElem?_drop,zgT h]);rw[zfc h1,List.flatten_append];simp
theorem zoT {L:List Bytes}{side:Nat}(hS:∀x∈L,x.length=80):∀k,2+side*60+k≤L.length→(txK L side k).length=80*k
  | 0,_=>rfl
  | k+1,h=>by
    rw[←zk9 (by omega),List.length_append,zoT hS k (by omega),zeQ (by omega) hS];omega
theorem zi7:∀(ds:Deeds) {r:List ChangeM},srt r→srt (ds.foldl zaA r)
  | [],r,h=>h
  | d::ds,r,h=>zi7 ds (zjs h d).1
abbrev zob (r0:List ChangeM)(gl:LogG)(k:Nat):List ChangeM:=((gl.map (·.1)).take k).foldl zaA r0
theorem zwv {r0:List ChangeM}{gl:LogG}{k:Nat}{x:List ChangeM×LocA}(h:gl[k]? =some x):zaA (zob r0 gl k) x.1=zob r0 gl (k+1):=by
  unfold zob;rw[zfc (a:=x.1) (by simp[h]),List.foldl_append]
  rfl
theorem zeo (bd N:Nat)(D:DiskM)(hN:D.now.length=N)(hNb:N≤260)(hS:∀x∈D.now,x.length=80)(hx:HdM)(r0:List ChangeM)(ds:Deeds)(used:Nat)(hg:D.down=false→196≤N→(zfg D.now).ep≠0→Good D.now hx r0 ds used)(F:List HProp):Ct Tryz.prog 74 [ptr bd 0] ([dsk 219 285 bd (D)]++F) (fun v L'=>(D.down=true∧v= .tuple #[.pointer none,yE 9]∧L'=dsk 219 285 bd (D)::F)∨(D.down=false∧N<196∧v= .tuple #[.pointer none,yE 4]∧L'=dsk 219 285 bd (D)::F)∨(D.down=false∧196≤N∧(zfg D.now).ep=0∧v= .tuple #[.pointer none,yE 4]∧L'=dsk 219 285 bd (D)::F)∨(D.down=false∧196≤N∧(zfg D.now).ep≠0∧∃bs bl s cap,v= .tuple #[ptr bs 0,yE 0]∧L'=pt bs (.cells (stC bd hx bl s (cur r0 ds).length cap) 179 (0,0))::pt bl (.cells (lgC bd 122 (N - 122) hx.first used) 228 (0,0))::dsk 219 285 bd (D)::roL 3 s (chR (cur r0 ds))::F)):=by
  show Ct Tryz.prog 74 [ptr bd 0] (dsk 219 285 bd (D)::F) _;refine Ct.of func74 rR 144 ntmps74 (by simp) fun w0=>?_;refine gS (gA rR (gA rR (qb (qf (gS (gM rR ?_))))));refine g_l (qi (Pre:=[dsk 219 285 bd (D)]) call100 rR (zfx bd D)) rR ?_;rintro _ _ ⟨rfl,rfl⟩;refine qb ?_;refine qg rR (fun h21=>?_) (fun h21=>?_)
  · refine gS (g_v (qA underlying89 rR rR) rR (gA rR (gA rR (qb ?_))));exact ql (dsk 219 285 bd (D)::F) rfl (.inl ⟨h21,rfl,rfl⟩)
  · have h21':D.down=false:=(by simpa using h21);refine qh (qf (gS (gM rR ?_)));refine g_l (qi (Pre:=[dsk 219 285 bd (D)]) (R:=fun F=>R1 (I ((D).now.length:Int)) (dsk 219 285 bd (D)::F)) call101 rR (yU bd D)) rR ?_;rintro _ _ ⟨rfl,rfl⟩;refine g_v (qN rR rR) rR (qb ?_);refine qg rR (fun h25=>?_) (fun h25=>?_)
    · simp at h25;have h25':N<196:=(by omega);refine gS (g_v (qA underlying89 rR rR) rR (gA rR (gA rR (qb ?_))));exact ql (dsk 219 285 bd (D)::F) rfl (.inr (.inl ⟨h21',h25',rfl,rfl⟩))
    · simp at h25;have h25':196≤N:=(by omega);refine qh (gS (gM rR (g_v (qO rR (zrJ _ rR)) rR ?_)));refine g_l (wQ (stV bd (hdK D.now 0) (.pointer none) none 0 0) rR rR) rR ?_;rintro _ _ ⟨b29,rfl,rfl⟩;refine gA rR (qb (qf (gS (gM rR (qb (qk ?_))))));refine qF (α:=Nat) (fun k=>k≤2) (fun k=>U [(0,ptr bd 0),(4,ptr b29 0),(30,I (k:Int))]) (fun k=>pt b29 (.cells (stV bd (hdK D.now k) ((.pointer none)) none (0) 0) 179 (0,0))::dsk 219 285 bd (D)::F) (fun k=>2 - k) 0 (by decide) [0,4,30] rfl rR ?_;intro k hk;refine gS (g_v (qN rR rR) rR (qb (qf ?_)));refine qg rR (fun h31=>?_) (fun h31=>?_)
      · simp at h31;have hk2:k<2:=(by omega);refine qh (qf (qk (gS (gM rR (gA rR (qb (gS (gM rR (gM rR ?_)))))))));refine g_l (qi (Pre:=[dsk 219 285 bd (D)]) call102 rR (zdq bd D ((k:Nat):Int))) rR ?_;rintro _ _ ⟨rfl,rfl⟩;rw[show zhj D ((k:Nat):Int)=(D.now.getD (k) [],0) from zga h21' (by omega) (by rw[Int.toNat_natCast];exact zgT (by omega))];refine gM rR (g_v (qd (v:=Str (D.now.getD k [])) rR rR) rR (g_v (qd (v:=yE 0) rR rR) rR (gA rR (gA rR (qb (qf (gS (gM rR (g_v (qY underlying29 rR) rR (qb ?_))))))))));refine qg rR (fun h40=>?_) (fun h40=>?_)
        · simp at h40
        · refine qh (gS (gM rR ?_));refine g_l (qi (Pre:=[]) call103 rR (zg1 (D.now.getD k []) (zeQ (by omega) hS))) rR ?_;rintro _ _ ⟨rfl,rfl⟩;refine g_l (qy #[I 0,I 0,I 0,I 0] zeroValue176) rR ?_;rintro _ _ ⟨b8,rfl,rfl⟩;refine yr (qr (cs:=#[I 0,I 0,I 0,I 0]) (vs:=ws (wx (D.now.getD k []))) (ws (wx (D.now.getD k []))).toArray sizeOf176 rR rR rR rR (by decide) (qB (zjd _))) ?_;rintro _ _ rfl;refine qb (qf ?_);refine zae [(0,false),(1,false),(2,false),(3,false),(4,false),(5,false),(6,false),(7,false)] (by kernel_rfl) (by kernel_rfl) rR (by kernel_rfl) ?_;refine d_v rR (qa 0 underlying176 rR rR sizeOf3 (by decide) rR) rR (d_v rR (qe (v:=I (wx (D.now.getD k [])).ep) isAgg3 rR rR) rR (dM rR rR rR (d_v rR (qc rR) rR (d_v rR (qa 1 underlying179 rR rR sizeOf176 (by decide) rR) rR (d_v rR (qa 0 underlying176 rR rR sizeOf3 (by decide) rR) rR (d_v rR (qe (v:=I (hdK D.now k).ep) isAgg3 rR rR) rR (d_v rR (yw rR rR) rR ?_)))))));refine yg ?_;refine qg rR (fun h51=>?_) (fun h51=>?_)
          · have hgt:(hdK D.now k).ep<(wx (D.now.getD k [])).ep:=(by have:=of_decide_eq_true h51;omega);refine qp (gM rR (g_v (qH (vs:=ws (wx (D.now.getD k []))) isAgg176 sizeOf176 rR rR qR) rR (g_v (qc rR) rR (g_v (qa 1 underlying179 rR rR sizeOf176 (by decide) rR) rR ?_))));refine yr (qr (cs:=stV bd (hdK D.now k) (.pointer none) none 0 0) (vs:=ws (wx (D.now.getD k []))) (stV bd (wx (D.now.getD k [])) (.pointer none) none 0 0) sizeOf176 rR rR rR rR (by simp) rR) ?_;rintro _ _ rfl;refine qb (qG (qp (g_v (qu (r:=((k+1:Nat):Int)) rfl rfl (by rw[show (((k:Nat):Int):Int)+(1:Int)=((k+1:Nat):Int) by omega];exact w64 (by omega))) rfl (gM rfl (qb ?_)))));rw[show wx (D.now.getD k [])=hdK D.now (k+1) by rw[hdK,if_pos hgt]];exact qo (k+1) (by omega) (by omega) [0,4,30] rfl rfl
          · have hgt:¬(hdK D.now k).ep<(wx (D.now.getD k [])).ep:=(by have:=of_decide_eq_false h51;omega);refine qh (qG (qp (g_v (qu (r:=((k+1:Nat):Int)) rfl rfl (by rw[show (((k:Nat):Int):Int)+(1:Int)=((k+1:Nat):Int) by omega];exact w64 (by omega))) rfl (gM rfl (qb ?_)))));rw[show hdK D.now k=hdK D.now (k+1) by rw[hdK,if_neg hgt]];exact qo (k+1) (by omega) (by omega) [0,4,30] rfl rfl
      · simp at h31;obtain rfl:k=2:=(by omega);refine qz rR ?_;refine qf (gS (gM rR (g_v (qc rR) rR (g_v (qa 1 underlying179 rR rR sizeOf176 (by decide) rR) rR (g_v (qa 0 underlying176 rR rR sizeOf3 (by decide) rR) rR (g_v (qe (v:=I (hdK D.now 2).ep) isAgg3 rR rR) rR (g_v (yR rR rR) rR (qb ?_))))))));refine qg rR (fun h62=>?_) (fun h62=>?_)
        · simp at h62;have he0:(zfg D.now).ep=0:=(by show (hdK D.now 2).ep=0;omega);refine gS (g_v (qA underlying89 rR rR) rR (gA rR (gA rR (qb ?_))));exact ql (dsk 219 285 bd (D)::F) rfl (.inr (.inr (.inl ⟨h21',h25',he0,rfl,rfl⟩)))
        · simp at h62;have he0:(zfg D.now).ep≠0:=(by show (hdK D.now 2).ep≠0;omega);have hgd:=hg h21' h25' he0;rw[show hdK D.now 2=hx from hgd.best];refine qh (gS (gA rR (qb (qf (gS (gM rR (qb (qk ?_))))))));refine qF (α:=Nat) (fun k=>k≤60) (fun k=>U [(0,ptr bd 0),(4,ptr b29 0),(9,Str (txK D.now hx.side k)),(64,I (k:Int))]) (fun k=>pt b29 (.cells (stV bd (hx) ((.pointer none)) none (0) 0) 179 (0,0))::dsk 219 285 bd (D)::F) (fun k=>60 - k) 0 (by decide) [0,4,9,64] rfl rR ?_;intro k hk;have hside:=hgd.side;have htl:=zoT (side:=hx.side) hS k (by omega);refine gS (g_v (qN rR rR) rR (qb (qf ?_)));refine qg rR (fun h65=>?_) (fun h65=>?_)
          · simp at h65;have hk60:k<60:=(by omega);have hsl:(D.now.getD (2+hx.side*60+k) []).length=80:=zeQ (by omega) hS;refine qh (qf (qk (gS (gM rfl (gA rfl (qb (gS (gM rfl (gM rfl (g_v (qc rfl) rfl (g_v (qa 1 underlying179 rfl rfl sizeOf176 (by decide) rfl) rfl (g_v (qa 1 underlying176 rfl rfl sizeOf3 (by decide) rfl) rfl (g_v (qe (v:=I hx.side) isAgg3 rfl rfl) rfl (g_v (zcY (r:=((hx.side*60:Nat):Int)) rfl rfl (by rw[show (hx.side:Int)*(60:Int)=((hx.side*60:Nat):Int) by omega];exact w64 (by omega))) rfl (g_v (qu (r:=((2+hx.side*60:Nat):Int)) rfl rfl (by rw[show (2:Int)+(((hx.side*60:Nat):Int):Int)=((2+hx.side*60:Nat):Int) by omega];exact w64 (by omega))) rfl (gM rfl (g_v (qu (r:=((2+hx.side*60+k:Nat):Int)) rfl rfl (by rw[show (((2+hx.side*60:Nat):Int):Int)+(((k:Nat):Int):Int)=((2+hx.side*60+k:Nat):Int) by omega];exact w64 (by omega))) rfl ?_)))))))))))))))));refine g_l (qi (Pre:=[dsk 219 285 bd (D)]) call102 rR (zdq bd D (((2+hx.side*60+k):Nat):Int))) rR ?_;rintro _ _ ⟨rfl,rfl⟩;rw[show zhj D ((2+hx.side*60+k:Nat):Int)=(D.now.getD (2+hx.side*60+k) [],0) from zga h21' (by omega) (by rw[Int.toNat_natCast];exact zgT (by omega))];refine gM rR (g_v (qd (v:=Str (D.now.getD (2+hx.side*60+k) [])) rR rR) rR (g_v (qd (v:=yE 0) rR rR) rR (gA rR (gA rR (qb (qf (gS (gM rR (g_v (qY underlying29 rR) rR (qb ?_))))))))));refine qg rR (fun h82=>?_) (fun h82=>?_)
            · simp at h82
            · refine qh (qp (gM rfl (gM rfl (g_v (wJ rfl rfl (by rw[htl,hsl];omega)) rfl (gA rfl (qb (qG (qp (g_v (qu (r:=((k+1:Nat):Int)) rfl rfl (by rw[show (((k:Nat):Int):Int)+(1:Int)=((k+1:Nat):Int) by omega];exact w64 (by omega))) rfl (gM rfl (qb ?_)))))))))));rw[zk9 (by omega)];exact qo (k+1) (by omega) (by omega) [0,4,9,64] rfl rfl
          · simp at h65;obtain rfl:k=60:=(by omega);have hsz:hx.size≤(txK D.now hx.side 60).length:=by
              have h1:=hgd.size;have h2:=zcE hgd.hok;have h3:=hgd.len;omega
            refine qz rR ?_;refine gS (gM rR (gM rR (g_v (qc rR) rR (g_v (qa 1 underlying179 rR rR sizeOf176 (by decide) rR) rR (g_v (qa 2 underlying176 rR rR sizeOf3 (by decide) rR) rR (g_v (qe (v:=I hx.size) isAgg3 rR rR) rR (g_v (zvq (h:=hx.size) underlying9 rR rR rR hsz) rR ?_)))))));rw[show (txK D.now hx.side 60).take hx.size=yu r0 from hgd.text];refine g_l (qi (Pre:=[]) call104 rR (zhX r0 (by have:=hgd.len;omega) hgd.hsrt hgd.hok)) rR ?_;rintro _ _ ⟨s96,c96,rfl,rfl⟩;refine gM rR (g_v (qd (v:=sl s96 r0.length c96) rR rR) rR (g_v (qd (v:=Bo true) rR rR) rR (gA rR (gA rR (qb (qf (gS (gM rR (g_v (wn rR) rR (qb ?_))))))))));refine qg rR (fun h100=>?_) (fun h100=>?_)
            · simp at h100
            · refine qh (qf ?_);refine yv (Lf:=[pt b29 (.cells (stV bd hx (.pointer none) none 0 0) 179 (0,0))]) [(0,false),(1,false),(4,false),(5,false),(6,false),(7,false),(8,false),(2,true),(3,false),(9,true),(10,false),(11,false),(12,false),(13,false),(14,false),(15,false),(16,false)] (by kernel_rfl) (by kernel_rfl) rR (by kernel_rfl) ?_;refine dM rfl rfl rfl (dM rfl rfl rfl (dM rfl rfl rfl (d_v rfl (qc rfl) rfl (d_v rfl (qa 1 underlying179 rfl rfl sizeOf176 (by decide) rfl) rfl (d_v rfl (qa 3 underlying176 rfl rfl sizeOf3 (by decide) rfl) rfl (d_v rfl (qe (v:=I hx.first) isAgg3 rfl rfl) rfl ?_))))));refine d_l rR (qi (Pre:=[dsk 219 285 bd (D)]) (R:=fun F=>R1 (I ((D).now.length:Int)) (dsk 219 285 bd (D)::F)) call101 rR (yU bd D)) rR ?_;rintro _ _ ⟨rfl,rfl⟩;refine d_v rfl (zce (r:=((N - 122:Nat):Int)) rfl rfl (by rw[hN,show (N:Int) - 122=((N - 122:Nat):Int) by omega];exact w64 (by omega))) rfl ?_;refine d_l rfl (qi (Pre:=[dsk 219 285 bd (D)]) call105 rfl (zhg bd D 122 ((N - 122:Nat):Int) hx.first hS ⟨by omega,by have:=hgd.first;omega⟩)) rfl ?_;rintro _ _ (⟨hbad,_,_⟩ | ⟨_,hdn,_,_⟩ | ⟨_,_,bl,gl,so,co,used',rfl,hul,hgll,hsc,rfl⟩)
              · exfalso;unfold zqX at hbad;have:=hgd.first;omega
              · rw[h21'] at hdn;cases hdn
              rw[show lgC bd ((122:Int)).toNat ((N - 122:Nat):Int).toNat (hx.first:Int).toNat used'=lgC bd 122 (N - 122) hx.first used' from rfl]
              replace hgll:gl.length≤N - 122:=hgll
              replace hsc:wa hx.first (zjG D 122) (N - 122) 0 [] [] 0=(gl.map (·.1),used'):=hsc
              have hlg:=hgd.log;rw[hN] at hlg;have hlg2:wa hx.first (zjG D 122) (N - 122) 0 [] [] 0=(ds,used):=hlg;rw[hsc] at hlg2;injection hlg2 with hq1 hq2;obtain rfl:used=used':=hq2.symm;have hfit:=hgd.fits;rw[←hq1] at hfit;have hlen72:∀y∈gl,y.1.length≤72:=fun y hy=>hgd.lens _ (by rw[←hq1];exact List.mem_map_of_mem hy);refine dM rR rR rR (d_v rR (qd (v:=ptr bl 0) rR rR) rR (d_v rR (qd (v:=sl so gl.length co) rR rR) rR (d_v rR (qd (v:=yE 0) rR rR) rR (d_v rR (qx rR) rR (d_v rR (qx rR) rR (d_v rR (qx rR) rR ?_))))));refine yg ?_;refine qf (gS (gM rR (g_v (qY underlying29 rR) rR (qb ?_))));refine qg rR (fun h117=>?_) (fun h117=>?_)
              · simp at h117
              · refine qh (gS (gM rR (gM rR (gM rR (gM rR (g_v (qc rR) rR (g_v (qa 5 underlying179 rR rR sizeOf177 (by decide) rR) rR ?_)))))));refine yr (qK (stV bd hx (ptr bl 0) none 0 0) sizeOf177 rR rR rR (by simp) rR) ?_;rintro _ _ rfl;refine g_v (qc rR) rR (g_v (qa 6 underlying179 rR rR sizeOf33 (by decide) rR) rR ?_);refine yr (qK (stV bd hx (ptr bl 0) s96 (zob r0 gl (0)).length c96) sizeOf33 rR rR rR (by simp) rR) ?_;rintro _ _ rfl;refine qb (qf (qf ?_));rw[show chR r0=chR (zob r0 gl 0) from rfl];refine qp (gM rR (g_v (yq underlying183 rR) rR (gM rR (qb (qk ?_)))));refine qF (α:=Nat×Option Addr×Nat) (fun z=>z.1≤gl.length) (fun z=>U [(4,ptr b29 0),(127,sl so gl.length co),(128,I gl.length),(129,I (z.1:Int))]) (fun z=>pt b29 (.cells (stV bd (hx) (ptr bl 0) z.2.1 ((zob r0 gl (z.1)).length) z.2.2) 179 (0,0))::roL 3 z.2.1 (chR (zob r0 gl (z.1)))::pt bl (.cells (lgC bd 122 (N - 122) hx.first used) 228 (0,0))::owL 33 1 so co (dR gl)::zk3 gl::dsk 219 285 bd (D)::F) (fun z=>gl.length - z.1) (0,s96,c96) (by simp) [4,127,128,129] rfl rfl ?_;rintro ⟨k,sA,cA⟩ hk;simp only[] at hk ⊢;refine gS (g_v (qN rR rR) rR (qb (qf ?_)));refine qg rR (fun h130=>?_) (fun h130=>?_)
                · simp at h130;have hkn:k<gl.length:=(by omega);obtain ⟨x,hx'⟩:∃x,gl[k]? =some x:=⟨_,List.getElem?_eq_getElem hkn⟩;refine qh (qf (qk (gS (g_v (qC k underlying183 sizeOf33 rR rR rR hkn (by rw[ztn];exact hkn)) rR (g_v (yd (v:=sl x.2.1 x.1.length x.2.2) isAgg33 rR (dR_at hx') rR) rR (gA rR (qb ?_)))))));refine zrq gl (List.mem_of_getElem? hx') ?_;refine qp (gM rR (gM rR (g_v (qc rR) rR (g_v (qa 6 underlying179 rR rR sizeOf33 (by decide) rR) rR (g_v (qe (v:=sl sA (zob r0 gl (k)).length cA) isAgg33 rR rR) rR (gM rR ?_))))));refine g_l (qi (Pre:=[roL 3 sA (chR (zob r0 gl (k))),roL 3 x.2.1 (chR x.1)]) call106 rR (zdp (zob r0 gl (k)) x.1 sA x.2.1 cA x.2.2 (zi7 _ hgd.hsrt) (Nat.le_trans (hfit k) (by decide)) (by have:=hlen72 x (List.mem_of_getElem? hx');omega))) rR ?_;rintro _ _ ⟨s139,c139,rfl,rfl⟩;rw[zwv hx'];refine yM (T:=58) (cap:=c139) s139 ?_;refine g_v (qc rR) rR (g_v (qa 6 underlying179 rR rR sizeOf33 (by decide) rR) rR ?_);refine yr (qK (stV bd hx (ptr bl 0) s139 (zob r0 gl (k+1)).length c139) sizeOf33 rR rR rR (by simp) rR) ?_;rintro _ _ rfl;refine qb (qG (qp (g_v (qu (r:=((k+1:Nat):Int)) rfl rfl (by rw[show (((k:Nat):Int):Int)+(1:Int)=((k+1:Nat):Int) by omega];exact w64 (by omega))) rfl (gM rfl (qb ?_)))));exact qo (k+1,s139,c139) (by simp only[];omega) (by simp only[];omega) [4,127,128,129] rfl rfl
                · simp at h130;obtain rfl:k=gl.length:=(by omega);have hcu:zob r0 gl gl.length=cur r0 ds:=(by unfold zob cur;rw[List.take_of_length_le (by simp),hq1]);rw[hcu];refine qz rR ?_;refine gS (gM rR (gA rR (gA rR (qb ?_))));exact ql (pt b29 (.cells (stC bd hx bl sA (cur r0 ds).length cA) 179 (0,0))::pt bl (.cells (lgC bd 122 (N - 122) hx.first used) 228 (0,0))::dsk 219 285 bd (D)::roL 3 sA (chR (cur r0 ds))::F) rfl (.inr (.inr (.inr ⟨h21',h25',he0,b29,bl,sA,cA,rfl,rfl⟩)))
theorem zgj (bd N i:Nat)(D:DiskM)(hok:okW N i D)(hi:i≤100000)(hN0:N≤260)(F:List HProp):Ct Tryz.prog 143 [ptr bd 0] ([dsk 219 285 bd (D)]++F) (fun v L'=>(N<196∧v=yE 8∧L'=dsk 219 285 bd (D)::F)∨(196≤N∧∃e D1,wh D (fmL N)=(e,D1)∧v=yE e∧L'=dsk 219 285 bd (D1)::F)):=by
  show Ct Tryz.prog 143 [ptr bd 0] (dsk 219 285 bd (D)::F) _;refine Ct.of func143 rR 39 ntmps143 (by simp) fun w0=>?_;refine gS (gA rR (qb (qf (gS (gM rR ?_)))));refine g_l (qi (Pre:=[dsk 219 285 bd (D)]) (R:=fun F=>R1 (I ((D).now.length:Int)) (dsk 219 285 bd (D)::F)) call101 rR (yU bd D)) rR ?_;rintro _ _ ⟨rfl,rfl⟩;refine g_v (qN rR rR) rR (qb ?_);refine qg rR (fun h7=>?_) (fun h7=>?_)
  · simp at h7;have h7':N<196:=(by have:=hok.2.1;omega);refine gS (g_v (qA underlying89 rR rR) rR (gA rR (qb ?_)));exact ql (dsk 219 285 bd (D)::F) rfl (.inl ⟨h7',rfl,rfl⟩)
  · simp at h7;have h7':196≤N:=(by have:=hok.2.1;omega);refine qh (gS (gM rR ?_));refine g_l (qi (Pre:=[dsk 219 285 bd (D)]) call182 rR (wt bd D ((0:Nat):Int) [] hok.2.2.1 (by have:=hok.2.2.2.2;omega))) rR ?_;rintro _ _ ⟨rfl,rfl⟩;refine gA rR (qb (qf (gS (gA rR (qb (qk ?_))))));refine qF (α:=Nat×Int×DiskM) (fun z=>z.1≤N - 122∧wh D (fmW z.1)=(z.2.1,z.2.2)) (fun z=>U [(0,ptr bd 0),(3,yE z.2.1),(4,I ((122+z.1:Nat):Int))]) (fun z=>dsk 219 285 bd (z.2.2)::F) (fun z=>N - z.1) (0,yO D ((0:Nat):Int) [],yy D ((0:Nat):Int) []) ⟨Nat.zero_le _,zbD (l:=[]) rfl⟩ [0,3,4] rfl rR ?_;rintro ⟨k,e,X⟩ ⟨hk,hrun⟩;simp only[] at hk hrun ⊢;have hokk:=zaV (fmW k) i D hok;rw[hrun,zhu] at hokk;simp only at hokk;refine qf (gS (gM rR (gM rR ?_)));refine g_l (qi (Pre:=[dsk 219 285 bd (X)]) (R:=fun F=>R1 (I ((X).now.length:Int)) (dsk 219 285 bd (X)::F)) call101 rR (yU bd X)) rR ?_;rintro _ _ ⟨rfl,rfl⟩;refine g_v (qN rR rR) rR (gM rR (qI rR rR (fun hg=>qn rR) rR rR (qI rR rR (fun hg=>wE underlying29 rR) rR rR (g_v (zao rR rR) rR (qb ?_)))));refine qg rR (fun h18=>?_) (fun h18=>?_)
    · simp at h18;have he0:e=0:=h18.2;have hkn:122+k<N:=(by have:=hokk.2.1;omega);refine qh (qf (qk (qp (gM rR (gM rR ?_)))));refine g_l (qi (Pre:=[dsk 219 285 bd (X)]) call182 rR (wt bd X ((122+k:Nat):Int) [] hokk.2.2.1 (by have:=hokk.2.2.2.2;omega))) rR ?_;rintro _ _ ⟨rfl,rfl⟩;refine gA rfl (qb (qG (qp (gM rfl (g_v (qu (r:=((122+(k+1):Nat):Int)) rfl rfl (by rw[show ((122+k:Nat):Int)+1=((122+(k+1):Nat):Int) by omega];exact w64 (by omega))) rfl (gA rfl (qb ?_)))))));exact qo (k+1,yO X ((122+k:Nat):Int) [],yy X ((122+k:Nat):Int) []) ⟨by simp only[];omega,by simp only[];rw[fmW,zbD (by rw[hrun,he0])];rfl⟩ (by simp only[];omega) [0,3,4] rfl rfl
    · simp at h18;have hst:k=N - 122∨e≠0:=by
        have:=hokk.2.1;by_cases he:e=0
        · left;by_cases hx:122+k<N
          · exact absurd he (h18 (by omega))
          · omega
        · exact .inr he
      have hf:=zsm hrun hst hk;refine qz rR ?_;refine qf (gS (gM rR (g_v (wE underlying29 rR) rR (qb ?_))));refine zjO (α:=Int×DiskM) (fun z=>wh D (fmW (N - 122)++ [none])=z) (fun z=>U [(0,ptr bd 0),(3,yE z.1)]) (fun z=>dsk 219 285 bd (z.2)::F) ?_ ?_
      · refine qg rR (fun h25=>?_) (fun h25=>?_)
        · have he:e=0:=(by simpa using h25);subst he;refine qp (gM rR ?_);refine g_l (qi (Pre:=[dsk 219 285 bd (X)]) call183 rR (zak bd X hokk.2.2.1 (by rw[hokk.1,hokk.2.1]) (by rw[hokk.2.1];omega))) rR ?_;rintro _ _ ⟨rfl,rfl⟩;refine gA rR (qb ?_);exact zaD (wc X,yx X) (zbD (x:=none) hf) [0,3] rfl rfl
        · have he:¬e=0:=(by simpa using h25);refine qh ?_;exact zaD (e,X) (zbB hf he) [0,3] rfl rfl
      rintro ⟨e1,X1⟩ h1;simp only at h1 ⊢;have hok1:=zaV (fmW (N - 122)++ [none]) i D hok;rw[h1,List.length_append,zhu] at hok1;simp only[List.length_cons,List.length_nil] at hok1;refine qf (gS (gM rR (g_v (wE underlying29 rR) rR (qb ?_))));refine zjO (α:=Int×DiskM) (fun z=>wh D (fmW (N - 122)++ [none]++ [some (1,wg hd1)])=z) (fun z=>U [(0,ptr bd 0),(3,yE z.1)]) (fun z=>dsk 219 285 bd (z.2)::F) ?_ ?_
      · refine qg rR (fun h29=>?_) (fun h29=>?_)
        · have he1:e1=0:=(by simpa using h29);subst he1;refine qp (gM rR (g_v (qO rR (wl _ rR _ rR _ rR _ rR)) rR ?_));refine g_l (qi (Pre:=[]) call184 rR (zeH hd1)) rR ?_;rintro _ _ ⟨rfl,rfl⟩;refine g_l (qi (Pre:=[dsk 219 285 bd (X1)]) call182 rR (wt bd X1 ((1:Nat):Int) (wg hd1) hok1.2.2.1 (by have:=hok1.2.2.2.2;omega))) rR ?_;rintro _ _ ⟨rfl,rfl⟩;refine gA rR (qb ?_);exact zaD (yO X1 ((1:Nat):Int) (wg hd1),yy X1 ((1:Nat):Int) (wg hd1)) (zbD h1) [0,3] rfl rfl
        · have he1:¬e1=0:=(by simpa using h29);refine qh ?_;exact zaD (e1,X1) (zbB h1 he1) [0,3] rfl rfl
      rintro ⟨e2,X2⟩ h2;simp only at h2 ⊢;have hok2:=zaV (fmW (N - 122)++ [none]++ [some (1,wg hd1)]) i D hok;rw[h2,List.length_append,List.length_append,zhu] at hok2;simp only[List.length_cons,List.length_nil] at hok2;refine qf (gS (gM rR (g_v (wE underlying29 rR) rR (qb ?_))));refine zjO (α:=Int×DiskM) (fun z=>wh D (fmL N)=z) (fun z=>U [(0,ptr bd 0),(3,yE z.1)]) (fun z=>dsk 219 285 bd (z.2)::F) ?_ ?_
      · refine qg rR (fun h35=>?_) (fun h35=>?_)
        · have he2:e2=0:=(by simpa using h35);subst he2;refine qp (gM rR ?_);refine g_l (qi (Pre:=[dsk 219 285 bd (X2)]) call183 rR (zak bd X2 hok2.2.2.1 (by rw[hok2.1,hok2.2.1]) (by rw[hok2.2.1];omega))) rR ?_;rintro _ _ ⟨rfl,rfl⟩;refine gA rR (qb ?_);exact zaD (wc X2,yx X2) (by have:=zbD (x:=none) h2;rw[List.append_assoc,List.append_assoc] at this;exact this) [0,3] rfl rfl
        · have he2:¬e2=0:=(by simpa using h35);refine qh ?_;exact zaD (e2,X2) (by have:=zbB (r:=[none]) h2 he2;rw[List.append_assoc,List.append_assoc] at this;exact this) [0,3] rfl rfl
      rintro ⟨e3,X3⟩ h3;simp only at h3 ⊢;refine gS (gM rR (gA rR (qb ?_)));exact ql (dsk 219 285 bd (X3)::F) rfl (.inr ⟨h7',e3,X3,h3,rfl,rfl⟩)
end Go.Proofs.YthdjckbjjfiopacGreatDoor
namespace Go.Proofs.YthdjckbjjfiopacGreatDoor
open Go.Sl Go.Proofs
theorem zwQ {l:List ChangeM}{c:ChangeM}(h:∀r∈l,okR r)(hc:zbv c=0):∀r∈apS l c,okR r:=by
  intro r hr;unfold apS at hr;simp only[List.mem_append] at hr;rcases hr with (hr | hr) | hr
  · exact h r (List.mem_filter.1 hr).1
  · split at hr
    · cases hr
    · rename_i hg;rw[List.mem_singleton] at hr;subst hr;exact ⟨hc,by simpa using hg⟩
  · exact h r (List.mem_filter.1 hr).1
theorem zox:∀(c:List ChangeM) {l:List ChangeM},(∀r∈l,okR r)→(∀x∈c,zbv x=0)→∀r∈zaA l c,okR r
  | [],l,h,_=>h
  | x::c,l,h,hc=>zox c (zwQ h (hc x (by simp))) fun y hy=>hc y (List.mem_cons_of_mem _ hy)
theorem zoR:∀(ds:Deeds) {l:List ChangeM},(∀r∈l,okR r)→(∀d∈ds,∀x∈d,zbv x=0)→∀r∈cur l ds,okR r
  | [],l,h,_=>h
  | d::ds,l,h,hc=>zoR ds (zox d h (hc d (by simp))) fun e he=>hc e (List.mem_cons_of_mem _ he)
theorem zgc (r0:List ChangeM)(ds:Deeds)(c:List ChangeM):cur r0 (ds++ [c])=zaA (cur r0 ds) c:=by unfold cur;rw[List.foldl_append];rfl
theorem Good.srtC {L:List Bytes}{h:HdM}{r0:List ChangeM}{ds:Deeds}{used:Nat}(g:Good L h r0 ds used):srt (cur r0 ds):=zi7 ds g.hsrt
theorem Good.okC {L:List Bytes}{h:HdM}{r0:List ChangeM}{ds:Deeds}{used:Nat}(g:Good L h r0 ds used):∀r∈cur r0 ds,okR r:=zoR ds g.hok g.chk
theorem Good.lenC {L:List Bytes}{h:HdM}{r0:List ChangeM}{ds:Deeds}{used:Nat}(g:Good L h r0 ds used):(cur r0 ds).length≤80:=by
  have:=g.fits ds.length;rw[List.take_length] at this;exact this
def zhU (a b:HdM):HdM:=if (if HdM.no.ep<a.ep then a else HdM.no).ep<b.ep then b else if HdM.no.ep<a.ep then a else HdM.no
theorem zgk (L:List Bytes):zfg L=zhU (wx (L.getD 0 [])) (wx (L.getD 1 [])):=rfl
theorem znj {L L':List Bytes}(h0:L'.getD 0 []=L.getD 0 [])(h1:L'.getD 1 []=L.getD 1 []):zfg L'=zfg L:=by rw[zgk,zgk,h0,h1]
theorem ztY:HdM.no.ep=0:=rfl
theorem znn (a b:HdM):a.ep≤(zhU a b).ep∧b.ep≤(zhU a b).ep:=by
  unfold zhU;by_cases h1:HdM.no.ep<a.ep
  · simp only[if_pos h1];by_cases h2:a.ep<b.ep
    · rw[if_pos h2];omega
    · rw[if_neg h2];omega
  · simp only[if_neg h1];have:=ztY;by_cases h2:HdM.no.ep<b.ep
    · rw[if_pos h2];omega
    · rw[if_neg h2];omega
theorem ztX {a b h:HdM}(hh:(zhU a b).ep<h.ep):zhU h b=h:=by
  have:=znn a b;have:=ztY;unfold zhU;rw[if_pos (show HdM.no.ep<h.ep by omega),if_neg (by omega)]
theorem zvd {a b h:HdM}(hh:(zhU a b).ep<h.ep):zhU a h=h:=by
  have:=znn a b;have:=ztY;unfold zhU;rw[if_pos];split <;> omega
theorem zoz {L L':List Bytes}{side:Nat}(hl:L'.length=L.length):∀k,2+side*60+k≤L.length→(∀m,2+side*60≤m→m<2+side*60+k→L'.getD m []=L.getD m [])→txK L' side k=txK L side k
  | 0,_,_=>rfl
  | k+1,hk,h=>by
    rw[←zk9 (by omega),←zk9 (L:=L) (by omega),zoz hl k (by omega) (fun m a b=>h m a (by omega)),h _ (by omega) (by omega)]
theorem zmg {L L':List Bytes}{h:HdM}{r0:List ChangeM}{ds ds':Deeds}{used used':Nat}(g:Good L h r0 ds used)(hl:L'.length=L.length)(h122:122≤L.length)(hlow:∀m,m<2→L'.getD m []=L.getD m [])(htx:∀m,2+h.side*60≤m→m<2+h.side*60+60→L'.getD m []=L.getD m [])
    (hlog:wa h.first (zfO L' 122) (L.length - 122) 0 [] [] 0=(ds',used')) (h1:∀d∈ds',d.length≤72) (h2:∀d∈ds',∀x∈d,zbv x=0) (h3:∀k,((ds'.take k).foldl zaA r0).length≤80):Good L' h r0 ds' used':=by
  have hs:=g.side;have ht:txK L' h.side 60=txK L h.side 60:=zoz hl 60 (by omega) htx;exact ⟨(znj (hlow 0 (by decide)) (hlow 1 (by decide))).trans g.best,g.ep,g.side,g.first,g.size,by
    have:=g.text;show (txK L' h.side 60).take h.size=_;rw[ht];exact this,g.hsrt,g.hok,g.len,by rw[hl];exact hlog,h1,h2,h3⟩
theorem zpG {L L':List Bytes}{h:HdM}{r0:List ChangeM}{ds:Deeds}{used:Nat}(g:Good L h r0 ds used)(hl:L'.length=L.length)(h122:122≤L.length)(hlow:∀m,m<2→L'.getD m []=L.getD m [])(htx:∀m,2+h.side*60≤m→m<2+h.side*60+60→L'.getD m []=L.getD m [])(hlg:∀m,122≤m→L'.getD m []=L.getD m []):Good L' h r0 ds used:=
  zmg g hl h122 hlow htx (by
    have:zfO L' 122=zfO L 122:=funext fun i=>hlg _ (by omega);rw[this];exact g.log) g.lens g.chk g.fits
def zn6 (B:Nat)(s:Bytes):Prop:=∀n,B≤n→n<4294967296→zaE n s=none
theorem zpV {B B':Nat}{s:Bytes}(h:zn6 B s)(hB:B≤B'):zn6 B' s:=fun n h1 h2=>h n (by omega) h2
theorem zis (B:Nat):zn6 B (yi []):=fun n _ _=>zcs n
theorem zrY {m n:Nat}(hm:m<4294967296)(hn:n<4294967296)(h:qM m=qM n):m=n:=by rw[←zds hm,h,zds hn]
theorem zjL {B m:Nat}{k:UInt8}{s:Bytes}(hm:m<B)(hB:B≤4294967296):zn6 B (yi (wC k m s)):=fun n h1 h2=>by
  unfold zaE;rw[if_neg];intro h;have e:((yi (wC k m s)).take 5).drop 1=qM m:=by
    unfold yi wC qM;simp[List.take]
  rw[e] at h;have:=zrY (by omega) h2 h.1;omega
structure AllP (P:Nat→Bytes→Prop) (D:DiskM):Prop where
  now:∀m,P m (D.now.getD m [])
  kept:∀m,P m (D.kept.getD m [])
  wait:∀t∈D.wait,P t.1 t.2
def okP (P:Nat→Bytes→Prop):Stp→Prop
  | some x=>P x.1 (yi x.2)
  | none=>True
theorem AllP.step {P:Nat→Bytes→Prop}{D:DiskM}(h:AllP P D):AllP P (wd D):=⟨by rw[wA];exact h.now,by rw[yX];exact h.kept,by rw[wq];exact h.wait⟩
theorem AllP.st {P:Nat→Bytes→Prop}{D:DiskM}{x:Stp}(h:AllP P D)(hx:okP P x):AllP P (stD D x):=by
  cases x with
  | none=>
    show AllP P (yx D);unfold yx;split
    · exact ⟨h.step.now,h.step.now,fun t ht=>by cases ht⟩
    · exact h.step
  | some y=>
    show AllP P (yy D y.1 y.2);unfold yy;split
    · exact h
    · split
      · refine ⟨fun m=>?_,h.step.kept,fun t ht=>?_⟩
        · show P m (((wd D).now.set ((y.1:Int)).toNat (yi y.2)).getD m []);rw[yJ];split
          · rename_i hc;rw[←hc.1,Int.toNat_natCast];exact hx
          · exact h.step.now m
        · simp only[wu,List.mem_append,List.mem_singleton] at ht;rcases ht with ht | rfl
          · exact h.step.wait t ht
          · simp only[Int.toNat_natCast];exact hx
      · exact h.step
theorem AllP.run {P:Nat→Bytes→Prop}:∀(l:List Stp) {D:DiskM},AllP P D→(∀x∈l,okP P x)→AllP P (wh D l).2
  | [],D,h,_=>h
  | x::l,D,h,ho=>by
    have h1:=h.st (ho x (List.mem_cons_self ..));by_cases h0:stE D x=0
    · rw[zcK h0];exact AllP.run l h1 fun y hy=>ho y (List.mem_cons_of_mem _ hy)
    · rw[zbI h0];exact h1
theorem AllP.rest {P:Nat→Bytes→Prop}{D:DiskM}(h:AllP P D)(keep:Int)(m:Nat):P m ((zbH keep D).getD m []):=by
  rcases zev (keep:=keep) (w:=D.wait) (K:=D.kept) D.wait.length m with e | ⟨t,ht,e1,e2⟩
  · show P m ((zfJ keep D.wait D.kept D.wait.length).getD m []);rw[e];exact h.kept m
  · show P m ((zfJ keep D.wait D.kept D.wait.length).getD m []);rw[e2,←e1];exact h.wait t ht
theorem AllP.calm {P:Nat→Bytes→Prop}{D:DiskM}(hk:D.kept=D.now)(hw:D.wait=[])(h:∀m,P m (D.now.getD m [])):AllP P D:=⟨h,by rw[hk];exact h,by rw[hw];intro t ht;cases ht⟩
theorem zhq (keep:Int)(D:DiskM):(zbH keep D).length=D.kept.length:=zeG ..
theorem zjc:∀(l:List Stp) {D D':DiskM},(∀x∈l,zcn D.now.length x)→wh D l=(0,D')→D'.now=zap D.now l
  | [],D,D',_,h=>by injection h with _ h;rw[←h];rfl
  | none::l,D,D',ho,h=>by
    by_cases h0:wc D=0
    · rw[zde h0] at h;have hn:=(zbE h0).2;have:=zjc l (D:=yx D) (fun x hx=>by rw[hn];exact ho x (List.mem_cons_of_mem _ hx)) h;rw[this,hn];rfl
    · rw[zcG h0] at h;injection h with h _;exact absurd h h0
  | some y::l,D,D',ho,h=>by
    obtain ⟨n,s⟩:=y;have hy:=ho _ (List.mem_cons_self ..);have hb:¬zij D (n:Int) s:=(by unfold zij;have h1:=hy.1;have h2:=hy.2;simp only at h1 h2;omega);by_cases h0:yO D (n:Int) s=0
    · rw[ze8 h0] at h;have hs:wc D=0:=(by unfold yO at h0;rw[if_neg hb] at h0;exact h0);have hn:(yy D (n:Int) s).now=D.now.set n (yi s):=by
        unfold yy;rw[if_neg hb,if_pos hs];show (wd D).now.set ((n:Int)).toNat _=_;rw[wA,Int.toNat_natCast]
      have:=zjc l (D:=yy D (n:Int) s) (fun x hx=>by rw[hn,List.length_set];exact ho x (List.mem_cons_of_mem _ hx)) h;rw[this,hn];rfl
    · rw[zdr h0] at h;injection h with h _;exact absurd h h0
theorem zsj {side:Nat}{t:Bytes}:∀(f k:Nat) (L:List Bytes) (m:Nat),(zap L (ckW side t k f)).getD m []=if 2+side*60+k≤m∧m<2+side*60+k+f∧m<L.length then yi (wz t (m - (2+side*60))) else L.getD m []
  | 0,k,L,m=>by rw[if_neg (by omega)];rfl
  | f+1,k,L,m=>by
    rw[ckW,zap,zsj f (k+1),List.length_set,yJ];by_cases h1:2+side*60+(k+1)≤m∧m<2+side*60+(k+1)+f∧m<L.length
    · rw[if_pos h1,if_pos (by omega)]
    · rw[if_neg h1];by_cases h2:2+side*60+k=m∧2+side*60+k<L.length
      · rw[if_pos h2,if_pos (by omega),show m - (2+side*60)=k by omega]
      · rw[if_neg h2,if_neg (by omega)]
theorem zll {t:Bytes}{k:Nat}(h:80*(k+1)≤t.length):yi (wz t k)=wz t k:=by
  have:(wz t k).length=80:=(by rw[zbY,show Nat.min 80 (t.length - 80*k)=80 from Nat.min_eq_left (by omega)]);unfold yi;rw[this];simp[zbF]
theorem zh2 {t:Bytes}{k:Nat}:t.take (80*k)++wz t k=t.take (80*(k+1)):=by
  unfold wz;rw[show 80*(k+1)=80*k+80 by omega,List.take_add]
theorem zlS {L:List Bytes}{side:Nat}{t:Bytes}(hL:2+side*60+60≤L.length)(hs:∀k,k<yb t→L.getD (2+side*60+k) []=yi (wz t k))(h60:yb t≤60):∀k,80*k≤t.length→txK L side k=t.take (80*k)
  | 0,_=>rfl
  | k+1,h=>by
    have hk:k<yb t:=chunks_lt.2 (by omega);rw[←zk9 (by omega),zlS hL hs h60 k (by omega),hs k hk,zll h,zh2]
theorem zp0 {L:List Bytes}{side:Nat}(hL:2+side*60+60≤L.length):∀(g k:Nat),k+g≤60→∃r,txK L side (k+g)=txK L side k++r
  | 0,k,_=>⟨[],by simp⟩
  | g+1,k,h=>by
    obtain ⟨r,hr⟩:=zp0 hL g k (by omega);exact ⟨r++L.getD (2+side*60+(k+g)) [],by rw[show k+(g+1)=(k+g)+1 by omega,←zk9 (by omega),hr,List.append_assoc]⟩
theorem zvW {L:List Bytes}{side:Nat}{t:Bytes}(hL:2+side*60+60≤L.length)(hs:∀k,k<yb t→L.getD (2+side*60+k) []=yi (wz t k))(h60:yb t≤60):(txK L side 60).take t.length=t:=by
  have hq:∃r,txK L side (yb t)=t++r:=by
    by_cases he:80*yb t=t.length
    · exact ⟨[],by rw[zlS hL hs h60 _ (by omega),he,List.take_length,List.append_nil]⟩
    · obtain ⟨q,hq⟩:∃q,yb t=q+1:=⟨yb t - 1,by unfold yb at*;omega⟩;have h1:80*q<t.length:=chunks_lt.1 (by omega);refine ⟨zbF (80 - (wz t q).length),?_⟩;rw[hq,←zk9 (by omega),zlS hL hs h60 q (by omega),hs q (by omega)];unfold yi;rw[←List.append_assoc,zh2,List.take_of_length_le (by unfold yb at*;omega)]
  obtain ⟨r,hr⟩:=hq;obtain ⟨r2,hr2⟩:=zp0 hL (60 - yb t) (yb t) (by omega);rw[show yb t+(60 - yb t)=60 by omega] at hr2;rw[hr2,hr,List.append_assoc,List.take_left]
theorem zsq {L:List Bytes}{h:HdM}{i:Nat}(hi:i<2)(hL:2≤L.length)(hb:(zfg L).ep<h.ep)(ho:wx (yi (wg h))=h):zfg (L.set i (yi (wg h)))=h:=by
  rw[zgk,yJ,yJ];rw[zgk] at hb
  match i,hi with
  | 0,_=>
    rw[if_pos ⟨rfl,by omega⟩,if_neg (fun hc=>absurd hc.1 (by decide)),ho];exact ztX hb
  | 1,_=>
    rw[if_neg (fun hc=>absurd hc.1 (by decide)),if_pos ⟨rfl,by omega⟩,ho];exact zvd hb
theorem zsG {L:List Bytes}{h:HdM}{r0:List ChangeM}{ds:Deeds}{used:Nat}(g:Good L h r0 ds used)(hL:196≤L.length∧L.length≤260)(hep:h.ep≤1000000)(hfi:h.first≤900000000)(hnb:∀m,122≤m→m<L.length→zn6 (h.first+(L.length - 122)) (L.getD m [])):
    Good ((zap L (ckW (1 - h.side) (yu (cur r0 ds)) 0 (yb (yu (cur r0 ds))))).set ((h.ep+1) % 2) (yi (wg (nxH h (cur r0 ds) (L.length - 122))))) (nxH h (cur r0 ds) (L.length - 122)) (cur r0 ds) [] 0:=by
  have hc60:=zbT g.lenC g.okC;have hal:=zcE g.okC;have hlc:=g.lenC;have hs:=g.side;generalize hL2:zap L (ckW (1 - h.side) (yu (cur r0 ds)) 0 (yb (yu (cur r0 ds))))=L2;have hl2:L2.length=L.length:=(by rw[←hL2,zat]);have hat:∀m,L2.getD m []=if 2+(1 - h.side)*60≤m∧m<2+(1 - h.side)*60+yb (yu (cur r0 ds))∧m<L.length then yi (wz (yu (cur r0 ds)) (m - (2+(1 - h.side)*60))) else L.getD m []:=fun m=>by rw[←hL2,zsj];rfl
  have hho:wx (yi (wg (nxH h (cur r0 ds) (L.length - 122))))=nxH h (cur r0 ds) (L.length - 122):=zh3 (by simp only[nxH];omega) (by simp only[nxH];omega) (by simp only[nxH];omega) (by have:=g.first;simp only[nxH];omega);have hset:∀m,2≤m→(L2.set ((h.ep+1) % 2) (yi (wg (nxH h (cur r0 ds) (L.length - 122))))).getD m []=L2.getD m []:=fun m hm=>(by rw[yJ,if_neg (by omega)]);have hbest:zfg L2=h:=(znj (by rw[hat,if_neg (by omega)]) (by rw[hat,if_neg (by omega)])).trans g.best;refine ⟨zsq (by omega) (by omega) (by rw[hbest];simp only[nxH];omega) hho,by simp only[nxH];omega,by simp only[nxH];omega,by have:=g.first;simp only[nxH];omega,rfl,?_,g.srtC,g.okC,g.lenC,?_,(fun d hd=>by cases hd),(fun d hd=>by cases hd),fun k=>by rw[List.take_nil];exact g.lenC⟩
  · show (txK _ (1 - h.side) 60).take (yu (cur r0 ds)).length=_;refine zvW (by rw[List.length_set];omega) (fun k hk=>?_) hc60;rw[hset _ (by omega),hat,if_pos ⟨by omega,by omega,by omega⟩,Nat.add_sub_cancel_left]
  · rw[List.length_set,hl2];have h0:zfO (L2.set ((h.ep+1) % 2) (yi (wg (nxH h (cur r0 ds) (L.length - 122))))) 122 0=L.getD 122 []:=by
      show List.getD _ _ _=_;rw[hset _ (by omega),hat,if_neg (by omega)]
    obtain ⟨m,hm⟩:∃m,L.length - 122=m+1:=⟨L.length - 123,by omega⟩;rw[show L.length - 122=m+1 from hm];refine zhh ?_;show zaE (h.first+(m+1)+0) (zfO _ 122 0)=none;rw[←hm,h0];exact hnb 122 (Nat.le_refl _) (by omega) _ (by omega) (by omega)
theorem zvc {h:HdM}{t:Bytes}{L:List Bytes}(hc:yb t≤60):∀x∈ckW (1 - h.side) t 0 (yb t),okP (fun m s=>(m<2+(1 - h.side)*60∨2+(1 - h.side)*60+60≤m)→s=L.getD m []) x:=by
  have:∀(f k:Nat),k+f≤60→∀x∈ckW (1 - h.side) t k f,okP (fun m s=>(m<2+(1 - h.side)*60∨2+(1 - h.side)*60+60≤m)→s=L.getD m []) x:=by
    intro f
    induction f with
    | zero=>intro k _ x hx;simp[ckW] at hx
    | succ f ih=>
      intro k hk x hx;rw[ckW] at hx;rcases List.mem_cons.1 hx with rfl | hx
      · intro hm;simp only at hm;omega
      · exact ih (k+1) (by omega) x hx
  exact this _ 0 (by omega)
theorem zpe {L L':List Bytes}{h:HdM}{r0:List ChangeM}{ds:Deeds}{used:Nat}(g:Good L h r0 ds used)(hl:L'.length=L.length)(h122:122≤L.length)(hP:∀m,(m<2+(1 - h.side)*60∨2+(1 - h.side)*60+60≤m)→L'.getD m []=L.getD m []):Good L' h r0 ds used:=by
  have hs:=g.side;refine zpG g hl h122 (fun m hm=>hP m (by omega)) (fun m h1 h2=>hP m ?_) (fun m hm=>hP m (by omega));have:h.side=0∨h.side=1:=(by omega);rcases this with e | e <;> rw[e] at h1 h2 ⊢ <;> omega
theorem zpl {many first used:Nat}:∀(c:List ChangeM) (k:Nat),used+k+c.length≤many→first+many≤4294967296→∀x∈zfz 122 first used k c,okP (fun m s=>122≤m∧zn6 (first+many) s) x
  | [],k,_,_,x,h=>by simp[zfz] at h
  | y::c,k,hk,hf,x,h=>by
    rw[zfz] at h;simp only[List.length_cons] at hk;rcases List.mem_cons.1 h with rfl | h
    · exact ⟨by simp only;omega,zjL (by omega) hf⟩
    · exact zpl c (k+1) (by omega) hf x h
theorem zuc {many first used:Nat}{c:List ChangeM}(hu:used+c.length+1≤many)(hf:first+many≤4294967296):∀x∈zfs 122 many first used c,okP (fun m s=>122≤m∧zn6 (first+many) s) x:=by
  intro x hx;unfold zfs zhT at hx;simp only[List.mem_append,List.mem_cons,List.not_mem_nil,or_false] at hx;rcases hx with (hx | hx) | rfl | rfl | rfl
  · exact zpl c 0 (by omega) hf x hx
  · unfold ziZ at hx;split at hx
    · simp only[List.mem_singleton] at hx;subst hx;exact ⟨by simp only;omega,zis _⟩
    · simp at hx
  · trivial
  · exact ⟨by simp only;omega,zjL (by omega) hf⟩
  · trivial
theorem zgR {r0:List ChangeM}{ds:Deeds}{c:List ChangeM}(h:∀k,((ds.take k).foldl zaA r0).length≤80)(hc:(zaA (cur r0 ds) c).length≤80):∀k,(((ds++ [c]).take k).foldl zaA r0).length≤80:=fun k=>by
  rcases Nat.lt_or_ge ds.length k with hk | hk
  · rw[List.take_of_length_le (by simp;omega),show (ds++ [c]).foldl zaA r0=zaA (cur r0 ds) c from zgc r0 ds c];exact hc
  · rw[List.take_append_of_le_length hk];exact h k
theorem zdJ {α:Type}{p:α→Prop}{l:List α}{c:α}(h:∀d∈l,p d)(hc:p c):∀d∈l++ [c],p d:=fun d hd=>by
  rcases List.mem_append.1 hd with hd | hd
  · exact h d hd
  · rw[List.mem_singleton] at hd;rw[hd];exact hc
structure Inv (N:Nat) (D:DiskM) (h:HdM) (r0:List ChangeM) (ds:Deeds) (used:Nat):Prop where
  len:D.now.length=N
  big:196≤N∧N≤260
  good:Good D.now h r0 ds used
  num:∀m,122≤m→m<N→zn6 (h.first+(N - 122)) (D.now.getD m [])
theorem Inv.used_le {N:Nat}{D:DiskM}{h:HdM}{r0:List ChangeM}{ds:Deeds}{used:Nat}(I:Inv N D h r0 ds used):used≤N - 122:=by
  have:=zkc I.good.log;rw[I.len] at this;exact this
theorem Inv.now {N:Nat}{D D':DiskM}{h:HdM}{r0:List ChangeM}{ds:Deeds}{used:Nat}(I:Inv N D h r0 ds used)(hn:D'.now=D.now):Inv N D' h r0 ds used:=⟨by rw[hn];exact I.len,I.big,by rw[hn];exact I.good,by rw[hn];exact I.num⟩
theorem zi3 (h:HdM)(t:Bytes)(L:List Bytes):zap L (ckL h t)=(zap L (ckW h.side t 0 (yb t))).set (h.ep % 2) (yi (wg h)):=by unfold ckL;rw[za0];rfl
theorem Inv.new {N:Nat}{D D1:DiskM}{h:HdM}{r0:List ChangeM}{ds:Deeds}{used:Nat}(I:Inv N D h r0 ds used)(hep:h.ep≤1000000)(hf:h.first≤900000000)(hn:D1.now=zap D.now (ckL (nxH h (cur r0 ds) (N - 122)) (yu (cur r0 ds)))):
    Inv N D1 (nxH h (cur r0 ds) (N - 122)) (cur r0 ds) [] 0:=by
  have hl:=I.len;have g:=zsG I.good (by rw[hl];exact I.big) hep hf (by rw[hl];exact I.num);rw[hl] at g;rw[zi3] at hn;have hc60:=zbT I.good.lenC I.good.okC;refine ⟨by rw[hn,List.length_set,zat,hl],I.big,by rw[hn];exact g,fun m h1 h2=>?_⟩;rw[hn,yJ,if_neg (by simp only[nxH];omega),zsj,if_neg (by simp only[nxH];omega)];exact zpV (I.num m h1 h2) (by simp only[nxH];omega)
theorem zwy {N:Nat}{D:DiskM}{h:HdM}{r0:List ChangeM}{ds:Deeds}{used:Nat}(hu:upW D)(I:Inv N D h r0 ds used)(hep:h.ep≤1000000)(hf:h.first≤900000000):
    ∃D1,wh D (ckL (nxH h (cur r0 ds) (N - 122)) (yu (cur r0 ds)))=(0,D1)∧upW D1∧Inv N D1 (nxH h (cur r0 ds) (N - 122)) (cur r0 ds) [] 0:=by
  obtain ⟨r1,r2,r3⟩:=zeT _ D hu (by rw[I.len];exact zp4 (h:=h) I.good.lenC I.good.okC I.big.1);exact ⟨_,Prod.ext r1 rfl,r2,I.new hep hf r3⟩
theorem zgQ {first many:Nat}{sec:Nat→Bytes}{a b:Deeds}{u v:Nat}(h1:wa first sec many 0 [] [] 0=(a,u))(h2:wa first sec many 0 [] [] 0=(b,v)):a=b∧u=v:=by
  rw[h1] at h2;injection h2 with e1 e2;exact ⟨e1,e2⟩
theorem Inv.add {N:Nat}{D D1:DiskM}{h:HdM}{r0:List ChangeM}{ds ds':Deeds}{used used':Nat}(I:Inv N D h r0 ds used)(hl:D1.now.length=N)(hP:∀m,(m<122→D1.now.getD m []=D.now.getD m [])∧(122≤m→m<N→zn6 (h.first+(N - 122)) (D1.now.getD m [])))
    (hlog:wa h.first (zfO D1.now 122) (N - 122) 0 [] [] 0=(ds',used')) (h1:∀d∈ds',d.length≤72) (h2:∀d∈ds',∀x∈d,zbv x=0) (h3:∀k,((ds'.take k).foldl zaA r0).length≤80):Inv N D1 h r0 ds' used':=by
  have hb:=I.big;have hs:=I.good.side;exact ⟨hl,I.big,zmg I.good (by rw[hl,I.len]) (by rw[I.len];omega) (fun m hm=>(hP m).1 (by omega)) (fun m a b=>(hP m).1 (by omega)) (by rw[I.len];exact hlog) h1 h2 h3,fun m a b=>(hP m).2 a b⟩
theorem addP {N:Nat}{D:DiskM}{h:HdM}{r0:List ChangeM}{ds:Deeds}{used:Nat}{c:List ChangeM}(I:Inv N D h r0 ds used)(hf:h.first≤900000000)(hv:zha (N - 122) used c=0):∀x∈zfs 122 (N - 122) h.first used c,okP (fun m s=>(m<122→s=D.now.getD m [])∧(122≤m→m<N→zn6 (h.first+(N - 122)) s)) x:=by
  obtain ⟨v1,v2,v3⟩:=zec hv;have hb:=I.big;intro x hx;have:=zuc (many:=N - 122) (first:=h.first) (used:=used) (c:=c) (by omega) (by omega) x hx;cases x with
  | none=>trivial
  | some y=>exact ⟨fun hm=>absurd this.1 (by omega),fun _ _=>this.2⟩
theorem zwH {N:Nat}{D:DiskM}{h:HdM}{r0:List ChangeM}{ds:Deeds}{used:Nat}{c:List ChangeM}(hu:upW D)(h80:∀x∈D.now,x.length=80)(I:Inv N D h r0 ds used)(hf:h.first≤900000000)(hv:zha (N - 122) used c=0)(hfit:(zaA (cur r0 ds) c).length≤80):
    zhC 122 (N - 122) h.first used c D=0∧upW (zdI 122 (N - 122) h.first used c D)∧zgI 122 (N - 122) h.first used c D=used+c.length+1∧Inv N (zdI 122 (N - 122) h.first used c D) h r0 (ds++ [c]) (used+c.length+1):=by
  obtain ⟨v1,v2,v3⟩:=zec hv;have hb:=I.big;have hlog:=I.good.log;rw[I.len] at hlog;obtain ⟨a1,a2,a3,a4,a5⟩:=zxw hu h80 (by rw[I.len];omega) hv hlog;refine ⟨a1,a2,by unfold zgI;rw[if_pos a1],?_⟩;have hall:AllP (fun m s=>(m<122→s=D.now.getD m [])∧(122≤m→m<N→zn6 (h.first+(N - 122)) s)) {D with kept:=D.now,wait:=[]}:=AllP.calm rfl rfl fun m=>⟨fun _=>rfl,fun h1 h2=>I.num m h1 h2⟩;have hD:zdI 122 (N - 122) h.first used c D=(wh D (zfs 122 (N - 122) h.first used c)).2:=(by unfold zdI;rw[if_pos hv]);have hok:∀x∈zfs 122 (N - 122) h.first used c,zcn D.now.length x:=(by rw[I.len];exact zjo (by omega) hv);have hrn:=(zeT _ D hu hok).2.2;have hrn2:=(zeT _ ({D with kept:=D.now,wait:=[]}:DiskM) hu hok).2.2;have hP:=(hall.run (zfs 122 (N - 122) h.first used c) (addP I hf hv)).now;rw[hrn2] at hP;rw[←hrn,←hD] at hP;exact I.add (by rw[a4,I.len]) hP a5 (zdJ I.good.lens v1) (zdJ I.good.chk v3) (zgR I.good.fits hfit)
theorem cm0 {many:Nat}{rows c:List ChangeM}(h:cmV many rows c=0):c.length≤72∧zhv c=0∧(zaA rows c).length≤80∧c.length+1≤many:=by
  unfold cmV at h;split at h
  · cases h
  · split at h
    · rename_i h1 h2;exact absurd h h2
    · split at h
      · cases h
      · rename_i h1 h2 h3;exact ⟨by omega,by simpa using h2,by omega,by omega⟩
theorem ztk {N:Nat}{D:DiskM}{h:HdM}{r0:List ChangeM}{ds:Deeds}{used:Nat}{c:List ChangeM}{e:Int}{D2:DiskM}{h2:HdM}{used2:Nat}{rows2:List ChangeM}(hu:upW D)(hS:S80 D)(I:Inv N D h r0 ds used)(hep:h.ep≤1000000)(hf:h.first≤800000000)(hc:zte D h (cur r0 ds) (N - 122) used c e D2 h2 used2 rows2):
    e=cmV (N - 122) (cur r0 ds) c∧upW D2∧S80 D2∧h2.ep≤h.ep+1∧h2.first≤h.first+N∧rows2=(if cmV (N - 122) (cur r0 ds) c=0 then zaA (cur r0 ds) c else cur r0 ds)∧
      used2=(if cmV (N - 122) (cur r0 ds) c=0 then (if N - 122 - used<c.length+1 then 0 else used)+c.length+1 else used)∧∃r0' ds',Inv N D2 h2 r0' ds' used2∧cur r0' ds'=rows2:=by
  have hb:=I.big;rcases hc with ⟨hne,rfl,rfl,rfl,rfl,rfl⟩ | ⟨h0,e1,D1,h1,used1,hmid,hrest⟩
  · exact ⟨rfl,hu,hS,by omega,by omega,by rw[if_neg hne],by rw[if_neg hne],r0,ds,I,rfl⟩
  · obtain ⟨c1,c2,c3,c4⟩:=cm0 h0;have hm:e1=0∧upW D1∧S80 D1∧h1.ep≤h.ep+1∧h1.first≤h.first+N∧used1=(if N - 122 - used<c.length+1 then 0 else used)∧∃r1 d1,Inv N D1 h1 r1 d1 used1∧cur r1 d1=cur r0 ds:=by
      rcases hmid with ⟨hroom,hrun,hck⟩ | ⟨hroom,rfl,rfl,rfl,rfl⟩
      · obtain ⟨D1',hr1,hu1,I1⟩:=zwy hu I hep (by omega);rw[hr1] at hrun;injection hrun with q1 q2;subst q1 q2;have h80:=zee _ D hS (zp4 (h:=h) I.good.lenC I.good.okC I.big.1);rw[hr1] at h80;rcases hck with ⟨hx,_⟩ | ⟨_,rfl,hu1',d',hsc⟩
        · exact absurd rfl hx
        · have hlog:=I1.good.log;rw[I1.len] at hlog;have:=(zgQ hsc hlog).2;subst this;exact ⟨rfl,hu1,h80,by simp only[nxH];omega,by simp only[nxH];omega,by rw[if_pos hroom],_,_,I1,rfl⟩
      · exact ⟨rfl,hu,hS,by omega,by omega,by rw[if_neg hroom],r0,ds,I,rfl⟩
    obtain ⟨rfl,hu1,hS1,m1,m2,m3,r1,d1,I1,hcur⟩:=hm;rcases hrest with ⟨hx,_⟩ | ⟨_,rfl,rfl,rfl,rfl,rfl⟩
    · exact absurd rfl hx
    · have hv:zha (N - 122) used1 c=0:=(by rw[zlZ c1 (by rw[m3];split <;> omega)];exact c2);obtain ⟨a1,a2,a3,a4⟩:=zwH (c:=c) hu1 hS1.2.1 I1 (by omega) hv (by rw[hcur];exact c3);refine ⟨by rw[a1,h0],a2,zq7 hS1 (N:=N) (by omega),m1,m2,by rw[if_pos a1,if_pos h0],by rw[a3,if_pos h0,m3],r1,d1++ [c],by rw[a3];exact a4,?_⟩;rw[if_pos a1,zgc,hcur]
theorem zsa {N i:Nat}{D:DiskM}(h:okW N i D)(from_ many first used:Nat)(c:List ChangeM):okW N (i+200) (zdI from_ many first used c D):=by
  unfold zdI;split
  · rename_i hv;obtain ⟨h1,_,_⟩:=zec hv;refine zbn (zaV _ _ _ h) ?_;have:=zmK from_ many first used c
    simp only[zfs,List.length_append,List.length_cons,List.length_nil];omega
  · exact zbn h (by omega)
theorem ztf {N i:Nat}{D:DiskM}{h:HdM}{r0:List ChangeM}{ds:Deeds}{used:Nat}{c:List ChangeM}{e:Int}{D2:DiskM}{h2:HdM}{used2:Nat}{rows2:List ChangeM}(hok:okW N i D)(hS:S80 D)(I:Inv N D h r0 ds used)(hc:zte D h (cur r0 ds) (N - 122) used c e D2 h2 used2 rows2):okW N (i+263) D2:=by
  rcases hc with ⟨_,_,rfl,_⟩ | ⟨_,e1,D1,h1,used1,hmid,hr⟩
  · exact zbn hok (by omega)
  · have hm:=(zpz hmid hok hS I.good.lenC I.good.okC I.big.1 I.used_le).1;rcases hr with ⟨_,_,rfl,_⟩ | ⟨_,_,rfl,_⟩
    · exact zbn hm (by omega)
    · exact zbn (zsa hm _ _ _ _ _) (by omega)
theorem zmm:∀(k:Nat) (L:List Bytes) (m:Nat),(zap L (fmW k)).getD m []=if (m=0∨(122≤m∧m<122+k))∧m<L.length then yi [] else L.getD m []
  | 0,L,m=>by
    show (L.set 0 (yi [])).getD m []=_;rw[yJ];by_cases h:m=0
    · subst h;by_cases h2:0<L.length
      · rw[if_pos ⟨rfl,h2⟩,if_pos ⟨.inl rfl,h2⟩]
      · rw[if_neg (fun hc=>h2 hc.2),if_neg (fun hc=>h2 hc.2)]
    · rw[if_neg (fun hc=>h hc.1.symm),if_neg (by omega)]
  | k+1,L,m=>by
    rw[fmW,za0];show ((zap L (fmW k)).set (122+k) (yi [])).getD m []=_;rw[yJ,zat,zmm k L m];by_cases h:122+k=m∧122+k<L.length
    · rw[if_pos h,if_pos ⟨.inr (by omega),by omega⟩]
    · rw[if_neg h];by_cases h2:(m=0∨(122≤m∧m<122+k))∧m<L.length
      · rw[if_pos h2,if_pos ⟨by omega,h2.2⟩]
      · rw[if_neg h2,if_neg (by omega)]
theorem zsX {N:Nat}(hN:196≤N):∀k,122+k≤N→∀x∈fmW k,zcn N x
  | 0,_,x,h=>by
    rw[fmW,List.mem_singleton] at h;subst h;exact ⟨by simp only;omega,by simp⟩
  | k+1,hk,x,h=>by
    rw[fmW] at h;rcases List.mem_append.1 h with h | h
    · exact zsX hN k (by omega) x h
    · rw[List.mem_singleton] at h;subst h;exact ⟨by simp only;omega,by simp⟩
theorem zkU {N:Nat}(hN:196≤N):∀x∈fmL N,zcn N x:=fun x hx=>by
  unfold fmL fmT at hx;simp only[List.mem_append,List.mem_cons,List.not_mem_nil,or_false] at hx;rcases hx with hx | rfl | rfl | rfl
  · exact zsX hN _ (by omega) x hx
  · trivial
  · exact ⟨by simp only;omega,by rw[zhB];decide⟩
  · trivial
theorem zls:wx (yi [])=HdM.no:=by
  unfold wx;rw[if_pos];left;decide
theorem zsI {L:List Bytes}(hN:196≤L.length):Good (zap L (fmL L.length)) hd1 [] [] 0:=by
  have e:zap L (fmL L.length)=(zap L (fmW (L.length - 122))).set 1 (yi (wg hd1)):=(by unfold fmL;rw[za0];rfl);rw[e];have hat:=zmm (L.length - 122) L;have hl:(zap L (fmW (L.length - 122))).length=L.length:=zat ..;generalize zap L (fmW (L.length - 122))=M at hat hl ⊢;have hh:wx (yi (wg hd1))=hd1:=zh3 (by decide) (by decide) (by decide) (by decide);refine ⟨?_,by decide,by decide,by decide,rfl,?_,List.Pairwise.nil,(fun r hr=>by cases hr),by decide,?_,(fun d hd=>by cases hd),(fun d hd=>by cases hd),fun k=>by rw[List.take_nil];decide⟩
  · rw[zgk,yJ,yJ,if_neg (fun hc=>absurd hc.1 (by decide)),if_pos ⟨rfl,by omega⟩,hat,if_pos ⟨.inl rfl,by omega⟩,zls,hh]
    rfl
  · show List.take 0 _=_
    rfl
  · rw[List.length_set,hl];obtain ⟨m,hm⟩:∃m,L.length - 122=m+1:=⟨L.length - 123,by omega⟩;rw[hm];refine zhh ?_;show zaE _ ((M.set 1 (yi (wg hd1))).getD (122+0) [])=none;rw[yJ,if_neg (by omega),hat,if_pos ⟨.inr (by omega),by omega⟩];exact zcs _
theorem zqs {N:Nat}{D D1:DiskM}(hN:196≤N∧N≤260)(hl:D.now.length=N)(hn:D1.now=zap D.now (fmL N)):Inv N D1 hd1 [] [] 0:=by
  have e:zap D.now (fmL N)=(zap D.now (fmW (N - 122))).set 1 (yi (wg hd1)):=(by unfold fmL;rw[za0];rfl);have g:=zsI (L:=D.now) (by rw[hl];exact hN.1);rw[hl] at g;refine ⟨by rw[hn,zat,hl],hN,by rw[hn];exact g,fun m h1 h2=>?_⟩;rw[hn,e,yJ,if_neg (by omega),zmm,if_pos ⟨.inr (by omega),by omega⟩];exact zis _
theorem zjA {N:Nat}:∀(l:List Stp) {D:DiskM},D.now.length=N→D.kept.length=N→(wh D l).2.now.length=N∧(wh D l).2.kept.length=N
  | [],D,h1,h2=>⟨h1,h2⟩
  | x::l,D,h1,h2=>by
    have hs:(stD D x).now.length=N∧(stD D x).kept.length=N:=by
      cases x with
      | none=>
        show (yx D).now.length=N∧(yx D).kept.length=N;unfold yx;split <;> simp[zaM,wA,yX,h1,h2]
      | some z=>
        show (yy D z.1 z.2).now.length=N∧(yy D z.1 z.2).kept.length=N;unfold yy;split
        · exact ⟨h1,h2⟩
        · split <;> simp[wu,wA,yX,h1,h2]
    by_cases h0:stE D x=0
    · rw[zcK h0];exact zjA l hs.1 hs.2
    · rw[zbI h0];exact hs
theorem zkA {l:List Stp}{D D2:DiskM}(ho:∀x∈l,zcn D.now.length x)(h:wh D (l++ [none])=(0,D2)):calm D2∧D2.now=zap D.now l:=by
  cases h1:wh D l with
  | mk e1 D1=>
    by_cases he:e1=0
    · subst he;rw[zbD h1] at h;injection h with q1 q2;have hc:=zbE (D:=D1) q1;rw[←q2];exact ⟨hc.1,hc.2.trans (zjc l ho h1)⟩
    · rw[zbB h1 he] at h;injection h with q1 _;exact absurd q1 he
def Cal (N:Nat)(D:DiskM)(h:HdM)(r0:List ChangeM)(ds:Deeds)(used:Nat):Prop:=calm D∧Inv N D h r0 ds used∧zji 122 (N - 122) h.first D.now ds used
def Fell (N:Nat)(D:DiskM)(E Fi:Nat)(φ:List ChangeM→Prop):Prop:=∀keep,∃h r0 ds used,Inv N (zi6 keep D) h r0 ds used∧φ (cur r0 ds)∧h.ep≤E∧h.first≤Fi∧zji 122 (N - 122) h.first (zbH keep D) ds used
theorem zrC {B j first:Nat}{s:Bytes}(h:zn6 B s)(h1:B≤first+j)(h2:first+j<4294967296):¬zkj first j s:=fun ⟨t,ht⟩=>by rw[h _ h1 h2] at ht;cases ht
theorem zmj {N:Nat}{D D1:DiskM}{h:HdM}{r0:List ChangeM}{ds:Deeds}{used:Nat}(I:Inv N D h r0 ds used)(hf:h.first≤900000000)(hn:D1.now=zap D.now (ckL (nxH h (cur r0 ds) (N - 122)) (yu (cur r0 ds))))(I1:Inv N D1 (nxH h (cur r0 ds) (N - 122)) (cur r0 ds) [] 0):zji 122 (N - 122) (nxH h (cur r0 ds) (N - 122)).first D1.now [] 0:=by
  have hlg:=I1.good.log;rw[I1.len] at hlg;have hb:=I.big;have hc60:=zbT I.good.lenC I.good.okC;refine ⟨hlg,fun j _ hj=>?_⟩;have e:zfO D1.now 122 j=D.now.getD (122+j) []:=by
    show List.getD _ _ _=_;rw[hn,zi3,yJ,if_neg (by simp only[nxH];omega),zsj,if_neg (by simp only[nxH];omega)]
  rw[e];exact zrC (I.num (122+j) (by omega) (by omega)) (by simp only[nxH];omega) (by simp only[nxH];omega)
theorem zng {N:Nat}{D:DiskM}{h:HdM}{r0:List ChangeM}{ds:Deeds}{used:Nat}(hq:calm D)(I:Inv N D h r0 ds used)(hsf:zji 122 (N - 122) h.first D.now ds used)(hep:h.ep≤1000000)(hf:h.first≤900000000){e:Int}{D1:DiskM}(hr:wh D (ckL (nxH h (cur r0 ds) (N - 122)) (yu (cur r0 ds)))=(e,D1)):
    (e=0∧Cal N D1 (nxH h (cur r0 ds) (N - 122)) (cur r0 ds) [] 0)∨(e=9∧Fell N D1 (h.ep+1) (h.first+N) (fun x=>x=cur r0 ds)):=by
  have hb:=I.big;have hl:=I.len;have hs:=I.good.side;have hc60:=zbT I.good.lenC I.good.okC;have hokA:∀x∈ckL (nxH h (cur r0 ds) (N - 122)) (yu (cur r0 ds)),zcn D.now.length x:=(by rw[hl];exact zp4 (h:=h) I.good.lenC I.good.okC hb.1);have hall:AllP (fun m s=>(m<2+(1 - h.side)*60∨2+(1 - h.side)*60+60≤m)→s=D.now.getD m []) D:=AllP.calm hq.1 hq.2.1 fun m _=>rfl;have invH:∀D':DiskM,D'.now.length=N→(∀m,(m<2+(1 - h.side)*60∨2+(1 - h.side)*60+60≤m)→D'.now.getD m []=D.now.getD m [])→Inv N D' h r0 ds used:=fun D' hl' hP=>
    ⟨hl',hb,zpe I.good (by rw[hl',hl]) (by rw[hl];omega) hP,fun m h1 h2=>by rw[hP m (by omega)];exact I.num m h1 h2⟩
  have e0:ckL (nxH h (cur r0 ds) (N - 122)) (yu (cur r0 ds))=(ckW (1 - h.side) (yu (cur r0 ds)) 0 (yb (yu (cur r0 ds)))++ [none])++ [some ((h.ep+1) % 2,wg (nxH h (cur r0 ds) (N - 122))),none]:=(by rw[List.append_assoc];rfl);have hokW:∀x∈ckW (1 - h.side) (yu (cur r0 ds)) 0 (yb (yu (cur r0 ds))),zcn D.now.length x:=fun x hx=>hokA x (by rw[e0];simp[hx]);have fell:∀D':DiskM,(∀keep,∃h' r0' ds' used',Inv N (zi6 keep D') h' r0' ds' used'∧cur r0' ds'=cur r0 ds∧h'.ep≤h.ep+1∧h'.first≤h.first+N∧zji 122 (N - 122) h'.first (zbH keep D') ds' used')→Fell N D' (h.ep+1) (h.first+N) (fun x=>x=cur r0 ds):=fun D' H=>H;have sOld:∀K:List Bytes,(∀m,(m<2+(1 - h.side)*60∨2+(1 - h.side)*60+60≤m)→K.getD m []=D.now.getD m [])→zji 122 (N - 122) h.first K ds used:=fun K hK=>
    zlY hsf (fun j _=>hK (122+j) (by omega)) (fun j _ _=> .inl (hK (122+j) (by omega)))
  have old:∀D':DiskM,(∀keep,(zbH keep D').length=N∧∀m,(m<2+(1 - h.side)*60∨2+(1 - h.side)*60+60≤m)→(zbH keep D').getD m []=D.now.getD m [])→Fell N D' (h.ep+1) (h.first+N) (fun x=>x=cur r0 ds):=fun D' H=>
    fell D' fun keep=>⟨h,r0,ds,used,invH (zi6 keep D') (H keep).1 (H keep).2,rfl,by omega,by omega,sOld _ (H keep).2⟩
  rw[e0] at hr;cases hr1:wh D (ckW (1 - h.side) (yu (cur r0 ds)) 0 (yb (yu (cur r0 ds)))++ [none]) with
  | mk e1 D2=>
    have hP2:=hall.run (ckW (1 - h.side) (yu (cur r0 ds)) 0 (yb (yu (cur r0 ds)))++ [none]) (fun x hx=>by
      rcases List.mem_append.1 hx with hx | hx
      · exact zvc hc60 x hx
      · rw[List.mem_singleton] at hx;subst hx;trivial)
    have hln:=zjA (ckW (1 - h.side) (yu (cur r0 ds)) 0 (yb (yu (cur r0 ds)))++ [none]) hl (by rw[hq.1];exact hl);have he9:=zwu (ckW (1 - h.side) (yu (cur r0 ds)) 0 (yb (yu (cur r0 ds)))++ [none]) D (fun x hx=>hokA x (by rw[e0];exact List.mem_append_left _ hx));rw[hr1] at hP2 hln he9;simp only at hP2 hln he9;by_cases he:e1=0
    · subst he;obtain ⟨hq2,hn2⟩:=zkA hokW hr1;rw[zsZ hr1] at hr;have hbad:¬zij D2 (((h.ep+1) % 2:Nat):Int) (wg (nxH h (cur r0 ds) (N - 122))):=(by unfold zij;rw[zhB,hln.1];omega);by_cases h0:wc D2=0
      · have hwe:yO D2 (((h.ep+1) % 2:Nat):Int) (wg (nxH h (cur r0 ds) (N - 122)))=0:=(by unfold yO;rw[if_neg hbad,h0]);have hwd:yy D2 (((h.ep+1) % 2:Nat):Int) (wg (nxH h (cur r0 ds) (N - 122)))=wu (wd D2) (((h.ep+1) % 2:Nat):Int) (wg (nxH h (cur r0 ds) (N - 122))):=(by unfold yy;rw[if_neg hbad,if_pos h0]);rw[ze8 hwe,hwd] at hr;generalize hD3:wu (wd D2) (((h.ep+1) % 2:Nat):Int) (wg (nxH h (cur r0 ds) (N - 122)))=D3 at hr;have k3:D3.kept=D2.now:=(by rw[←hD3,←hq2.1];exact yX D2);have n3:D3.now=zap D.now (ckL (nxH h (cur r0 ds) (N - 122)) (yu (cur r0 ds))):=by
          rw[←hD3,zi3];show (wd D2).now.set ((((h.ep+1) % 2:Nat):Int)).toNat _=_;rw[wA,Int.toNat_natCast,hn2]
          rfl
        have w3:D3.wait=[((h.ep+1) % 2,yi (wg (nxH h (cur r0 ds) (N - 122))))]:=by
          rw[←hD3];show (wd D2).wait++_=_;rw[wq,hq2.2.1,Int.toNat_natCast]
          rfl
        have hkn:D2.now.set ((h.ep+1) % 2) (yi (wg (nxH h (cur r0 ds) (N - 122))))=zap D.now (ckL (nxH h (cur r0 ds) (N - 122)) (yu (cur r0 ds))):=(by rw[zi3,hn2];rfl);by_cases h3:wc D3=0
        · rw[zde h3,ze4] at hr;injection hr with q1 q2;have hfc:=zbE h3;left;rw[←q2];have I1:=I.new (D1:=yx D3) hep hf (hfc.2.trans n3);exact ⟨q1.symm,hfc.1,I1,zmj I hf (hfc.2.trans n3) I1⟩
        · rw[zcG h3] at hr;injection hr with q1 q2;have h9:wc D3=9:=(zaj D3).resolve_left h3;right;refine ⟨by rw[←q1,h9],fell D1 fun keep=>?_⟩;have k4:D1.kept=D2.now:=(by rw[←q2];unfold yx;rw[if_neg h3,yX,k3]);have w4:D1.wait=[((h.ep+1) % 2,yi (wg (nxH h (cur r0 ds) (N - 122))))]:=(by rw[←q2];unfold yx;rw[if_neg h3,wq,w3]);have hrl:zbH keep D1=if kb keep 0=true then D2.now.set ((h.ep+1) % 2) (yi (wg (nxH h (cur r0 ds) (N - 122)))) else D2.now:=by
            unfold zbH;rw[k4,w4]
            rfl
          by_cases hk:kb keep 0=true
          · rw[if_pos hk,hkn] at hrl;exact ⟨_,_,_,_,I.new (D1:=zi6 keep D1) hep hf hrl,rfl,by simp only[nxH];omega,by simp only[nxH];omega,zmj (D1:=zi6 keep D1) I hf hrl (I.new (D1:=zi6 keep D1) hep hf hrl)⟩
          · rw[if_neg hk] at hrl;exact ⟨h,r0,ds,used,invH (zi6 keep D1) (by show (zbH keep D1).length=N;rw[hrl];exact hln.1) (fun m hm=>by show (zbH keep D1).getD m []=_;rw[hrl];exact hP2.now m hm),rfl,by omega,by omega,sOld _ (fun m hm=>by rw[hrl];exact hP2.now m hm)⟩
      · have hwe:yO D2 (((h.ep+1) % 2:Nat):Int) (wg (nxH h (cur r0 ds) (N - 122)))=wc D2:=(by unfold yO;rw[if_neg hbad]);have hwd:yy D2 (((h.ep+1) % 2:Nat):Int) (wg (nxH h (cur r0 ds) (N - 122)))=wd D2:=(by unfold yy;rw[if_neg hbad,if_neg h0]);rw[zdr (by rw[hwe];exact h0),hwe,hwd] at hr;injection hr with q1 q2;have h9:wc D2=9:=(zaj D2).resolve_left h0;right;refine ⟨by rw[←q1,h9],old D1 fun keep=>?_⟩;have hrl:zbH keep D1=D2.now:=by
          rw[←q2];unfold zbH;rw[yX,wq,hq2.2.1,hq2.1]
          rfl
        rw[hrl];exact ⟨hln.1,hP2.now⟩
    · rw[zbB hr1 he] at hr;injection hr with q1 q2;right;refine ⟨by rw[←q1];exact he9.resolve_left he,old D1 fun keep=>?_⟩;rw[←q2];exact ⟨by rw[zhq];exact hln.2,hP2.rest keep⟩
theorem zxe {N:Nat}{D:DiskM}{h:HdM}{r0:List ChangeM}{ds:Deeds}{used:Nat}{c:List ChangeM}(C:Cal N D h r0 ds used)(hf:h.first≤900000000)(hv:zha (N - 122) used c=0)(hfit:(zaA (cur r0 ds) c).length≤80):
    (zhC 122 (N - 122) h.first used c D=0∧Cal N (zdI 122 (N - 122) h.first used c D) h r0 (ds++ [c]) (zgI 122 (N - 122) h.first used c D))∨
    (zhC 122 (N - 122) h.first used c D=9∧Fell N (zdI 122 (N - 122) h.first used c D) h.ep h.first (fun x=>x=cur r0 ds∨x=zaA (cur r0 ds) c)):=by
  obtain ⟨hq,I,hs⟩:=C;obtain ⟨v1,v2,v3⟩:=zec hv;have hb:=I.big;have hl:=I.len;cases hr:wh D (zfs 122 (N - 122) h.first used c) with
  | mk e D'=>
    have hE:zhC 122 (N - 122) h.first used c D=e:=(by unfold zhC;rw[if_pos hv,hr]);have hD:zdI 122 (N - 122) h.first used c D=D':=(by unfold zdI;rw[if_pos hv,hr]);have hall:AllP (fun m s=>(m<122→s=D.now.getD m [])∧(122≤m→m<N→zn6 (h.first+(N - 122)) s)) D:=AllP.calm hq.1 hq.2.1 fun m=>⟨fun _=>rfl,fun h1 h2=>I.num m h1 h2⟩;have hP:=hall.run (zfs 122 (N - 122) h.first used c) (addP I hf hv);have hln:=zjA (zfs 122 (N - 122) h.first used c) hl (by rw[hq.1];exact hl);rw[hr] at hP hln;simp only at hP hln;rw[hE,hD];rcases zqC hq (by rw[hl];omega) hv hs hr with ⟨h0,h1,h2⟩ | ⟨h0,h1⟩
    · left;refine ⟨h0,h1,?_,?_⟩
      · rw[show zgI 122 (N - 122) h.first used c D=used+c.length+1 by unfold zgI;rw[hE,if_pos h0]];exact I.add hln.1 hP.now h2.1 (zdJ I.good.lens v1) (zdJ I.good.chk v3) (zgR I.good.fits hfit)
      · rw[show zgI 122 (N - 122) h.first used c D=used+c.length+1 by unfold zgI;rw[hE,if_pos h0]];exact h2
    · right;refine ⟨h0,fun keep=>?_⟩;obtain ⟨u,hu | hu⟩:=h1 keep
      · exact ⟨h,r0,ds,u,I.add (D1:=zi6 keep D') ((zhq keep D').trans hln.2) (hP.rest keep) hu.1 I.good.lens I.good.chk I.good.fits, .inl rfl,Nat.le_refl _,Nat.le_refl _,hu⟩
      · exact ⟨h,r0,ds++ [c],u,I.add (D1:=zi6 keep D') ((zhq keep D').trans hln.2) (hP.rest keep) hu.1 (zdJ I.good.lens v1) (zdJ I.good.chk v3) (zgR I.good.fits hfit), .inr (zgc r0 ds c),Nat.le_refl _,Nat.le_refl _,hu⟩
theorem Fell.mono {N:Nat}{D:DiskM}{E E' Fi Fi':Nat}{φ ψ:List ChangeM→Prop}(h:Fell N D E Fi φ)(h1:E≤E')(h2:Fi≤Fi')(h3:∀x,φ x→ψ x):Fell N D E' Fi' ψ:=fun keep=>by
  obtain ⟨h',r',d',u',i',p',e',f',s'⟩:=h keep;exact ⟨h',r',d',u',i',h3 _ p',by omega,by omega,s'⟩
theorem zuI {N i:Nat}{D:DiskM}{h:HdM}{r0:List ChangeM}{ds:Deeds}{used:Nat}{c:List ChangeM}{e:Int}{D2:DiskM}{h2:HdM}{used2:Nat}{rows2:List ChangeM}(hok:okW N i D)(hS:S80 D)(I:Inv N D h r0 ds used)(hc:zte D h (cur r0 ds) (N - 122) used c e D2 h2 used2 rows2):S80 D2:=by
  have hb:=I.big;rcases hc with ⟨_,_,rfl,_⟩ | ⟨_,e1,D1,h1,used1,hmid,hr⟩
  · exact hS
  · have hm:=(zpz hmid hok hS I.good.lenC I.good.okC I.big.1 I.used_le).2.1;rcases hr with ⟨_,_,rfl,_⟩ | ⟨_,_,rfl,_⟩
    · exact hm
    · exact zq7 hm (N:=N) (by omega)
theorem zxn {N i:Nat}{D:DiskM}{h:HdM}{r0:List ChangeM}{ds:Deeds}{used:Nat}{e:Int}{D1:DiskM}(hok:okW N i D)(hS:S80 D)(I:Inv N D h r0 ds used)(hr:wh D (ckL (nxH h (cur r0 ds) (N - 122)) (yu (cur r0 ds)))=(e,D1)):okW N (i+63) D1∧S80 D1:=by
  have h1:=zaV (ckL (nxH h (cur r0 ds) (N - 122)) (yu (cur r0 ds))) i D hok;have h2:=zee _ D hS (zp4 (h:=h) I.good.lenC I.good.okC I.big.1);have hc:=zbT I.good.lenC I.good.okC;rw[hr,zqn] at h1;rw[hr] at h2;exact ⟨zbn h1 (by omega),h2⟩
theorem zvt {N:Nat}{D D1:DiskM}(hN:196≤N∧N≤260)(hl:D.now.length=N)(hr:wh D (fmL N)=(0,D1)):Cal N D1 hd1 [] [] 0:=by
  have e:fmL N=(fmW (N - 122)++ [none,some (1,wg hd1)])++ [none]:=(by unfold fmL fmT;rw[List.append_assoc];rfl);have hok:=zkU hN.1;have hr2:=hr;rw[e] at hr2;have hf:=zkA (D:=D) (fun x hx=>by rw[hl];exact hok x (by rw[e];exact List.mem_append_left _ hx)) hr2;have hn:=zjc (fmL N) (D:=D) (by rw[hl];exact hok) hr;have I:=zqs hN hl hn;have hlg:=I.good.log;rw[I.len] at hlg;refine ⟨hf.1,I,hlg,fun j _ hj=>?_⟩;have e2:zap D.now (fmL N)=(zap D.now (fmW (N - 122))).set 1 (yi (wg hd1)):=(by unfold fmL;rw[za0];rfl);have e3:zfO D1.now 122 j=yi []:=by
    show List.getD _ _ _=_;rw[hn,e2,yJ,if_neg (by omega),zmm,if_pos ⟨.inr (by omega),by omega⟩]
  rw[e3];rintro ⟨t,ht⟩;rw[zcs] at ht;cases ht
open _root_.Go.Proofs.Tryz
def zm0 (p:PutM):Bool:=decide (p.data.length≤20)
def zfn (x:ActM):Bool:=(decide (x.s.length≤100) && decide (x.puts.length≤24) && zdk x.changes 90) && x.puts.all zm0
def za7 (l:List ActM)(most:Int):Bool:=decide ((l.length:Int)≤most) && l.all zfn
theorem zhE (l:List ActM)(f:Nat→ActZ)(s:Option Addr)(cap:Nat)(most:Int)(hl:l.length≤9223372036854775807)(hls:∀x∈l,x.puts.length≤9223372036854775807∧x.changes.length≤9223372036854775807)(F:List HProp):Ct Tryz.prog 39 [sl s l.length cap,I most] ([acts s l f]++F) (R1 (Bo (za7 l most)) (acts s l f::F)):=by
  show Ct Tryz.prog 39 [sl s l.length cap,I most] (acts s l f::F) _;refine Ct.of func39 rR 63 ntmps39 (by simp) fun w0=>?_;refine gS (gA rR (qb (qf (gS (gM rR (g_v (yq underlying22 rR) rR (gM rR (g_v (yw rR rR) rR (qb ?_)))))))));refine qg rR (fun h10=>?_) (fun h10=>?_)
  · simp at h10;refine gS (gA rR (qb ?_));refine qm rR rR ?_;show Bo false=_;rw[show za7 l most=false by unfold za7;rw[decide_eq_false (by omega)];rfl]
  · simp at h10;refine qh (qf (gS (gA rR (qb (qk ?_)))));refine qF (α:=Nat) (fun k=>k≤l.length∧(l.take k).all zfn=true) (fun k=>U [(0,sl s l.length cap),(5,I k)]) (fun _=>acts s l f::F) (fun k=>l.length - k) 0 (by simp) [0,5] rfl rR ?_;rintro k ⟨hk,hall⟩;refine qf (gS (gM rR (gM rR (g_v (yq underlying22 rR) rR (g_v (qN rR rR) rR (qb ?_))))));refine qg rR (fun h14=>?_) (fun h14=>?_)
    · simp at h14;have hkn:k<l.length:=(by omega);obtain ⟨x,hx⟩:∃x,l[k]? =some x:=⟨_,List.getElem?_eq_getElem hkn⟩;have hkr:k<(zoi l f).length:=(by rw[zmP];exact hkn);have hb:=hls x (List.mem_of_getElem? hx);refine qh (qf (qk (qf (qf ?_))));refine zjW s l f k hx ?_;refine qp (gM rR (gM rR (g_v (qC k underlying22 sizeOf86 rR rR rR hkn hkr) rR (g_v (yH (j:=k) 1 underlying86 rR rR sizeOf9 (by decide) rR hkr) rR (g_v (zav (v:=Str x.s) isAgg9 rR (zfp hx) rR) rR (g_v (we underlying9 rR) rR (g_v (yw rR rR) rR (gM rR (qI rR rR (fun hg=>qn rR) rR rR (qI rR rR (fun hg=>qn rR) rR rR (qI rR rR (fun hg=>qC k underlying22 sizeOf86 rR rR rR hkn hkr) rR rR (qI rR rR (fun hg=>yH (j:=k) 7 underlying86 rR rR sizeOf82 (by decide) rR hkr) rR rR (qI rR rR (fun hg=>zav (v:=sl (f k).1.1 x.puts.length (f k).1.2) isAgg82 rR (zfp hx) rR) rR rR (qI rR rR (fun hg=>yq underlying82 rR) rR rR (qI rR rR (fun hg=>yw rR rR) rR rR (g_v (zar rR rR) rR (gM rR (qI rR rR (fun hg=>qn rR) rR rR (qI rR rR (fun hg=>qn rR) rR rR (qI rR rR (fun hg=>qC k underlying22 sizeOf86 rR rR rR hkn hkr) rR rR (qI rR rR (fun hg=>yH (j:=k) 8 underlying86 rR rR sizeOf33 (by decide) rR hkr) rR rR (qI rR rR (fun hg=>zav (v:=sl (f k).2.1 x.changes.length (f k).2.2) isAgg33 rR (zfp hx) rR) rR rR ?_))))))))))))))))))))));refine g_gq rR rR (fun hg=>qi (Pre:=[roL 3 (f k).2.1 (chR x.changes)]) (R:=fun F=>R1 (Bo (zdk x.changes 90)) (roL 3 (f k).2.1 (chR x.changes)::F)) call23 rR (ze7 x.changes (f k).2.1 (f k).2.2 90 hb.2)) rR rR ?_;refine qI rR rR (fun hg=>wn rR) rR rR (g_v (zar rR rR) rR (qb ?_));refine qg rR (fun h41=>?_) (fun h41=>?_)
      · simp at h41;refine gS (gA rR (qb ?_));refine qm rR rR ?_;show Bo false=_;rw[show za7 l most=false by unfold za7;rw[zf2 hx (by unfold zfn;by_cases hq:zdk x.changes 90=true <;> simp[hq] at h41 ⊢;intro h1 h2;omega)];simp]
      · simp at h41;have hlc:zdk x.changes 90=true:=h41.2;refine qh (qf ?_);refine zoW s l f k hx ?_;refine qp (gA rR (qb (qk ?_)));refine qF (α:=Nat) (fun j=>j≤x.puts.length∧(x.puts.take j).all zm0=true) (fun j=>U [(0,sl s l.length cap),(5,I k),(6,I j)]) (fun _=>roL 2 (f k).1.1 (zbr x.puts)::acts s l f::F) (fun j=>x.puts.length - j) 0 (by simp) [0,5,6] rfl rR ?_;rintro j ⟨hj,hpall⟩;refine qf (gS (gM rR (gM rR (gM rR (g_v (qC k underlying22 sizeOf86 rR rR rR hkn hkr) rR (g_v (yH (j:=k) 7 underlying86 rR rR sizeOf82 (by decide) rR hkr) rR (g_v (zav (v:=sl (f k).1.1 x.puts.length (f k).1.2) isAgg82 rR (zfp hx) rR) rR (g_v (yq underlying82 rR) rR (g_v (qN rR rR) rR (qb ?_))))))))));refine qg rR (fun h49=>?_) (fun h49=>?_)
        · simp at h49;have hjn:j<x.puts.length:=(by omega);obtain ⟨p,hp⟩:∃p,x.puts[j]? =some p:=⟨_,List.getElem?_eq_getElem hjn⟩;have hjr:j<(zbr x.puts).length:=(by rw[zbC];exact hjn);refine qh (qf (qk (gS (gM rR (gM rR (g_v (qC k underlying22 sizeOf86 rR rR rR hkn hkr) rR (g_v (yH (j:=k) 7 underlying86 rR rR sizeOf82 (by decide) rR hkr) rR (g_v (zav (v:=sl (f k).1.1 x.puts.length (f k).1.2) isAgg82 rR (zfp hx) rR) rR (gM rR (g_v (qC j underlying82 sizeOf81 rR rR rR hjn hjr) rR (g_v (yH (j:=j) 1 underlying81 rR rR sizeOf9 (by decide) rR hjr) rR (g_v (zav (v:=Str p.data) isAgg9 rR (ziX hp) rR) rR (g_v (we underlying9 rR) rR (g_v (yw rR rR) rR (qb ?_)))))))))))))));refine qg rR (fun h62=>?_) (fun h62=>?_)
          · simp at h62;refine gS (gA rR (qb ?_));refine qm rR rR ?_;show Bo false=_;rw[show za7 l most=false by unfold za7;rw[zf2 hx (by unfold zfn;rw[zf2 hp (by simp[zm0];omega)];simp)];simp]
          · simp at h62;refine qh (qG (qp (gM rR (g_v (qu rR rR (w64 (by omega))) rR (gA rR (qb ?_))))));exact qo (j+1) ⟨by omega,zja hpall hp (by simp[zm0];omega)⟩ (by omega) [0,5,6] rfl rfl
        · simp at h49;obtain rfl:j=x.puts.length:=(by omega);rw[List.take_length] at hpall;refine qz rR ?_;refine qG (qp (gM rR (g_v (qu rR rR (w64 (by omega))) rR (gA rR (qb ?_)))));exact qo (k+1) ⟨by omega,zja hall hx (by unfold zfn;rw[hlc,hpall];simp;omega)⟩ (by omega) [0,5] rfl rfl
    · simp at h14;obtain rfl:k=l.length:=(by omega);rw[List.take_length] at hall;refine qz rR ?_;refine gS (gA rR (qb ?_));refine qm rR rR ?_;show Bo true=_;rw[show za7 l most=true by unfold za7;rw[hall,decide_eq_true (by omega)];rfl]
end Go.Proofs.YthdjckbjjfiopacGreatDoor
