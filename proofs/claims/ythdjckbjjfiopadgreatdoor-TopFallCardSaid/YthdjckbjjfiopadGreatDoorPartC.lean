/- Several texts in one: walks and rules used by them. No condition. -/
import Derived.Test.YthdjckbjjfiopadGreatDoorPartB
import Derived.Lib.Bytealg
import Derived.KernelRfl
set_option linter.unusedSimpArgs false
set_option linter.unusedVariables false
namespace Go.Proofs.YthdjckbjjfiopadGreatDoor
open _root_.Go.Proofs.Tryz
open Go Go.Sl Go.Proofs
theorem zla (a b:ChangeM)(w:World):(Op.equal 104 (.agg (yo a).toArray) (.agg (yo b).toArray)).run Tryz.prog w= .ok (decide (a=b)) w:=by
  have h1:=zrg (P:=Tryz.prog) (w:=w) (a:=a.key) (b:=b.key) 9998 underlying9;have h2:=zrg (P:=Tryz.prog) (w:=w) (a:=a.val) (b:=b.val) 9998 underlying9;have h3:=zv4 (P:=Tryz.prog) (w:=w) (a:=a.gone) (b:=b.gone) 9998 underlying4;show (Op.equalIn (9999+1) _ _ _).run _ _=_;unfold Op.equalIn;simp[yo,underlying,program,Sem.run,underlying104,stoodInHeld104,part,isAgg9,isAgg4,h1,h2,h3];cases a;cases b;rename_i a1 a2 a3 b1 b2 b3;by_cases e1:a1=b1 <;> by_cases e2:a2=b2 <;> by_cases e3:a3=b3 <;> simp[e1,e2,e3]
theorem yz (a b:List ChangeM)(s s':Option Addr)(cap cap':Nat)(ha:a.length≤1000000)(hb:b.length≤1000000)(F:List HProp):Ct Tryz.prog 13 [sl s a.length cap,sl s' b.length cap'] ([roL 3 s (chR a),roL 3 s' (chR b)]++F) (R1 (Bo (decide (a=b))) (roL 3 s (chR a)::roL 3 s' (chR b)::F)):=by
  show Ct Tryz.prog 13 [sl s a.length cap,sl s' b.length cap'] (roL 3 s (chR a)::roL 3 s' (chR b)::F) _;refine Ct.of func13 rR 26 ntmps13 (by simp) fun w0=>?_;refine gS (gA rR (qb (qf (gS (gM rR (g_v (yn underlying34 rR) rR (gM rR (g_v (yn underlying34 rR) rR (g_v (zdt rR rR) rR (qb ?_))))))))));refine qg rR (fun h10=>?_) (fun h10=>?_)
  · simp at h10;refine gS (gA rR (qb ?_));refine qm rR rR ?_;show Bo false=_;rw[decide_eq_false (fun e=>h10 (by rw[e]))]
  · simp at h10;refine qh (qf (gS (gA rR (qb (qk ?_)))));refine qF (α:=Nat) (fun k=>k≤a.length∧a.take k=b.take k) (fun k=>U [(0,sl s a.length cap),(1,sl s' b.length cap'),(5,I k)]) (fun _=>roL 3 s (chR a)::roL 3 s' (chR b)::F) (fun k=>a.length - k) 0 ⟨by simp,by simp⟩ [0,1,5] rfl rR ?_;rintro k ⟨hk,hab⟩;refine qf (gS (gM rR (gM rR (g_v (yn underlying34 rR) rR (g_v (qQ rR rR) rR (qb ?_))))));refine qg rR (fun h14=>?_) (fun h14=>?_)
    · simp at h14;have h11:k<a.length:=(by omega);obtain ⟨x,hx⟩:∃x,a[k]? =some x:=⟨a[k],by simp⟩;obtain ⟨y,hy⟩:∃y,b[k]? =some y:=⟨b[k]'(by omega),by simp⟩;refine qh (qf (qk (qf ?_)));refine wU [(0,false),(1,false),(2,false),(3,false),(4,false),(5,false),(6,false),(7,false),(8,false)] (by kernel_rfl) (by kernel_rfl) rR (by kernel_rfl) ?_;refine dM rR rR rR (dM rR rR rR (d_v rR (qB k underlying34 sizeOf104 rR rR rR h11 (by rw[qK];exact h11)) rR (d_v rR (yd (row:=yo x) isAgg104 sizeOf104 rR (zaQ hx) rR) rR (dM rR rR rR (dM rR rR rR (d_v rR (qB k underlying34 sizeOf104 rR rR rR (by omega) (by rw[qK];omega)) rR (d_v rR (yd (row:=yo y) isAgg104 sizeOf104 rR (zaQ hy) rR) rR (d_v rR (zur eqGuardType104 rR rR (zla x y)) rR ?_))))))));refine yb ?_;refine qg rR (fun h25=>?_) (fun h25=>?_)
      · simp at h25;refine gS (gA rR (qb ?_));refine qm rR rR ?_;show Bo false=_;rw[decide_eq_false (fun e=>h25 (by subst e;rw[hx] at hy;injection hy))]
      · simp at h25;refine qh (qH (qp (gM rR (g_v (qu rR rR (w64 (by omega))) rR (gA rR (qb ?_))))));exact qo (k+1) ⟨by omega,zon hab hx hy h25⟩ (by omega) [0,1,5] rfl rfl
    · simp at h14;obtain rfl:k=a.length:=(by omega);refine qz rR ?_;refine gS (gA rR (qb ?_));refine qm rR rR ?_;show Bo true=_;rw[List.take_length,show a.length=b.length by omega,List.take_length] at hab;rw[decide_eq_true hab]
end Go.Proofs.YthdjckbjjfiopadGreatDoor
namespace Go.Proofs.YthdjckbjjfiopadGreatDoor
open _root_.Go.Proofs.Tryz
open Go.Sl Go.Proofs
def kb (keep:Int)(i:Nat):Bool:=decide (keep.fdiv (2 ^ (i % 64)) % 2=1)
def zbb (keep:Int)(w:List (Nat×Bytes))(l:List Bytes):Nat→List Bytes
  | 0=>l
  | k+1=>match w[k]? with
    | some t=>if kb keep k=true then (zbb keep w l k).set t.1 t.2 else zbb keep w l k
    | none=>zbb keep w l k
theorem zan (keep:Int)(w:List (Nat×Bytes))(l:List Bytes):∀k,(zbb keep w l k).length=l.length
  | 0=>rfl
  | k+1=>by
    unfold zbb;split
    · split
      · rw[List.length_set,zan keep w l k]
      · exact zan keep w l k
    · exact zan keep w l k
theorem zqA {keep:Int}{w:List (Nat×Bytes)}{l:List Bytes}{k:Nat}{t:Nat×Bytes}(ht:w[k]? =some t)(h:kb keep k=true):zbb keep w l (k+1)=(zbb keep w l k).set t.1 t.2:=by simp[zbb,ht,h]
theorem zoX {keep:Int}{w:List (Nat×Bytes)}{l:List Bytes}{k:Nat}{t:Nat×Bytes}(ht:w[k]? =some t)(h:kb keep k=false):zbb keep w l (k+1)=zbb keep w l k:=by simp[zbb,ht,h]
def zao (keep:Int)(D:DiskM):List Bytes:=zbb keep D.wait D.kept D.wait.length
def zaR (keep:Int)(D:DiskM):DiskM:=⟨zao keep D,zao keep D,[], -1,false⟩
theorem zvq {keep:Int}(h:0≤keep∧keep<18446744073709551616)(j:Nat):0≤keep.fdiv (2 ^ j)∧keep.fdiv (2 ^ j)<18446744073709551616:=by
  have hp:(0:Int)<2 ^ j:=Int.pow_pos (by decide);rw[Int.fdiv_eq_ediv_of_nonneg _ (by omega)];have h1:=Int.ediv_nonneg h.1 (Int.le_of_lt hp);have h2:=Int.ediv_le_self (2 ^ j) h.1;omega
theorem ztE {l:List (Nat×Bytes)}{k:Nat}{t:Nat×Bytes}(h:l[k]? =some t):(wL l)[k]? =some [I t.1,Str t.2]:=by simp[wL,h]
theorem zrA {r1 r2:List Bytes}{m q:Nat}(h:r1.length=r2.length)(hm:m=r2.length)(hq:q=r1.length):(wi r1).take 0++((wi r2).drop 0).take (Nat.min m q)++(wi r1).drop (0+Nat.min m q)=wi r2:=by
  subst hm hq;exact zm6 h
theorem zhF (b:Nat)(D:DiskM)(keep:Int)(hkeep:0≤keep∧keep<18446744073709551616)(hkn:D.kept.length=D.now.length)(hwt:∀t∈D.wait,t.1<D.now.length)(hw:D.wait.length≤1000000)(F:List HProp):Ct Tryz.prog 32 [ptr b 0,Uw keep] ([dsk 140 142 b (D)]++F) (R1 (.tuple #[]) (dsk 140 142 b (zaR keep D)::F)):=by
  show Ct Tryz.prog 32 [ptr b 0,Uw keep] (dsk 140 142 b (D)::F) _;refine Ct.of func32 rR 50 ntmps32 (by simp) fun w0=>?_;refine zb4 (dsk 140 142 b (D)) rR ?_;rintro ⟨⟨s1,c1⟩,⟨s2,c2⟩,⟨s3,c3⟩⟩;show G _ _ _ (pt b (.cells #[sl s1 (D.kept).length c1,sl s2 (D.now).length c2,sl s3 (D.wait).length c3,I (D.fuse),Bo (D.down)] 140 (0,0))::owL 9 1 s1 c1 (wi (D.kept))::owL 9 1 s2 c2 (wi (D.now))::owL 142 2 s3 c3 (wL (D.wait))::F);rw[show wi D.kept=wi (zbb keep D.wait D.kept 0) from rfl];refine qf (gS (gM rR (g_v (qc rR) rR (g_v (qa 2 underlying140 rR rR sizeOf138 (by decide) rR) rR (g_v (qe isAgg138 rR rR) rR (g_v (yn underlying138 rR) rR (gM rR (qb (qk ?_)))))))));refine qF (α:=Nat) (fun k=>k≤D.wait.length) (fun k=>U [(0,ptr b 0),(1,Uw keep),(9,sl s3 D.wait.length c3),(10,I D.wait.length),(11,I k)]) (fun k=>pt b (.cells #[sl s1 (D.kept).length c1,sl s2 (D.now).length c2,sl s3 (D.wait).length c3,I (D.fuse),Bo (D.down)] 140 (0,0))::owL 9 1 s1 c1 (wi (zbb keep D.wait D.kept k))::owL 9 1 s2 c2 (wi (D.now))::owL 142 2 s3 c3 (wL (D.wait))::F) (fun k=>D.wait.length - k) 0 (by simp) [0,1,9,10,11] rfl rR ?_;intro k hk;refine gS (g_v (qQ rR rR) rR (qb (qf ?_)));refine qg rR (fun h12=>?_) (fun h12=>?_)
  · simp at h12;have hkw:k<D.wait.length:=(by omega);obtain ⟨t,ht⟩:∃t,D.wait[k]? =some t:=⟨_,List.getElem?_eq_getElem hkw⟩;have htr:=ztE ht;have hkw2:k<(wL D.wait).length:=(by rw[zkl];exact hkw);have htn:=hwt t (List.mem_of_getElem? ht);have hrl:=zan keep D.wait D.kept k;have htl:t.1<(zbb keep D.wait D.kept k).length:=(by omega);obtain ⟨x,hx⟩:∃x,(zbb keep D.wait D.kept k)[t.1]? =some x:=⟨_,List.getElem?_eq_getElem htl⟩;have hrow:=zjg hx;have hlt:t.1<D.kept.length:=(by omega);have hlt2:t.1<(wi (zbb keep D.wait D.kept k)).length:=(by rw[zeQ];exact htl);refine qh (qf (qk (gS (gM rR (g_v (qB k underlying138 sizeOf142 rR rR rR hkw hkw2) rR (g_v (yd (row:=[I t.1,Str t.2]) isAgg142 sizeOf142 rR htr rR) rR ?_))))));refine g_l (qy #[I 0,Str []] zeroValue142) rR ?_;rintro _ _ ⟨b5,rfl,rfl⟩;refine gA rR ?_;refine ym (qq #[I t.1,Str t.2] sizeOf142 rR rR rR rR (by decide) rR) ?_;rintro _ _ rfl;refine qb (gS (gM rfl (gM rfl (g_v (zsG (r:=((k % 64:Nat):Int)) rfl rfl (by decide) (by rw[Int.tmod_eq_emod_of_nonneg (by omega)];omega)) rfl (g_v (zd4 (r:=keep.fdiv (2 ^ (k % 64))) rfl rfl (by omega) (by rw[show min (((k % 64:Nat):Int).toNat) IntKind.u64.bits=k % 64 by simp[IntKind.bits];omega])) rfl (g_v (zi7 1 rfl (zvq hkeep _) (by decide) (by decide)) rfl (g_v (wh rfl rfl) rfl (qb ?_))))))));refine qg rR (fun h21=>?_) (fun h21=>?_)
    · have hkb:kb keep k=true:=(by unfold kb;simpa using h21);refine zcM (Lf:=pt b5 (.cells #[I t.1,Str t.2] 142 (0,0))::pt b (.cells #[sl s1 (D.kept).length c1,sl s2 (D.now).length c2,sl s3 (D.wait).length c3,I (D.fuse),Bo (D.down)] 140 (0,0))::owL 9 1 s1 c1 (wi (zbb keep D.wait D.kept k))::owL 9 1 s2 c2 (wi (D.now))::owL 142 2 s3 c3 (wL (D.wait))::F) [(0,false),(1,false),(2,false),(3,false),(4,false),(5,false),(6,false),(7,false),(8,false)] 9 rR (by kernel_rfl) (by kernel_rfl) rR (by kernel_rfl) (by kernel_rfl) ?_;refine dM rR rR rR (d_v rR (qc rR) rR (d_v rR (qa 0 underlying140 rR rR sizeOf31 (by decide) rR) rR (d_v rR (qe isAgg31 rR rR) rR (d_v rR (qa 0 underlying142 rR rR sizeOf3 (by decide) rR) rR (d_v rR (qe (v:=I t.1) isAgg3 rR rR) rR (d_v rR (qa 1 underlying142 rR rR sizeOf9 (by decide) rR) rR (d_v rR (qe (v:=Str t.2) isAgg9 rR rR) rR (d_v rR (qB t.1 underlying31 sizeOf9 rR rR rR hlt hlt2) rR ?_))))))));refine yb ?_;refine ym (zki (row:=[Str x]) sizeOf9 rR rR rR hrow (by decide)) ?_;rintro _ _ rfl;rw[zmQ];refine qb (qH (qp (g_v (qu rR rR (w64 (by omega))) rR (gM rR (qb ?_)))));rw[←zqA (l:=D.kept) ht hkb];exact qo (k+1) (by omega) (by omega) [0,1,9,10,11] rfl rfl
    · have hkb:kb keep k=false:=(by unfold kb;simpa using h21);refine qh (qH (qp (g_v (qu rR rR (w64 (by omega))) rR (gM rR (qb ?_)))));rw[←zoX (l:=D.kept) ht hkb];exact qo (k+1) (by omega) (by omega) [0,1,9,10,11] rfl rfl
  · simp at h12;obtain rfl:k=D.wait.length:=(by omega);rw[show zbb keep D.wait D.kept D.wait.length=zao keep D from rfl];refine qz rR ?_;refine qf ?_;refine yx (Lf:=pt b (.cells #[sl s1 (D.kept).length c1,sl s2 (D.now).length c2,sl s3 (D.wait).length c3,I (D.fuse),Bo (D.down)] 140 (0,0))::F) [(0,false),(1,false),(2,false),(3,false),(4,false),(5,false),(6,false),(7,false),(8,true)] (by kernel_rfl) (by kernel_rfl) rR (by kernel_rfl) ?_;refine dM rR rR rR (d_v rR (qc rR) rR (d_v rR (qa 1 underlying140 rR rR sizeOf31 (by decide) rR) rR (d_v rR (qe isAgg31 rR rR) rR (dM rR rR rR (d_v rR (qc rR) rR (d_v rR (qa 0 underlying140 rR rR sizeOf31 (by decide) rR) rR (d_v rR (qe isAgg31 rR rR) rR ?_)))))));refine d_l rR (zhj (s:=s2) (s2:=s1) (l:=0) (p:=0) underlying31 sizeOf9 (by decide) rR rR (.inl ⟨rfl,rfl⟩) (.inl ⟨rfl,rfl⟩) (by simp[wi]) (by simp[wi,zan,zao]) (by simp[wi]) (by simp[wi,ones,one])) rR ?_;rintro _ _ ⟨rfl,rfl⟩;refine zcU s2 (wi (zao keep D)) (zrA (by simp[zao,zan,hkn]) (by simp[zao,zan]) rR) ?_;refine yb ?_;refine qp (gM rR (gM rR (gM rR (g_v (qc rR) rR (g_v (qa 2 underlying140 rR rR sizeOf138 (by decide) rR) rR ?_)))));refine ym (qI #[sl s1 (D.kept).length c1,sl s2 (D.now).length c2,sl none 0 0,I (D.fuse),Bo (D.down)] sizeOf138 rR rR rR (by simp) rR) ?_;rintro _ _ rfl;refine g_v (qc rR) rR (g_v (qa 4 underlying140 rR rR sizeOf4 (by decide) rR) rR ?_);refine ym (qI #[sl s1 (D.kept).length c1,sl s2 (D.now).length c2,sl none 0 0,I (D.fuse),Bo (false)] sizeOf4 rR rR rR (by simp) rR) ?_;rintro _ _ rfl;refine g_v (qc rR) rR (g_v (qa 3 underlying140 rR rR sizeOf3 (by decide) rR) rR ?_);refine ym (qI #[sl s1 (D.kept).length c1,sl s2 (D.now).length c2,sl none 0 0,I (-1),Bo (false)] sizeOf3 rR rR rR (by simp) rR) ?_;rintro _ _ rfl;refine qb ?_;refine yJ 142 2 (wL []) rR ?_;refine za4 (A:=zis 140 142 b (zaR keep D)) [pt b (.cells #[sl s1 (D.kept).length c1,sl s2 (D.now).length c2,sl none 0 0,I (-1),Bo (false)] 140 (0,0)),owL 9 1 s1 c1 (wi (zao keep D)),owL 9 1 s2 c2 (wi (zao keep D)),owL 142 2 none 0 (wL [])] (dsk 140 142 b (zaR keep D)) ((s1,c1),(s2,c2),(none,0)) rR (by simp[zis,zaR,zao,zan,hkn]) ?_;exact zcq rfl rfl rfl
-- (*counterfoil/counterfoilref.Disk).Restart is not in this seat
def zfM (n:Nat):DiskM:=⟨List.replicate n (zbS 80),List.replicate n (zbS 80),[], -1,false⟩
def RNew (E:Int→Value)(T TT:Nat)(n:Int)(F:List HProp):Value→List HProp→Prop:=fun v L'=>(¬(1≤n∧n≤260)∧v= .tuple #[.pointer none,E 1]∧L'=F)∨((1≤n∧n≤260)∧∃b,v= .tuple #[ptr b 0,E 0]∧L'=dsk T TT b (zfM n.toNat)::F)
section
variable {c:Cx}{E:Env}{L:List HProp}{K:List KI}
theorem zqb {Ev:Int→Value}{T TT:Nat}{n:Int}{F:List HProp}{vs:List Value}(hR:c.R=RNew Ev T TT n F)(hr:zbl E c.fn.results.toList=some vs)(hn:¬(1≤n∧n≤260))(hv:tup vs= .tuple #[.pointer none,Ev 1])[S:Sub L F](hds:c.n.ds=[]:=by rfl):G c (.code .ret::K) E L:=
  fun a w hE hS=>wp_ret (yf (qw (hds:=hds) hr hE (S.sat hS) (by rw[hR];exact .inl ⟨hn,hv,rfl⟩)))
theorem zpj {Ev:Int→Value}{T TT:Nat}{n:Int}{F:List HProp}{vs:List Value}(b:Nat)(hR:c.R=RNew Ev T TT n F)(hr:zbl E c.fn.results.toList=some vs)(hn:1≤n∧n≤260)(hv:tup vs= .tuple #[ptr b 0,Ev 0])[S:Sub L (dsk T TT b (zfM n.toNat)::F)](hds:c.n.ds=[]:=by rfl):G c (.code .ret::K) E L:=
  fun a w hE hS=>wp_ret (yf (qw (hds:=hds) hr hE (S.sat hS) (by rw[hR];exact .inr ⟨hn,b,hv,rfl⟩)))
end
theorem zlQ (n:Int)(F:List HProp):Ct Tryz.prog 49 [I n] ([]++F) (RNew yI 140 142 n F):=by
  show Ct Tryz.prog 49 [I n] (F) _;refine Ct.of func49 rR 21 ntmps49 (by simp) fun w0=>?_;refine gS (gA rR (gA rR (qb (qf (gS (gM rR (g_v (qQ rR rR) rR (gM rR (qJ rR rR (fun hg=>qn rR) rR rR (qJ rR rR (fun hg=>yA rR rR) rR rR (g_v (zav rR rR) rR (qb ?_))))))))))));refine qg rR (fun h10=>?_) (fun h10=>?_)
  · simp at h10;refine gS (g_v (qA underlying108 rR rR) rR (gA rR (gA rR (qb ?_))));exact zqb rfl rfl (by omega) rfl
  · simp at h10;refine qh (gS ?_);refine g_l (qi (Pre:=[]) call84 rR (zfP [] (by decide))) rR ?_;rintro _ _ ⟨rfl,rfl⟩;rw[show yg []=zbS 80 from rfl];refine g_l (qr [[Str (zbS 80)]] underlying31 sizeOf9 zeroValue9 rR rR rR (by simp) (by decide) (by decide)) rR ?_;rintro _ _ ⟨b13,rfl,rfl⟩;refine gM rR ?_;refine yB (some ⟨b13,0,none⟩) ?_;refine g_l (qi (Pre:=[roL 1 (some ⟨b13,0,none⟩) [[Str (zbS 80)]]]) call83 rR (by have:=zjc (zbS 80) (some ⟨b13,0,none⟩) 1 n.toNat (by omega);rwa [Int.toNat_of_nonneg (by omega)] at this)) rR ?_;rintro _ _ ⟨s15,c15,rfl,rfl⟩;refine zqC (φ:=∃a,s15=some a) (fun w hS=>?_) (fun ha=>?_)
    · rcases yP hS with ⟨_,h,_,_⟩ | ⟨b,cs,h,_⟩
      · exfalso;have h2:=congrArg List.length h;simp[wi] at h2;omega
      · exact ⟨_,h⟩
    obtain ⟨a15,rfl⟩:=ha;refine gA rR (qb (gS (gM rR (gM rR ?_))));refine g_l (qi (Pre:=[owL 9 1 (some a15) c15 (wi (List.replicate n.toNat (zbS 80)))]) call85 rR (by have:=zkK (List.replicate n.toNat (zbS 80)) a15 c15 (by simp;omega);rw[List.length_replicate] at this;exact this)) rR ?_;rintro _ _ ⟨s18,c18,rfl,rfl⟩;refine g_v (qS rR (zkn _ rR _ rR _ rR)) rR ?_;refine g_l (wM #[sl (some a15) n.toNat c15,sl s18 n.toNat c18,sl none 0 0,I (-1),Bo false] rfl rR) rR ?_;rintro _ _ ⟨b20,rfl,rfl⟩;refine gA rR (gA rR (qb ?_));refine yJ 142 2 (wL []) rR ?_;refine za4 (A:=zis 140 142 b20 (zfM n.toNat)) [pt b20 (.cells #[sl (some a15) n.toNat c15,sl s18 n.toNat c18,sl none 0 0,I (-1),Bo false] 140 (0,0)),owL 9 1 (some a15) c15 (wi (List.replicate n.toNat (zbS 80))),owL 9 1 s18 c18 (wi (List.replicate n.toNat (zbS 80))),owL 142 2 none 0 (wL [])] (dsk 140 142 b20 (zfM n.toNat)) ((some a15,c15),(s18,c18),(none,0)) rR (by simp[zis,zfM]) ?_;exact zpj b20 rfl rfl (by omega) rfl
-- counterfoil/counterfoilref.NewDisk is not in this seat
def qP (n:Nat):Bytes:=[UInt8.ofNat n,UInt8.ofNat (n / 256),UInt8.ofNat (n / 65536),UInt8.ofNat (n / 16777216)]
def wF (kind:UInt8)(n:Nat)(s:Bytes):Bytes:=kind::(qP n++([UInt8.ofNat s.length,UInt8.ofNat (s.length / 256)]++s))
def sk (s:Bytes)(i:Nat):UInt8:=(s[i]?).getD 0
def skN (s:Bytes):Nat:=(sk s 5).toNat+256*(sk s 6).toNat
def zaP (num:Nat)(s:Bytes):Option (UInt8×Bytes):=if (s.take 5).drop 1=qP num∧(sk s 0=111∨sk s 0=99)∧skN s≤73 then some (sk s 0,(s.take (7+skN s)).drop 7) else none
abbrev Deeds:=List (List ChangeM)
def wb (first:Nat)(sec:Nat→Bytes):Nat→Nat→Deeds→List ChangeM→Nat→Deeds×Nat
  | 0,_,out,_,used=>(out,used)
  | f+1,i,out,deed,used=>match zaP (first+i) (sec i) with
    | none=>(out,used)
    | some (k,t)=>if k=99 then (if t=qP deed.length then wb first sec f (i+1) (out++ [deed]) [] (i+1) else (out,used)) else if (prS t).2=0 then wb first sec f (i+1) out (deed++ [(prS t).1]) used else (out,used)
theorem zeM {s:Bytes}{i:Nat}(h:i<s.length):s[i]? =some (sk s i):=by unfold sk;rw[List.getElem?_eq_getElem h];rfl
theorem zbQ {n:Nat}(h:n<256):(UInt8.ofNat n).toNat=n:=by rw[UInt8.toNat_ofNat'];omega
theorem zhv {kind:UInt8}{num:Nat}{s:Bytes}(hk:kind=111∨kind=99)(hs:s.length≤73):zaP num (yg (wF kind num s))=some (kind,s):=by
  have e:yg (wF kind num s)=kind::(UInt8.ofNat num::UInt8.ofNat (num / 256)::UInt8.ofNat (num / 65536)::UInt8.ofNat (num / 16777216)::UInt8.ofNat s.length::UInt8.ofNat (s.length / 256)::(s++zbS (80 - (wF kind num s).length))):=by
    unfold yg wF qP;simp
  rw[e];generalize zbS (80 - (wF kind num s).length)=z;unfold zaP;have h5:skN (kind::(UInt8.ofNat num::UInt8.ofNat (num / 256)::UInt8.ofNat (num / 65536)::UInt8.ofNat (num / 16777216)::UInt8.ofNat s.length::UInt8.ofNat (s.length / 256)::(s++z)))=s.length:=by
    show (UInt8.ofNat s.length).toNat+256*(UInt8.ofNat (s.length / 256)).toNat=s.length;rw[zbQ (by omega),zbQ (by omega)];omega
  rw[h5,if_pos ⟨rfl,hk,by omega⟩];congr 2;rw[show 7+s.length=s.length+7 by omega];simp only[List.take_succ_cons,List.drop_succ_cons,List.drop_zero];rw[List.take_left]
theorem zcp (num:Nat):zaP num (yg [])=none:=by
  unfold zaP;rw[if_neg];intro h;have:sk (yg []) 0=0:=(by decide);rw[this] at h;rcases h.2.1 with h | h <;> cases h
theorem zyk {c:ChangeM}(h:zbu c=0):prS (zj7 c)=(c,0):=by
  obtain ⟨_,_,hk,hv⟩:=zfi h;unfold zj7 zfE;show prS ((if c.gone then 1 else 0)::UInt8.ofNat c.key.length::(c.key++c.val))=_;rw[zi6];have e1:(UInt8.ofNat c.key.length).toNat=c.key.length:=zbQ (by omega);have e0:((if c.gone=true then (1:UInt8) else 0)).toNat≤1:=(by split <;> decide);rw[if_neg (by rw[e1];simp;omega)];have ec:zkA (if c.gone=true then 1 else 0) (UInt8.ofNat c.key.length) (c.key++c.val)=c:=by
    unfold zkA;rw[e1,List.take_left,List.drop_left];cases c with
    | mk k v g=>cases g <;> rfl
  rw[ec,if_pos h]
theorem zjO {c:ChangeM}(h:zbu c=0):(zj7 c).length≤58:=by
  obtain ⟨_,_,hk,hv⟩:=zfi h;unfold zj7 zfE;simp;omega
theorem zjZ (k:UInt8)(n:Nat)(s:Bytes):(wF k n s).length=7+s.length:=by simp[wF,qP];omega
theorem zcT (first:Nat)(sec:Nat→Bytes)(f i:Nat)(out:Deeds)(deed:List ChangeM)(used:Nat):wb first sec (f+1) i out deed used=match zaP (first+i) (sec i) with
    | none=>(out,used)
    | some (k,t)=>if k=99 then (if t=qP deed.length then wb first sec f (i+1) (out++ [deed]) [] (i+1) else (out,used)) else if (prS t).2=0 then wb first sec f (i+1) out (deed++ [(prS t).1]) used else (out,used):=rfl
theorem zeP {first:Nat}{sec:Nat→Bytes}:∀(f i:Nat) (out:Deeds) (deed:List ChangeM) (used:Nat) (o:Deeds) (u:Nat),wb first sec f i out deed used=(o,u)→(u=used∧o=out)∨
    ((i<u∧u≤i+f)∧∀sec':Nat→Bytes,(∀j,i≤j→j<u→sec' j=sec j)→wb first sec' f i out deed used=wb first sec' (i+f - u) u o [] u)
  | 0,i,out,deed,used,o,u,e=>by
    injection e with e1 e2;exact .inl ⟨e2.symm,e1.symm⟩
  | f+1,i,out,deed,used,o,u,e=>by
    rw[zcT] at e;cases hl:zaP (first+i) (sec i) with
    | none=>rw[hl] at e;injection e with e1 e2;exact .inl ⟨e2.symm,e1.symm⟩
    | some kt=>
      obtain ⟨k,t⟩:=kt;rw[hl] at e;simp only at e;by_cases hk:k=99
      · rw[if_pos hk] at e;by_cases ht:t=qP deed.length
        · rw[if_pos ht] at e;right;have step:∀sec':Nat→Bytes,sec' i=sec i→wb first sec' (f+1) i out deed used=wb first sec' f (i+1) (out++ [deed]) [] (i+1):=fun sec' hs=>by
            rw[zcT,hs,hl];simp only;rw[if_pos hk,if_pos ht]
          rcases zeP f (i+1) (out++ [deed]) [] (i+1) o u e with ⟨h1,h2⟩ | ⟨⟨h1,h2⟩,h3⟩
          · subst h1 h2;exact ⟨⟨by omega,by omega⟩,fun sec' hs=>by rw[step sec' (hs i (by omega) (by omega)),show i+(f+1) - (i+1)=f by omega]⟩
          · exact ⟨⟨by omega,by omega⟩,fun sec' hs=>by rw[step sec' (hs i (by omega) (by omega)),h3 sec' (fun j hj1 hj2=>hs j (by omega) hj2),show i+(f+1)=i+1+f by omega]⟩
        · rw[if_neg ht] at e;injection e with e1 e2;exact .inl ⟨e2.symm,e1.symm⟩
      · rw[if_neg hk] at e;by_cases hp:(prS t).2=0
        · rw[if_pos hp] at e;have step:∀sec':Nat→Bytes,sec' i=sec i→wb first sec' (f+1) i out deed used=wb first sec' f (i+1) out (deed++ [(prS t).1]) used:=fun sec' hs=>by
            rw[zcT,hs,hl];simp only;rw[if_neg hk,if_pos hp]
          rcases zeP f (i+1) out (deed++ [(prS t).1]) used o u e with h | ⟨⟨h1,h2⟩,h3⟩
          · exact .inl h
          · exact .inr ⟨⟨by omega,by omega⟩,fun sec' hs=>by rw[step sec' (hs i (by omega) (by omega)),h3 sec' (fun j hj1 hj2=>hs j (by omega) hj2),show i+(f+1)=i+1+f by omega]⟩
        · rw[if_neg hp] at e;injection e with e1 e2;exact .inl ⟨e2.symm,e1.symm⟩
theorem zkg {first:Nat}{sec:Nat→Bytes}{f:Nat}:∀(c:List ChangeM) (i:Nat) (out:Deeds) (deed:List ChangeM) (used:Nat),(∀x∈c,zbu x=0)→(∀k x,c[k]? =some x→sec (i+k)=yg (wF 111 (first+(i+k)) (zj7 x)))→
    wb first sec (c.length+f) i out deed used=wb first sec f (i+c.length) out (deed++c) used
  | [],i,out,deed,used,_,_=>by simp
  | x::c,i,out,deed,used,hc,hs=>by
    have h0:=hs 0 x rfl;have hx:=hc x (by simp);rw[show (x::c).length+f=(c.length+f)+1 by simp;omega];rw[zcT,show sec i=_ from h0,Nat.add_zero,zhv (.inl rfl) (by have:=zjO hx;omega)];simp only;rw[if_neg (by decide),zyk hx,if_pos rfl,zkg c (i+1) out (deed++ [x]) used (fun y hy=>hc y (List.mem_cons_of_mem _ hy)) (fun k y hy=>by have:=hs (k+1) y (by simpa using hy);rw[show i+1+k=i+(k+1) by omega];exact this)];simp only[List.length_cons,List.append_assoc,List.singleton_append];rw[show i+1+c.length=i+(c.length+1) by omega]
theorem znv {first many:Nat}{sec sec':Nat→Bytes}{out:Deeds}{used:Nat}{c:List ChangeM}(h:wb first sec many 0 [] [] 0=(out,used))(hc:∀x∈c,zbu x=0)(hr:used+c.length+1≤many)(hlen:c.length≤72)
    (h1:∀j,j<used→sec' j=sec j) (h2:∀k x,c[k]? =some x→sec' (used+k)=yg (wF 111 (first+(used+k)) (zj7 x))) (h3:sec' (used+c.length)=yg (wF 99 (first+(used+c.length)) (qP c.length)))
    (h4:used+c.length+1<many→sec' (used+c.length+1)=yg []):wb first sec' many 0 [] [] 0=(out++ [c],used+c.length+1):=by
  have hpre:=zeP many 0 [] [] 0 out used h;have e:wb first sec' many 0 [] [] 0=wb first sec' (many - used) used out [] used:=by
    rcases hpre with ⟨e1,e2⟩ | ⟨_,h5⟩
    · subst e1 e2;rfl
    · have:=h5 sec' fun j _ hj=>h1 j hj;rw[this,Nat.zero_add]
  rw[e,show many - used=c.length+((many - used - c.length - 1)+1) by omega,zkg c used out [] used hc h2];rw[zcT,h3,zhv (.inr rfl) (by simp[qP])];simp only[List.nil_append,if_true];cases hf:many - used - c.length - 1 with
  | zero=>rfl
  | succ f=>
    rw[zcT,h4 (by omega),zcp]
abbrev LocA:=Option Addr×Nat
def dR (gl:List (List ChangeM×LocA)):List (List Value):=gl.map fun x=>[sl x.2.1 x.1.length x.2.2]
theorem zup (gl:List (List ChangeM×LocA)):(dR gl).length=gl.length:=by simp[dR]
theorem dR_at {gl:List (List ChangeM×LocA)}{k:Nat}{x:List ChangeM×LocA}(h:gl[k]? =some x):(dR gl)[k]? =some [sl x.2.1 x.1.length x.2.2]:=by simp[dR,h]
def zlw (gl:List (List ChangeM×LocA)):HProp:=fun m=>∀x∈gl,roL 3 x.2.1 (chR x.1) m
theorem zrP {sz:Nat}{s:Option Addr}{rows:List (List Value)}{m n:Res}(h:roL sz s rows m)(hs:Res.sub m n):roL sz s rows n:=by
  rcases h with h | ⟨b,off,o,h1,h2,h3⟩
  · exact .inl h
  · exact .inr ⟨b,off,o,h1,hs b _ h2,h3⟩
theorem zry (gl:List (List ChangeM×LocA)):Pers (zlw gl):=fun m h=>by
  refine ⟨ros m,fun b x hx=>?_,fun b x hx=>?_,fun x hx=>zjj (h x hx)⟩
  · unfold ros at hx;split at hx
    · rename_i o ho;rw[ho];exact hx
    · cases hx
  · unfold ros at hx;split at hx
    · injection hx with hx;subst hx;rfl
    · cases hx
section
variable {c:Cx}{E:Env}{L:List HProp}{K:List KI}
theorem zvK (k:G c K E (zlw []::L)):G c K E L:=fun a w hE hS=>k a w hE ((Sat.pure_mk (φ:=True) trivial hS).weak fun m _=>fun x hx=>nomatch hx)
theorem ztA {F:List HProp}(gl:List (List ChangeM×LocA)){x:List ChangeM×LocA}(h:x∈gl)[R:Rem L (zlw gl) F](k:G c K E (roL 3 x.2.1 (chR x.1)::zlw gl::F)):G c K E L:=fun a w hE hS=>k a w hE (((R.sat hS).dup (zry gl)).weak fun m hm=>hm x h)
theorem zpi {F:List HProp}{sz:Nat}(s:Option Addr)(rows:List (List Value))[R:Rem L (roL sz s rows) F](k:G c K E (roL sz s rows::roL sz s rows::F)):G c K E L:=fun a w hE hS=>k a w hE ((R.sat hS).dup (Pers.roL sz s rows))
theorem zqL {F F2:List HProp}(gl:List (List ChangeM×LocA))(d:List ChangeM)(s:Option Addr)(n:Nat)[R:Rem L (zlw gl) F][R2:Rem F (roL 3 s (chR d)) F2](k:G c K E (zlw (gl++ [(d,s,n)])::F2)):G c K E L:=fun a w hE hS=>by
  have h1:=R.sat hS;have r2:Rem (zlw gl::F) (roL 3 s (chR d)) (zlw gl::F2):=inferInstance;have h2:Sat c.w0 w (roL 3 s (chR d)::zlw gl::F2):=r2.sat h1;refine k a w hE (h2.two.weak fun m hm=>?_);obtain ⟨m1,m2,hd,s1,s2,ha,hb⟩:=hm;intro y hy;rcases List.mem_append.1 hy with hy | hy
  · exact zrP (hb y hy) s2
  · rw[List.mem_singleton] at hy;subst hy;exact zrP ha s1
end
def okW (N i:Nat)(D:DiskM):Prop:=D.kept.length=N∧D.now.length=N∧(-1≤D.fuse∧D.fuse≤9223372036854775807)∧(∀t∈D.wait,t.1<N)∧D.wait.length≤i
theorem zqO (N:Nat):okW N 0 (zfM N):=⟨by simp[zfM],by simp[zfM],by simp[zfM],by simp[zfM],by simp[zfM]⟩
theorem zjo {N i:Nat}{D:DiskM}(h:okW N i D):okW N (i+1) D:=⟨h.1,h.2.1,h.2.2.1,h.2.2.2.1,by have:=h.2.2.2.2;omega⟩
theorem zgh {N i:Nat}{D:DiskM}(h:okW N i D):okW N i (yY D):=by
  obtain ⟨h1,h2,h3,h4,h5⟩:=h;unfold yY;split
  · exact ⟨h1,h2,h3,h4,h5⟩
  · split
    · exact ⟨h1,h2,by simp,h4,h5⟩
    · refine ⟨h1,h2,?_,h4,h5⟩;simp only;split <;> omega
theorem zkH {N i:Nat}{D:DiskM}(h:okW N i D)(n:Int)(s:Bytes):okW N (i+1) (yv D n s):=by
  unfold yv;split
  · exact zjo h
  · rename_i hb;split
    · obtain ⟨h1,h2,h3,h4,h5⟩:=zgh h;refine ⟨h1,by simp[wt,h2],h3,fun t ht=>?_,by simp[wt];exact h5⟩;simp only[wt,List.mem_append,List.mem_singleton] at ht;rcases ht with ht | rfl
      · exact h4 t ht
      · have:=h.2.1;unfold zif at hb;simp only;omega
    · exact zjo (zgh h)
theorem ze1 {N i:Nat}{D:DiskM}(h:okW N i D):okW N (i+1) (yw D):=by
  unfold yw;split
  · obtain ⟨h1,h2,h3,h4,h5⟩:=zgh h;exact ⟨h2,h2,h3,by simp[zaX],by simp[zaX]⟩
  · exact zjo (zgh h)
theorem ztO {N i:Nat}{D:DiskM}(h:okW N i D)(keep:Int):okW N (i+1) (zaR keep D):=
  ⟨by simp[zaR,zao,zan,h.1],by simp[zaR,zao,zan,h.1],by simp[zaR],by simp[zaR],by simp[zaR]⟩
theorem zah (D:DiskM):yU D=0∨yU D=9:=by unfold yU;split <;> simp
abbrev Stp:=Option (Nat×Bytes)
def stE (D:DiskM):Stp→Int
  | some x=>yO D x.1 x.2
  | none=>yU D
def stD (D:DiskM):Stp→DiskM
  | some x=>yv D x.1 x.2
  | none=>yw D
def we:DiskM→List Stp→Int×DiskM
  | D,[]=>(0,D)
  | D,x::r=>if stE D x=0 then we (stD D x) r else (stE D x,stD D x)
theorem zcs {D:DiskM}{x:Stp}{r:List Stp}(h:stE D x=0):we D (x::r)=we (stD D x) r:=by rw[we,if_pos h]
theorem zbv {D:DiskM}{x:Stp}{r:List Stp}(h:¬stE D x=0):we D (x::r)=(stE D x,stD D x):=by rw[we,if_neg h]
theorem zfl {D:DiskM}{n:Nat}{s:Bytes}{r:List Stp}(h:yO D n s=0):we D (some (n,s)::r)=we (yv D n s) r:=zcs h
theorem zdB {D:DiskM}{n:Nat}{s:Bytes}{r:List Stp}(h:¬yO D n s=0):we D (some (n,s)::r)=(yO D n s,yv D n s):=zbv h
theorem zdu {D:DiskM}{r:List Stp}(h:yU D=0):we D (none::r)=we (yw D) r:=zcs h
theorem zcR {D:DiskM}{r:List Stp}(h:¬yU D=0):we D (none::r)=(yU D,yw D):=zbv h
theorem zfp (D:DiskM):we D []=(0,D):=rfl
theorem zep:∀(l r:List Stp) (D:DiskM),we D (l++r)=if (we D l).1=0 then we (we D l).2 r else we D l
  | [],r,D=>by simp[we]
  | x::l,r,D=>by
    rw[List.cons_append];by_cases h:stE D x=0
    · rw[zcs h,zcs h,zep l r]
    · rw[zbv h,zbv h,if_neg h]
theorem zqs {N i:Nat}{D:DiskM}(h:okW N i D)(x:Stp):okW N (i+1) (stD D x):=by
  cases x with
  | none=>exact ze1 h
  | some x=>exact zkH h _ _
theorem za3 {N i j:Nat}{D:DiskM}(h:okW N i D)(hij:i≤j):okW N j D:=⟨h.1,h.2.1,h.2.2.1,h.2.2.2.1,by have:=h.2.2.2.2;omega⟩
theorem za7 {N:Nat}:∀(l:List Stp) (i:Nat) (D:DiskM),okW N i D→okW N (i+l.length) (we D l).2
  | [],i,D,h=>h
  | x::l,i,D,h=>by
    by_cases h0:stE D x=0
    · rw[zcs h0];have:=za7 l (i+1) _ (zqs h x);rw[List.length_cons,show i+(l.length+1)=i+1+l.length by omega];exact this
    · rw[zbv h0];exact za3 (zqs h x) (by simp)
def zfR (from_ first used:Nat):Nat→List ChangeM→List Stp
  | _,[]=>[]
  | k,x::c=>some (from_+used+k,wF 111 (first+used+k) (zj7 x))::zfR from_ first used (k+1) c
def zi9 (from_ many used len:Nat):List Stp:=if used+len+1<many then [some (from_+(used+len+1),[])] else []
def zih (from_ many first used:Nat)(c:List ChangeM):List Stp:=zfR from_ first used 0 c++zi9 from_ many used c.length
def zkY (from_ first used len:Nat):Stp:=some (from_+(used+len),wF 99 (first+(used+len)) (qP len))
def zfr (from_ many first used:Nat)(c:List ChangeM):List Stp:=zih from_ many first used c++ [none,zkY from_ first used c.length,none]
theorem zm0 (from_ first used:Nat):∀(c:List ChangeM) (k:Nat),(zfR from_ first used k c).length=c.length
  | [],_=>rfl
  | x::c,k=>by simp[zfR,zm0 from_ first used c]
theorem zsX (from_ many used len:Nat):(zi9 from_ many used len).length≤1:=by unfold zi9;split <;> simp
theorem znV (from_ many first used:Nat)(c:List ChangeM):(zih from_ many first used c).length≤c.length+1:=by
  have:=zsX from_ many used c.length;simp[zih,zm0];omega
theorem zk7 {from_ first used k:Nat}{c:List ChangeM}{x:ChangeM}(h:c[k]? =some x):zfR from_ first used k (c.drop k)=some (from_+used+k,wF 111 (first+used+k) (zj7 x))::zfR from_ first used (k+1) (c.drop (k+1)):=by
  obtain ⟨hk,rfl⟩:=List.getElem?_eq_some_iff.1 h;rw[List.drop_eq_getElem_cons hk]
  rfl
def zej:List ChangeM→Int
  | []=>0
  | x::c=>if zbu x=0 then zej c else zbu x
theorem zjM {c:List ChangeM}{k:Nat}{x:ChangeM}(h:c[k]? =some x):zej (c.drop k)=if zbu x=0 then zej (c.drop (k+1)) else zbu x:=by
  obtain ⟨hk,rfl⟩:=List.getElem?_eq_some_iff.1 h;rw[List.drop_eq_getElem_cons hk]
  rfl
theorem zlV:∀{c:List ChangeM},zej c=0→∀x∈c,zbu x=0
  | [],_,x,hx=>by simp at hx
  | y::c,h,x,hx=>by
    unfold zej at h;split at h
    · rename_i h0;rcases List.mem_cons.1 hx with rfl | hx
      · exact h0
      · exact zlV h x hx
    · rename_i h0;exact absurd h h0
def zgt (many used:Nat)(c:List ChangeM):Int:=if 72<c.length then 2 else if many - used<c.length+1 then 8 else zej c
def zhP (from_ many first used:Nat)(c:List ChangeM)(D:DiskM):Int:=if zgt many used c=0 then (we D (zfr from_ many first used c)).1 else zgt many used c
def zdy (from_ many first used:Nat)(c:List ChangeM)(D:DiskM):DiskM:=if zgt many used c=0 then (we D (zfr from_ many first used c)).2 else D
def zhl (from_ many first used:Nat)(c:List ChangeM)(D:DiskM):Nat:=if zhP from_ many first used c D=0 then used+c.length+1 else used
theorem zeo {many used:Nat}{c:List ChangeM}(h:zgt many used c=0):c.length≤72∧c.length+1≤many - used∧∀x∈c,zbu x=0:=by
  unfold zgt at h;split at h
  · cases h
  · split at h
    · cases h
    · exact ⟨by omega,by omega,zlV h⟩
theorem zlJ {many used:Nat}{c:List ChangeM}(h1:c.length≤72)(h2:c.length+1≤many - used):zgt many used c=zej c:=by unfold zgt;rw[if_neg (by omega),if_neg (by omega)]
theorem zj3 {from_ many first used:Nat}{c:List ChangeM}{D:DiskM}{e:Int}(h:zgt many used c=e)(he:e≠0):zhP from_ many first used c D=e∧zdy from_ many first used c D=D∧zhl from_ many first used c D=used:=by
  have h0:¬zgt many used c=0:=(by rw[h];exact he);have h1:zhP from_ many first used c D=e:=by unfold zhP;rw[if_neg h0,h]
  refine ⟨h1,?_,?_⟩
  · unfold zdy;rw[if_neg h0]
  · unfold zhl;rw[h1,if_neg he]
theorem zgr {from_ many first used:Nat}{c:List ChangeM}{D D':DiskM}{e:Int}(h:zgt many used c=0)(hr:we D (zfr from_ many first used c)=(e,D'))(he:e≠0):zhP from_ many first used c D=e∧zdy from_ many first used c D=D'∧zhl from_ many first used c D=used:=by
  have h1:zhP from_ many first used c D=e:=by unfold zhP;rw[if_pos h,hr]
  refine ⟨h1,?_,?_⟩
  · unfold zdy;rw[if_pos h,hr]
  · unfold zhl;rw[h1,if_neg he]
theorem zuW {from_ many first used:Nat}{c:List ChangeM}{D D':DiskM}(h:zgt many used c=0)(hr:we D (zfr from_ many first used c)=(0,D')):zhP from_ many first used c D=0∧zdy from_ many first used c D=D'∧zhl from_ many first used c D=used+c.length+1:=by
  have h1:zhP from_ many first used c D=0:=by unfold zhP;rw[if_pos h,hr]
  refine ⟨h1,?_,?_⟩
  · unfold zdy;rw[if_pos h,hr]
  · unfold zhl;rw[h1,if_pos rfl]
def zct (from_ many first used:Nat)(c:List ChangeM):Nat→List Stp
  | 0=>zih from_ many first used c++ [none,zkY from_ first used c.length,none]
  | 1=>[none,zkY from_ first used c.length,none]
  | 2=>[zkY from_ first used c.length,none]
  | 3=>[none]
  | _=>[]
def upW (D:DiskM):Prop:=D.down=false∧D.fuse= -1
theorem znt {D:DiskM}(h:upW D):yU D=0∧yY D=D:=by
  obtain ⟨k,n,w,f,d⟩:=D;obtain ⟨h1,h2⟩:=h;simp at h1 h2;subst h1 h2;exact ⟨rfl,rfl⟩
theorem zqe {D:DiskM}(h:upW D){n:Int}{s:Bytes}(hb:¬zif D n s):yO D n s=0∧yv D n s=wt D n s:=by
  have h1:=znt h;constructor
  · unfold yO;rw[if_neg hb,h1.1]
  · unfold yv;rw[if_neg hb,if_pos h1.1,h1.2]
theorem zqf {D:DiskM}(h:upW D):yU D=0∧yw D=zaX D:=by
  have h1:=znt h;exact ⟨h1.1,by unfold yw;rw[if_pos h1.1,h1.2]⟩
def zco (N:Nat):Stp→Prop
  | some x=>x.1<N∧x.2.length≤80
  | none=>True
def zaz:List Bytes→List Stp→List Bytes
  | L,[]=>L
  | L,some x::r=>zaz (L.set x.1 (yg x.2)) r
  | L,none::r=>zaz L r
theorem zbg:∀(l r:List Stp) (L:List Bytes),zaz L (l++r)=zaz (zaz L l) r
  | [],r,L=>rfl
  | some x::l,r,L=>zbg l r _
  | none::l,r,L=>zbg l r L
theorem zaD:∀(l:List Stp) (L:List Bytes),(zaz L l).length=L.length
  | [],L=>rfl
  | some x::l,L=>by rw[zaz,zaD l,List.length_set]
  | none::l,L=>zaD l L
theorem zjI {s:Bytes}(h:s.length≤80):(yg s).length=80:=by unfold yg;simp[zbS];omega
theorem zmE {N:Nat}:∀(l:List Stp) (L:List Bytes),(∀x∈L,x.length=80)→(∀x∈l,zco N x)→∀x∈zaz L l,x.length=80
  | [],L,h,_=>h
  | some y::l,L,h,ho=>zmE l _ (fun x hx=>by
      rcases List.mem_or_eq_of_mem_set hx with h' | h'
      · exact h x h'
      · rw[h'];exact zjI (ho _ (List.mem_cons_self ..)).2) (fun x hx=>ho x (List.mem_cons_of_mem _ hx))
  | none::l,L,h,ho=>zmE l L h (fun x hx=>ho x (List.mem_cons_of_mem _ hx))
theorem zeI:∀(l:List Stp) (D:DiskM),upW D→(∀x∈l,zco D.now.length x)→(we D l).1=0∧upW (we D l).2∧(we D l).2.now=zaz D.now l
  | [],D,h,_=>⟨rfl,h,rfl⟩
  | none::l,D,h,ho=>by
    have h1:=zqf h;rw[zdu h1.1,h1.2];exact zeI l (zaX D) h (fun x hx=>ho x (List.mem_cons_of_mem _ hx))
  | some y::l,D,h,ho=>by
    obtain ⟨n,s⟩:=y;have hy:=ho _ (List.mem_cons_self ..);have h1:=zqe h (n:=(n:Int)) (s:=s) (by unfold zif;have h1:=hy.1;have h2:=hy.2;simp only at h1 h2;omega);rw[zfl h1.1,h1.2];have:=zeI l (wt D n s) h (fun x hx=>by
      have:=ho x (List.mem_cons_of_mem _ hx);rw[show (wt D n s).now.length=D.now.length by simp[wt]];exact this)
    rw[this.2.2];exact ⟨this.1,this.2.1,rfl⟩
theorem yN {L:List Bytes}{n m:Nat}{x:Bytes}:(L.set n x).getD m []=if n=m∧n<L.length then x else L.getD m []:=by
  rw[List.getD_eq_getElem?_getD,List.getD_eq_getElem?_getD,List.getElem?_set];split
  · rename_i h;subst h;split
    · rename_i h2;rw[if_pos ⟨rfl,h2⟩];rfl
    · rename_i h2;rw[if_neg (fun h=>h2 h.2),List.getElem?_eq_none (by omega)]
  · rename_i h;rw[if_neg (fun h'=>h h'.1)]
theorem zeG {from_ first used:Nat}:∀(c:List ChangeM) (k:Nat) (L:List Bytes) (m:Nat),(m<from_+used+k∨from_+used+k+c.length≤m)→(zaz L (zfR from_ first used k c)).getD m []=L.getD m []
  | [],k,L,m,_=>rfl
  | x::c,k,L,m,h=>by
    rw[zfR,zaz,zeG c (k+1) _ m (by simp at h;omega),yN,if_neg (by simp at h;omega)]
theorem zru {from_ first used:Nat}:∀(c:List ChangeM) (k:Nat) (L:List Bytes) (j:Nat) (x:ChangeM),from_+used+k+c.length≤L.length→c[j]? =some x→(zaz L (zfR from_ first used k c)).getD (from_+used+k+j) []=yg (wF 111 (first+used+k+j) (zj7 x))
  | [],k,L,j,x,_,h=>by simp at h
  | y::c,k,L,0,x,hl,h=>by
    simp at h hl;subst h;rw[zfR,zaz,zeG c (k+1) _ _ (by omega),yN,if_pos ⟨by omega,by omega⟩]
    rfl
  | y::c,k,L,j+1,x,hl,h=>by
    simp at h hl;rw[zfR,zaz];have:=zru (from_:=from_) (first:=first) (used:=used) c (k+1) (L.set (from_+used+k) (yg (wF 111 (first+used+k) (zj7 y)))) j x (by simp;omega) h;rw[show from_+used+k+(j+1)=from_+used+(k+1)+j by omega,show first+used+k+(j+1)=first+used+(k+1)+j by omega];exact this
theorem zqg {from_ first used N:Nat}:∀(c:List ChangeM) (k:Nat),from_+used+k+c.length≤N→(∀x∈c,zbu x=0)→∀x∈zfR from_ first used k c,zco N x
  | [],k,_,_,x,h=>by simp[zfR] at h
  | y::c,k,hN,hc,x,h=>by
    simp at hN;rw[zfR] at h;rcases List.mem_cons.1 h with rfl | h
    · exact ⟨by simp only;omega,by rw[zjZ];have:=zjO (hc y (by simp));omega⟩
    · exact zqg c (k+1) (by omega) (fun x hx=>hc x (List.mem_cons_of_mem _ hx)) x h
theorem zjh {from_ many first used N:Nat}{c:List ChangeM}(hN:from_+many≤N)(hv:zgt many used c=0):∀x∈zfr from_ many first used c,zco N x:=by
  obtain ⟨h1,h2,h3⟩:=zeo hv;intro x hx;unfold zfr zih at hx;simp only[List.mem_append,List.mem_cons,List.not_mem_nil,or_false] at hx;rcases hx with (hx | hx) | rfl | rfl | rfl
  · exact zqg c 0 (by omega) h3 x hx
  · unfold zi9 at hx;split at hx
    · simp only[List.mem_singleton] at hx;subst hx;exact ⟨by simp only;omega,by simp⟩
    · simp at hx
  · trivial
  · exact ⟨by simp only;omega,by rw[zjZ];simp[qP]⟩
  · trivial
theorem zxQ {from_ many first used:Nat}{c:List ChangeM}{D:DiskM}(hu:upW D)(hS:∀x∈D.now,x.length=80)(hN:from_+many≤D.now.length)(hv:zgt many used c=0){out:Deeds}(hsc:wb first (fun i=>D.now.getD (from_+i) []) many 0 [] [] 0=(out,used)):
    zhP from_ many first used c D=0∧upW (zdy from_ many first used c D)∧(∀x∈(zdy from_ many first used c D).now,x.length=80)∧(zdy from_ many first used c D).now.length=D.now.length∧
      wb first (fun i=>(zdy from_ many first used c D).now.getD (from_+i) []) many 0 [] [] 0=(out++ [c],used+c.length+1):=by
  obtain ⟨h1,h2,h3⟩:=zeo hv;have hok:=zjh (first:=first) hN hv;obtain ⟨r1,r2,r3⟩:=zeI _ D hu hok;have hE:zhP from_ many first used c D=0:=by unfold zhP;rw[if_pos hv,r1]
  have hD:zdy from_ many first used c D=(we D (zfr from_ many first used c)).2:=by unfold zdy;rw[if_pos hv]
  rw[hD,r3];refine ⟨hE,r2,zmE _ _ hS hok,zaD _ _,?_⟩;have hL:zaz D.now (zfr from_ many first used c)=zaz (zaz (zaz D.now (zfR from_ first used 0 c)) (zi9 from_ many used c.length)) [zkY from_ first used c.length]:=by
    unfold zfr zih;rw[zbg,zbg];rfl
  rw[hL];generalize hL1:zaz D.now (zfR from_ first used 0 c)=L1;have l1:L1.length=D.now.length:=(by rw[←hL1,zaD]);have hb:∀m,m≠from_+(used+c.length+1)→(zaz L1 (zi9 from_ many used c.length)).getD m []=L1.getD m []:=fun m hm=>by
    unfold zi9;split
    · rw[zaz,zaz,yN,if_neg (by simp only;omega)]
    · rfl
  have he:∀(L:List Bytes) m,(zaz L [zkY from_ first used c.length]).getD m []=if from_+(used+c.length)=m∧from_+(used+c.length)<L.length then yg (wF 99 (first+(used+c.length)) (qP c.length)) else L.getD m []:=fun L m=>by
    unfold zkY;rw[zaz,zaz,yN]
  have l2:(zaz L1 (zi9 from_ many used c.length)).length=L1.length:=zaD _ _;refine znv hsc h3 (by omega) (by omega) (fun j hj=>?_) (fun k x hx=>?_) ?_ (fun hm=>?_)
  · rw[he,if_neg (by omega),hb _ (by omega),←hL1,zeG _ _ _ _ (by omega)]
  · have hk:=(List.getElem?_eq_some_iff.1 hx).1;rw[he,if_neg (by omega),hb _ (by omega),←hL1,show from_+(used+k)=from_+used+0+k by omega,zru c 0 _ k x (by omega) hx,show first+used+0+k=first+(used+k) by omega]
  · rw[he,if_pos ⟨rfl,by omega⟩]
  · rw[he,if_neg (by omega)];unfold zi9;rw[if_pos hm,zaz,zaz,yN,if_pos ⟨rfl,by simp only;omega⟩]
def zke (first j:Nat)(s:Bytes):Prop:=∃t,zaP (first+j) s=some (99,t)
def zga (K:List Bytes)(from_ i:Nat):Bytes:=K.getD (from_+i) []
def zjz (from_ many first:Nat)(K:List Bytes)(ds:Deeds)(used:Nat):Prop:=wb first (zga K from_) many 0 [] [] 0=(ds,used)∧∀j,used≤j→j<many→¬zke first j (zga K from_ j)
theorem zhu {first:Nat}{sec:Nat→Bytes}:∀(f i:Nat) (out:Deeds) (deed:List ChangeM) (used:Nat),(∀j,i≤j→j<i+f→¬zke first j (sec j))→wb first sec f i out deed used=(out,used)
  | 0,i,out,deed,used,_=>rfl
  | f+1,i,out,deed,used,h=>by
    have h0:=h i (by omega) (by omega);rw[zcT];cases hl:zaP (first+i) (sec i) with
    | none=>rfl
    | some kt=>
      obtain ⟨k,t⟩:=kt;simp only;split
      · rename_i hk;subst hk;exact absurd ⟨t,hl⟩ h0
      · split
        · exact zhu f (i+1) out _ used (fun j h1 h2=>h j (by omega) (by omega))
        · rfl
theorem zkh {first:Nat}{sec:Nat→Bytes}{many:Nat}{ds:Deeds}{used:Nat}(h:wb first sec many 0 [] [] 0=(ds,used)):used≤many:=by
  rcases zeP many 0 [] [] 0 ds used h with ⟨h1,_⟩ | ⟨h1,_⟩ <;> omega
theorem zmJ {from_ many first:Nat}{K K':List Bytes}{ds:Deeds}{used:Nat}(h:zjz from_ many first K ds used)(h1:∀j,j<used→zga K' from_ j=zga K from_ j)(h2:∀j,used≤j→j<many→zga K' from_ j=zga K from_ j∨¬zke first j (zga K' from_ j)):zjz from_ many first K' ds used:=by
  have h3:∀j,used≤j→j<many→¬zke first j (zga K' from_ j):=fun j a b=>by
    rcases h2 j a b with e | e
    · rw[e];exact h.2 j a b
    · exact e
  refine ⟨?_,h3⟩;have hu:=zkh h.1;rcases zeP many 0 [] [] 0 ds used h.1 with ⟨e1,e2⟩ | ⟨_,e3⟩
  · subst e1 e2;exact zhu many 0 [] [] 0 (fun j a b=>h3 j a (by omega))
  · rw[e3 (zga K' from_) (fun j _ hj=>h1 j hj)];exact zhu _ _ _ _ _ (fun j a b=>h3 j a (by omega))
theorem ze8 {keep:Int}{w:List (Nat×Bytes)}{K:List Bytes}:∀k (m:Nat),(zbb keep w K k).getD m []=K.getD m []∨∃t∈w,t.1=m∧(zbb keep w K k).getD m []=t.2
  | 0,m=> .inl rfl
  | k+1,m=>by
    have ih:=ze8 (keep:=keep) (w:=w) (K:=K) k m;unfold zbb;cases ht:w[k]? with
    | none=>exact ih
    | some t=>
      simp only;split
      · rw[yN];split
        · rename_i h;exact .inr ⟨t,List.mem_of_getElem? ht,h.1,rfl⟩
        · exact ih
      · exact ih
def zwq (from_ first used:Nat)(t:Nat×Bytes):Prop:=∃j,used≤j∧t.1=from_+j∧¬zke first j t.2
theorem zkN {from_ many first:Nat}{D:DiskM}{ds:Deeds}{used:Nat}(keep:Int)(h:zjz from_ many first D.kept ds used)(hw:∀t∈D.wait,zwq from_ first used t):zjz from_ many first (zao keep D) ds used:=by
  refine zmJ h (fun j hj=>?_) (fun j h1 h2=>?_)
  · rcases ze8 (keep:=keep) (w:=D.wait) (K:=D.kept) D.wait.length (from_+j) with e | ⟨t,ht,e,_⟩
    · exact e
    · obtain ⟨j',g1,g2,_⟩:=hw t ht;omega
  · rcases ze8 (keep:=keep) (w:=D.wait) (K:=D.kept) D.wait.length (from_+j) with e | ⟨t,ht,e,e2⟩
    · exact .inl e
    · obtain ⟨j',g1,g2,g3⟩:=hw t ht;obtain rfl:j'=j:=(by omega);right;rw[show zga (zao keep D) from_ j'=t.2 from e2];exact g3
theorem zin {D:DiskM}(h:yU D=0):D.down=false∧(yY D).down=false:=by
  unfold yU at h;split at h
  · cases h
  · rename_i h1;have hd:D.down=false:=(by cases hd:D.down with | false=>rfl | true=>exact absurd (.inl hd) h1);have hf:¬D.fuse=0:=fun e=>h1 (.inr e);refine ⟨hd,?_⟩;unfold yY;rw[if_neg (by rw[hd];decide),if_neg hf];exact hd
theorem ziL {from_ first used:Nat}:∀(l:List Stp) (D:DiskM) (e:Int) (D':DiskM),(∀x∈l,zco D.now.length x)→(∀x∈l,∃t,x=some t∧zwq from_ first used (t.1,yg t.2))→(∀t∈D.wait,zwq from_ first used t)→D.down=false→we D l=(e,D')→
    (e=0∨e=9)∧D'.kept=D.kept∧(∀t∈D'.wait,zwq from_ first used t)∧(e=0→D'.now=zaz D.now l∧D'.down=false)
  | [],D,e,D',_,_,hw,hd,h=>by injection h with h1 h2;subst h1 h2;exact ⟨.inl rfl,rfl,hw,fun _=>⟨rfl,hd⟩⟩
  | none::l,D,e,D',_,ht,_,_,_=>by obtain ⟨t,h,_⟩:=ht none (List.mem_cons_self ..);cases h
  | some y::l,D,e,D',ho,ht,hw,hd,h=>by
    obtain ⟨n,s⟩:=y;have hy:=ho _ (List.mem_cons_self ..);obtain ⟨t,et,htm⟩:=ht _ (List.mem_cons_self ..);injection et with et;subst et;have hb:¬zif D (n:Int) s:=(by unfold zif;have h1:=hy.1;have h2:=hy.2;simp only at h1 h2;omega);by_cases h0:yU D=0
    · have hwe:yO D (n:Int) s=0:=(by unfold yO;rw[if_neg hb,h0]);have hwd:yv D (n:Int) s=wt (yY D) n s:=(by unfold yv;rw[if_neg hb,if_pos h0]);rw[zfl hwe,hwd] at h;have hnow:(wt (yY D) n s).now=D.now.set n (yg s):=(by simp[wt,wC]);have:=ziL l (wt (yY D) n s) e D' (fun x hx=>by rw[hnow,List.length_set];exact ho x (List.mem_cons_of_mem _ hx)) (fun x hx=>ht x (List.mem_cons_of_mem _ hx)) (fun t ht'=>by
        simp only[wt,List.mem_append,List.mem_singleton,ws] at ht';rcases ht' with ht' | rfl
        · exact hw t ht'
        · exact htm) (zin h0).2 h
      rw[hnow,show (wt (yY D) n s).kept=D.kept from yZ D] at this;exact this
    · have hwe:yO D (n:Int) s=yU D:=(by unfold yO;rw[if_neg hb]);have hwd:yv D (n:Int) s=yY D:=(by unfold yv;rw[if_neg hb,if_neg h0]);rw[zdB (by rw[hwe];exact h0),hwe,hwd] at h;injection h with h1 h2;subst h1 h2;refine ⟨zah D,yZ D,fun t ht'=>hw t (by rw[ws] at ht';exact ht'),fun h=>absurd h h0⟩
theorem zmP {from_ first used:Nat}:∀(c:List ChangeM) (k:Nat),(∀x∈c,zbu x=0)→∀x∈zfR from_ first used k c,∃t,x=some t∧zwq from_ first used (t.1,yg t.2)
  | [],k,_,x,h=>by simp[zfR] at h
  | y::c,k,hc,x,h=>by
    rw[zfR] at h;rcases List.mem_cons.1 h with rfl | h
    · refine ⟨_,rfl,used+k,by omega,Nat.add_assoc _ _ _,fun hs=>?_⟩;obtain ⟨t,ht⟩:=hs;rw[show first+(used+k)=first+used+k by omega,zhv (.inl rfl) (by have:=zjO (hc y (by simp));omega)] at ht;injection ht with ht;injection ht with ht;cases ht
    · exact zmP c (k+1) (fun x hx=>hc x (List.mem_cons_of_mem _ hx)) x h
theorem zpb {from_ many first used:Nat}{c:List ChangeM}(hc:∀x∈c,zbu x=0):∀x∈zih from_ many first used c,∃t,x=some t∧zwq from_ first used (t.1,yg t.2):=by
  intro x hx;unfold zih at hx;rcases List.mem_append.1 hx with hx | hx
  · exact zmP c 0 hc x hx
  · unfold zi9 at hx;split at hx
    · rw[List.mem_singleton] at hx;subst hx;exact ⟨_,rfl,used+c.length+1,by omega,rfl,fun hs=>by obtain ⟨t,ht⟩:=hs;rw[zcp] at ht;cases ht⟩
    · simp at hx
theorem zk5 {from_ first used:Nat}:∀(l:List Stp) (K:List Bytes),(∀x∈l,∃t,x=some t∧zwq from_ first used (t.1,yg t.2))→(∀j,j<used→zga (zaz K l) from_ j=zga K from_ j)∧(∀j,used≤j→zga (zaz K l) from_ j=zga K from_ j∨¬zke first j (zga (zaz K l) from_ j))
  | [],K,_=>⟨fun _ _=>rfl,fun _ _=> .inl rfl⟩
  | none::l,K,h=>by obtain ⟨t,h,_⟩:=h none (List.mem_cons_self ..);cases h
  | some y::l,K,h=>by
    obtain ⟨n,s⟩:=y;obtain ⟨t,et,j0,g1,g2,g3⟩:=h _ (List.mem_cons_self ..);injection et with et;subst et;simp only at g2 g3;have ih:=zk5 l (K.set n (yg s)) (fun x hx=>h x (List.mem_cons_of_mem _ hx));have hs:∀j,zga (K.set n (yg s)) from_ j=if n=from_+j∧n<K.length then yg s else zga K from_ j:=fun j=>yN
    refine ⟨fun j hj=>?_,fun j hj=>?_⟩
    · rw[zaz,ih.1 j hj,hs,if_neg (by omega)]
    · rw[zaz];rcases ih.2 j hj with e | e
      · rw[e,hs];split
        · rename_i hc;obtain rfl:j0=j:=(by omega);exact .inr g3
        · exact .inl rfl
      · exact .inr e
def calm (D:DiskM):Prop:=D.kept=D.now∧D.wait=[]∧D.down=false
theorem zbL {D:DiskM}(h:yU D=0):calm (yw D)∧(yw D).now=D.now:=by
  unfold yw;rw[if_pos h];exact ⟨⟨rfl,rfl,(zin h).2⟩,wC D⟩
theorem zqR {from_ many first used:Nat}{c:List ChangeM}{D:DiskM}{ds:Deeds}(hq:calm D)(hN:from_+many≤D.now.length)(hv:zgt many used c=0)(hs:zjz from_ many first D.now ds used){e:Int}{D':DiskM}(hr:we D (zfr from_ many first used c)=(e,D')):
    (e=0∧calm D'∧zjz from_ many first D'.now (ds++ [c]) (used+c.length+1))∨(e=9∧∀keep,∃u,zjz from_ many first (zao keep D') ds u∨zjz from_ many first (zao keep D') (ds++ [c]) u):=by
  obtain ⟨v1,v2,v3⟩:=zeo hv;have hok:=zjh (first:=first) hN hv;have hokL:∀x∈zih from_ many first used c,zco D.now.length x:=fun x hx=>hok x (by unfold zfr;exact List.mem_append_left _ hx)
  have htm:=zpb (from_:=from_) (many:=many) (first:=first) (used:=used) v3;cases hr1:we D (zih from_ many first used c) with
  | mk e1 D1=>
    obtain ⟨hc1,hk1,hw1,ho1⟩:=ziL _ D e1 D1 hokL htm (by rw[hq.2.1];intro t ht;cases ht) hq.2.2 hr1;have hs1:zjz from_ many first D1.kept ds used:=by rw[hk1,hq.1];exact hs
    have crash:∀D2:DiskM,D2.kept=D1.kept→D2.wait=D1.wait→∀keep,∃u,zjz from_ many first (zao keep D2) ds u∨zjz from_ many first (zao keep D2) (ds++ [c]) u:=fun D2 a b keep=>
      ⟨used, .inl (zkN keep (by rw[a];exact hs1) (by rw[b];exact hw1))⟩
    unfold zfr at hr;rw[zep,hr1] at hr;simp only at hr;by_cases he1:e1=0
    · rw[if_pos he1] at hr;obtain ⟨hnow,hdn⟩:=ho1 he1;by_cases h2:yU D1=0
      · rw[zdu h2] at hr;obtain ⟨hq2,hn2⟩:=zbL h2;generalize hD2:yw D1=D2 at*;have hl2:D2.now.length=D.now.length:=(by rw[hn2,hnow,zaD]);have hs2:zjz from_ many first D2.now ds used:=by
          rw[hn2,hnow];have:=zk5 _ D.now htm;exact zmJ hs this.1 (fun j a _=>this.2 j a)
        have hfin:zjz from_ many first (D2.now.set (from_+(used+c.length)) (yg (wF 99 (first+(used+c.length)) (qP c.length)))) (ds++ [c]) (used+c.length+1):=by
          have hg:∀m,(D2.now.set (from_+(used+c.length)) (yg (wF 99 (first+(used+c.length)) (qP c.length)))).getD m []=if from_+(used+c.length)=m∧from_+(used+c.length)<D2.now.length then yg (wF 99 (first+(used+c.length)) (qP c.length)) else D2.now.getD m []:=fun m=>yN
          have hn:D2.now=zaz (zaz D.now (zfR from_ first used 0 c)) (zi9 from_ many used c.length):=(by rw[hn2,hnow];unfold zih;rw[zbg]);have hb:∀m,m≠from_+(used+c.length+1)→D2.now.getD m []=(zaz D.now (zfR from_ first used 0 c)).getD m []:=fun m hm=>by
            rw[hn];unfold zi9;split
            · rw[zaz,zaz,yN,if_neg (by simp only;omega)]
            · rfl
          have hbl:used+c.length+1<many→D2.now.getD (from_+(used+c.length+1)) []=yg []:=fun hm=>by
            rw[hn];unfold zi9;rw[if_pos hm,zaz,zaz,yN,if_pos ⟨rfl,by simp only[zaD];omega⟩]
          refine ⟨?_,fun j h1 h2'=>?_⟩
          · refine znv hs.1 v3 (by omega) (by omega) (fun j hj=>?_) (fun k x hx=>?_) ?_ (fun hm=>?_)
            · show List.getD _ _ _=List.getD _ _ _;rw[hg,if_neg (by omega),hb _ (by omega),zeG _ _ _ _ (by omega)]
            · have hk:=(List.getElem?_eq_some_iff.1 hx).1;show List.getD _ _ _=_;rw[hg,if_neg (by omega),hb _ (by omega),show from_+(used+k)=from_+used+0+k by omega,zru c 0 _ k x (by omega) hx,show first+used+0+k=first+(used+k) by omega]
            · show List.getD _ _ _=_;rw[hg,if_pos ⟨rfl,by omega⟩]
            · show List.getD _ _ _=_;rw[hg,if_neg (by omega)];exact hbl hm
          · show ¬zke first j (List.getD _ _ _)
            rw[hg,if_neg (by omega)];exact hs2.2 j (by omega) h2'
        have hb3:¬zif D2 ((from_+(used+c.length):Nat):Int) (wF 99 (first+(used+c.length)) (qP c.length)):=(by unfold zif;rw[zjZ];simp only[qP,List.length_cons,List.length_nil];omega);unfold zkY at hr;by_cases h3:yU D2=0
        · have hwe:yO D2 ((from_+(used+c.length):Nat):Int) (wF 99 (first+(used+c.length)) (qP c.length))=0:=(by unfold yO;rw[if_neg hb3,h3]);rw[zfl hwe] at hr;have hwd:yv D2 ((from_+(used+c.length):Nat):Int) (wF 99 (first+(used+c.length)) (qP c.length))=wt (yY D2) ((from_+(used+c.length):Nat):Int) (wF 99 (first+(used+c.length)) (qP c.length)):=(by unfold yv;rw[if_neg hb3,if_pos h3]);rw[hwd] at hr;have hn3:(wt (yY D2) ((from_+(used+c.length):Nat):Int) (wF 99 (first+(used+c.length)) (qP c.length))).now=D2.now.set (from_+(used+c.length)) (yg (wF 99 (first+(used+c.length)) (qP c.length))):=by
            show (yY D2).now.set (((from_+(used+c.length):Nat):Int)).toNat _=_;rw[wC,Int.toNat_natCast]
          have hk3:(wt (yY D2) ((from_+(used+c.length):Nat):Int) (wF 99 (first+(used+c.length)) (qP c.length))).kept=D2.now:=(by rw[←hq2.1];exact yZ D2);have hw3:(wt (yY D2) ((from_+(used+c.length):Nat):Int) (wF 99 (first+(used+c.length)) (qP c.length))).wait=[(from_+(used+c.length),yg (wF 99 (first+(used+c.length)) (qP c.length)))]:=by
            show (yY D2).wait++ [((((from_+(used+c.length):Nat):Int)).toNat,_)]=_;rw[ws,hq2.2.1,Int.toNat_natCast]
            rfl
          generalize wt (yY D2) ((from_+(used+c.length):Nat):Int) (wF 99 (first+(used+c.length)) (qP c.length))=D3 at*;by_cases h4:yU D3=0
          · rw[zdu h4,zfp] at hr;injection hr with hr1 hr2;subst hr1 hr2;obtain ⟨hq4,hn4⟩:=zbL h4;exact .inl ⟨rfl,hq4,by rw[hn4,hn3];exact hfin⟩
          · rw[zcR h4] at hr;injection hr with hr1 hr2;subst hr1 hr2;right;have hst:yw D3=yY D3:=(by unfold yw;rw[if_neg h4]);refine ⟨by rcases zah D3 with h | h;exact absurd h h4;exact h,fun keep=>?_⟩;rw[hst];have hres:zao keep (yY D3)=D2.now∨zao keep (yY D3)=D2.now.set (from_+(used+c.length)) (yg (wF 99 (first+(used+c.length)) (qP c.length))):=by
              unfold zao;rw[ws,yZ,hk3,hw3];simp only[List.length_singleton,zbb,List.getElem?_cons_zero];split
              · exact .inr rfl
              · exact .inl rfl
            rcases hres with h | h
            · rw[h];exact ⟨_, .inl hs2⟩
            · rw[h];exact ⟨_, .inr hfin⟩
        · have hwe:yO D2 ((from_+(used+c.length):Nat):Int) (wF 99 (first+(used+c.length)) (qP c.length))=yU D2:=(by unfold yO;rw[if_neg hb3]);have hwd:yv D2 ((from_+(used+c.length):Nat):Int) (wF 99 (first+(used+c.length)) (qP c.length))=yY D2:=(by unfold yv;rw[if_neg hb3,if_neg h3]);rw[zdB (by rw[hwe];exact h3),hwe,hwd] at hr;injection hr with hr1 hr2;subst hr1 hr2;right;refine ⟨by rcases zah D2 with h | h;exact absurd h h3;exact h,fun keep=>⟨used, .inl ?_⟩⟩;exact zkN keep (by rw[yZ,hq2.1];exact hs2) (by rw[ws,hq2.2.1];intro t ht;cases ht)
      · rw[zcR h2] at hr;injection hr with hr1 hr2;subst hr1 hr2;have hst:yw D1=yY D1:=(by unfold yw;rw[if_neg h2]);rw[hst];exact .inr ⟨by rcases zah D1 with h | h;exact absurd h h2;exact h,crash _ (yZ D1) (ws D1)⟩
    · rw[if_neg he1] at hr;injection hr with hr1 hr2;subst hr1 hr2;exact .inr ⟨by rcases hc1 with h | h;exact absurd h he1;exact h,crash _ rfl rfl⟩
theorem wu8 (n:Nat):IntKind.u8.wrap (n:Int)=((n % 256:Nat):Int):=by
  show (n:Int) % 2 ^ 8=_;omega
theorem zky (n k:Nat):((n:Int)).fdiv (k:Int)=((n / k:Nat):Int):=by
  rw[Int.fdiv_eq_ediv_of_nonneg _ (by omega)];rfl
theorem ziE (n:Nat):[[By ((n % 256:Nat):Int)],[By ((n / 256 % 256:Nat):Int)],[By ((n / 65536 % 256:Nat):Int)],[By ((n / 16777216 % 256:Nat):Int)]]=qs (qP n):=by
  simp only[qs,qP,List.map_cons,List.map_nil,UInt8.toNat_ofNat']
theorem zeK (n:Nat):[[By ((n % 256:Nat):Int)],[By ((n / 256 % 256:Nat):Int)]]=qs [UInt8.ofNat n,UInt8.ofNat (n / 256)]:=by
  simp only[qs,List.map_cons,List.map_nil,UInt8.toNat_ofNat']
def lookV:Option (UInt8×Bytes)→Value
  | none=> .tuple #[By 0,Str [],Bo false]
  | some (k,t)=> .tuple #[By k.toNat,Str t,Bo true]
abbrev lgC (bd from_ many first next:Nat):Array Value:=#[ptr bd 0,I from_,I many,I first,I next]
theorem zhf {l:List Bytes}{i:Nat}(h:i<l.length):l[i]? =some (l.getD i []):=by rw[List.getD_eq_getElem?_getD,List.getElem?_eq_getElem h];rfl
theorem zfd {l:List Bytes}{i:Nat}(h:i<l.length)(hS:∀x∈l,x.length=80):(l.getD i []).length=80:=hS _ (List.mem_of_getElem? (zhf h))
theorem zxX (s:Bytes):skN s≤65535:=by unfold skN;have:=(sk s 5).toNat_lt;have:=(sk s 6).toNat_lt;omega
theorem zyI (s:Bytes)(i:Nat)(k:UInt8):((sk s i).toNat:Int)=(k.toNat:Int) ↔ sk s i=k:=by
  constructor
  · intro h;exact UInt8.toNat_inj.1 (by omega)
  · intro h;rw[h]
theorem zaf (n:Nat)(F:List HProp):Ct Tryz.prog 146 [I n] ([]++F) (R1 (Str (qP n)) F):=by
  show Ct Tryz.prog 146 [I n] (F) _;refine Ct.of func146 rR 16 ntmps146 (by simp) fun w0=>?_;refine gS (gA rR (qb (gS (gM rR (g_v (yT (r:=((n % 256:Nat):Int)) underlying3 underlying5 rR (wu8 _)) rR (gM rR (g_v (zd4 (r:=((n / 256:Nat):Int)) rR rR (by decide) (zky n 256)) rR (g_v (yT (r:=((n / 256 % 256:Nat):Int)) underlying3 underlying5 rR (wu8 _)) rR (gM rR (g_v (zd4 (r:=((n / 65536:Nat):Int)) rR rR (by decide) (zky n 65536)) rR (g_v (yT (r:=((n / 65536 % 256:Nat):Int)) underlying3 underlying5 rR (wu8 _)) rR (gM rR (g_v (zd4 (r:=((n / 16777216:Nat):Int)) rR rR (by decide) (zky n 16777216)) rR (g_v (yT (r:=((n / 16777216 % 256:Nat):Int)) underlying3 underlying5 rR (wu8 _)) rR ?_))))))))))))));refine g_l (qr (qs (qP n)) underlying199 sizeOf5 zeroValue5 rR rR (ziE n) (by simp[qs]) (by decide) (by decide)) rR ?_;rintro _ _ ⟨b14,rfl,rfl⟩;refine g_v (yM (l:=qP n) underlying199 underlying5 underlying9 rR rR rR) rR (gA rR (qb ?_));refine qm rR rR ?_;exact rfl
-- counterfoil/counterfoilref.four is not in this seat
theorem zhB (kind:UInt8)(n:Nat)(s:Bytes)(hs:s.length≤1000000)(F:List HProp):Ct Tryz.prog 181 [By kind.toNat,I n,Str s] ([]++F) (R1 (Str (wF kind n s)) F):=by
  show Ct Tryz.prog 181 [By kind.toNat,I n,Str s] (F) _;refine Ct.of func181 rR 25 ntmps181 (by simp) fun w0=>?_;refine gS (gA rR (qb (qf ?_)));refine zlG (Lf:=[]) (.q 0 (.q 3 (.q 6 (.q 7 (.q 8 (.q 9 (.q 10 (.q 11 (.q 12 (.q 16 (.alt (.l 1 (.c (.q 2 (.alt (.l 4 (.q 5 (.l 13 (.c (.q 14 (.q 15 (.q 17 (.q 18 (.nil))))))))) (.l 13 (.c (.q 14 (.l 4 (.q 5 (.q 15 (.q 17 (.q 18 (.nil))))))))))))) (.alt (.l 4 (.alt (.l 1 (.c (.q 2 (.q 5 (.l 13 (.c (.q 14 (.q 15 (.q 17 (.q 18 (.nil))))))))))) (.l 13 (.c (.q 14 (.l 1 (.c (.q 2 (.q 5 (.q 15 (.q 17 (.q 18 (.nil))))))))))))) (.l 13 (.c (.q 14 (.alt (.l 1 (.c (.q 2 (.l 4 (.q 5 (.q 15 (.q 17 (.q 18 (.nil))))))))) (.l 4 (.l 1 (.c (.q 2 (.q 5 (.q 15 (.q 17 (.q 18 (.nil))))))))))))))))))))))))) (by kernel_rfl) (by kernel_rfl) (by kernel_rfl) ?_;refine t_v rR (qn rR) rR ?_;refine t_v rR (qn rR) rR ?_;refine t_v rR (qn rR) rR ?_;refine t_v rR (wg underlying9 rR) rR ?_;refine t_v rR (yT (r:=((s.length % 256:Nat):Int)) underlying3 underlying5 rR (wu8 _)) rR ?_;refine t_v rR (qn rR) rR ?_;refine t_v rR (wg underlying9 rR) rR ?_;refine t_v rR (zd4 (r:=((s.length / 256:Nat):Int)) rR rR (by decide) (zky s.length 256)) rR ?_;refine t_v rR (yT (r:=((s.length / 256 % 256:Nat):Int)) underlying3 underlying5 rR (wu8 _)) rR ?_;refine t_v rR (qn rR) rR ?_;refine zh3 ?_ ?_
  · refine t_l rR (qr (qs ([kind])) underlying199 sizeOf5 zeroValue5 rR rR (rR) (by simp[qs]) (by decide) (by decide)) rR ?_;rintro _ _ ⟨b8,rfl,rfl⟩;refine zh4 ([owL 5 1 (some ⟨b8,0,none⟩) 1 (qs [kind])]) ?_;refine t_v rR (yM (l:=[kind]) underlying199 underlying5 underlying9 rR rR rR) rR ?_;refine zh3 ?_ ?_
    · refine t_l rR (qi (Pre:=[]) call146 rR (zaf n)) rR ?_;rintro _ _ ⟨rfl,rfl⟩;refine t_v rR (wO rR rR (by simp[qP] <;> omega)) rR ?_;refine t_l rR (qr (qs ([UInt8.ofNat s.length,UInt8.ofNat (s.length / 256)])) underlying199 sizeOf5 zeroValue5 rR rR (zeK s.length) (by simp[qs]) (by decide) (by decide)) rR ?_;rintro _ _ ⟨b20,rfl,rfl⟩;refine zh4 ([owL 5 1 (some ⟨b20,0,none⟩) 2 (qs [UInt8.ofNat s.length,UInt8.ofNat (s.length / 256)]),owL 5 1 (some ⟨b8,0,none⟩) 1 (qs [kind])]) ?_;refine t_v rR (yM (l:=[UInt8.ofNat s.length,UInt8.ofNat (s.length / 256)]) underlying199 underlying5 underlying9 rR rR rR) rR ?_;refine t_v rR (wO rR rR (by simp[qP])) rR ?_;refine t_v rR (wO rR rR (by simp[qP];omega)) rR ?_;refine t_v rR (qx rR) rR ?_;refine zfv ?_;refine qm rR rR ?_;exact rfl
    · refine t_l rR (qr (qs ([UInt8.ofNat s.length,UInt8.ofNat (s.length / 256)])) underlying199 sizeOf5 zeroValue5 rR rR (zeK s.length) (by simp[qs]) (by decide) (by decide)) rR ?_;rintro _ _ ⟨b20,rfl,rfl⟩;refine zh4 ([owL 5 1 (some ⟨b20,0,none⟩) 2 (qs [UInt8.ofNat s.length,UInt8.ofNat (s.length / 256)]),owL 5 1 (some ⟨b8,0,none⟩) 1 (qs [kind])]) ?_;refine t_v rR (yM (l:=[UInt8.ofNat s.length,UInt8.ofNat (s.length / 256)]) underlying199 underlying5 underlying9 rR rR rR) rR ?_;refine t_l rR (qi (Pre:=[]) call146 rR (zaf n)) rR ?_;rintro _ _ ⟨rfl,rfl⟩;refine t_v rR (wO rR rR (by simp[qP] <;> omega)) rR ?_;refine t_v rR (wO rR rR (by simp[qP])) rR ?_;refine t_v rR (wO rR rR (by simp[qP];omega)) rR ?_;refine t_v rR (qx rR) rR ?_;refine zfv ?_;refine qm rR rR ?_;exact rfl
  refine zh3 ?_ ?_
  · refine t_l rR (qi (Pre:=[]) call146 rR (zaf n)) rR ?_;rintro _ _ ⟨rfl,rfl⟩;refine zh3 ?_ ?_
    · refine t_l rR (qr (qs ([kind])) underlying199 sizeOf5 zeroValue5 rR rR (rR) (by simp[qs]) (by decide) (by decide)) rR ?_;rintro _ _ ⟨b8,rfl,rfl⟩;refine zh4 ([owL 5 1 (some ⟨b8,0,none⟩) 1 (qs [kind])]) ?_;refine t_v rR (yM (l:=[kind]) underlying199 underlying5 underlying9 rR rR rR) rR ?_;refine t_v rR (wO rR rR (by simp[qP] <;> omega)) rR ?_;refine t_l rR (qr (qs ([UInt8.ofNat s.length,UInt8.ofNat (s.length / 256)])) underlying199 sizeOf5 zeroValue5 rR rR (zeK s.length) (by simp[qs]) (by decide) (by decide)) rR ?_;rintro _ _ ⟨b20,rfl,rfl⟩;refine zh4 ([owL 5 1 (some ⟨b20,0,none⟩) 2 (qs [UInt8.ofNat s.length,UInt8.ofNat (s.length / 256)]),owL 5 1 (some ⟨b8,0,none⟩) 1 (qs [kind])]) ?_;refine t_v rR (yM (l:=[UInt8.ofNat s.length,UInt8.ofNat (s.length / 256)]) underlying199 underlying5 underlying9 rR rR rR) rR ?_;refine t_v rR (wO rR rR (by simp[qP])) rR ?_;refine t_v rR (wO rR rR (by simp[qP];omega)) rR ?_;refine t_v rR (qx rR) rR ?_;refine zfv ?_;refine qm rR rR ?_;exact rfl
    · refine t_l rR (qr (qs ([UInt8.ofNat s.length,UInt8.ofNat (s.length / 256)])) underlying199 sizeOf5 zeroValue5 rR rR (zeK s.length) (by simp[qs]) (by decide) (by decide)) rR ?_;rintro _ _ ⟨b20,rfl,rfl⟩;refine zh4 ([owL 5 1 (some ⟨b20,0,none⟩) 2 (qs [UInt8.ofNat s.length,UInt8.ofNat (s.length / 256)])]) ?_;refine t_v rR (yM (l:=[UInt8.ofNat s.length,UInt8.ofNat (s.length / 256)]) underlying199 underlying5 underlying9 rR rR rR) rR ?_;refine t_l rR (qr (qs ([kind])) underlying199 sizeOf5 zeroValue5 rR rR (rR) (by simp[qs]) (by decide) (by decide)) rR ?_;rintro _ _ ⟨b8,rfl,rfl⟩;refine zh4 ([owL 5 1 (some ⟨b8,0,none⟩) 1 (qs [kind]),owL 5 1 (some ⟨b20,0,none⟩) 2 (qs [UInt8.ofNat s.length,UInt8.ofNat (s.length / 256)])]) ?_;refine t_v rR (yM (l:=[kind]) underlying199 underlying5 underlying9 rR rR rR) rR ?_;refine t_v rR (wO rR rR (by simp[qP] <;> omega)) rR ?_;refine t_v rR (wO rR rR (by simp[qP])) rR ?_;refine t_v rR (wO rR rR (by simp[qP];omega)) rR ?_;refine t_v rR (qx rR) rR ?_;refine zfv ?_;refine qm rR rR ?_;exact rfl
  · refine t_l rR (qr (qs ([UInt8.ofNat s.length,UInt8.ofNat (s.length / 256)])) underlying199 sizeOf5 zeroValue5 rR rR (zeK s.length) (by simp[qs]) (by decide) (by decide)) rR ?_;rintro _ _ ⟨b20,rfl,rfl⟩;refine zh4 ([owL 5 1 (some ⟨b20,0,none⟩) 2 (qs [UInt8.ofNat s.length,UInt8.ofNat (s.length / 256)])]) ?_;refine t_v rR (yM (l:=[UInt8.ofNat s.length,UInt8.ofNat (s.length / 256)]) underlying199 underlying5 underlying9 rR rR rR) rR ?_;refine zh3 ?_ ?_
    · refine t_l rR (qr (qs ([kind])) underlying199 sizeOf5 zeroValue5 rR rR (rR) (by simp[qs]) (by decide) (by decide)) rR ?_;rintro _ _ ⟨b8,rfl,rfl⟩;refine zh4 ([owL 5 1 (some ⟨b8,0,none⟩) 1 (qs [kind]),owL 5 1 (some ⟨b20,0,none⟩) 2 (qs [UInt8.ofNat s.length,UInt8.ofNat (s.length / 256)])]) ?_;refine t_v rR (yM (l:=[kind]) underlying199 underlying5 underlying9 rR rR rR) rR ?_;refine t_l rR (qi (Pre:=[]) call146 rR (zaf n)) rR ?_;rintro _ _ ⟨rfl,rfl⟩;refine t_v rR (wO rR rR (by simp[qP] <;> omega)) rR ?_;refine t_v rR (wO rR rR (by simp[qP])) rR ?_;refine t_v rR (wO rR rR (by simp[qP];omega)) rR ?_;refine t_v rR (qx rR) rR ?_;refine zfv ?_;refine qm rR rR ?_;exact rfl
    · refine t_l rR (qi (Pre:=[]) call146 rR (zaf n)) rR ?_;rintro _ _ ⟨rfl,rfl⟩;refine t_l rR (qr (qs ([kind])) underlying199 sizeOf5 zeroValue5 rR rR (rR) (by simp[qs]) (by decide) (by decide)) rR ?_;rintro _ _ ⟨b8,rfl,rfl⟩;refine zh4 ([owL 5 1 (some ⟨b8,0,none⟩) 1 (qs [kind]),owL 5 1 (some ⟨b20,0,none⟩) 2 (qs [UInt8.ofNat s.length,UInt8.ofNat (s.length / 256)])]) ?_;refine t_v rR (yM (l:=[kind]) underlying199 underlying5 underlying9 rR rR rR) rR ?_;refine t_v rR (wO rR rR (by simp[qP] <;> omega)) rR ?_;refine t_v rR (wO rR rR (by simp[qP])) rR ?_;refine t_v rR (wO rR rR (by simp[qP];omega)) rR ?_;refine t_v rR (qx rR) rR ?_;refine zfv ?_;refine qm rR rR ?_;exact rfl
theorem zgT (bl bd from_ many first next:Nat)(hb:next≤many∧many≤1000000)(F:List HProp):Ct Tryz.prog 128 [ptr bl 0] ([pt bl (.cells (lgC bd from_ many first (next)) 222 (0,0))]++F) (R1 (I ((many - next:Nat):Int)) (pt bl (.cells (lgC bd from_ many first (next)) 222 (0,0))::F)):=by
  show Ct Tryz.prog 128 [ptr bl 0] (pt bl (.cells (lgC bd from_ many first (next)) 222 (0,0))::F) _;refine Ct.of func128 rR 12 ntmps128 (by simp) fun w0=>?_;refine gS (gA rR (qb (qf ?_)));refine wU [(0,false),(1,false),(2,false),(3,false),(4,false),(5,false),(6,false),(7,false),(8,false),(9,false)] (by kernel_rfl) (by kernel_rfl) rR (by kernel_rfl) ?_;refine dM rfl rfl rfl (d_v rfl (qc rfl) rfl (d_v rfl (qa 2 underlying222 rfl rfl sizeOf3 (by decide) rfl) rfl (d_v rfl (qe (v:=I many) isAgg3 rfl rfl) rfl (dM rfl rfl rfl (d_v rfl (qc rfl) rfl (d_v rfl (qa 4 underlying222 rfl rfl sizeOf3 (by decide) rfl) rfl (d_v rfl (qe (v:=I next) isAgg3 rfl rfl) rfl (d_v rfl (zch (r:=((many - next:Nat):Int)) rfl rfl (by rw[show (many:Int) - (next:Int)=((many - next:Nat):Int) by omega];exact w64 (by omega))) rfl (d_v rfl (qx rfl) rfl ?_)))))))));refine yb ?_;refine qm rR rR ?_;exact rfl
theorem zhU (bl bd from_ many first next:Nat)(hb:many≤1000000∧first≤1000000000000)(F:List HProp):Ct Tryz.prog 176 [ptr bl 0] ([pt bl (.cells (lgC bd from_ many first (next)) 222 (0,0))]++F) (R1 (I ((first+many:Nat):Int)) (pt bl (.cells (lgC bd from_ many first (next)) 222 (0,0))::F)):=by
  show Ct Tryz.prog 176 [ptr bl 0] (pt bl (.cells (lgC bd from_ many first (next)) 222 (0,0))::F) _;refine Ct.of func176 rR 12 ntmps176 (by simp) fun w0=>?_;refine gS (gA rR (qb (qf ?_)));refine wU [(0,false),(1,false),(2,false),(3,false),(4,false),(5,false),(6,false),(7,false),(8,false),(9,false)] (by kernel_rfl) (by kernel_rfl) rR (by kernel_rfl) ?_;refine dM rfl rfl rfl (d_v rfl (qc rfl) rfl (d_v rfl (qa 3 underlying222 rfl rfl sizeOf3 (by decide) rfl) rfl (d_v rfl (qe (v:=I first) isAgg3 rfl rfl) rfl (dM rfl rfl rfl (d_v rfl (qc rfl) rfl (d_v rfl (qa 2 underlying222 rfl rfl sizeOf3 (by decide) rfl) rfl (d_v rfl (qe (v:=I many) isAgg3 rfl rfl) rfl (d_v rfl (qu (r:=((first+many:Nat):Int)) rfl rfl (by rw[show (first:Int)+(many:Int)=((first+many:Nat):Int) by omega];exact w64 (by omega))) rfl (d_v rfl (qx rfl) rfl ?_)))))))));refine yb ?_;refine qm rR rR ?_;exact rfl
theorem zlR (bl bd from_ many first next:Nat)(D:DiskM)(i:Nat)(hi:i<many)(hdn:D.down=false)(hS:∀x∈D.now,x.length=80)(hfm:from_+many≤D.now.length)(hbd:D.now.length≤1000000∧first≤1000000000000)(F:List HProp):Ct Tryz.prog 145 [ptr bl 0,I i] ([pt bl (.cells (lgC bd from_ many first (next)) 222 (0,0)),dsk 140 142 bd (D)]++F) (R1 (lookV (zaP (first+i) (D.now.getD (from_+i) []))) (pt bl (.cells (lgC bd from_ many first (next)) 222 (0,0))::dsk 140 142 bd (D)::F)):=by
  show Ct Tryz.prog 145 [ptr bl 0,I i] (pt bl (.cells (lgC bd from_ many first (next)) 222 (0,0))::dsk 140 142 bd (D)::F) _;have hlt:from_+i<D.now.length:=(by omega);have hlen:=zfd hlt hS;have hrd:zhR D ((from_:Int)+(i:Int))=((D.now.getD (from_+i) []),0):=zgz hdn (by omega) (by rw[show ((from_:Int)+(i:Int)).toNat=from_+i by omega];exact zhf hlt);have hn5:=zxX (D.now.getD (from_+i) []);generalize D.now.getD (from_+i) []=sec at*;refine Ct.of func145 rR 64 ntmps145 (by simp) fun w0=>?_;refine gS (gA rR (gA rR (gA rR (qb (qf ?_)))));refine yx (Lf:=[pt bl (.cells (lgC bd from_ many first (next)) 222 (0,0))]) [(0,false),(1,false),(2,false),(3,false),(4,false),(5,false),(6,false),(7,false),(8,false),(9,false),(10,true),(11,false),(12,false),(13,false),(14,false),(15,false)] (by kernel_rfl) (by kernel_rfl) rfl (by kernel_rfl) ?_;refine dM rR rR rR (d_v rR (qc rR) rR (d_v rR (qa 0 underlying222 rR rR sizeOf25 (by decide) rR) rR (d_v rR (qe (v:=ptr bd 0) isAgg25 rR rR) rR (dM rR rR rR (d_v rR (qc rR) rR (d_v rR (qa 1 underlying222 rR rR sizeOf3 (by decide) rR) rR (d_v rR (qe (v:=I from_) isAgg3 rR rR) rR (dM rR rR rR (d_v rR (qu (r:=(from_:Int)+(i:Int)) rR rR (w64 (by omega))) rR ?_)))))))));refine d_l rR (qi (Pre:=[dsk 140 142 bd (D)]) call103 rR (zdg bd D ((from_:Int)+(i:Int)))) rR ?_;rintro _ _ ⟨rfl,rfl⟩;rw[hrd];refine dM rR rR rR (d_v rR (qd (v:=Str sec) rR rR) rR (d_v rR (qd (v:=yI 0) rR rR) rR (d_v rR (qx rR) rR (d_v rR (qx rR) rR ?_))));refine yb ?_;refine qf (qf ?_);refine yx (Lf:=[pt bl (.cells (lgC bd from_ many first (next)) 222 (0,0))]) [(0,false),(1,false),(2,false),(3,false),(4,false),(5,false),(6,false),(7,false),(8,false),(9,false),(10,false),(11,true),(12,false),(13,false),(14,false),(15,false),(16,false),(17,false),(18,false),(19,false),(20,false),(21,false),(22,false),(23,false)] (by kernel_rfl) (by kernel_rfl) rfl (by kernel_rfl) ?_;refine dM rfl rfl rfl (d_v rfl (yc underlying37 rfl) rfl (dM rfl rfl rfl (qR rfl rfl rfl (by simp) (qn rfl) rfl (qR rfl rfl rfl (by simp) (zag (l:=1) (h:=5) underlying9 rfl rfl rfl rfl rfl (by decide) (by omega)) rfl (qR rfl rfl rfl (by simp) (qn rfl) rfl (qR rfl rfl rfl (by simp) (qc rfl) rfl (qR rfl rfl rfl (by simp) (qa 3 underlying222 rfl rfl sizeOf3 (by decide) rfl) rfl (qR rfl rfl rfl (by simp) (qe (v:=I first) isAgg3 rfl rfl) rfl (qR rfl rfl rfl (by simp) (qn rfl) rfl (qR rfl rfl rfl (by simp) (qu (r:=((first+i:Nat):Int)) rfl rfl (by rw[show (first:Int)+(i:Int)=((first+i:Nat):Int) by omega];exact w64 (by omega))) rfl ?_))))))))));refine d_gl rfl rfl rfl (by simp) (qi (Pre:=[]) call146 rfl (zaf (first+i))) rfl ?_
  rintro _ _ ⟨rfl,rfl⟩;refine qR rR rR rR (by simp) (ziq rR rR) rR (d_v rR (zav rR rR) rR (dM rR rR rR ?_));by_cases hnum:(sec.take 5).drop 1=qP (first+i)
  · have hq:=decide_eq_true hnum;refine qR rR rR rR (by rw[hq];rfl) (qn rR) rR (qR rR rR rR (by rw[hq];rfl) (qX (r:=sk sec 0) 0 underlying9 rR rR rR (zeM (by omega))) rR (qR rR rR rR (by rw[hq];rfl) (zdt rR rR) rR (qR rR rR rR (by rw[hq];rfl) (qn rR) rR (zb0 rR rR rR (fun hg=>qn rR) rR rR (zb0 rR rR rR (fun hg=>qX (r:=sk sec 0) 0 underlying9 rR rR rR (zeM (by omega))) rR rR (zb0 rR rR rR (fun hg=>zdt rR rR) rR rR (qR rR rR rR (by rw[hq];rfl) (zaw rR rR) rR (d_v rR (zav rR rR) rR ?_))))))));refine yb ?_;refine qg rR (fun h47=>?_) (fun h47=>?_)
    · rw[hq] at h47;simp at h47;have hkk:¬(sk sec 0=111∨sk sec 0=99):=fun h=>(by rcases h with h | h <;> rw[h] at h47 <;> simp at h47);refine gS (gA rR (gA rR (gA rR (qb ?_))));rw[show zaP (first+i) sec=none by unfold zaP;rw[if_neg (fun h=>hkk h.2.1)]];exact qm rfl rfl rfl
    · rw[hq] at h47;simp at h47;have hkk:sk sec 0=111∨sk sec 0=99:=by
        by_cases h1:sk sec 0=111
        · exact .inl h1
        · right;have h2:=h47 (fun h=>h1 ((zyI _ _ 111).1 h));exact (zyI _ _ 99).1 h2
      refine qh (qf ?_);refine wU [(0,false),(1,false),(2,false),(3,false),(4,false),(5,false),(6,false),(7,false),(8,false)] (by kernel_rfl) (by kernel_rfl) rR (by kernel_rfl) ?_;refine dM rfl rfl rfl (d_v rfl (qX (r:=sk sec 5) 5 underlying9 rfl rfl rfl (zeM (by omega))) rfl (d_v rfl (yT (r:=((sk sec 5).toNat:Int)) underlying5 underlying3 rfl (w64 (by have:=(sk sec 5).toNat_lt;omega))) rfl (dM rfl rfl rfl (d_v rfl (qX (r:=sk sec 6) 6 underlying9 rfl rfl rfl (zeM (by omega))) rfl (d_v rfl (yT (r:=((sk sec 6).toNat:Int)) underlying5 underlying3 rfl (w64 (by have:=(sk sec 6).toNat_lt;omega))) rfl (d_v rfl (zdj rfl rfl (w64 (by have:=(sk sec 6).toNat_lt;omega))) rfl (d_v rfl (qu (r:=((skN sec:Nat):Int)) rfl rfl (by rw[show ((sk sec 5).toNat:Int)+256*((sk sec 6).toNat:Int)=((skN sec:Nat):Int) by unfold skN;omega];exact w64 (by omega))) rfl (d_v rfl (qx rfl) rfl ?_))))))));refine yb ?_;refine qf (gS (gM rR (g_v (yA rR rR) rR (qb ?_))));refine qg rR (fun h57=>?_) (fun h57=>?_)
      · simp at h57;refine gS (gA rR (gA rR (gA rR (qb ?_))));rw[show zaP (first+i) sec=none by unfold zaP;rw[if_neg (fun h=>by have:=h.2.2;omega)]];exact qm rfl rfl rfl
      · simp at h57;refine qh (qf ?_);refine wU [(0,false),(1,false),(2,false),(3,false),(4,false),(5,false),(6,false),(7,false),(8,false)] (by kernel_rfl) (by kernel_rfl) rR (by kernel_rfl) ?_;refine dM rfl rfl rfl (d_v rfl (qX (r:=sk sec 0) 0 underlying9 rfl rfl rfl (zeM (by omega))) rfl (dM rfl rfl rfl (dM rfl rfl rfl (d_v rfl (qu (r:=((7+skN sec:Nat):Int)) rfl rfl (by rw[show (7:Int)+((skN sec:Nat):Int)=((7+skN sec:Nat):Int) by omega];exact w64 (by omega))) rfl (d_v rfl (zag (l:=7) (h:=7+skN sec) underlying9 rfl rfl rfl rfl rfl (by omega) (by omega)) rfl (d_v rfl (qx rfl) rfl (d_v rfl (qx rfl) rfl (d_v rfl (qx rfl) rfl ?_))))))));refine yb ?_;rw[show zaP (first+i) sec=some (sk sec 0,(sec.take (7+skN sec)).drop 7) by unfold zaP;rw[if_pos ⟨hnum,hkk,by omega⟩]];exact qm rfl rfl rfl
  · have hq:=decide_eq_false hnum;refine qV rR rR rR (by rw[hq];rfl) rR (qV rR rR rR (by rw[hq];rfl) rR (qV rR rR rR (by rw[hq];rfl) rR (qV rR rR rR (by rw[hq];rfl) rR (qV rR rR rR rR rR (qV rR rR rR rR rR (qV rR rR rR rR rR (qV rR rR rR (by rw[hq];rfl) rR (d_v rR (zaN rR (by rw[hq];rfl) rR) rR ?_))))))));refine yb ?_;refine wN rR ?_;refine gS (gA rR (gA rR (gA rR (qb ?_))));rw[show zaP (first+i) sec=none by unfold zaP;rw[if_neg (fun h=>hnum h.1)]];exact qm rfl rfl rfl
theorem zom (bl bd from_ many first used:Nat)(c:List ChangeM)(s:Option Addr)(cap N i:Nat)(D:DiskM)(hok:okW N i D)(hN:N≤1000000∧i≤999000)(hb:many≤1000000∧first≤1000000000000∧from_≤1000000∧used≤many)(hc:∀x∈c,zbu x=0)(hlen:c.length≤72∧used+c.length+1≤many)(F:List HProp):Ct Tryz.prog 179 [ptr bl 0,sl s c.length cap] ([pt bl (.cells (lgC bd from_ many first (used)) 222 (0,0)),dsk 140 142 bd (D),roL 3 s (chR c)]++F) (R1 (yI (we D (zih from_ many first used c)).1) (pt bl (.cells (lgC bd from_ many first (used)) 222 (0,0))::dsk 140 142 bd ((we D (zih from_ many first used c)).2)::roL 3 s (chR c)::F)):=by
  show Ct Tryz.prog 179 [ptr bl 0,sl s c.length cap] (pt bl (.cells (lgC bd from_ many first (used)) 222 (0,0))::dsk 140 142 bd (D)::roL 3 s (chR c)::F) _;refine Ct.of func179 rR 85 ntmps179 (by simp) fun w0=>?_;refine gS (gA rR (qb (qf ?_)));refine yx (Lf:=[pt bl (.cells (lgC bd from_ many first (used)) 222 (0,0))]) [(0,false),(1,false),(2,false),(3,false),(4,false),(5,false),(6,false),(7,false),(8,false),(9,false)] (by kernel_rfl) (by kernel_rfl) rfl (by kernel_rfl) ?_;refine dM rfl rfl rfl (d_v rfl (qc rfl) rfl (d_v rfl (qa 1 underlying222 rfl rfl sizeOf3 (by decide) rfl) rfl (d_v rfl (qe (v:=I from_) isAgg3 rfl rfl) rfl (dM rfl rfl rfl (d_v rfl (qc rfl) rfl (d_v rfl (qa 4 underlying222 rfl rfl sizeOf3 (by decide) rfl) rfl (d_v rfl (qe (v:=I used) isAgg3 rfl rfl) rfl (d_v rfl (qu (r:=((from_+used:Nat):Int)) rfl rfl (by rw[show ((from_:Nat):Int)+((used:Nat):Int)=((from_+used:Nat):Int) by omega];exact w64 (by omega))) rfl (d_v rfl (qx rfl) rfl ?_)))))))));refine yb ?_;refine qf (gS (gM rR (g_v (yn underlying34 rR) rR (gM rR (qb (qk ?_))))));refine qF (α:=Nat×DiskM) (fun z=>z.1≤c.length∧okW N (i+z.1) z.2∧we D (zih from_ many first used c)=we z.2 (zfR from_ first used z.1 (c.drop z.1)++zi9 from_ many used c.length)) (fun z=>U [(0,ptr bl 0),(1,sl s c.length cap),(5,I ((from_+used:Nat):Int)),(20,sl s c.length cap),(21,I c.length),(22,I z.1)]) (fun z=>pt bl (.cells (lgC bd from_ many first (used)) 222 (0,0))::dsk 140 142 bd (z.2)::roL 3 s (chR c)::F) (fun z=>c.length - z.1) (0,D) ⟨by simp,hok,rfl⟩ [0,1,5,20,21,22] rfl rfl ?_;rintro ⟨k,D'⟩ ⟨hk,ok',hrun⟩;simp only[] at hk ok' hrun ⊢;have hfx:=ok'.2.2.1;have hwx:D'.wait.length≤1000000:=(by have:=ok'.2.2.2.2;omega);refine gS (g_v (qQ rR rR) rR (qb (qf ?_)));refine qg rR (fun h23=>?_) (fun h23=>?_)
  · simp at h23;have hkn:k<c.length:=(by omega);obtain ⟨x,hx⟩:∃x,c[k]? =some x:=⟨_,List.getElem?_eq_getElem hkn⟩;have hkr:k<(chR c).length:=(by rw[qK];exact hkn);have hx0:=hc x (List.mem_of_getElem? hx);have hrl:=zjO hx0;refine qh (qf (qk (gS (gM rR (g_v (qB k underlying34 sizeOf104 rR rR rR hkn hkr) rR (g_v (yd (row:=yo x) isAgg104 sizeOf104 rR (zaQ hx) rR) rR ?_))))));refine g_l (qy #[Str [],Str [],Bo false] zeroValue104) rR ?_;rintro _ _ ⟨b7,rfl,rfl⟩;refine gA rR ?_;refine ym (qq (cs:=#[Str [],Str [],Bo false]) (vs:=yo x) (yo x).toArray sizeOf104 rR rR rR rR (by decide) (qC rR)) ?_;rintro _ _ rfl;refine qb (gS (g_v (qG (vs:=yo (x)) isAgg104 sizeOf104 rR rR qO) rR ?_));refine g_l (qi (Pre:=[]) call203 rR (zkx x)) rR ?_;rintro _ _ ⟨rfl,rfl⟩;rw[show zuh x=(zj7 x,0) by unfold zuh;rw[if_pos hx0]];refine gM rR (g_v (qd (v:=Str (zj7 x)) rR rR) rR (g_v (qd (v:=yI 0) rR rR) rR (gA rR (gA rR (qb (qf (gS (gM rR (g_v (yc underlying37 rR) rR (qb ?_))))))))));refine qg rR (fun h33=>?_) (fun h33=>?_)
    · simp at h33
    · refine qh (qf ?_);refine yx (Lf:=[pt bl (.cells (lgC bd from_ many first (used)) 222 (0,0))]) [(0,false),(1,false),(2,false),(3,false),(4,false),(5,false),(6,false),(7,false),(8,false),(9,false),(10,false),(11,false),(12,false),(13,false),(14,false),(15,false),(16,false),(17,false),(18,false),(19,true),(20,true),(21,false)] (by kernel_rfl) (by kernel_rfl) rfl (by kernel_rfl) ?_;refine dM rfl rfl rfl (d_v rfl (qc rfl) rfl (d_v rfl (qa 0 underlying222 rfl rfl sizeOf25 (by decide) rfl) rfl (d_v rfl (qe (v:=ptr bd 0) isAgg25 rfl rfl) rfl (dM rfl rfl rfl (dM rfl rfl rfl (d_v rfl (qu (r:=((from_+used+k:Nat):Int)) rfl rfl (by rw[show ((from_+used:Nat):Int)+((k:Nat):Int)=((from_+used+k:Nat):Int) by omega];exact w64 (by omega))) rfl (dM rfl rfl rfl (d_v rfl (qc rfl) rfl (d_v rfl (qa 3 underlying222 rfl rfl sizeOf3 (by decide) rfl) rfl (d_v rfl (qe (v:=I first) isAgg3 rfl rfl) rfl (dM rfl rfl rfl (d_v rfl (qc rfl) rfl (d_v rfl (qa 4 underlying222 rfl rfl sizeOf3 (by decide) rfl) rfl (d_v rfl (qe (v:=I used) isAgg3 rfl rfl) rfl (d_v rfl (qu (r:=((first+used:Nat):Int)) rfl rfl (by rw[show ((first:Nat):Int)+((used:Nat):Int)=((first+used:Nat):Int) by omega];exact w64 (by omega))) rfl (dM rfl rfl rfl (d_v rfl (qu (r:=((first+used+k:Nat):Int)) rfl rfl (by rw[show ((first+used:Nat):Int)+((k:Nat):Int)=((first+used+k:Nat):Int) by omega];exact w64 (by omega))) rfl (dM rfl rfl rfl ?_))))))))))))))))));refine d_l rfl (qi (Pre:=[]) call181 rfl (zhB 111 (first+used+k) (zj7 x) (by omega))) rfl ?_;rintro _ _ ⟨rfl,rfl⟩;refine d_l rfl (qi (Pre:=[dsk 140 142 bd (D')]) call136 rfl (wv bd D' ((from_+used+k:Nat):Int) (wF 111 (first+used+k) (zj7 x)) hfx hwx)) rfl ?_;rintro _ _ ⟨rfl,rfl⟩;refine d_v rR (qx rR) rR ?_;refine yb ?_;refine gS (gM rR (g_v (yc underlying37 rR) rR (qb ?_)));refine qg rR (fun h57=>?_) (fun h57=>?_)
      · simp at h57;refine gS (gM rR (gA rR (qb ?_)));rw[hrun,zk7 hx,List.cons_append,zdB h57];dsimp only;exact qm rfl rfl rfl
      · simp at h57;refine qh (qH (qp (g_v (qu rR rR (w64 (by omega))) rR (gM rR (qb ?_)))));refine qo (k+1,yv D' ((from_+used+k:Nat):Int) (wF 111 (first+used+k) (zj7 x))) ⟨by simp;omega,?_,?_⟩ (by simp;omega) [0,1,5,20,21,22] rfl rfl
        · exact zkH ok' _ _
        · simp only[];rw[hrun,zk7 hx,List.cons_append,zcs (show stE D' (some (from_+used+k,wF 111 (first+used+k) (zj7 x)))=0 from h57)]
          rfl
  · simp at h23;obtain rfl:k=c.length:=(by omega);rw[List.drop_length,show zfR from_ first used c.length []=[] from rfl,List.nil_append] at hrun;refine qz rR ?_;refine qf (gS (gM rfl (g_v (qc rfl) rfl (g_v (qa 4 underlying222 rfl rfl sizeOf3 (by decide) rfl) rfl (g_v (qe (v:=I used) isAgg3 rfl rfl) rfl (gM rfl (g_v (yn underlying34 rfl) rfl (g_v (qu (r:=((used+c.length:Nat):Int)) rfl rfl (by rw[show ((used:Nat):Int)+((c.length:Nat):Int)=((used+c.length:Nat):Int) by omega];exact w64 (by omega))) rfl (g_v (qu (r:=((used+c.length+1:Nat):Int)) rfl rfl (by rw[show ((used+c.length:Nat):Int)+1=((used+c.length+1:Nat):Int) by omega];exact w64 (by omega))) rfl (gA rfl (qb (gS (gM rfl (gM rfl (g_v (qc rfl) rfl (g_v (qa 2 underlying222 rfl rfl sizeOf3 (by decide) rfl) rfl (g_v (qe (v:=I many) isAgg3 rfl rfl) rfl (g_v (qQ rfl rfl) rfl (qb ?_)))))))))))))))))));refine qg rR (fun h73=>?_) (fun h73=>?_)
    · simp at h73;refine qf ?_;refine yx (Lf:=[pt bl (.cells (lgC bd from_ many first (used)) 222 (0,0))]) [(0,false),(1,false),(2,false),(3,false),(4,false),(5,false),(6,false),(7,false),(8,false),(9,false),(10,true),(11,false)] (by kernel_rfl) (by kernel_rfl) rfl (by kernel_rfl) ?_;refine dM rfl rfl rfl (d_v rfl (qc rfl) rfl (d_v rfl (qa 0 underlying222 rfl rfl sizeOf25 (by decide) rfl) rfl (d_v rfl (qe (v:=ptr bd 0) isAgg25 rfl rfl) rfl (dM rfl rfl rfl (d_v rfl (qc rfl) rfl (d_v rfl (qa 1 underlying222 rfl rfl sizeOf3 (by decide) rfl) rfl (d_v rfl (qe (v:=I from_) isAgg3 rfl rfl) rfl (dM rfl rfl rfl (d_v rfl (qu (r:=((from_+(used+c.length+1):Nat):Int)) rfl rfl (by rw[show ((from_:Nat):Int)+((used+c.length+1:Nat):Int)=((from_+(used+c.length+1):Nat):Int) by omega];exact w64 (by omega))) rfl ?_)))))))));refine d_l rR (qi (Pre:=[dsk 140 142 bd (D')]) call136 rR (wv bd D' ((from_+(used+c.length+1):Nat):Int) [] hfx hwx)) rR ?_;rintro _ _ ⟨rfl,rfl⟩;refine d_v rR (qx rR) rR ?_;refine yb ?_;rw[hrun,show zi9 from_ many used c.length=[some (from_+(used+c.length+1),[])] by unfold zi9;rw[if_pos (by omega)]];by_cases h0:yO D' ((from_+(used+c.length+1):Nat):Int) []=0
      · rw[zfl h0,zfp];dsimp only;exact qm rfl rfl (congrArg yI h0)
      · rw[zdB h0];dsimp only;exact qm rfl rfl rfl
    · simp at h73;refine qh (gS (gA rR (qb ?_)));rw[hrun,show zi9 from_ many used c.length=[] by unfold zi9;rw[if_neg (by omega)],zfp];dsimp only;exact qm rfl rfl rfl
theorem zlL (b2 b3:Nat)(bl bd from_ many first used:Nat)(c:List ChangeM)(s:Option Addr)(cap N i:Nat)(D:DiskM)(hok:okW N i D)(hN:N≤1000000∧i≤999000)(hb:many≤1000000∧first≤1000000000000∧from_≤1000000∧used≤many)(hc:∀x∈c,zbu x=0)(hlen:c.length≤72∧used+c.length+1≤many)(F:List HProp):Ct Tryz.prog 178 [ptr b2 0,ptr b3 0] ([pt b2 (.cells #[ptr bl 0] 178 (0,0)),pt b3 (.cells #[sl s c.length cap] 34 (0,0)),pt bl (.cells (lgC bd from_ many first (used)) 222 (0,0)),dsk 140 142 bd (D),roL 3 s (chR c)]++F) (R1 (yI (we D (zih from_ many first used c)).1) (pt b2 (.cells #[ptr bl 0] 178 (0,0))::pt b3 (.cells #[sl s c.length cap] 34 (0,0))::pt bl (.cells (lgC bd from_ many first (used)) 222 (0,0))::dsk 140 142 bd ((we D (zih from_ many first used c)).2)::roL 3 s (chR c)::F)):=by
  show Ct Tryz.prog 178 [ptr b2 0,ptr b3 0] (pt b2 (.cells #[ptr bl 0] 178 (0,0))::pt b3 (.cells #[sl s c.length cap] 34 (0,0))::pt bl (.cells (lgC bd from_ many first (used)) 222 (0,0))::dsk 140 142 bd (D)::roL 3 s (chR c)::F) _;refine Ct.of func178 rR 6 ntmps178 (by simp) fun w0=>?_;refine gS (gA rR (qb (gS (g_v (qe (v:=ptr bl 0) isAgg178 rR rR) rR (g_v (qe (v:=sl s c.length cap) isAgg34 rR rR) rR ?_)))));refine g_l (qi (Pre:=[pt bl (.cells (lgC bd from_ many first (used)) 222 (0,0)),dsk 140 142 bd (D),roL 3 s (chR c)]) call179 rfl (zom bl bd from_ many first used c s cap N i D hok hN hb hc hlen)) rfl ?_;rintro _ _ ⟨rfl,rfl⟩;refine gA rR (qb ?_);refine qm rR rR ?_;exact rfl
theorem zl3 (b2 b8 b3:Nat)(bl bd from_ many first used:Nat)(c:List ChangeM)(s:Option Addr)(cap N i:Nat)(D:DiskM)(hok:okW N i D)(hN:N≤1000000∧i≤999000)(hb:many≤1000000∧first≤1000000000000∧from_≤1000000∧used≤many)(hlen:c.length≤72)(F:List HProp):Ct Tryz.prog 180 [ptr b2 0,ptr b8 0,ptr b3 0] ([pt b2 (.cells #[ptr bl 0] 178 (0,0)),pt b8 (.cells #[I ((used+c.length:Nat):Int)] 3 (0,0)),pt b3 (.cells #[sl s c.length cap] 34 (0,0)),pt bl (.cells (lgC bd from_ many first (used)) 222 (0,0)),dsk 140 142 bd (D),roL 3 s (chR c)]++F) (R1 (yI (stE D (zkY from_ first used c.length))) (pt b2 (.cells #[ptr bl 0] 178 (0,0))::pt b8 (.cells #[I ((used+c.length:Nat):Int)] 3 (0,0))::pt b3 (.cells #[sl s c.length cap] 34 (0,0))::pt bl (.cells (lgC bd from_ many first (used)) 222 (0,0))::dsk 140 142 bd (stD D (zkY from_ first used c.length))::roL 3 s (chR c)::F)):=by
  show Ct Tryz.prog 180 [ptr b2 0,ptr b8 0,ptr b3 0] (pt b2 (.cells #[ptr bl 0] 178 (0,0))::pt b8 (.cells #[I ((used+c.length:Nat):Int)] 3 (0,0))::pt b3 (.cells #[sl s c.length cap] 34 (0,0))::pt bl (.cells (lgC bd from_ many first (used)) 222 (0,0))::dsk 140 142 bd (D)::roL 3 s (chR c)::F) _;refine Ct.of func180 rR 25 ntmps180 (by simp) fun w0=>?_;refine gS (gA rR (qb (qf ?_)));refine yx (Lf:=[pt b2 (.cells #[ptr bl 0] 178 (0,0)),pt b8 (.cells #[I ((used+c.length:Nat):Int)] 3 (0,0)),pt b3 (.cells #[sl s c.length cap] 34 (0,0)),pt bl (.cells (lgC bd from_ many first (used)) 222 (0,0))]) [(0,false),(1,false),(2,false),(3,false),(4,false),(5,false),(6,false),(7,false),(8,false),(9,false),(10,false),(11,false),(12,false),(13,false),(14,false),(15,false),(16,false),(17,false),(18,true),(19,true),(20,true),(21,false)] (by kernel_rfl) (by kernel_rfl) rfl (by kernel_rfl) ?_;refine d_v rfl (qe (v:=ptr bl 0) isAgg178 rfl rfl) rfl (d_v rfl (qc rfl) rfl (d_v rfl (qa 0 underlying222 rfl rfl sizeOf25 (by decide) rfl) rfl (d_v rfl (qe (v:=ptr bd 0) isAgg25 rfl rfl) rfl (d_v rfl (qe (v:=ptr bl 0) isAgg178 rfl rfl) rfl (d_v rfl (qc rfl) rfl (d_v rfl (qa 1 underlying222 rfl rfl sizeOf3 (by decide) rfl) rfl (d_v rfl (qe (v:=I from_) isAgg3 rfl rfl) rfl (d_v rfl (qe (v:=I ((used+c.length:Nat):Int)) isAgg3 rfl rfl) rfl (d_v rfl (qu (r:=((from_+(used+c.length):Nat):Int)) rfl rfl (by rw[show ((from_:Nat):Int)+((used+c.length:Nat):Int)=((from_+(used+c.length):Nat):Int) by omega];exact w64 (by omega))) rfl (d_v rfl (qe (v:=ptr bl 0) isAgg178 rfl rfl) rfl (d_v rfl (qc rfl) rfl (d_v rfl (qa 3 underlying222 rfl rfl sizeOf3 (by decide) rfl) rfl (d_v rfl (qe (v:=I first) isAgg3 rfl rfl) rfl (d_v rfl (qe (v:=I ((used+c.length:Nat):Int)) isAgg3 rfl rfl) rfl (d_v rfl (qu (r:=((first+(used+c.length):Nat):Int)) rfl rfl (by rw[show ((first:Nat):Int)+((used+c.length:Nat):Int)=((first+(used+c.length):Nat):Int) by omega];exact w64 (by omega))) rfl (d_v rfl (qe (v:=sl s c.length cap) isAgg34 rfl rfl) rfl (d_v rfl (yn underlying34 rfl) rfl ?_)))))))))))))))));refine d_l rR (qi (Pre:=[]) call146 rR (zaf c.length)) rR ?_;rintro _ _ ⟨rfl,rfl⟩;refine d_l rfl (qi (Pre:=[]) call181 rfl (zhB 99 (first+(used+c.length)) (qP c.length) (by simp[qP]))) rfl ?_;rintro _ _ ⟨rfl,rfl⟩;refine d_l rfl (qi (Pre:=[dsk 140 142 bd (D)]) call136 rfl (wv bd D ((from_+(used+c.length):Nat):Int) (wF 99 (first+(used+c.length)) (qP c.length)) hok.2.2.1 (by have:=hok.2.2.2.2;omega))) rfl ?_;rintro _ _ ⟨rfl,rfl⟩;refine d_v rR (qx rR) rR ?_;refine yb ?_;show G _ _ _ (dsk 140 142 bd (stD D (zkY from_ first used c.length))::_);exact qm rfl rfl rfl
theorem zoo (bl bd from_ many first used:Nat)(c:List ChangeM)(s:Option Addr)(cap N i:Nat)(D:DiskM)(hok:okW N i D)(hN:N≤1000000∧i≤998000)(hb:many≤1000000∧first≤1000000000000∧from_≤1000000∧used≤many)(hl:c.length≤9223372036854775807)(F:List HProp):Ct Tryz.prog 130 [ptr bl 0,sl s c.length cap] ([pt bl (.cells (lgC bd from_ many first (used)) 222 (0,0)),dsk 140 142 bd (D),roL 3 s (chR c)]++F) (R1 (yI (zhP from_ many first used c D)) (pt bl (.cells (lgC bd from_ many first (zhl from_ many first used c D)) 222 (0,0))::dsk 140 142 bd (zdy from_ many first used c D)::roL 3 s (chR c)::F)):=by
  show Ct Tryz.prog 130 [ptr bl 0,sl s c.length cap] (pt bl (.cells (lgC bd from_ many first (used)) 222 (0,0))::dsk 140 142 bd (D)::roL 3 s (chR c)::F) _;refine Ct.of func130 rR 71 ntmps130 (by simp) fun w0=>?_;refine gS ?_;refine g_l (wM #[ptr bl 0] rfl rR) rR ?_;rintro _ _ ⟨b2,rfl,rfl⟩;refine g_l (wM #[sl s c.length cap] rfl rR) rR ?_;rintro _ _ ⟨b3,rfl,rfl⟩;refine gA rR (qb (qf (gS (g_v (qe (v:=sl s c.length cap) isAgg34 rR rR) rR (g_v (yn underlying34 rR) rR (g_v (yA rR rR) rR (qb ?_)))))));refine qg rR (fun h14=>?_) (fun h14=>?_)
  · simp at h14;have hv:zgt many used c=2:=(by unfold zgt;rw[if_pos (by omega)]);refine gS (g_v (qA underlying108 rR rR) rR (gA rR (qb ?_)));obtain ⟨ae,ad,au⟩:=zj3 (from_:=from_) (first:=first) (D:=D) hv (by decide);rw[ae,ad,au];exact qm rfl rfl rfl
  · simp at h14;have hlen:c.length≤72:=(by omega);refine qh (qf (qf ?_));refine yx (Lf:=[pt b2 (.cells #[ptr bl 0] 178 (0,0)),pt b3 (.cells #[sl s c.length cap] 34 (0,0))]) [(0,false),(1,false),(2,false),(3,false),(4,true),(5,false)] (by kernel_rfl) (by kernel_rfl) rR (by kernel_rfl) ?_;refine d_v rfl (qe (v:=sl s c.length cap) isAgg34 rfl rfl) rfl (d_v rfl (yn underlying34 rfl) rfl (d_v rfl (qu (r:=((c.length+1:Nat):Int)) rfl rfl (by rw[show (c.length:Int)+1=((c.length+1:Nat):Int) by omega];exact w64 (by omega))) rfl (d_v rfl (qe (v:=ptr bl 0) isAgg178 rfl rfl) rfl ?_)));refine d_l rfl (qi (Pre:=[pt bl (.cells (lgC bd from_ many first (used)) 222 (0,0))]) call128 rfl (zgT bl bd from_ many first used ⟨hb.2.2.2,hb.1⟩)) rfl ?_;rintro _ _ ⟨rfl,rfl⟩;refine d_v rR (yA rR rR) rR ?_;refine yb ?_;refine qg rR (fun h21=>?_) (fun h21=>?_)
    · simp at h21;have hv:zgt many used c=8:=(by unfold zgt;rw[if_neg (by omega),if_pos (by omega)]);refine gS (g_v (qA underlying108 rR rR) rR (gA rR (qb ?_)));obtain ⟨ae,ad,au⟩:=zj3 (from_:=from_) (first:=first) (D:=D) hv (by decide);rw[ae,ad,au];exact qm rfl rfl rfl
    · simp at h21;have hroom:c.length+1≤many - used:=(by omega);have hv0:=zlJ hlen hroom;refine qh (qf (gS (g_v (qe (v:=sl s c.length cap) isAgg34 rR rR) rR (g_v (yn underlying34 rR) rR (gM rR (qb (qk ?_)))))));refine qF (α:=Nat) (fun k=>k≤c.length∧zej c=zej (c.drop k)) (fun k=>U [(2,ptr b2 0),(3,ptr b3 0),(23,sl s c.length cap),(24,I c.length),(25,I k)]) (fun k=>pt b2 (.cells #[ptr bl 0] 178 (0,0))::pt b3 (.cells #[sl s c.length cap] 34 (0,0))::pt bl (.cells (lgC bd from_ many first (used)) 222 (0,0))::dsk 140 142 bd (D)::roL 3 s (chR c)::F) (fun k=>c.length - k) 0 ⟨by simp,rfl⟩ [2,3,23,24,25] rfl rfl ?_;rintro k ⟨hk,hflt⟩;refine gS (g_v (qQ rR rR) rR (qb (qf ?_)));refine qg rR (fun h26=>?_) (fun h26=>?_)
      · simp at h26;have hkn:k<c.length:=(by omega);obtain ⟨x,hx⟩:∃x,c[k]? =some x:=⟨_,List.getElem?_eq_getElem hkn⟩;have hkr:k<(chR c).length:=(by rw[qK];exact hkn);refine qh (qf (qk (gS (g_v (qB k underlying34 sizeOf104 rR rR rR hkn hkr) rR (g_v (yd (row:=yo x) isAgg104 sizeOf104 rR (zaQ hx) rR) rR ?_)))));refine g_l (qy #[Str [],Str [],Bo false] zeroValue104) rR ?_;rintro _ _ ⟨b6,rfl,rfl⟩;refine ym (qq (cs:=#[Str [],Str [],Bo false]) (vs:=yo x) (yo x).toArray sizeOf104 rR rR rR rR (by decide) (qC rR)) ?_;rintro _ _ rfl;refine qb (gS (g_v (qG (vs:=yo (x)) isAgg104 sizeOf104 rR rR qO) rR ?_));refine g_l (qi (Pre:=[]) call127 rR (zbs x)) rR ?_;rintro _ _ ⟨rfl,rfl⟩;refine gA rR (qb (gS (gM rR (g_v (yc underlying37 rR) rR (qb ?_)))));refine qg rR (fun h32=>?_) (fun h32=>?_)
        · simp at h32;rw[zjM hx,if_neg h32] at hflt;rw[hflt] at hv0;refine gS (gM rR (gA rR (qb ?_)));obtain ⟨ae,ad,au⟩:=zj3 (from_:=from_) (first:=first) (D:=D) hv0 h32;rw[ae,ad,au];exact qm rfl rfl rfl
        · simp at h32;refine qh (qH (qp (g_v (qu rR rR (w64 (by omega))) rR (gM rR (qb ?_)))));exact qo (k+1) ⟨by omega,by rw[hflt,zjM hx,if_pos h32]⟩ (by omega) [2,3,23,24,25] rfl rfl
      · simp at h26;obtain rfl:k=c.length:=(by omega);rw[List.drop_length,show zej []=0 from rfl] at hflt;rw[hflt] at hv0;have hc:=zlV hflt;refine qz rR ?_;refine qf ?_;refine zcM (Lf:=[pt b2 (.cells #[ptr bl 0] 178 (0,0)),pt b3 (.cells #[sl s c.length cap] 34 (0,0)),pt bl (.cells (lgC bd from_ many first (used)) 222 (0,0))]) [(0,false),(1,false),(2,false),(3,false),(4,false),(5,false),(6,false),(7,true)] 8 rfl (by kernel_rfl) (by kernel_rfl) rfl (by kernel_rfl) (by kernel_rfl) ?_;refine d_v rfl (qe (v:=ptr bl 0) isAgg178 rfl rfl) rfl (d_v rfl (qc rfl) rfl (d_v rfl (qa 4 underlying222 rfl rfl sizeOf3 (by decide) rfl) rfl (d_v rfl (qe (v:=I used) isAgg3 rfl rfl) rfl (d_v rfl (qe (v:=sl s c.length cap) isAgg34 rfl rfl) rfl (d_v rfl (yn underlying34 rfl) rfl (d_v rfl (qu (r:=((used+c.length:Nat):Int)) rfl rfl (by rw[show ((used:Nat):Int)+((c.length:Nat):Int)=((used+c.length:Nat):Int) by omega];exact w64 (by omega))) rfl ?_))))));refine d_l rR (zeN (I 0) zeroValue3 rR) rR ?_;rintro _ _ ⟨b8,rfl,rfl⟩;refine yb ?_;refine ym (qI #[I ((used+c.length:Nat):Int)] sizeOf3 rR rR rR (by simp) rR) ?_;rintro _ _ rfl;refine qb (qf (qf ?_));refine yx (Lf:=[pt b2 (.cells #[ptr bl 0] 178 (0,0)),pt b3 (.cells #[sl s c.length cap] 34 (0,0)),pt bl (.cells (lgC bd from_ many first (used)) 222 (0,0))]) [(0,false),(1,false),(2,false),(3,false),(4,false),(5,false),(6,false),(7,false),(8,false),(9,false),(10,false),(11,false),(14,false),(12,true),(13,false)] (by kernel_rfl) (by kernel_rfl) rfl (by kernel_rfl) ?_;refine d_v rR (wS rR rR) rR (d_v rR (qe (v:=ptr bl 0) isAgg178 rR rR) rR (d_v rR (qc rR) rR (d_v rR (qa 0 underlying222 rR rR sizeOf25 (by decide) rR) rR (d_v rR (qe (v:=ptr bd 0) isAgg25 rR rR) rR (d_v rR (wS rR rR) rR (d_v rR (wS rR rR) rR (d_v rR (qe (v:=ptr bl 0) isAgg178 rR rR) rR (d_v rR (qc rR) rR (d_v rR (qa 0 underlying222 rR rR sizeOf25 (by decide) rR) rR (d_v rR (qe (v:=ptr bd 0) isAgg25 rR rR) rR (d_v rR (wS rR rR) rR (dM rR rR rR ?_))))))))))));refine d_l rR (qr [[.func (.func 178) #[] #[ptr b2 0,ptr b3 0]],[.func (.func 137) #[ptr bd 0] #[]],[.func (.func 180) #[] #[ptr b2 0,ptr b8 0,ptr b3 0]],[.func (.func 137) #[ptr bd 0] #[]]] underlying257 sizeOf175 zeroValue175 rR rR rR (by simp) (by decide) (by decide)) rR ?_;rintro _ _ ⟨b54,rfl,rfl⟩;refine d_v rR (yn underlying257 rR) rR ?_;refine yb ?_;refine qk ?_;refine qF (α:=Nat×DiskM) (fun z=>z.1≤4∧okW N (i+100*z.1) z.2∧we D (zfr from_ many first used c)=we z.2 (zct from_ many first used c z.1)) (fun z=>U [(2,ptr b2 0),(3,ptr b3 0),(8,ptr b8 0),(54,sl (some ⟨b54,0,none⟩) 4 4),(55,I 4),(56,I z.1)]) (fun z=>pt b2 (.cells #[ptr bl 0] 178 (0,0))::pt b3 (.cells #[sl s c.length cap] 34 (0,0))::pt b8 (.cells #[I ((used+c.length:Nat):Int)] 3 (0,0))::pt bl (.cells (lgC bd from_ many first (used)) 222 (0,0))::dsk 140 142 bd (z.2)::roL 3 s (chR c)::owL 175 1 (some ⟨b54,0,none⟩) 4 [[.func (.func 178) #[] #[ptr b2 0,ptr b3 0]],[.func (.func 137) #[ptr bd 0] #[]],[.func (.func 180) #[] #[ptr b2 0,ptr b8 0,ptr b3 0]],[.func (.func 137) #[ptr bd 0] #[]]]::F) (fun z=>4 - z.1) (0,D) ⟨by simp,hok,rfl⟩ [2,3,8,54,55,56] rfl rfl ?_
        rintro ⟨k,D'⟩ ⟨hk,ok',hrun⟩;simp only[] at hk ok' hrun ⊢;refine gS (g_v (qQ rR rR) rR (qb (qf ?_)));refine qg rR (fun h57=>?_) (fun h57=>?_)
        · simp at h57;refine qh (qf (qk (gS ?_)));rcases (by omega:k=0∨k=1∨k=2∨k=3) with rfl | rfl | rfl | rfl
          · refine g_v (qB 0 underlying257 sizeOf175 rR rR rR (by decide) (by simp)) rR (g_v (yi (v:= .func (.func 178) #[] #[ptr b2 0,ptr b3 0]) isAgg175 rR rR rR) rR (gA rR (qb (gS (gM rR ?_)))));refine g_l (zax (fi:=[]) (cap:=[ptr b2 0,ptr b3 0]) (Pre:=[pt b2 (.cells #[ptr bl 0] 178 (0,0)),pt b3 (.cells #[sl s c.length cap] 34 (0,0)),pt bl (.cells (lgC bd from_ many first (used)) 222 (0,0)),dsk 140 142 bd (D'),roL 3 s (chR c)]) call178 rfl rfl (zlL b2 b3 bl bd from_ many first used c s cap N (i+100*0) D' ok' ⟨hN.1,by omega⟩ hb hc ⟨hlen,by omega⟩)) rfl ?_;rintro _ _ ⟨rfl,rfl⟩;refine gA rR (qb (gS (gM rR (g_v (yc underlying37 rR) rR (qb ?_)))));refine qg rR (fun h63=>?_) (fun h63=>?_)
            · simp at h63;rw[show zct from_ many first used c 0=zih from_ many first used c++ [none,zkY from_ first used c.length,none] from rfl,zep,if_neg h63] at hrun;obtain ⟨ae,ad,au⟩:=zgr hv0 hrun h63;rw[ae,ad,au];refine gS (gM rR (gA rR (qb ?_)));exact qm rfl rfl rfl
            · simp at h63;have hnext:we D (zfr from_ many first used c)=we (we D' (zih from_ many first used c)).2 (zct from_ many first used c 1):=(by rw[hrun,show zct from_ many first used c 0=zih from_ many first used c++ [none,zkY from_ first used c.length,none] from rfl,zep,if_pos h63];rfl);have hll:=znV from_ many first used c
              refine qh (qH (qp (g_v (qu rR rR (w64 (by omega))) rR (gM rR (qb ?_)))));exact qo (1,(we D' (zih from_ many first used c)).2) ⟨by simp,za3 (za7 _ _ _ ok') (by simp only[];omega),hnext⟩ (by simp) [2,3,8,54,55,56] rfl rfl
          · refine g_v (qB 1 underlying257 sizeOf175 rR rR rR (by decide) (by simp)) rR (g_v (yi (v:= .func (.func 137) #[ptr bd 0] #[]) isAgg175 rR rR rR) rR (gA rR (qb (gS (gM rR ?_)))));refine g_l (zax (fi:=[ptr bd 0]) (cap:=[]) (Pre:=[dsk 140 142 bd (D')]) call137 rR rR (zas bd D' ok'.2.2.1 (by rw[ok'.1,ok'.2.1]) (by rw[ok'.2.1];omega))) rR ?_;rintro _ _ ⟨rfl,rfl⟩;refine gA rR (qb (gS (gM rR (g_v (yc underlying37 rR) rR (qb ?_)))));refine qg rR (fun h63=>?_) (fun h63=>?_)
            · simp at h63;rw[show zct from_ many first used c 1=none::zct from_ many first used c 2 from rfl,zcR h63] at hrun;obtain ⟨ae,ad,au⟩:=zgr hv0 hrun h63;rw[ae,ad,au];refine gS (gM rR (gA rR (qb ?_)));exact qm rfl rfl rfl
            · simp at h63;have hnext:we D (zfr from_ many first used c)=we (yw D') (zct from_ many first used c 2):=(by rw[hrun,show zct from_ many first used c 1=none::zct from_ many first used c 2 from rfl,zdu h63]);refine qh (qH (qp (g_v (qu rR rR (w64 (by omega))) rR (gM rR (qb ?_)))));exact qo (2,yw D') ⟨by simp,za3 (ze1 ok') (by simp),hnext⟩ (by simp) [2,3,8,54,55,56] rfl rfl
          · refine g_v (qB 2 underlying257 sizeOf175 rR rR rR (by decide) (by simp)) rR (g_v (yi (v:= .func (.func 180) #[] #[ptr b2 0,ptr b8 0,ptr b3 0]) isAgg175 rR rR rR) rR (gA rR (qb (gS (gM rR ?_)))));refine g_l (zax (fi:=[]) (cap:=[ptr b2 0,ptr b8 0,ptr b3 0]) (Pre:=[pt b2 (.cells #[ptr bl 0] 178 (0,0)),pt b8 (.cells #[I ((used+c.length:Nat):Int)] 3 (0,0)),pt b3 (.cells #[sl s c.length cap] 34 (0,0)),pt bl (.cells (lgC bd from_ many first (used)) 222 (0,0)),dsk 140 142 bd (D'),roL 3 s (chR c)]) call180 rfl rfl (zl3 b2 b8 b3 bl bd from_ many first used c s cap N (i+100*2) D' ok' ⟨hN.1,by omega⟩ hb hlen)) rfl ?_;rintro _ _ ⟨rfl,rfl⟩;refine gA rR (qb (gS (gM rR (g_v (yc underlying37 rR) rR (qb ?_)))));refine qg rR (fun h63=>?_) (fun h63=>?_)
            · simp at h63;rw[show zct from_ many first used c 2=zkY from_ first used c.length::zct from_ many first used c 3 from rfl,zbv h63] at hrun;obtain ⟨ae,ad,au⟩:=zgr hv0 hrun h63;rw[ae,ad,au];refine gS (gM rR (gA rR (qb ?_)));exact qm rfl rfl rfl
            · simp at h63;have hnext:we D (zfr from_ many first used c)=we (stD D' (zkY from_ first used c.length)) (zct from_ many first used c 3):=(by rw[hrun,show zct from_ many first used c 2=zkY from_ first used c.length::zct from_ many first used c 3 from rfl,zcs h63]);refine qh (qH (qp (g_v (qu rR rR (w64 (by omega))) rR (gM rR (qb ?_)))));exact qo (3,stD D' (zkY from_ first used c.length)) ⟨by simp,za3 (zqs ok' _) (by simp),hnext⟩ (by simp) [2,3,8,54,55,56] rfl rfl
          · refine g_v (qB 3 underlying257 sizeOf175 rR rR rR (by decide) (by simp)) rR (g_v (yi (v:= .func (.func 137) #[ptr bd 0] #[]) isAgg175 rR rR rR) rR (gA rR (qb (gS (gM rR ?_)))));refine g_l (zax (fi:=[ptr bd 0]) (cap:=[]) (Pre:=[dsk 140 142 bd (D')]) call137 rR rR (zas bd D' ok'.2.2.1 (by rw[ok'.1,ok'.2.1]) (by rw[ok'.2.1];omega))) rR ?_;rintro _ _ ⟨rfl,rfl⟩;refine gA rR (qb (gS (gM rR (g_v (yc underlying37 rR) rR (qb ?_)))));refine qg rR (fun h63=>?_) (fun h63=>?_)
            · simp at h63;rw[show zct from_ many first used c 3=none::zct from_ many first used c 4 from rfl,zcR h63] at hrun;obtain ⟨ae,ad,au⟩:=zgr hv0 hrun h63;rw[ae,ad,au];refine gS (gM rR (gA rR (qb ?_)));exact qm rfl rfl rfl
            · simp at h63;have hnext:we D (zfr from_ many first used c)=we (yw D') (zct from_ many first used c 4):=(by rw[hrun,show zct from_ many first used c 3=none::zct from_ many first used c 4 from rfl,zdu h63]);refine qh (qH (qp (g_v (qu rR rR (w64 (by omega))) rR (gM rR (qb ?_)))));exact qo (4,yw D') ⟨by simp,za3 (ze1 ok') (by simp),hnext⟩ (by simp) [2,3,8,54,55,56] rfl rfl
        · simp at h57;obtain rfl:k=4:=(by omega);rw[show zct from_ many first used c 4=[] from rfl,zfp] at hrun;obtain ⟨ae,ad,au⟩:=zuW hv0 hrun;rw[ae,ad,au];refine qz rR ?_;refine gS (g_v (qe (v:=ptr bl 0) isAgg178 rfl rfl) rfl (g_v (qe (v:=I ((used+c.length:Nat):Int)) isAgg3 rfl rfl) rfl (g_v (qu (r:=((used+c.length+1:Nat):Int)) rfl rfl (by rw[show ((used+c.length:Nat):Int)+1=((used+c.length+1:Nat):Int) by omega];exact w64 (by omega))) rfl (g_v (qc rfl) rfl (g_v (qa 4 underlying222 rfl rfl sizeOf3 (by decide) rfl) rfl ?_)))));refine ym (qI (lgC bd from_ many first (used+c.length+1)) sizeOf3 rfl rfl rfl (by simp) rfl) ?_;rintro _ _ rfl;refine qb (gS (gA rR (qb ?_)));exact qm rfl rfl rfl
def zq7 (D:DiskM)(from_ many first:Int):Prop:=from_<0∨many<1∨(D.now.length:Int)<many∨(D.now.length:Int) - many<from_∨first<1
instance (D:DiskM)(from_ many first:Int):Decidable (zq7 D from_ many first):=by unfold zq7;infer_instance
def zje (D:DiskM)(from_:Nat)(i:Nat):Bytes:=D.now.getD (from_+i) []
abbrev LogG:=List (List ChangeM×LocA)
def ROpen (T TT TL TC bd:Nat)(D:DiskM)(from_ many first:Int)(F:List HProp):Value→List HProp→Prop:=fun v L'=>
  (zq7 D from_ many first∧v= .tuple #[.pointer none,sl none 0 0,yI 1]∧L'=dsk T TT bd D::F)∨
  (¬zq7 D from_ many first∧D.down=true∧v= .tuple #[.pointer none,sl none 0 0,yI 9]∧L'=dsk T TT bd D::F)∨
  (¬zq7 D from_ many first∧D.down=false∧∃(bl:Nat) (gl:LogG) (so:Option Addr) (co used:Nat),v= .tuple #[ptr bl 0,sl so gl.length co,yI 0]∧used≤many.toNat∧gl.length≤many.toNat∧
    wb first.toNat (zje D from_.toNat) many.toNat 0 [] [] 0=(gl.map (·.1),used)∧
    L'=pt bl (.cells (lgC bd from_.toNat many.toNat first.toNat used) TL (0,0))::owL TC 1 so co (dR gl)::zlw gl::dsk T TT bd D::F)
section
variable {c:Cx}{E:Env}{L:List HProp}{K:List KI}
theorem ql {vs:List Value}(L1:List HProp)(hr:zbl E c.fn.results.toList=some vs)(hp:c.R (tup vs) L1)[S:Sub L L1](hds:c.n.ds=[]:=by rfl):G c (.code .ret::K) E L:=
  fun a w hE hS=>wp_ret (yf (qw (hds:=hds) hr hE (S.sat hS) hp))
end
theorem zor {num:Nat}{s:Bytes}{k:UInt8}{t:Bytes}(h:zaP num s=some (k,t)):t.length≤s.length∧(k=111∨k=99):=by
  unfold zaP at h;split at h
  · rename_i hc;injection h with h;injection h with h1 h2;subst h1 h2;exact ⟨by simp only[List.length_drop,List.length_take];omega,hc.2.1⟩
  · cases h
theorem u99 {k:UInt8}:((k.toNat:Int)=99) ↔ k=99:=⟨fun h=>UInt8.toNat_inj.1 (by rw[show (99:UInt8).toNat=99 from rfl];omega),fun h=>by rw[h];rfl⟩
theorem zgM {first:Nat}{sec:Nat→Bytes}{f i used:Nat}{out:Deeds}{deed:List ChangeM}(h:zaP (first+i) (sec i)=none):wb first sec (f+1) i out deed used=(out,used):=by rw[zcT,h]
theorem zro {first:Nat}{sec:Nat→Bytes}{f i used:Nat}{out:Deeds}{deed:List ChangeM}{t:Bytes}(h:zaP (first+i) (sec i)=some (99,t))(ht:t=qP deed.length):wb first sec (f+1) i out deed used=wb first sec f (i+1) (out++ [deed]) [] (i+1):=by rw[zcT,h];simp only;rw[if_pos trivial,if_pos ht]
theorem zsn {first:Nat}{sec:Nat→Bytes}{f i used:Nat}{out:Deeds}{deed:List ChangeM}{t:Bytes}(h:zaP (first+i) (sec i)=some (99,t))(ht:¬t=qP deed.length):wb first sec (f+1) i out deed used=(out,used):=by rw[zcT,h];simp only;rw[if_pos trivial,if_neg ht]
theorem ztZ {first:Nat}{sec:Nat→Bytes}{f i used:Nat}{out:Deeds}{deed:List ChangeM}{t:Bytes}{k:UInt8}(h:zaP (first+i) (sec i)=some (k,t))(hk:¬k=99)(hp:(prS t).2=0):wb first sec (f+1) i out deed used=wb first sec f (i+1) out (deed++ [(prS t).1]) used:=by rw[zcT,h];simp only;rw[if_neg hk,if_pos hp]
theorem zst {first:Nat}{sec:Nat→Bytes}{f i used:Nat}{out:Deeds}{deed:List ChangeM}{t:Bytes}{k:UInt8}(h:zaP (first+i) (sec i)=some (k,t))(hk:¬k=99)(hp:¬(prS t).2=0):wb first sec (f+1) i out deed used=(out,used):=by rw[zcT,h];simp only;rw[if_neg hk,if_neg hp]
theorem zwf (gl:LogG)(d:List ChangeM)(s:Option Addr)(c:Nat):dR gl++ [[sl s d.length c]]=dR (gl++ [(d,(s,c))]):=by simp[dR]
theorem zti (gl:LogG)(d:List ChangeM)(s:Option Addr)(c:Nat):(gl++ [(d,(s,c))]).map (·.1)=gl.map (·.1)++ [d]:=by simp
theorem zqx (a:List ChangeM)(x:ChangeM):chR a++ [yo x]=chR (a++ [x]):=by simp[chR]
theorem zhE (bd:Nat)(D:DiskM)(from_ many first:Int)(hS:∀x∈D.now,x.length=80)(hbd:D.now.length≤1000000∧first≤1000000000000)(F:List HProp):Ct Tryz.prog 106 [ptr bd 0,I from_,I many,I first] ([dsk 140 142 bd (D)]++F) (ROpen 140 142 222 34 bd D from_ many first F):=by
  show Ct Tryz.prog 106 [ptr bd 0,I from_,I many,I first] (dsk 140 142 bd (D)::F) _;refine Ct.of func106 rR 103 ntmps106 (by simp) fun w0=>?_;refine gS (gA rR (gA rR (gA rR (qb (qf (gS (gM rR (g_v (qQ rR rR) rR (gM rR (qJ rR rR (fun hg=>qn rR) rR rR (qJ rR rR (fun hg=>qQ rR rR) rR rR (g_v (zav rR rR) rR (gM rR (qJ rR rR (fun hg=>qn rR) rR rR (qJ rR rR (fun hg=>qn rR) rR rR ?_)))))))))))))));refine g_gq rR rR (fun hg=>qi (Pre:=[dsk 140 142 bd (D)]) (R:=fun F=>R1 (I (D.now.length:Int)) (dsk 140 142 bd (D)::F)) call102 rR (yV bd D)) rR rR ?_;refine qJ rR rR (fun hg=>yA rR rR) rR rR (g_v (zav rR rR) rR (gM rR (qJ rR rR (fun hg=>qn rR) rR rR (qJ rR rR (fun hg=>qn rR) rR rR ?_))));refine g_gq rR rR (fun hg=>qi (Pre:=[dsk 140 142 bd (D)]) (R:=fun F=>R1 (I (D.now.length:Int)) (dsk 140 142 bd (D)::F)) call102 rR (yV bd D)) rR rR ?_;refine qJ rR rR (fun hg=>qn rR) rR rR (qJ rR rR (fun hg=>zch (r:=(D.now.length:Int) - many) rR rR (w64 (by simp at hg;omega))) rR rR (qJ rR rR (fun hg=>yA rR rR) rR rR (g_v (zav rR rR) rR (gM rR (qJ rR rR (fun hg=>qn rR) rR rR (qJ rR rR (fun hg=>qQ rR rR) rR rR (g_v (zav rR rR) rR (qb ?_))))))));refine qg rR (fun h43=>?_) (fun h43=>?_)
  · simp at h43;have hbad:zq7 D from_ many first:=by unfold zq7;omega
    refine gS (g_v (qA underlying108 rR rR) rR (gA rR (gA rR (gA rR (qb ?_)))));exact ql (dsk 140 142 bd (D)::F) rfl (.inl ⟨hbad,rfl,rfl⟩)
  · simp at h43;have hbad:¬zq7 D from_ many first:=by unfold zq7;omega
    have hb2:¬(from_<0∨many<1∨(D.now.length:Int)<many∨(D.now.length:Int) - many<from_∨first<1):=hbad;refine qh (qf (gS (gM rR ?_)));refine g_l (qi (Pre:=[dsk 140 142 bd (D)]) call34 rR (zfY bd D)) rR ?_;rintro _ _ ⟨rfl,rfl⟩;refine qb ?_;refine qg rR (fun h46=>?_) (fun h46=>?_)
    · refine gS (g_v (qA underlying108 rR rR) rR (gA rR (gA rR (gA rR (qb ?_)))));exact ql (dsk 140 142 bd (D)::F) rfl (.inr (.inl ⟨hbad,h46,rfl,rfl⟩))
    · have hdn:D.down=false:=(by simpa using h46);obtain ⟨from_,rfl⟩:=Int.eq_ofNat_of_zero_le (show 0≤from_ by omega);obtain ⟨many,rfl⟩:=Int.eq_ofNat_of_zero_le (show 0≤many by omega);obtain ⟨first,rfl⟩:=Int.eq_ofNat_of_zero_le (show 0≤first by omega);refine qh (gS (gM rR (gM rR (gM rR (gM rR (g_v (qS rR (zic _ rR _ rR _ rR _ rR)) rR ?_))))));refine g_l (wM (lgC bd from_ many first 0) rfl rfl) rfl ?_;rintro _ _ ⟨b53,rfl,rfl⟩;refine gA rR (qb (gS (gA rR (qb (gS (gA rR (qb (qf (qf ?_)))))))));refine yJ 34 1 (dR []) rR ?_;refine yJ 104 3 (chR []) rR ?_;refine zvK ?_;refine qp (gM rR (gM rR (qb (qk ?_))));refine qF (α:=Nat×LogG×List ChangeM×Nat×LocA×LocA) (fun z=>z.1≤many∧wb first (zje D from_) many 0 [] [] 0=wb first (zje D from_) (many - z.1) z.1 (z.2.1.map (·.1)) z.2.2.1 z.2.2.2.1∧z.2.2.1.length≤z.1∧z.2.1.length≤z.1∧z.2.2.2.1≤z.1) (fun z=>U [(0,ptr bd 0),(11,ptr b53 0),(12,sl z.2.2.2.2.1.1 z.2.1.length z.2.2.2.2.1.2),(13,sl z.2.2.2.2.2.1 z.2.2.1.length z.2.2.2.2.2.2),(54,I many),(55,I z.1)]) (fun z=>pt b53 (.cells (lgC bd from_ many first z.2.2.2.1) 222 (0,0))::owL 34 1 z.2.2.2.2.1.1 z.2.2.2.2.1.2 (dR z.2.1)::owL 104 3 z.2.2.2.2.2.1 z.2.2.2.2.2.2 (chR z.2.2.1)::zlw z.2.1::dsk 140 142 bd (D)::F) (fun z=>many - z.1) (0,[],[],0,(none,0),(none,0)) ⟨by simp,rfl,by simp,by simp,by simp⟩ [0,11,12,13,54,55] rfl rfl ?_;rintro ⟨i,gl,deed,used,⟨so,co⟩,⟨sd,cd⟩⟩ ⟨hi,hsc,hdl,hgl,hul⟩;simp only[] at hi hsc hdl hgl hul ⊢;refine gS (g_v (qQ rR rR) rR (qb (qf ?_)));refine qg rR (fun h56=>?_) (fun h56=>?_)
      · simp at h56;have him:i<many:=(by omega);have hso:wb first (zje D from_) many 0 [] [] 0=wb first (zje D from_) ((many - (i+1))+1) i (gl.map (·.1)) deed used:=by rw[hsc,show (many - (i+1))+1=many - i by omega]
        refine qh (qf (qk (gS (gM rR (gA rR (qb (gS (gM rR (gM rR ?_)))))))));refine g_l (qi (Pre:=[pt b53 (.cells (lgC bd from_ many first (used)) 222 (0,0)),dsk 140 142 bd (D)]) call145 rfl (zlR b53 bd from_ many first used D i (by omega) hdn hS (by omega) ⟨hbd.1,by omega⟩)) rfl ?_;rintro _ _ ⟨rfl,rfl⟩;rw[show D.now.getD (from_+i) []=zje D from_ i from rfl];have hsl:(zje D from_ i).length=80:=zfd (by omega) hS;rcases hlk:zaP (first+i) (zje D from_ i) with _ | ⟨k,t⟩;rotate_left;obtain ⟨hts,hk2⟩:=zor hlk;by_cases hk99:k=99
        · subst hk99;refine gM rR (g_v (qd (v:=By 99) rR rR) rR (g_v (qd (v:=Str t) rR rR) rR (g_v (qd (v:=Bo true) rR rR) rR (gA rR (gA rR (gA rR (qb (qf (gS (gM rR (g_v (wo rR) rR (gM rR (qT rR rR rR (qn rR) rR (qT rR rR rR (wh rR rR) rR (qT rR rR rR (qn rR) rR (qT rR rR rR (qn rR) rR (qT rR rR rR (qn rR) rR (qT rR rR rR (yn underlying34 rR) rR ?_))))))))))))))))));refine zln rR rR rR (qi (Pre:=[]) call146 rR (zaf deed.length)) rR ?_;rintro _ _ ⟨rfl,rfl⟩;refine qT rR rR rR (ziq rR rR) rR (qT rR rR rR (zaw rR rR) rR (g_v (zav rR rR) rR (qb ?_)));refine qg rR (fun h77=>?_) (fun h77=>?_)
          · simp at h77;have hfin:wb first (zje D from_) many 0 [] [] 0=(gl.map (·.1),used):=by rw[hso,zsn hlk h77]
            refine qz rR ?_;refine gS (gM rR (gM rR (gA rR (gA rR (gA rR (qb ?_))))));refine ql (pt b53 (.cells (lgC bd from_ many first (used)) 222 (0,0))::owL 34 1 so co (dR gl)::zlw gl::dsk 140 142 bd (D)::F) rfl (.inr (.inr ⟨hbad,hdn,b53,gl,so,co,used,rfl,(Nat.le_trans hul (by omega)),(Nat.le_trans hgl (by omega)),hfin,rfl⟩))
          · simp at h77;have ht:t=qP deed.length:=h77;refine qh (qf (gS (gM rR (g_v (wh rR rR) rR (qb ?_)))));refine wN rR ?_;refine gS (gM rR (gM rR (gM rR ?_)));refine g_l (qr [[sl sd deed.length cd]] underlying185 sizeOf34 zeroValue34 rR rR rR (by simp) (by decide) (by decide)) rR ?_;rintro _ _ ⟨b83,rfl,rfl⟩;refine g_l (yE underlying185 sizeOf34 zeroValue34 rR Tryz.typeInfo34 (by decide) rR rR (zup _) rR (by simp) (by simp[ones,one,sl]) ⟨by omega,by decide,by decide⟩) rR ?_;rintro _ _ ⟨s84,c84,rfl,rfl⟩;rw[zwf,show gl.length+1=(gl++ [(deed,(sd,cd))]).length by simp];refine gM rfl (g_v (qu (r:=((i+1:Nat):Int)) rfl rfl (by rw[show (i:Int)+1=((i+1:Nat):Int) by omega];exact w64 (by omega))) rfl (gA rfl (gA rfl (g_v (qc rfl) rfl (g_v (qa 4 underlying222 rfl rfl sizeOf3 (by decide) rfl) rfl ?_)))));refine ym (qI (lgC bd from_ many first (i+1)) sizeOf3 rfl rfl rfl (by simp) rfl) ?_;rintro _ _ rfl;refine qb ?_;refine qz rR ?_;refine qp (g_v (qu (r:=((i+1:Nat):Int)) rfl rfl (by rw[show (i:Int)+1=((i+1:Nat):Int) by omega];exact w64 (by omega))) rfl (gM rfl (qb ?_)));refine yB (T:=104) (cap:=cd) sd ?_;refine zqL gl deed sd cd ?_;refine yJ 104 3 (chR []) rR ?_;refine qo (i+1,gl++ [(deed,(sd,cd))],[],i+1,(s84,c84),(none,0)) ⟨by simp;omega,?_,by simp,by simp;omega,by simp⟩ (by simp;omega) [0,11,12,13,54,55] rfl rfl;simp only[];rw[hso,zro hlk ht,zti]
        · refine gM rR (g_v (qd (v:=By k.toNat) rR rR) rR (g_v (qd (v:=Str t) rR rR) rR (g_v (qd (v:=Bo true) rR rR) rR (gA rR (gA rR (gA rR (qb (qf (gS (gM rR (g_v (wo rR) rR (gM rR ?_))))))))))));have hk99':¬((k.toNat:Int)=99):=fun h=>hk99 (u99.1 h);refine qT rR rR rR (qn rR) rR (qT rR rR rR (wh rR rR) rR (qT rR rR rR (qn rR) rR (yr rR rR (by simp[zey,hk99']) rR (yr rR rR (by simp[zey,hk99']) rR (yr rR rR (by simp[zey,hk99']) rR (yr rR rR (by simp[zey,hk99']) rR (yr rR rR (by simp[zey,hk99']) rR (qT rR rR rR (zau rR (by simp[hk99']) rR) rR (g_v (zav rR rR) rR (qb ?_))))))))));refine qg rR (fun h77=>?_) (fun h77=>?_)
          · simp at h77
          · refine qh (qf (gS (gM rR (g_v (wh rR rR) rR (qb ?_)))));refine qg rR (fun h79=>?_) (fun h79=>?_)
            · simp at h79;exact absurd (u99.1 h79) hk99
            · refine qh (gS (gM rR ?_));refine g_l (qi (Pre:=[]) call147 rR (zkZ t (by omega))) rR ?_;rintro _ _ ⟨rfl,rfl⟩;refine gM rR (g_v (qd (v:= .agg (yo (prS t).1).toArray) rR rR) rR (g_v (qd (v:=yI (prS t).2) rR rR) rR ?_));refine g_l (qy #[Str [],Str [],Bo false] zeroValue104) rR ?_;rintro _ _ ⟨b18,rfl,rfl⟩;refine ym (qq (cs:=#[Str [],Str [],Bo false]) (vs:=yo (prS t).1) (yo (prS t).1).toArray sizeOf104 rR rR rR rR (by decide) (qC rR)) ?_;rintro _ _ rfl;refine gA rR (qb (qf (gS (gM rR (g_v (yc underlying37 rR) rR (qb ?_))))));refine qg rR (fun h95=>?_) (fun h95=>?_)
              · simp at h95;have hfin:wb first (zje D from_) many 0 [] [] 0=(gl.map (·.1),used):=by rw[hso,zst hlk hk99 h95]
                refine qz rR ?_;refine gS (gM rR (gM rR (gA rR (gA rR (gA rR (qb ?_))))));refine ql (pt b53 (.cells (lgC bd from_ many first (used)) 222 (0,0))::owL 34 1 so co (dR gl)::zlw gl::dsk 140 142 bd (D)::F) rfl (.inr (.inr ⟨hbad,hdn,b53,gl,so,co,used,rfl,(Nat.le_trans hul (by omega)),(Nat.le_trans hgl (by omega)),hfin,rfl⟩))
              · simp at h95;have hpe:(prS t).2=0:=h95;refine qh (qp (gM rR (g_v (qG (vs:=yo ((prS t).1)) isAgg104 sizeOf104 rR rR qO) rR ?_)));refine g_l (qr [yo (prS t).1] underlying34 sizeOf104 zeroValue104 rR rR rR (by simp[yo]) (by decide) (by decide)) rR ?_;rintro _ _ ⟨b98,rfl,rfl⟩;refine g_l (yE underlying34 sizeOf104 zeroValue104 rR Tryz.typeInfo104 (by decide) rR rR (qK _) rR (by simp[yo]) (by simp[ones,one,yo]) ⟨by omega,by decide,by decide⟩) rR ?_;rintro _ _ ⟨s99,c99,rfl,rfl⟩;rw[zqx,show deed.length+1=(deed++ [(prS t).1]).length by simp];refine gA rfl (qb (qH (qp (g_v (qu (r:=((i+1:Nat):Int)) rfl rfl (by rw[show (i:Int)+1=((i+1:Nat):Int) by omega];exact w64 (by omega))) rfl (gM rfl (qb ?_))))));refine qo (i+1,gl,deed++ [(prS t).1],used,(so,co),(s99,c99)) ⟨by simp;omega,?_,by simp;omega,by simp only[];omega,by simp only[];omega⟩ (by simp;omega) [0,11,12,13,54,55] rfl rfl;simp only[];rw[hso,ztZ hlk hk99 hpe]
        · refine gM rR (g_v (qd (v:=By 0) rR rR) rR (g_v (qd (v:=Str []) rR rR) rR (g_v (qd (v:=Bo false) rR rR) rR (gA rR (gA rR (gA rR (qb (qf (gS (gM rR (g_v (wo rR) rR (gM rR (yr rR rR rR rR (yr rR rR rR rR (yr rR rR rR rR (yr rR rR rR rR (yr rR rR rR rR (yr rR rR rR rR (yr rR rR rR rR (yr rR rR rR rR (yr rR rR rR rR (g_v (zaN rR rR rR) rR (qb ?_)))))))))))))))))))))));refine wN rR ?_;refine qz rR ?_;refine gS (gM rR (gM rR (gA rR (gA rR (gA rR (qb ?_))))));have hfin:wb first (zje D from_) many 0 [] [] 0=(gl.map (·.1),used):=by rw[hso,zgM hlk]
          refine ql (pt b53 (.cells (lgC bd from_ many first (used)) 222 (0,0))::owL 34 1 so co (dR gl)::zlw gl::dsk 140 142 bd (D)::F) rfl (.inr (.inr ⟨hbad,hdn,b53,gl,so,co,used,rfl,(Nat.le_trans hul (by omega)),(Nat.le_trans hgl (by omega)),hfin,rfl⟩))
      · simp at h56;obtain rfl:many=i:=(by omega);have hfin:wb first (zje D from_) many 0 [] [] 0=(gl.map (·.1),used):=by rw[hsc,Nat.sub_self];rfl
        refine qz rR ?_;refine gS (gM rR (gM rR (gA rR (gA rR (gA rR (qb ?_))))));refine ql (pt b53 (.cells (lgC bd from_ many first (used)) 222 (0,0))::owL 34 1 so co (dR gl)::zlw gl::dsk 140 142 bd (D)::F) rfl (.inr (.inr ⟨hbad,hdn,b53,gl,so,co,used,rfl,(Nat.le_trans hul (by omega)),(Nat.le_trans hgl (by omega)),hfin,rfl⟩))
open Go Go.Sl Go.Proofs
abbrev kl (a b:Bytes):Bool:=Op.bytesLess a b
theorem zd8:∀a:Bytes,kl a a=false
  | []=>rfl
  | x::a=>by
    show (decide (x<x) || (x==x && Op.bytesLess a a))=false;rw[show Op.bytesLess a a=false from zd8 a];simp[UInt8.lt_iff_toNat_lt]
theorem zbk:∀{a b c:Bytes},kl a b=true→kl b c=true→kl a c=true
  | a,[],c,h1,h2=>by cases a <;> cases h1
  | a,b,[],h1,h2=>by cases b <;> cases h2
  | [],y::b,z::c,h1,h2=>rfl
  | x::a,y::b,z::c,h1,h2=>by
    have e1:(decide (x<y) || (x==y && Op.bytesLess a b))=true:=h1;have e2:(decide (y<z) || (y==z && Op.bytesLess b c))=true:=h2;show (decide (x<z) || (x==z && Op.bytesLess a c))=true;simp only[Bool.or_eq_true,decide_eq_true_eq,Bool.and_eq_true,beq_iff_eq,UInt8.lt_iff_toNat_lt] at e1 e2 ⊢;rcases e1 with e1 | ⟨rfl,e1⟩
    · rcases e2 with e2 | ⟨rfl,e2⟩
      · left;omega
      · left;exact e1
    · rcases e2 with e2 | ⟨rfl,e2⟩
      · left;exact e2
      · exact .inr ⟨rfl,zbk e1 e2⟩
theorem zhr:∀(a b:Bytes),kl a b=true∨a=b∨kl b a=true
  | [],[]=> .inr (.inl rfl)
  | [],_::_=> .inl rfl
  | _::_,[]=> .inr (.inr rfl)
  | x::a,y::b=>by
    show (decide (x<y) || (x==y && Op.bytesLess a b))=true∨x::a=y::b∨(decide (y<x) || (y==x && Op.bytesLess b a))=true;simp only[Bool.or_eq_true,decide_eq_true_eq,Bool.and_eq_true,beq_iff_eq,UInt8.lt_iff_toNat_lt];rcases Nat.lt_trichotomy x.toNat y.toNat with h | h | h
    · exact .inl (.inl h)
    · have e:x=y:=UInt8.toNat_inj.1 h;subst e;rcases zhr a b with h2 | h2 | h2
      · exact .inl (.inr ⟨rfl,h2⟩)
      · exact .inr (.inl (by rw[h2]))
      · exact .inr (.inr (.inr ⟨rfl,h2⟩))
    · exact .inr (.inr (.inl h))
theorem zdc {a b:Bytes}(h:kl a b=true):kl b a=false:=by
  cases h2:kl b a
  · rfl
  · have:=zbk h h2;rw[zd8] at this;cases this
theorem zcZ {a b:Bytes}(h:kl a b=true):a≠b:=fun e=>by rw[e,zd8] at h;cases h
theorem ziY:∀(a b:Bytes),(Lib.compareBytes a b<0 ↔ kl a b=true)∧(Lib.compareBytes a b=0 ↔ a=b)
  | [],[]=>by simp[Lib.compareBytes,kl,Op.bytesLess]
  | [],_::_=>by simp[Lib.compareBytes,kl,Op.bytesLess]
  | _::_,[]=>by simp[Lib.compareBytes,kl,Op.bytesLess]
  | x::a,y::b=>by
    have ih:=ziY a b;have hk:kl (x::a) (y::b)=(decide (x<y) || (x==y && Op.bytesLess a b)):=rfl;rw[hk];unfold Lib.compareBytes;simp only[UInt8.lt_iff_toNat_lt,Bool.or_eq_true,decide_eq_true_eq,Bool.and_eq_true,beq_iff_eq];rcases Nat.lt_trichotomy x.toNat y.toNat with h | h | h
    · rw[if_pos h];have hne:x≠y:=fun e=>(by rw[e] at h;omega);simp[h,hne]
    · have e:x=y:=UInt8.toNat_inj.1 h;subst e;rw[if_neg (by omega),if_neg (by omega)];simp only[Nat.lt_irrefl,false_or,true_and,List.cons.injEq];exact ih
    · rw[if_neg (by omega),if_pos h];have hne:x≠y:=fun e=>(by rw[e] at h;omega);have h3:¬x.toNat<y.toNat:=(by omega);simp[h3,hne]
def srt (l:List ChangeM):Prop:=l.Pairwise fun a b=>kl a.key b.key=true
theorem znX (k:Bytes):∀{l:List ChangeM},srt l→∃A B,l=A++B∧(∀a∈A,kl a.key k=true)∧((∃b B',B=b::B'∧b.key=k∧∀x∈B',kl k x.key=true)∨∀x∈B,kl k x.key=true)
  | [],_=>⟨[],[],rfl,by simp, .inr (by simp)⟩
  | r::l,h=>by
    have h1:=(List.pairwise_cons.1 h).1;rcases zhr r.key k with h2 | h2 | h2
    · obtain ⟨A,B,rfl,hA,hB⟩:=znX k (List.pairwise_cons.1 h).2;exact ⟨r::A,B,rfl,fun a ha=>by rcases List.mem_cons.1 ha with rfl | ha;exact h2;exact hA a ha,hB⟩
    · exact ⟨[],r::l,rfl,by simp, .inl ⟨r,l,rfl,h2,fun x hx=>by rw[←h2];exact h1 x hx⟩⟩
    · exact ⟨[],r::l,rfl,by simp, .inr fun x hx=>by rcases List.mem_cons.1 hx with rfl | hx;exact h2;exact zbk h2 (h1 x hx)⟩
def lbS (l:List ChangeM)(k:Bytes):Nat:=(l.filter fun r=>kl r.key k).length
def isS (l:List ChangeM)(k:Bytes):Bool:=l.any fun r=>decide (r.key=k)
def apS (l:List ChangeM)(c:ChangeM):List ChangeM:=(l.filter fun r=>kl r.key c.key)++(if c.gone then [] else [c])++l.filter fun r=>kl c.key r.key
theorem zm4 {l:List ChangeM}{p:ChangeM→Bool}(h:∀x∈l,p x=true):l.filter p=l:=List.filter_eq_self.2 h
theorem ztj {l:List ChangeM}{p:ChangeM→Bool}(h:∀x∈l,p x=false):l.filter p=[]:=List.filter_eq_nil_iff.2 fun x hx=>by rw[h x hx];simp
theorem parts {k:Bytes}{A B:List ChangeM}(hA:∀a∈A,kl a.key k=true)(hB:(∃b B',B=b::B'∧b.key=k∧∀x∈B',kl k x.key=true)∨∀x∈B,kl k x.key=true):
    (A++B).filter (fun r=>kl r.key k)=A∧lbS (A++B) k=A.length∧
    ((∃b B',B=b::B'∧b.key=k∧isS (A++B) k=true∧(A++B).filter (fun r=>kl k r.key)=B')∨(isS (A++B) k=false∧(A++B).filter (fun r=>kl k r.key)=B)):=by
  have f1:A.filter (fun r=>kl r.key k)=A:=zm4 hA;have f2:A.filter (fun r=>kl k r.key)=[]:=ztj fun x hx=>zdc (hA x hx);have i1:A.any (fun r=>decide (r.key=k))=false:=List.any_eq_false.2 fun x hx=>(by simpa using zcZ (hA x hx));rcases hB with ⟨b,B',rfl,hb,hB⟩ | hB
  · have f3:(b::B').filter (fun r=>kl r.key k)=[]:=ztj fun x hx=>by
      rcases List.mem_cons.1 hx with rfl | hx
      · rw[hb];exact zd8 k
      · exact zdc (hB x hx)
    have f4:(b::B').filter (fun r=>kl k r.key)=B':=by
      rw[List.filter_cons,hb,zd8,if_neg (by simp)];exact zm4 hB
    refine ⟨by rw[List.filter_append,f1,f3,List.append_nil],by unfold lbS;rw[List.filter_append,f1,f3,List.append_nil], .inl ⟨b,B',rfl,hb,?_,by rw[List.filter_append,f2,f4];rfl⟩⟩;unfold isS;rw[List.any_append,List.any_cons,hb];simp
  · have f3:B.filter (fun r=>kl r.key k)=[]:=ztj fun x hx=>zdc (hB x hx);have f4:B.filter (fun r=>kl k r.key)=B:=zm4 hB;refine ⟨by rw[List.filter_append,f1,f3,List.append_nil],by unfold lbS;rw[List.filter_append,f1,f3,List.append_nil], .inr ⟨?_,by rw[List.filter_append,f2,f4];rfl⟩⟩;unfold isS;rw[List.any_append,i1];exact List.any_eq_false.2 fun x hx=>by simpa using (zcZ (hB x hx)).symm
theorem zt9 {l:List ChangeM}(h:srt l)(k:Bytes){j:Nat}{r:ChangeM}(hr:l[j]? =some r):kl r.key k=true ↔ j<lbS l k:=by
  obtain ⟨A,B,rfl,hA,hB⟩:=znX k h;rw[(parts hA hB).2.1];by_cases hj:j<A.length
  · rw[List.getElem?_append_left hj] at hr;exact ⟨fun _=>hj,fun _=>hA r (List.mem_of_getElem? hr)⟩
  · rw[List.getElem?_append_right (by omega)] at hr;have hm:=List.mem_of_getElem? hr;have:kl r.key k=false:=by
      rcases hB with ⟨b,B',rfl,hb,hB⟩ | hB
      · rcases List.mem_cons.1 hm with rfl | hm
        · rw[hb];exact zd8 k
        · exact zdc (hB r hm)
      · exact zdc (hB r hm)
    rw[this];exact ⟨fun h=>(by cases h),fun h=>absurd h hj⟩
theorem zpS (l:List ChangeM)(k:Bytes):lbS l k≤l.length:=List.length_filter_le _ _
theorem zlE {l:List ChangeM}(h:srt l)(k:Bytes):isS l k=(match l[lbS l k]? with | some r=>decide (r.key=k) | none=>false):=by
  obtain ⟨A,B,rfl,hA,hB⟩:=znX k h;obtain ⟨_,p2,p3⟩:=parts hA hB;rw[p2,List.getElem?_append_right (Nat.le_refl _),Nat.sub_self];rcases p3 with ⟨b,B',rfl,hb,hi,_⟩ | ⟨hi,_⟩
  · rw[hi];simp[hb]
  · rw[hi];cases B with
    | nil=>rfl
    | cons b B'=>
      unfold isS at hi;rw[List.any_append,List.any_cons] at hi;simp at hi;simp[hi.2.1]
theorem zc9 {l:List ChangeM}(h:srt l)(c:ChangeM):apS l c=if isS l c.key=true then (if c.gone=true then l.eraseIdx (lbS l c.key) else l.set (lbS l c.key) c) else (if c.gone=true then l else l.take (lbS l c.key)++ [c]++l.drop (lbS l c.key)):=by
  obtain ⟨A,B,rfl,hA,hB⟩:=znX c.key h;obtain ⟨p1,p2,p3⟩:=parts hA hB;unfold apS;rw[p1,p2];rcases p3 with ⟨b,B',rfl,hb,hi,hf⟩ | ⟨hi,hf⟩
  · rw[hi,hf,if_pos rfl];by_cases hg:c.gone=true
    · rw[if_pos hg,if_pos hg,List.eraseIdx_append_of_length_le (Nat.le_refl _),Nat.sub_self];simp
    · rw[if_neg hg,if_neg hg,List.set_append_right _ _ (Nat.le_refl _),Nat.sub_self];simp
  · rw[hi,hf,if_neg (show ¬(false=true) by simp)];by_cases hg:c.gone=true
    · rw[if_pos hg,if_pos hg];simp
    · rw[if_neg hg,if_neg hg];simp
theorem zya {l:List ChangeM}(h:srt l)(c:ChangeM):srt (apS l c):=by
  unfold apS srt;rw[List.append_assoc];refine List.pairwise_append.2 ⟨h.sublist List.filter_sublist,List.pairwise_append.2 ⟨by split <;> simp,h.sublist List.filter_sublist,fun a ha b hb=>?_⟩,fun a ha b hb=>?_⟩
  · split at ha
    · cases ha
    · simp at ha hb;subst ha;exact hb.2
  · simp only[List.mem_filter] at ha;rcases List.mem_append.1 hb with hb | hb
    · split at hb
      · cases hb
      · simp at hb;subst hb;exact ha.2
    · simp only[List.mem_filter] at hb;exact zbk ha.2 hb.2
theorem zyn (l:List ChangeM)(c:ChangeM)(h:srt l):(apS l c).length≤l.length+1:=by
  rw[zc9 h];split
  · split
    · have:=List.length_eraseIdx_le l (lbS l c.key);omega
    · simp
  · split
    · omega
    · have:=zpS l c.key;simp;omega
def zaJ (l:List ChangeM)(cs:List ChangeM):List ChangeM:=cs.foldl apS l
theorem ztG {l cs:List ChangeM}{k:Nat}{r:ChangeM}(h:cs[k]? =some r):zaJ l (cs.take (k+1))=apS (zaJ l (cs.take k)) r:=by
  unfold zaJ;rw[zdl h,List.foldl_append]
  rfl
theorem x_cmp:∃fn,Tryz.prog.funcs[204]? =some fn∧(fn.name== "runtime.NumGoroutine")=false∧fn.body.isNone=true∧Extern.findNext fn=none∧Extern.find fn=some Extern.BytealgCompare.compare:=
  ⟨(Tryz.prog.funcs[204]?).get (by kernel_rfl),(Option.some_get _).symm,by kernel_rfl,by kernel_rfl,by kernel_rfl,by kernel_rfl⟩
theorem zrf (a b:Bytes)(w:World):(callFunc 204 [Str a,Str b].toArray).run Tryz.prog w= .ok (.value (I (Lib.compareBytes a b))) w:=by
  obtain ⟨fn,h1,h2,h3,h4,h5⟩:=x_cmp;rw[run_callFunc_extern h1 h2 h3 h4 h5];show ((Extern.BytealgCompare.compare #[.string ⟨⟨a⟩⟩, .string ⟨⟨b⟩⟩]).run Tryz.prog w).andThen _=_;rw[Lib.run_compareString]
  rfl
theorem zpX (l:List ChangeM)(i:Nat):(chR l).take i++((chR l).drop (i+1)).take (l.length - (i+1))=chR (l.eraseIdx i):=by
  rw[List.take_of_length_le (i:=l.length - (i+1)) (l:=(chR l).drop (i+1)) (by simp[chR]),List.eraseIdx_eq_take_drop_succ];simp[chR]
theorem zgf (l:List ChangeM):∀r∈chR l,ones r=true:=fun r hr=>by simp only[chR,List.mem_map] at hr;obtain ⟨x,_,rfl⟩:=hr;rfl
theorem zda (l:List ChangeM):∀r∈chR l,r.length=3:=fun r hr=>by simp only[chR,List.mem_map] at hr;obtain ⟨x,_,rfl⟩:=hr;rfl
theorem zaY (a b:Bytes)(F:List HProp):Ct Tryz.prog 182 [Str a,Str b] ([]++F) (R1 (I (Lib.compareBytes a b)) F):=by
  show Ct Tryz.prog 182 [Str a,Str b] (F) _;refine Ct.of func182 rR 8 ntmps182 (by simp) fun w0=>?_;refine gS (gA rR (qb (gS (gM rR (gM rR ?_)))));refine g_l (zqE (v:=I (Lib.compareBytes a b)) (zrf a b) rR) rR ?_;rintro _ _ ⟨rfl,rfl⟩;refine gA rR (qb ?_);refine qm rR rR ?_;exact rfl
theorem zb3 (a b:Bytes)(F:List HProp):Ct Tryz.prog 132 [Str a,Str b] ([]++F) (R1 (I (Lib.compareBytes a b)) F):=by
  show Ct Tryz.prog 132 [Str a,Str b] (F) _;refine Ct.of func132 rR 8 ntmps132 (by simp) fun w0=>?_;refine gS (gA rR (qb (gS (gM rR (gM rR ?_)))));refine g_l (qi (Pre:=[]) call182 rR (zaY a b)) rR ?_;rintro _ _ ⟨rfl,rfl⟩;refine gA rR (qb ?_);refine qm rR rR ?_;exact rfl
theorem zeU (x:ChangeM)(k:Bytes)(F:List HProp):Ct Tryz.prog 148 [.agg (yo x).toArray,Str k] ([]++F) (R1 (I (Lib.compareBytes x.key k)) F):=by
  show Ct Tryz.prog 148 [.agg (yo x).toArray,Str k] (F) _;refine Ct.of func148 rR 9 ntmps148 (by simp) fun w0=>?_;refine gS ?_;refine g_l (wM (yo x).toArray rR rR) rR ?_;rintro _ _ ⟨b2,rfl,rfl⟩;refine gA rR (qb (gS (g_v (qa 0 underlying104 rR rR sizeOf9 (by decide) rR) rR (g_v (qe (v:=Str x.key) isAgg9 rR rR) rR (gM rR ?_)))));refine g_l (qi (Pre:=[]) call132 rR (zb3 x.key k)) rR ?_;rintro _ _ ⟨rfl,rfl⟩;refine gA rR (qb ?_);refine qm rR rR ?_;exact rfl
theorem zdz (l:List ChangeM)(s:Option Addr)(cap:Nat)(hl:l.length≤1000000)(F:List HProp):Ct Tryz.prog 111 [sl s l.length cap] ([roL 3 s (chR l)]++F) (RSl 104 3 l.length (chR l) (roL 3 s (chR l)::F)):=by
  show Ct Tryz.prog 111 [sl s l.length cap] (roL 3 s (chR l)::F) _;refine Ct.of func111 rR 8 ntmps111 (by simp) fun w0=>?_;refine zqC (φ:=s=none→l=[]) (fun w hS hs=>by
    have h1:=(SlR.ro (sz:=3) (s:=s) (rows:=chR l) (L:=F)).out w0 w hS;rcases h1 with h | ⟨b,o,ob,h,_⟩
    · simpa [chR] using h
    · rw[hs] at h;cases h) (fun hnil=>?_)
  refine gS (gA rR (qb (qf (gS (gM rR (g_v (zrl underlying34 rR) rR (qb ?_)))))));refine qg rR (fun h4=>?_) (fun h4=>?_)
  · have hs0:s=none:=(by simpa using h4);have hl0:=hnil hs0;subst hl0;refine yJ 104 3 (chR []) rR ?_;refine gS (gA rR (qb ?_));exact wx rfl rfl rfl rfl
  · refine qh (gS ?_);refine g_l (zjV underlying34 sizeOf104) rR ?_;rintro _ _ ⟨b5,rfl,rfl⟩;refine gM rR ?_;refine g_l (yE underlying34 sizeOf104 zeroValue104 rR Tryz.typeInfo104 (by decide) rR rR rR (qK l) (zda l) (zgf l) ⟨by omega,by decide,by decide⟩) rR ?_;rintro _ _ ⟨s7,c7,rfl,rfl⟩;rw[Nat.zero_add];simp only[List.nil_append];refine gA rR (qb ?_);exact wx rfl rfl rfl rfl
theorem zf4 (l:List ChangeM)(s:Option Addr)(cap i:Nat)(hi:i<l.length)(hl:l.length≤1000000)(F:List HProp):Ct Tryz.prog 149 [sl s l.length cap,I i,I ((i:Int)+1)] ([owL 104 3 s cap (chR l)]++F) (R1 (sl s (l.length - 1) cap) (owL 104 3 s cap (chR (l.eraseIdx i))::F)):=by
  show Ct Tryz.prog 149 [sl s l.length cap,I i,I ((i:Int)+1)] (owL 104 3 s cap (chR l)::F) _;refine Ct.of func149 rR 33 ntmps149 (by simp) fun w0=>?_;refine zmp s fun hcap=>?_;rw[qK] at hcap;refine gS (gA rR (qb (gS (gM rR (gM rR (gM rR (gM rR (g_v (yn underlying34 rR) rR (g_v (zyv (l:=i) (h:=i+1) (q:=l.length) underlying34 sizeOf104 rR rR rR rR (by omega) rR rR (by omega) (by omega) hcap) rR (qb (qf (gS (gM rR (gM rR (g_v (wh rR rR) rR (qb ?_))))))))))))))));refine qg rR (fun h16=>?_) (fun h16=>?_)
  · simp at h16;omega
  · refine qh (gS (gM rR (g_v (yn underlying34 rR) rR (gA rR (qb (qf ?_))))));refine yx (Lf:=F) [(0,false),(1,false),(2,false),(3,false),(4,false),(5,false),(6,true),(7,false)] (by kernel_rfl) (by kernel_rfl) rR (by kernel_rfl) ?_;refine dM rR rR rR (dM rR rR rR (d_v rR (zhW (h:=i) underlying34 sizeOf104 rR rR rR (by omega)) rR (dM rR rR rR (dM rR rR rR (d_v rR (zb1 (l:=i+1) underlying34 sizeOf104 rR rR (by omega) (by omega)) rR ?_)))));refine d_l rR (zoQ (s:=s) (p:=i+1) underlying34 sizeOf104 (by decide) rR rR (by unfold At;split;exact .inr (.inr (by omega));exact .inr (.inl rR)) (by rw[qK];omega) (by rw[qK];omega) (by rw[qK];omega) (by rw[qK];omega) (zgf l)) rR ?_;rintro _ _ ⟨rfl,rfl⟩;rw[zpX];refine d_v rR (qx rR) rR ?_;refine yb ?_;refine gS (gM rR (gM rR (g_v (yn underlying34 rR) rR (gM rR (g_v (zsS (l:=i+(l.length - (i+1))) (h:=l.length) underlying34 sizeOf104 rR rR rR rR rR (by omega) hcap) rR ?_)))));refine ym (zew (sz:=3) (l:=i+(l.length - (i+1))) s underlying34 zeroValue104 rR rR rR (by unfold At;split;exact .inr (.inr (by omega));exact .inr (.inl rR)) (by rw[qK,List.length_eraseIdx];split <;> omega) (by omega)) ?_;rintro _ _ ⟨rfl,rfl⟩;refine qb (gS (gM rR (gA rR (qb ?_))));exact qm rfl rfl (by rw[show l.length - 1=i+(l.length - (i+1)) by omega];rfl)
theorem zc1 (l:List ChangeM)(s:Option Addr)(cap:Nat)(k:Bytes)(hs:srt l)(hl:l.length≤1000000)(F:List HProp):Ct Tryz.prog 133 [sl s l.length cap,Str k, .func (.func 148) #[] #[]] ([owL 104 3 s cap (chR l)]++F) (R1 (.tuple #[I (lbS l k),Bo (isS l k)]) (owL 104 3 s cap (chR l)::F)):=by
  show Ct Tryz.prog 133 [sl s l.length cap,Str k, .func (.func 148) #[] #[]] (owL 104 3 s cap (chR l)::F) _;refine Ct.of func133 rR 49 ntmps133 (by simp) fun w0=>?_;refine gS (gA rR (gA rR (qb (gS (gM rR (g_v (yn underlying34 rR) rR (gA rR (qb (gS (gM rR (gA rR (gA rR (qb (qf (qk ?_)))))))))))))));refine qF (α:=Nat×Nat) (fun z=>z.1≤lbS l k∧lbS l k≤z.2∧z.2≤l.length) (fun z=>U [(0,sl s l.length cap),(1,Str k),(2, .func (.func 148) #[] #[]),(8,I l.length),(9,I z.1),(10,I z.2)]) (fun _=>owL 104 3 s cap (chR l)::F) (fun z=>z.2 - z.1) (0,l.length) ⟨by simp,zpS _ _,Nat.le_refl _⟩ [0,1,2,8,9,10] rfl rR ?_;rintro ⟨i,j⟩ ⟨hi,hj,hjl⟩;simp only[] at hi hj hjl ⊢;refine qf (gS (gM rR (gM rR (g_v (qQ rR rR) rR (qb ?_)))));refine qg rR (fun h17=>?_) (fun h17=>?_)
  · simp at h17;refine qh (qk (qf ?_));have hkn:(i+j) / 2<l.length:=(by omega);obtain ⟨x,hx⟩:∃x,l[(i+j) / 2]? =some x:=⟨_,List.getElem?_eq_getElem hkn⟩;have hkr:(i+j) / 2<(chR l).length:=(by rw[qK];exact hkn);have hlb:=zt9 hs k hx;refine qp (gM rfl (gM rfl (g_v (qu rfl rfl (w64 (by omega))) rfl (g_v (yT underlying3 underlying194 rfl (znG (by omega))) rfl (g_v (zd4 (r:=(((i+j) / 2:Nat):Int)) rfl rfl (by decide) (by rw[show min ((1:Int).toNat) IntKind.u64.bits=1 by decide,Int.fdiv_eq_ediv_of_nonneg _ (by decide)];omega)) rfl (g_v (yT underlying194 underlying3 rfl (w64 (by omega))) rfl (gA rfl (qb (gS (gM rfl (gM rfl (gM rfl (g_v (qB ((i+j) / 2) underlying34 sizeOf104 rfl rfl rfl hkn hkr) rfl (g_v (yd (row:=yo x) isAgg104 sizeOf104 rfl (zaQ hx) rfl) rfl (gM rfl ?_)))))))))))))));refine g_l (zax (fi:=[]) (cap:=[]) (Pre:=[]) call148 rR rR (zeU x k)) rR ?_;rintro _ _ ⟨rfl,rfl⟩;refine g_v (qQ rR rR) rR (qb ?_);refine qg rR (fun h31=>?_) (fun h31=>?_)
    · simp at h31;refine qp (gM rR (g_v (qu rR rR (w64 (by omega))) rR (gA rR (qb (qH ?_)))));exact qo ((i+j) / 2+1,j) ⟨by simp only[];have:=hlb.1 ((ziY _ _).1.1 h31);omega,hj,hjl⟩ (by simp only[];omega) [0,1,2,8,9,10] rfl rfl
    · simp at h31;refine qp (gM rR (gA rR (qb (qH ?_))));exact qo (i,(i+j) / 2) ⟨hi,by simp only[];rcases Nat.lt_or_ge ((i+j) / 2) (lbS l k) with h | h;have:=(ziY _ _).1.2 (hlb.2 h);omega;exact h,by simp only[];omega⟩ (by simp only[];omega) [0,1,2,8,9,10] rfl rfl
  · simp at h17;obtain rfl:i=lbS l k:=(by omega);refine qz rR ?_;refine gS (gM rR (gM rR (gM rR (g_v (qQ rR rR) rR (gM rR ?_)))));by_cases hin:lbS l k<l.length
    · obtain ⟨x,hx⟩:∃x,l[lbS l k]? =some x:=⟨_,List.getElem?_eq_getElem hin⟩;have hkr:lbS l k<(chR l).length:=(by rw[qK];exact hin);have hb:decide ((lbS l k:Int)<l.length)=true:=decide_eq_true (by omega);refine qT rR rR hb (qn rR) rR (qT rR rR hb (qn rR) rR (qT rR rR hb (qn rR) rR (qT rR rR hb (qB (lbS l k) underlying34 sizeOf104 rR rR rR hin hkr) rR (qT rR rR hb (yd (row:=yo x) isAgg104 sizeOf104 rR (zaQ hx) rR) rR (qT rR rR hb (qn rR) rR ?_)))));refine zln rR rR hb (zax (fi:=[]) (cap:=[]) (Pre:=[]) call148 rR rR (zeU x k)) rR ?_;rintro _ _ ⟨rfl,rfl⟩;refine qT rR rR hb (wh rR rR) rR (g_v (zaw rR rR) rR (gA rR (gA rR (qb ?_))));exact qm rfl rfl (by rw[zlE hs,hx];show Value.tuple #[I (lbS l k),Bo (decide ((lbS l k:Int)<l.length) && decide (Lib.compareBytes x.key k=0))]=_;rw[hb,Bool.true_and,decide_eq_decide.2 (ziY x.key k).2])
    · have hb:decide ((lbS l k:Int)<l.length)=false:=decide_eq_false (by omega);refine yr rR rR (by rw[hb];rfl) rR (yr rR rR (by rw[hb];rfl) rR (yr rR rR (by rw[hb];rfl) rR (yr rR rR (by rw[hb];rfl) rR (yr rR rR (by rw[hb];rfl) rR (yr rR rR (by rw[hb];rfl) rR (yr rR rR (by rw[hb];rfl) rR (yr rR rR (by rw[hb];rfl) rR (g_v (zau rR hb rR) rR (gA rR (gA rR (qb ?_)))))))))));exact qm rfl rfl (by rw[zlE hs,List.getElem?_eq_none (by omega)];rfl)
section
variable {c:Cx}{g:Option (Nat×Bool)}{E:Env}{L:List HProp}{d:Option Tmp}{ty:TypeId}{pos:String}{af:Array Edge}{gu:Option (Nat×Bool)}{x:Operand}{t e:TypeId}{s:Option Addr}{n cap:Nat}
theorem zx0 (hu:c.P.underlying t=some (.slice e))(hx:ev g E x=some (sl s n cap)):OpV c g E L ⟨d, .call {callee:= .builtin .cap,args:=#[x],argTypes:=#[t]},ty,pos,af,gu⟩ (I cap):= .mk fun a w hE hg hS=>by
  simp[execOp,resolve,invoke,builtin,Builtin.cap_,underlying,program,Sem.run,hu,hE.ev hg hx,sl,goInt]
end
theorem zw1:∃fn,Tryz.prog.funcs[186]? =some fn∧(fn.name== "runtime.NumGoroutine")=false∧fn.body.isNone=true∧Extern.findNext fn=none∧Extern.find fn=some (Extern.SlicesOverlaps.overlaps #[34,34] #[4]):=
  ⟨(Tryz.prog.funcs[186]?).get (by kernel_rfl),(Option.some_get _).symm,by kernel_rfl,by kernel_rfl,by kernel_rfl,by kernel_rfl⟩
theorem zoa {w0 w:World}{L F1 F2:List HProp}{b1 b2 c1 c2 l1 l2 n1 n2 p:Nat}{r1 r2:List (List Value)}[R1:Rem L (owL 104 3 (some ⟨b1,0,none⟩) c1 r1) F1][R2:Rem F1 (owL 104 3 (some ⟨b2,0,none⟩) c2 r2) F2](h0:0<r2.length)(hS:Sat w0 w L):
    (callFunc 186 [sl (some ⟨b1,0,none⟩) l1 n1,sl (some ⟨b2,p,none⟩) l2 n2].toArray).run Tryz.prog w= .ok (.value (Bo false)) w:=by
  obtain ⟨fn,h1,h2,h3,h4,h5⟩:=zw1;have hS1:=R1.sat hS;have r3:Rem (owL 104 3 (some ⟨b1,0,none⟩) c1 r1::F1) (owL 104 3 (some ⟨b2,0,none⟩) c2 r2) (owL 104 3 (some ⟨b1,0,none⟩) c1 r1::F2):=inferInstance;have hS2:=r3.sat hS1;have r4:Rem (owL 104 3 (some ⟨b2,0,none⟩) c2 r2::owL 104 3 (some ⟨b1,0,none⟩) c1 r1::F2) (owL 104 3 (some ⟨b1,0,none⟩) c1 r1) (owL 104 3 (some ⟨b2,0,none⟩) c2 r2::F2):=inferInstance;have hS3:=r4.sat hS2;rw[run_callFunc_extern h1 h2 h3 h4 h5];have:=zvm (P:=Tryz.prog) (t:=34) (tR:=4) (l1:=l1) (l2:=l2) (n1:=n1) (n2:=n2) (p:=p) underlying34 sizeOf104 (by decide) h0 hS3;show ((Extern.SlicesOverlaps.overlaps _ _ #[.slice (some ⟨b1,0,none⟩) l1 n1, .slice (some ⟨b2,p,none⟩) l2 n2]).run Tryz.prog w).andThen _=_;rw[this]
  rfl
def zqN (l:List ChangeM)(i:Nat)(c:ChangeM):List ChangeM:=l.take i++ [c]++l.drop i
theorem zha (a b:List ChangeM):chR (a++b)=chR a++chR b:=by simp[chR]
theorem zjR (a:List ChangeM)(i:Nat):chR (a.take i)=(chR a).take i:=by simp[chR]
theorem ziZ (a:List ChangeM)(i:Nat):chR (a.drop i)=(chR a).drop i:=by simp[chR]
section
variable {l:List ChangeM}{i:Nat}{c:ChangeM}
theorem put1R {α:Type}(A R:List α)(y x:α):(A++y::R).take A.length++ [x]++(A++y::R).drop (A.length+1)=A++x::R:=by
  rw[List.take_left',List.append_assoc]
  · congr 1;rw[List.drop_append];simp
  · rfl
theorem put2 {α:Type}(P R X:List α)(h:X.length=R.length):(P++R).take P.length++X.take R.length++(P++R).drop (P.length+R.length)=P++X:=by
  have e1:(P++R).take P.length=P:=List.take_left' rfl;have e2:X.take R.length=X:=List.take_of_length_le (by omega);have e3:(P++R).drop (P.length+R.length)=[]:=List.drop_of_length_le (by simp);rw[e1,e2,e3,List.append_nil]
theorem ins1 (hi:i≤l.length){q:Nat}(hq:Nat.min 1 q=1){z:List Value}:((chR l).take i++List.replicate (l.length+1 - i) z).take i++([yo c].drop 0).take (Nat.min 1 q)++((chR l).take i++List.replicate (l.length+1 - i) z).drop (i+Nat.min 1 q)=chR (l.take i++ [c])++List.replicate (l.length - i) z:=by
  rw[hq];have h1:((chR l).take i).length=i:=(by rw[List.length_take,qK];omega);have h2:List.replicate (l.length+1 - i) z=z::List.replicate (l.length - i) z:=(by rw[show l.length+1 - i=(l.length - i)+1 by omega];rfl);have h3:=put1R ((chR l).take i) (List.replicate (l.length - i) z) z (yo c);rw[h1] at h3;rw[h2,zha,zjR,List.append_assoc ((chR l).take i) (chR [c])];exact h3
theorem ins2 (hi:i≤l.length){m q:Nat}(hm:Nat.min m q=l.length - i){z:List Value}:(chR (l.take i++ [c])++List.replicate (l.length - i) z).take (i+1)++((chR l).drop i).take (Nat.min m q)++(chR (l.take i++ [c])++List.replicate (l.length - i) z).drop (i+1+Nat.min m q)=chR (zqN l i c):=by
  rw[hm];have h1:(chR (l.take i++ [c])).length=i+1:=(by rw[qK];simp;omega);have h3:=put2 (chR (l.take i++ [c])) (List.replicate (l.length - i) z) ((chR l).drop i) (by rw[List.length_drop,qK,List.length_replicate]);rw[h1,List.length_replicate] at h3;rw[h3];unfold zqN;rw[zha _ (l.drop i),ziZ]
theorem zjn (hi:i≤l.length){g:List Value}:((chR l++ [g]).drop i).take (l.length - i)=(chR l).drop i:=by
  rw[List.drop_append_of_le_length (by rw[qK];exact hi),List.take_append_of_le_length (by rw[List.length_drop,qK];omega),List.take_of_length_le (by rw[List.length_drop,qK];omega)]
theorem ins3 (hi:i<l.length){m q:Nat}(hm:Nat.min m q=l.length - i){g:List Value}:(chR l++ [g]).take (i+1)++((chR l++ [g]).drop i).take (Nat.min m q)++(chR l++ [g]).drop (i+1+Nat.min m q)=chR (l.take (i+1)++l.drop i):=by
  rw[hm];have e1:(chR l++ [g]).take (i+1)=(chR l).take (i+1):=List.take_append_of_le_length (by rw[qK];omega);have e2:=zjn (l:=l) (i:=i) (by omega) (g:=g);have e3:(chR l++ [g]).drop (i+1+(l.length - i))=[]:=List.drop_of_length_le (by rw[List.length_append,qK];simp;omega);rw[e1,e2,e3,List.append_nil,zha,zjR,ziZ]
theorem ins4 (hi:i<l.length){q:Nat}(hq:Nat.min 1 q=1):(chR (l.take (i+1)++l.drop i)).take i++([yo c].drop 0).take (Nat.min 1 q)++(chR (l.take (i+1)++l.drop i)).drop (i+Nat.min 1 q)=chR (zqN l i c):=by
  rw[hq,←zjR,←ziZ];have h1:(l.take (i+1)).length=i+1:=(by rw[List.length_take];omega);have e1:(l.take (i+1)++l.drop i).take i=l.take i:=by
    rw[List.take_append_of_le_length (by omega),List.take_take,Nat.min_eq_left (by omega)]
  have e2:(l.take (i+1)++l.drop i).drop (i+1)=l.drop i:=List.drop_left' h1;rw[e1,e2];unfold zqN;rw[zha _ (l.drop i),zha]
  rfl
end
theorem zf2 (l:List ChangeM)(c:ChangeM)(s:Option Addr)(cap bn i:Nat)(hi:i≤l.length)(hl:l.length≤1000)(F:List HProp):Ct Tryz.prog 150 [sl s l.length cap,I i,sl (some ⟨bn,0,none⟩) 1 1] ([owL 104 3 s cap (chR l),owL 104 3 (some ⟨bn,0,none⟩) 1 [yo c]]++F) (RSl 104 3 (l.length+1) (chR (zqN l i c)) F):=by
  show Ct Tryz.prog 150 [sl s l.length cap,I i,sl (some ⟨bn,0,none⟩) 1 1] (owL 104 3 s cap (chR l)::owL 104 3 (some ⟨bn,0,none⟩) 1 [yo c]::F) _;refine Ct.of func150 rR 95 ntmps150 (by simp) fun w0=>?_;refine zmp s fun hcap=>?_;rw[qK] at hcap;refine gS (gA rR (qb (gS (gM rR (gM rR (g_v (zb1 (l:=i) underlying34 sizeOf104 rR rR (by omega) (by omega)) rR (qb (gS (gM rR (g_v (yn underlying34 rR) rR (gA rR (qb (qf (gS (gM rR (g_v (wh rR rR) rR (qb ?_)))))))))))))))));refine qg rR (fun h16=>?_) (fun h16=>?_)
  · simp at h16
  · refine qh (gS (gM rR (g_v (yn underlying34 rR) rR (gA rR (qb (qf (gS (gM rR (gM rR (g_v (wh rR rR) rR (qb ?_)))))))))));refine qg rR (fun h22=>?_) (fun h22=>?_)
    · simp at h22;refine gS (gM rR (gM rR ?_));refine g_l (yE underlying34 sizeOf104 zeroValue104 rR Tryz.typeInfo104 (by decide) rR rR (qK l) rR (by simp[yo]) (by simp[yo,ones,one]) ⟨by omega,by decide,by decide⟩) rR ?_;rintro _ _ ⟨s25,c25,rfl,rfl⟩;rw[show chR l++ [yo c]=chR (zqN l i c) by unfold zqN;rw[show i=l.length by omega];simp[chR]];refine gA rR (qb ?_);exact wx rfl rfl rfl rfl
    · simp at h22;refine qh (qf (gS (gM rR (gM rR (g_v (qu rR rR (w64 (by omega))) rR (gM rR (g_v (zx0 underlying34 rR) rR (g_v (yA rR rR) rR (qb ?_)))))))));refine qg rR (fun h31=>?_) (fun h31=>?_)
      · simp at h31;refine gS (gM rR (gM rR (g_v (zhW (h:=i) underlying34 sizeOf104 rR rR rR (by omega)) rR (gM rR (gM rR (g_v (qu rR rR (w64 (by omega))) rR (gM rR (g_v (zch rR rR (w64 (by omega))) rR ?_))))))));refine g_l (zf7 (m:=l.length+1 - i) underlying34 underlying3 sizeOf104 zeroValue104 rR Tryz.typeInfo104 (by decide) rR rR (by omega) (by rw[qK];exact hi) (zda l) (by omega) (by omega) ⟨by omega,by decide,by decide⟩) rR ?_;rintro _ _ ⟨b40,c40,rfl,rfl⟩;refine zmp (some ⟨b40,0,none⟩) fun hc40=>?_;rw[List.length_append,List.length_take,qK,List.length_replicate] at hc40;refine gA rR (qb (gS (gM rR (gM rR (g_v (zb1 (l:=i) underlying34 sizeOf104 rR rR (by omega) (by omega)) rR (gM rR ?_))))));refine g_l (zhj (s:=(some ⟨b40,0,none⟩)) (s2:=(some ⟨bn,0,none⟩)) (l:=i) (p:=0) underlying34 sizeOf104 (by decide) rR rR (by unfold At;split;exact .inr (.inr (by omega));exact .inr (.inl rR)) (.inl ⟨rfl,rfl⟩) (by simp[chR];omega) (by simp) (by simp[yo]) (by simp[yo,ones,one])) rR ?_;rintro _ _ ⟨rfl,rfl⟩;refine zcU (some ⟨b40,0,none⟩) (chR (l.take i++ [c])++List.replicate (l.length - i) (yo noC)) (ins1 hi (by show min _ _=_;omega)) ?_;refine qb (qf ?_);refine yx (Lf:=F) [(0,false),(1,false),(2,false),(3,false),(4,false),(5,false),(6,false),(7,false),(8,true)] (by kernel_rfl) (by kernel_rfl) rR (by kernel_rfl) ?_;refine dM rR rR rR (dM rR rR rR (dM rR rR rR (d_v rR (qu rR rR (w64 (by omega))) rR (d_v rR (zb1 (l:=i+1) underlying34 sizeOf104 rR rR (by omega) (by omega)) rR (dM rR rR rR (dM rR rR rR (d_v rR (zb1 (l:=i) underlying34 sizeOf104 rR rR (by omega) (by omega)) rR ?_)))))));refine d_l rR (zhj (s:=(some ⟨b40,0,none⟩)) (s2:=s) (l:=i+1) (p:=i) underlying34 sizeOf104 (by decide) rR rR (by unfold At;split;exact .inr (.inr (by omega));exact .inr (.inl rR)) (by unfold At;split;exact .inr (.inr (by omega));exact .inr (.inl rR)) (by simp[chR];omega) (by rw[qK];omega) (zda l) (zgf l)) rR ?_;rintro _ _ ⟨rfl,rfl⟩;refine zcU (some ⟨b40,0,none⟩) (chR (zqN l i c)) (ins2 hi (by show min _ _=_;omega)) ?_;refine yb ?_;refine gS (gM rR (gA rR (qb ?_)));exact wx rfl rfl rfl (by omega)
      · simp at h31;refine qh (qf ?_);have hil:i<l.length:=(by omega);have hmin:Nat.min (l.length+1 - i) (l.length+1 - (i+1))=l.length - i:=(by show min _ _=_;omega);refine zx6 s (by rw[qK];omega) ?_;rintro b rfl;refine qp (gM rR (gM rR (gM rR (g_v (qu rR rR (w64 (by omega))) rR (g_v (zhW (h:=l.length+1) underlying34 sizeOf104 rR rR (by omega) (by omega)) rR (gA rR (qb (qf (gS (gM rR (gM rR (gM rR (gM rR (g_v (qu rR rR (w64 (by omega))) rR (g_v (zb1 (l:=i+1) underlying34 sizeOf104 rR rR (by omega) (by omega)) rR ?_)))))))))))))));rw[if_neg (show ¬cap=i+1 by omega),show ((some (⟨b,0,none⟩:Addr)).map (·.add ((i+1)*3)))=some ⟨b,0+(i+1)*3,none⟩ from congrArg some (zaV _ _ _)];refine g_l (zsE (v:=Bo false) (fun w hS=>zoa (c1:=1) (r1:=[yo c]) (c2:=cap) (r2:=chR l) (by rw[qK];omega) hS) rR) rR ?_;rintro _ _ ⟨rfl,rfl⟩;refine g_v (wo rR) rR (qb ?_);refine qg rR (fun h68=>?_) (fun h68=>?_)
        · refine qf ?_;refine zs3 (some ⟨b,0,none⟩) (by rw[qK];omega) ?_;intro gr hgr;refine yx (Lf:=F) [(0,false),(1,false),(2,false),(3,false),(4,false),(5,false),(6,false),(7,false),(8,true)] (by kernel_rfl) (by kernel_rfl) rR (by kernel_rfl) ?_;refine dM rR rR rR (dM rR rR rR (dM rR rR rR (d_v rR (qu rR rR (w64 (by omega))) rR (d_v rR (zb1 (l:=i+1) underlying34 sizeOf104 rR rR (by omega) (by omega)) rR (dM rR rR rR (dM rR rR rR (d_v rR (zb1 (l:=i) underlying34 sizeOf104 rR rR (by omega) (by omega)) rR ?_)))))));refine d_l rR (zwc (s:=(some ⟨b,0,none⟩)) (s2:=(some ⟨b,0,none⟩)) (l:=i+1) (p:=i) underlying34 sizeOf104 (by decide) rR rR (by unfold At;split;exact .inr (.inr (by omega));exact .inr (.inl rR)) (by unfold At;split;exact .inr (.inr (by omega));exact .inr (.inl rR)) (by rw[hmin,List.length_append,qK];simp;omega) (by rw[hmin,List.length_append,qK];simp;omega) (by rw[hmin,zjn (by omega)];exact fun r hr=>zda l r (List.mem_of_mem_drop hr)) (by rw[hmin,zjn (by omega)];exact fun r hr=>zgf l r (List.mem_of_mem_drop hr))) rR ?_;rintro _ _ ⟨rfl,rfl⟩;refine zcU (some ⟨b,0,none⟩) (chR (l.take (i+1)++l.drop i)) (ins3 hil hmin) ?_;refine yb ?_;refine gS (gM rR (gM rR (g_v (zb1 (l:=i) underlying34 sizeOf104 rR rR (by omega) (by omega)) rR (gM rR ?_))));refine g_l (zhj (s:=(some ⟨b,0,none⟩)) (s2:=(some ⟨bn,0,none⟩)) (l:=i) (p:=0) underlying34 sizeOf104 (by decide) rR rR (by unfold At;split;exact .inr (.inr (by omega));exact .inr (.inl rR)) (.inl ⟨rfl,rfl⟩) (by simp[chR];omega) (by simp) (by simp[yo]) (by simp[yo,ones,one])) rR ?_;rintro _ _ ⟨rfl,rfl⟩;refine zcU (some ⟨b,0,none⟩) (chR (zqN l i c)) (ins4 hil (by show min _ _=_;omega)) ?_;refine qb (gS (gM rR (gA rR (qb ?_))));exact wx rfl rfl rfl rfl
        · simp at h68
section
variable {c:Cx}{E:Env}{L:List HProp}{K:List KI}
end
theorem zi4 {l:List ChangeM}(h:srt l):∀cs:List ChangeM,srt (zaJ l cs)∧(zaJ l cs).length≤l.length+cs.length:=by
  intro cs
  induction cs generalizing l with
  | nil=>exact ⟨h,by simp[zaJ]⟩
  | cons c cs ih=>
    have:=ih (zya h c);have h2:=zyn l c h;refine ⟨this.1,?_⟩;have h3:=this.2;simp only[zaJ,List.foldl_cons,List.length_cons] at h3 ⊢;omega
theorem zyu {l:List ChangeM}(h:srt l){k:Bytes}(hi:isS l k=true):lbS l k<l.length:=by
  rw[zlE h] at hi;split at hi
  · rename_i r hr;exact (List.getElem?_eq_some_iff.1 hr).1
  · cases hi
section
variable {c r:ChangeM}{z:Bool×List ChangeM}
end
end Go.Proofs.YthdjckbjjfiopadGreatDoor
