/- Several texts in one: walks and rules used by them. No condition. -/
import Derived.Test.YthdjckbjjfiopadGreatDoorPartB
import Derived.Lib.Bytealg
import Derived.KernelRfl
set_option linter.unusedSimpArgs false
set_option linter.unusedVariables false
namespace Go.Proofs.YthdjckbjjfiopadGreatDoor
open _root_.Go.Proofs.Tryz
open Go.Sl Go.Proofs
def kb (keep:Int)(i:Nat):Bool:=decide (keep.fdiv (2 ^ (i % 64)) % 2=1)
def za3 (keep:Int)(w:List (Nat×Bytes))(l:List Bytes):Nat→List Bytes
  | 0=>l
  | k+1=>match w[k]? with
    | some t=>if kb keep k=true then (za3 keep w l k).set t.1 t.2 else za3 keep w l k
    | none=>za3 keep w l k
theorem zal (keep:Int)(w:List (Nat×Bytes))(l:List Bytes):∀k,(za3 keep w l k).length=l.length
  | 0=>rfl
  | k+1=>by
    unfold za3;split
    · split
      · rw[List.length_set,zal keep w l k]
      · exact zal keep w l k
    · exact zal keep w l k
theorem zq3 {keep:Int}{w:List (Nat×Bytes)}{l:List Bytes}{k:Nat}{t:Nat×Bytes}(ht:w[k]? =some t)(h:kb keep k=true):za3 keep w l (k+1)=(za3 keep w l k).set t.1 t.2:=by simp[za3,ht,h]
theorem zon {keep:Int}{w:List (Nat×Bytes)}{l:List Bytes}{k:Nat}{t:Nat×Bytes}(ht:w[k]? =some t)(h:kb keep k=false):za3 keep w l (k+1)=za3 keep w l k:=by simp[za3,ht,h]
def zam (keep:Int)(D:DiskM):List Bytes:=za3 keep D.wait D.kept D.wait.length
def zar (keep:Int)(D:DiskM):DiskM:=⟨zam keep D,zam keep D,[], -1,false⟩
theorem zuU {keep:Int}(h:0≤keep∧keep<18446744073709551616)(j:Nat):0≤keep.fdiv (2 ^ j)∧keep.fdiv (2 ^ j)<18446744073709551616:=by
  have hp:(0:Int)<2 ^ j:=Int.pow_pos (by decide);rw[Int.fdiv_eq_ediv_of_nonneg _ (by omega)];have h1:=Int.ediv_nonneg h.1 (Int.le_of_lt hp);have h2:=Int.ediv_le_self (2 ^ j) h.1;omega
theorem zr6 {l:List (Nat×Bytes)}{k:Nat}{t:Nat×Bytes}(h:l[k]? =some t):(wM l)[k]? =some [I t.1,Str t.2]:=by simp[wM,h]
theorem zqE {r1 r2:List Bytes}{m q:Nat}(h:r1.length=r2.length)(hm:m=r2.length)(hq:q=r1.length):(yN r1).take 0++((yN r2).drop 0).take (Nat.min m q)++(yN r1).drop (0+Nat.min m q)=yN r2:=by
  subst hm hq;exact znc h
theorem zda (b:Nat)(D:DiskM)(keep:Int)(hkeep:0≤keep∧keep<18446744073709551616)(hkn:D.kept.length=D.now.length)(hwt:∀t∈D.wait,t.1<D.now.length)(hw:D.wait.length≤1000000)(F:List HProp):Ct Tryz.prog 32 [ptr b 0,Uw keep] ([dsk 140 142 b (D)]++F) (R1 (.tuple #[]) (dsk 140 142 b (zar keep D)::F)):=by
  show Ct Tryz.prog 32 [ptr b 0,Uw keep] (dsk 140 142 b (D)::F) _;refine Ct.of func32 rR 50 ntmps32 (by simp) fun w0=>?_;refine zb1 (dsk 140 142 b (D)) rR ?_;rintro ⟨⟨s1,c1⟩,⟨s2,c2⟩,⟨s3,c3⟩⟩;show G _ _ _ (pt b (.cells #[sl s1 (D.kept).length c1,sl s2 (D.now).length c2,sl s3 (D.wait).length c3,I (D.fuse),Bo (D.down)] 140 (0,0))::owL 9 1 s1 c1 (yN (D.kept))::owL 9 1 s2 c2 (yN (D.now))::owL 142 2 s3 c3 (wM (D.wait))::F);rw[show yN D.kept=yN (za3 keep D.wait D.kept 0) from rfl];refine qf (gS (gM rR (g_v (qc rR) rR (g_v (qa 2 underlying140 rR rR sizeOf138 (by decide) rR) rR (g_v (qe isAgg138 rR rR) rR (g_v (yo underlying138 rR) rR (gM rR (qb (qj ?_)))))))));refine qE (α:=Nat) (fun k=>k≤D.wait.length) (fun k=>U [(0,ptr b 0),(1,Uw keep),(9,sl s3 D.wait.length c3),(10,I D.wait.length),(11,I k)]) (fun k=>pt b (.cells #[sl s1 (D.kept).length c1,sl s2 (D.now).length c2,sl s3 (D.wait).length c3,I (D.fuse),Bo (D.down)] 140 (0,0))::owL 9 1 s1 c1 (yN (za3 keep D.wait D.kept k))::owL 9 1 s2 c2 (yN (D.now))::owL 142 2 s3 c3 (wM (D.wait))::F) (fun k=>D.wait.length - k) 0 (by simp) [0,1,9,10,11] rfl rR ?_;intro k hk;refine gS (g_v (qJ rR rR) rR (qb (qf ?_)));refine qg rR (fun h12=>?_) (fun h12=>?_)
  · simp at h12;have hkw:k<D.wait.length:=(by omega);obtain ⟨t,ht⟩:∃t,D.wait[k]? =some t:=⟨_,List.getElem?_eq_getElem hkw⟩;have htr:=zr6 ht;have hkw2:k<(wM D.wait).length:=(by rw[zku];exact hkw);have htn:=hwt t (List.mem_of_getElem? ht);have hrl:=zal keep D.wait D.kept k;have htl:t.1<(za3 keep D.wait D.kept k).length:=(by omega);obtain ⟨x,hx⟩:∃x,(za3 keep D.wait D.kept k)[t.1]? =some x:=⟨_,List.getElem?_eq_getElem htl⟩;have hrow:=zi8 hx;have hlt:t.1<D.kept.length:=(by omega);have hlt2:t.1<(yN (za3 keep D.wait D.kept k)).length:=(by rw[zb6];exact htl);refine qh (qf (qj (gS (gM rR (g_v (qA k underlying138 sizeOf142 rR rR rR hkw hkw2) rR (g_v (ym (row:=[I t.1,Str t.2]) isAgg142 sizeOf142 rR htr rR) rR ?_))))));refine g_l (qy #[I 0,Str []] zeroValue142) rR ?_;rintro _ _ ⟨b5,rfl,rfl⟩;refine gA rR ?_;refine yp (qq #[I t.1,Str t.2] sizeOf142 rR rR rR rR (by decide) rR) ?_;rintro _ _ rfl;refine qb (gS (gM rfl (gM rfl (g_v (zoP (r:=((k % 64:Nat):Int)) rfl rfl (by decide) (by rw[Int.tmod_eq_emod_of_nonneg (by omega)];omega)) rfl (g_v (zd4 (r:=keep.fdiv (2 ^ (k % 64))) rfl rfl (by omega) (by rw[show min (((k % 64:Nat):Int).toNat) IntKind.u64.bits=k % 64 by simp[IntKind.bits];omega])) rfl (g_v (ziY 1 rfl (zuU hkeep _) (by decide) (by decide)) rfl (g_v (wh rfl rfl) rfl (qb ?_))))))));refine qg rR (fun h21=>?_) (fun h21=>?_)
    · have hkb:kb keep k=true:=(by unfold kb;simpa using h21);refine zcJ (Lf:=pt b5 (.cells #[I t.1,Str t.2] 142 (0,0))::pt b (.cells #[sl s1 (D.kept).length c1,sl s2 (D.now).length c2,sl s3 (D.wait).length c3,I (D.fuse),Bo (D.down)] 140 (0,0))::owL 9 1 s1 c1 (yN (za3 keep D.wait D.kept k))::owL 9 1 s2 c2 (yN (D.now))::owL 142 2 s3 c3 (wM (D.wait))::F) [(0,false),(1,false),(2,false),(3,false),(4,false),(5,false),(6,false),(7,false),(8,false)] 9 rR (by kernel_rfl) (by kernel_rfl) rR (by kernel_rfl) (by kernel_rfl) ?_;refine dM rR rR rR (d_v rR (qc rR) rR (d_v rR (qa 0 underlying140 rR rR sizeOf31 (by decide) rR) rR (d_v rR (qe isAgg31 rR rR) rR (d_v rR (qa 0 underlying142 rR rR sizeOf3 (by decide) rR) rR (d_v rR (qe (v:=I t.1) isAgg3 rR rR) rR (d_v rR (qa 1 underlying142 rR rR sizeOf9 (by decide) rR) rR (d_v rR (qe (v:=Str t.2) isAgg9 rR rR) rR (d_v rR (qA t.1 underlying31 sizeOf9 rR rR rR hlt hlt2) rR ?_))))))));refine yc ?_;refine yp (zk0 (row:=[Str x]) sizeOf9 rR rR rR hrow (by decide)) ?_;rintro _ _ rfl;rw[znx];refine qb (qF (qo (g_v (qu rR rR (w64 (by omega))) rR (gM rR (qb ?_)))));rw[←zq3 (l:=D.kept) ht hkb];exact qm (k+1) (by omega) (by omega) [0,1,9,10,11] rfl rfl
    · have hkb:kb keep k=false:=(by unfold kb;simpa using h21);refine qh (qF (qo (g_v (qu rR rR (w64 (by omega))) rR (gM rR (qb ?_)))));rw[←zon (l:=D.kept) ht hkb];exact qm (k+1) (by omega) (by omega) [0,1,9,10,11] rfl rfl
  · simp at h12;obtain rfl:k=D.wait.length:=(by omega);rw[show za3 keep D.wait D.kept D.wait.length=zam keep D from rfl];refine qz rR ?_;refine qf ?_;refine yw (Lf:=pt b (.cells #[sl s1 (D.kept).length c1,sl s2 (D.now).length c2,sl s3 (D.wait).length c3,I (D.fuse),Bo (D.down)] 140 (0,0))::F) [(0,false),(1,false),(2,false),(3,false),(4,false),(5,false),(6,false),(7,false),(8,true)] (by kernel_rfl) (by kernel_rfl) rR (by kernel_rfl) ?_;refine dM rR rR rR (d_v rR (qc rR) rR (d_v rR (qa 1 underlying140 rR rR sizeOf31 (by decide) rR) rR (d_v rR (qe isAgg31 rR rR) rR (dM rR rR rR (d_v rR (qc rR) rR (d_v rR (qa 0 underlying140 rR rR sizeOf31 (by decide) rR) rR (d_v rR (qe isAgg31 rR rR) rR ?_)))))));refine d_l rR (zg9 (s:=s2) (s2:=s1) (l:=0) (p:=0) underlying31 sizeOf9 (by decide) rR rR (.inl ⟨rfl,rfl⟩) (.inl ⟨rfl,rfl⟩) (by simp[yN]) (by simp[yN,zal,zam]) (by simp[yN]) (by simp[yN,ones,one])) rR ?_;rintro _ _ ⟨rfl,rfl⟩;refine zcX s2 (yN (zam keep D)) (zqE (by simp[zam,zal,hkn]) (by simp[zam,zal]) rR) ?_;refine yc ?_;refine qo (gM rR (gM rR (gM rR (g_v (qc rR) rR (g_v (qa 2 underlying140 rR rR sizeOf138 (by decide) rR) rR ?_)))));refine yp (qH #[sl s1 (D.kept).length c1,sl s2 (D.now).length c2,sl none 0 0,I (D.fuse),Bo (D.down)] sizeOf138 rR rR rR (by simp) rR) ?_;rintro _ _ rfl;refine g_v (qc rR) rR (g_v (qa 4 underlying140 rR rR sizeOf4 (by decide) rR) rR ?_);refine yp (qH #[sl s1 (D.kept).length c1,sl s2 (D.now).length c2,sl none 0 0,I (D.fuse),Bo (false)] sizeOf4 rR rR rR (by simp) rR) ?_;rintro _ _ rfl;refine g_v (qc rR) rR (g_v (qa 3 underlying140 rR rR sizeOf3 (by decide) rR) rR ?_);refine yp (qH #[sl s1 (D.kept).length c1,sl s2 (D.now).length c2,sl none 0 0,I (-1),Bo (false)] sizeOf3 rR rR rR (by simp) rR) ?_;rintro _ _ rfl;refine qb ?_;refine yG 142 2 (wM []) rR ?_;refine zaY (A:=ziP 140 142 b (zar keep D)) [pt b (.cells #[sl s1 (D.kept).length c1,sl s2 (D.now).length c2,sl none 0 0,I (-1),Bo (false)] 140 (0,0)),owL 9 1 s1 c1 (yN (zam keep D)),owL 9 1 s2 c2 (yN (zam keep D)),owL 142 2 none 0 (wM [])] (dsk 140 142 b (zar keep D)) ((s1,c1),(s2,c2),(none,0)) rR (by simp[ziP,zar,zam,zal,hkn]) ?_;exact zck rfl rfl rfl
-- (*counterfoil/counterfoilref.Disk).Restart is not in this seat
def zfP (n:Nat):DiskM:=⟨List.replicate n (zbK 80),List.replicate n (zbK 80),[], -1,false⟩
def RNew (E:Int→Value)(T TT:Nat)(n:Int)(F:List HProp):Value→List HProp→Prop:=fun v L'=>(¬(1≤n∧n≤260)∧v= .tuple #[.pointer none,E 1]∧L'=F)∨((1≤n∧n≤260)∧∃b,v= .tuple #[ptr b 0,E 0]∧L'=dsk T TT b (zfP n.toNat)::F)
section
variable {c:Cx}{E:Env}{L:List HProp}{K:List KI}
theorem zoW {Ev:Int→Value}{T TT:Nat}{n:Int}{F:List HProp}{vs:List Value}(hR:c.R=RNew Ev T TT n F)(hr:zbn E c.fn.results.toList=some vs)(hn:¬(1≤n∧n≤260))(hv:tup vs= .tuple #[.pointer none,Ev 1])[S:Sub L F](hds:c.n.ds=[]:=by rfl):G c (.code .ret::K) E L:=
  fun a w hE hS=>wp_ret (yb (qw (hds:=hds) hr hE (S.sat hS) (by rw[hR];exact .inl ⟨hn,hv,rfl⟩)))
theorem zpi {Ev:Int→Value}{T TT:Nat}{n:Int}{F:List HProp}{vs:List Value}(b:Nat)(hR:c.R=RNew Ev T TT n F)(hr:zbn E c.fn.results.toList=some vs)(hn:1≤n∧n≤260)(hv:tup vs= .tuple #[ptr b 0,Ev 0])[S:Sub L (dsk T TT b (zfP n.toNat)::F)](hds:c.n.ds=[]:=by rfl):G c (.code .ret::K) E L:=
  fun a w hE hS=>wp_ret (yb (qw (hds:=hds) hr hE (S.sat hS) (by rw[hR];exact .inr ⟨hn,b,hv,rfl⟩)))
end
theorem zl7 (n:Int)(F:List HProp):Ct Tryz.prog 49 [I n] ([]++F) (RNew yK 140 142 n F):=by
  show Ct Tryz.prog 49 [I n] (F) _;refine Ct.of func49 rR 21 ntmps49 (by simp) fun w0=>?_;refine gS (gA rR (gA rR (qb (qf (gS (gM rR (g_v (qJ rR rR) rR (gM rR (qK rR rR (fun hg=>qp rR) rR rR (qK rR rR (fun hg=>yA rR rR) rR rR (g_v (zaH rR rR) rR (qb ?_))))))))))));refine qg rR (fun h10=>?_) (fun h10=>?_)
  · simp at h10;refine gS (g_v (qB underlying108 rR rR) rR (gA rR (gA rR (qb ?_))));exact zoW rfl rfl (by omega) rfl
  · simp at h10;refine qh (gS ?_);refine g_l (qi (Pre:=[]) call84 rR (zfQ [] (by decide))) rR ?_;rintro _ _ ⟨rfl,rfl⟩;rw[show yi []=zbK 80 from rfl];refine g_l (qs [[Str (zbK 80)]] underlying31 sizeOf9 zeroValue9 rR rR rR (by simp) (by decide) (by decide)) rR ?_;rintro _ _ ⟨b13,rfl,rfl⟩;refine gM rR ?_;refine yB (some ⟨b13,0,none⟩) ?_;refine g_l (qi (Pre:=[roL 1 (some ⟨b13,0,none⟩) [[Str (zbK 80)]]]) call83 rR (by have:=zi1 (zbK 80) (some ⟨b13,0,none⟩) 1 n.toNat (by omega);rwa [Int.toNat_of_nonneg (by omega)] at this)) rR ?_;rintro _ _ ⟨s15,c15,rfl,rfl⟩;refine zqa (φ:=∃a,s15=some a) (fun w hS=>?_) (fun ha=>?_)
    · rcases yP hS with ⟨_,h,_,_⟩ | ⟨b,cs,h,_⟩
      · exfalso;have h2:=congrArg List.length h;simp[yN] at h2;omega
      · exact ⟨_,h⟩
    obtain ⟨a15,rfl⟩:=ha;refine gA rR (qb (gS (gM rR (gM rR ?_))));refine g_l (qi (Pre:=[owL 9 1 (some a15) c15 (yN (List.replicate n.toNat (zbK 80)))]) call85 rR (by have:=zk6 (List.replicate n.toNat (zbK 80)) a15 c15 (by simp;omega);rw[List.length_replicate] at this;exact this)) rR ?_;rintro _ _ ⟨s18,c18,rfl,rfl⟩;refine g_v (qP rR (zlg _ rR _ rR _ rR)) rR ?_;refine g_l (wR #[sl (some a15) n.toNat c15,sl s18 n.toNat c18,sl none 0 0,I (-1),Bo false] rfl rR) rR ?_;rintro _ _ ⟨b20,rfl,rfl⟩;refine gA rR (gA rR (qb ?_));refine yG 142 2 (wM []) rR ?_;refine zaY (A:=ziP 140 142 b20 (zfP n.toNat)) [pt b20 (.cells #[sl (some a15) n.toNat c15,sl s18 n.toNat c18,sl none 0 0,I (-1),Bo false] 140 (0,0)),owL 9 1 (some a15) c15 (yN (List.replicate n.toNat (zbK 80))),owL 9 1 s18 c18 (yN (List.replicate n.toNat (zbK 80))),owL 142 2 none 0 (wM [])] (dsk 140 142 b20 (zfP n.toNat)) ((some a15,c15),(s18,c18),(none,0)) rR (by simp[ziP,zfP]) ?_;exact zpi b20 rfl rfl (by omega) rfl
-- counterfoil/counterfoilref.NewDisk is not in this seat
def qN (n:Nat):Bytes:=[UInt8.ofNat n,UInt8.ofNat (n / 256),UInt8.ofNat (n / 65536),UInt8.ofNat (n / 16777216)]
def wE (kind:UInt8)(n:Nat)(s:Bytes):Bytes:=kind::(qN n++([UInt8.ofNat s.length,UInt8.ofNat (s.length / 256)]++s))
def sk (s:Bytes)(i:Nat):UInt8:=(s[i]?).getD 0
def skN (s:Bytes):Nat:=(sk s 5).toNat+256*(sk s 6).toNat
def zaK (num:Nat)(s:Bytes):Option (UInt8×Bytes):=if (s.take 5).drop 1=qN num∧(sk s 0=111∨sk s 0=99)∧skN s≤73 then some (sk s 0,(s.take (7+skN s)).drop 7) else none
abbrev Deeds:=List (List ChangeM)
def wd (first:Nat)(sec:Nat→Bytes):Nat→Nat→Deeds→List ChangeM→Nat→Deeds×Nat
  | 0,_,out,_,used=>(out,used)
  | f+1,i,out,deed,used=>match zaK (first+i) (sec i) with
    | none=>(out,used)
    | some (k,t)=>if k=99 then (if t=qN deed.length then wd first sec f (i+1) (out++ [deed]) [] (i+1) else (out,used)) else if (prS t).2=0 then wd first sec f (i+1) out (deed++ [(prS t).1]) used else (out,used)
theorem zeY {s:Bytes}{i:Nat}(h:i<s.length):s[i]? =some (sk s i):=by unfold sk;rw[List.getElem?_eq_getElem h];rfl
theorem zbH {n:Nat}(h:n<256):(UInt8.ofNat n).toNat=n:=by rw[UInt8.toNat_ofNat'];omega
theorem zg0 {kind:UInt8}{num:Nat}{s:Bytes}(hk:kind=111∨kind=99)(hs:s.length≤73):zaK num (yi (wE kind num s))=some (kind,s):=by
  have e:yi (wE kind num s)=kind::(UInt8.ofNat num::UInt8.ofNat (num / 256)::UInt8.ofNat (num / 65536)::UInt8.ofNat (num / 16777216)::UInt8.ofNat s.length::UInt8.ofNat (s.length / 256)::(s++zbK (80 - (wE kind num s).length))):=by
    unfold yi wE qN;simp
  rw[e];generalize zbK (80 - (wE kind num s).length)=z;unfold zaK;have h5:skN (kind::(UInt8.ofNat num::UInt8.ofNat (num / 256)::UInt8.ofNat (num / 65536)::UInt8.ofNat (num / 16777216)::UInt8.ofNat s.length::UInt8.ofNat (s.length / 256)::(s++z)))=s.length:=by
    show (UInt8.ofNat s.length).toNat+256*(UInt8.ofNat (s.length / 256)).toNat=s.length;rw[zbH (by omega),zbH (by omega)];omega
  rw[h5,if_pos ⟨rfl,hk,by omega⟩];congr 2;rw[show 7+s.length=s.length+7 by omega];simp only[List.take_succ_cons,List.drop_succ_cons,List.drop_zero];rw[List.take_left]
theorem zcC (num:Nat):zaK num (yi [])=none:=by
  unfold zaK;rw[if_neg];intro h;have:sk (yi []) 0=0:=(by decide);rw[this] at h;rcases h.2.1 with h | h <;> cases h
theorem zxe {c:ChangeM}(h:zbt c=0):prS (zkc c)=(c,0):=by
  obtain ⟨_,_,hk,hv⟩:=zfD h;unfold zkc zfz;show prS ((if c.gone then 1 else 0)::UInt8.ofNat c.key.length::(c.key++c.val))=_;rw[zjW];have e1:(UInt8.ofNat c.key.length).toNat=c.key.length:=zbH (by omega);have e0:((if c.gone=true then (1:UInt8) else 0)).toNat≤1:=(by split <;> decide);rw[if_neg (by rw[e1];simp;omega)];have ec:zln (if c.gone=true then 1 else 0) (UInt8.ofNat c.key.length) (c.key++c.val)=c:=by
    unfold zln;rw[e1,List.take_left,List.drop_left];cases c with
    | mk k v g=>cases g <;> rfl
  rw[ec,if_pos h]
theorem zjQ {c:ChangeM}(h:zbt c=0):(zkc c).length≤58:=by
  obtain ⟨_,_,hk,hv⟩:=zfD h;unfold zkc zfz;simp;omega
theorem zjl (k:UInt8)(n:Nat)(s:Bytes):(wE k n s).length=7+s.length:=by simp[wE,qN];omega
theorem zcV (first:Nat)(sec:Nat→Bytes)(f i:Nat)(out:Deeds)(deed:List ChangeM)(used:Nat):wd first sec (f+1) i out deed used=match zaK (first+i) (sec i) with
    | none=>(out,used)
    | some (k,t)=>if k=99 then (if t=qN deed.length then wd first sec f (i+1) (out++ [deed]) [] (i+1) else (out,used)) else if (prS t).2=0 then wd first sec f (i+1) out (deed++ [(prS t).1]) used else (out,used):=rfl
theorem zfb {first:Nat}{sec:Nat→Bytes}:∀(f i:Nat) (out:Deeds) (deed:List ChangeM) (used:Nat) (o:Deeds) (u:Nat),wd first sec f i out deed used=(o,u)→(u=used∧o=out)∨
    ((i<u∧u≤i+f)∧∀sec':Nat→Bytes,(∀j,i≤j→j<u→sec' j=sec j)→wd first sec' f i out deed used=wd first sec' (i+f - u) u o [] u)
  | 0,i,out,deed,used,o,u,e=>by
    injection e with e1 e2;exact .inl ⟨e2.symm,e1.symm⟩
  | f+1,i,out,deed,used,o,u,e=>by
    rw[zcV] at e;cases hl:zaK (first+i) (sec i) with
    | none=>rw[hl] at e;injection e with e1 e2;exact .inl ⟨e2.symm,e1.symm⟩
    | some kt=>
      obtain ⟨k,t⟩:=kt;rw[hl] at e;simp only at e;by_cases hk:k=99
      · rw[if_pos hk] at e;by_cases ht:t=qN deed.length
        · rw[if_pos ht] at e;right;have step:∀sec':Nat→Bytes,sec' i=sec i→wd first sec' (f+1) i out deed used=wd first sec' f (i+1) (out++ [deed]) [] (i+1):=fun sec' hs=>by
            rw[zcV,hs,hl];simp only;rw[if_pos hk,if_pos ht]
          rcases zfb f (i+1) (out++ [deed]) [] (i+1) o u e with ⟨h1,h2⟩ | ⟨⟨h1,h2⟩,h3⟩
          · subst h1 h2;exact ⟨⟨by omega,by omega⟩,fun sec' hs=>by rw[step sec' (hs i (by omega) (by omega)),show i+(f+1) - (i+1)=f by omega]⟩
          · exact ⟨⟨by omega,by omega⟩,fun sec' hs=>by rw[step sec' (hs i (by omega) (by omega)),h3 sec' (fun j hj1 hj2=>hs j (by omega) hj2),show i+(f+1)=i+1+f by omega]⟩
        · rw[if_neg ht] at e;injection e with e1 e2;exact .inl ⟨e2.symm,e1.symm⟩
      · rw[if_neg hk] at e;by_cases hp:(prS t).2=0
        · rw[if_pos hp] at e;have step:∀sec':Nat→Bytes,sec' i=sec i→wd first sec' (f+1) i out deed used=wd first sec' f (i+1) out (deed++ [(prS t).1]) used:=fun sec' hs=>by
            rw[zcV,hs,hl];simp only;rw[if_neg hk,if_pos hp]
          rcases zfb f (i+1) out (deed++ [(prS t).1]) used o u e with h | ⟨⟨h1,h2⟩,h3⟩
          · exact .inl h
          · exact .inr ⟨⟨by omega,by omega⟩,fun sec' hs=>by rw[step sec' (hs i (by omega) (by omega)),h3 sec' (fun j hj1 hj2=>hs j (by omega) hj2),show i+(f+1)=i+1+f by omega]⟩
        · rw[if_neg hp] at e;injection e with e1 e2;exact .inl ⟨e2.symm,e1.symm⟩
theorem zkm {first:Nat}{sec:Nat→Bytes}{f:Nat}:∀(c:List ChangeM) (i:Nat) (out:Deeds) (deed:List ChangeM) (used:Nat),(∀x∈c,zbt x=0)→(∀k x,c[k]? =some x→sec (i+k)=yi (wE 111 (first+(i+k)) (zkc x)))→
    wd first sec (c.length+f) i out deed used=wd first sec f (i+c.length) out (deed++c) used
  | [],i,out,deed,used,_,_=>by simp
  | x::c,i,out,deed,used,hc,hs=>by
    have h0:=hs 0 x rfl;have hx:=hc x (by simp);rw[show (x::c).length+f=(c.length+f)+1 by simp;omega];rw[zcV,show sec i=_ from h0,Nat.add_zero,zg0 (.inl rfl) (by have:=zjQ hx;omega)];simp only;rw[if_neg (by decide),zxe hx,if_pos rfl,zkm c (i+1) out (deed++ [x]) used (fun y hy=>hc y (List.mem_cons_of_mem _ hy)) (fun k y hy=>by have:=hs (k+1) y (by simpa using hy);rw[show i+1+k=i+(k+1) by omega];exact this)];simp only[List.length_cons,List.append_assoc,List.singleton_append];rw[show i+1+c.length=i+(c.length+1) by omega]
theorem zmK {first many:Nat}{sec sec':Nat→Bytes}{out:Deeds}{used:Nat}{c:List ChangeM}(h:wd first sec many 0 [] [] 0=(out,used))(hc:∀x∈c,zbt x=0)(hr:used+c.length+1≤many)(hlen:c.length≤72)
    (h1:∀j,j<used→sec' j=sec j) (h2:∀k x,c[k]? =some x→sec' (used+k)=yi (wE 111 (first+(used+k)) (zkc x))) (h3:sec' (used+c.length)=yi (wE 99 (first+(used+c.length)) (qN c.length)))
    (h4:used+c.length+1<many→sec' (used+c.length+1)=yi []):wd first sec' many 0 [] [] 0=(out++ [c],used+c.length+1):=by
  have hpre:=zfb many 0 [] [] 0 out used h;have e:wd first sec' many 0 [] [] 0=wd first sec' (many - used) used out [] used:=by
    rcases hpre with ⟨e1,e2⟩ | ⟨_,h5⟩
    · subst e1 e2;rfl
    · have:=h5 sec' fun j _ hj=>h1 j hj;rw[this,Nat.zero_add]
  rw[e,show many - used=c.length+((many - used - c.length - 1)+1) by omega,zkm c used out [] used hc h2];rw[zcV,h3,zg0 (.inr rfl) (by simp[qN])];simp only[List.nil_append,if_true];cases hf:many - used - c.length - 1 with
  | zero=>rfl
  | succ f=>
    rw[zcV,h4 (by omega),zcC]
abbrev LocA:=Option Addr×Nat
def dR (gl:List (List ChangeM×LocA)):List (List Value):=gl.map fun x=>[sl x.2.1 x.1.length x.2.2]
theorem zt3 (gl:List (List ChangeM×LocA)):(dR gl).length=gl.length:=by simp[dR]
theorem dR_at {gl:List (List ChangeM×LocA)}{k:Nat}{x:List ChangeM×LocA}(h:gl[k]? =some x):(dR gl)[k]? =some [sl x.2.1 x.1.length x.2.2]:=by simp[dR,h]
def zlq (gl:List (List ChangeM×LocA)):HProp:=fun m=>∀x∈gl,roL 3 x.2.1 (chR x.1) m
theorem zqp {sz:Nat}{s:Option Addr}{rows:List (List Value)}{m n:Res}(h:roL sz s rows m)(hs:Res.sub m n):roL sz s rows n:=by
  rcases h with h | ⟨b,off,o,h1,h2,h3⟩
  · exact .inl h
  · exact .inr ⟨b,off,o,h1,hs b _ h2,h3⟩
theorem zrk (gl:List (List ChangeM×LocA)):Pers (zlq gl):=fun m h=>by
  refine ⟨ros m,fun b x hx=>?_,fun b x hx=>?_,fun x hx=>zjO (h x hx)⟩
  · unfold ros at hx;split at hx
    · rename_i o ho;rw[ho];exact hx
    · cases hx
  · unfold ros at hx;split at hx
    · injection hx with hx;subst hx;rfl
    · cases hx
section
variable {c:Cx}{E:Env}{L:List HProp}{K:List KI}
theorem zvA (k:G c K E (zlq []::L)):G c K E L:=fun a w hE hS=>k a w hE ((Sat.pure_mk (φ:=True) trivial hS).weak fun m _=>fun x hx=>nomatch hx)
theorem ztG {F:List HProp}(gl:List (List ChangeM×LocA)){x:List ChangeM×LocA}(h:x∈gl)[R:Rem L (zlq gl) F](k:G c K E (roL 3 x.2.1 (chR x.1)::zlq gl::F)):G c K E L:=fun a w hE hS=>k a w hE (((R.sat hS).dup (zrk gl)).weak fun m hm=>hm x h)
theorem zpd {F F2:List HProp}(gl:List (List ChangeM×LocA))(d:List ChangeM)(s:Option Addr)(n:Nat)[R:Rem L (zlq gl) F][R2:Rem F (roL 3 s (chR d)) F2](k:G c K E (zlq (gl++ [(d,s,n)])::F2)):G c K E L:=fun a w hE hS=>by
  have h1:=R.sat hS;have r2:Rem (zlq gl::F) (roL 3 s (chR d)) (zlq gl::F2):=inferInstance;have h2:Sat c.w0 w (roL 3 s (chR d)::zlq gl::F2):=r2.sat h1;refine k a w hE (h2.two.weak fun m hm=>?_);obtain ⟨m1,m2,hd,s1,s2,ha,hb⟩:=hm;intro y hy;rcases List.mem_append.1 hy with hy | hy
  · exact zqp (hb y hy) s2
  · rw[List.mem_singleton] at hy;subst hy;exact zqp ha s1
end
def okW (N i:Nat)(D:DiskM):Prop:=D.kept.length=N∧D.now.length=N∧(-1≤D.fuse∧D.fuse≤9223372036854775807)∧(∀t∈D.wait,t.1<N)∧D.wait.length≤i
theorem zrg (N:Nat):okW N 0 (zfP N):=⟨by simp[zfP],by simp[zfP],by simp[zfP],by simp[zfP],by simp[zfP]⟩
theorem zj2 {N i:Nat}{D:DiskM}(h:okW N i D):okW N (i+1) D:=⟨h.1,h.2.1,h.2.2.1,h.2.2.2.1,by have:=h.2.2.2.2;omega⟩
theorem zgx {N i:Nat}{D:DiskM}(h:okW N i D):okW N i (yZ D):=by
  obtain ⟨h1,h2,h3,h4,h5⟩:=h;unfold yZ;split
  · exact ⟨h1,h2,h3,h4,h5⟩
  · split
    · exact ⟨h1,h2,by simp,h4,h5⟩
    · refine ⟨h1,h2,?_,h4,h5⟩;simp only;split <;> omega
theorem zkM {N i:Nat}{D:DiskM}(h:okW N i D)(n:Int)(s:Bytes):okW N (i+1) (yy D n s):=by
  unfold yy;split
  · exact zj2 h
  · rename_i hb;split
    · obtain ⟨h1,h2,h3,h4,h5⟩:=zgx h;refine ⟨h1,by simp[ww,h2],h3,fun t ht=>?_,by simp[ww];exact h5⟩;simp only[ww,List.mem_append,List.mem_singleton] at ht;rcases ht with ht | rfl
      · exact h4 t ht
      · have:=h.2.1;unfold zh5 at hb;simp only;omega
    · exact zj2 (zgx h)
theorem zeL {N i:Nat}{D:DiskM}(h:okW N i D):okW N (i+1) (yx D):=by
  unfold yx;split
  · obtain ⟨h1,h2,h3,h4,h5⟩:=zgx h;exact ⟨h2,h2,h3,by simp[zaO],by simp[zaO]⟩
  · exact zj2 (zgx h)
theorem zsm {N i:Nat}{D:DiskM}(h:okW N i D)(keep:Int):okW N (i+1) (zar keep D):=
  ⟨by simp[zar,zam,zal,h.1],by simp[zar,zam,zal,h.1],by simp[zar],by simp[zar],by simp[zar]⟩
theorem zae (D:DiskM):yV D=0∨yV D=9:=by unfold yV;split <;> simp
abbrev Stp:=Option (Nat×Bytes)
def stE (D:DiskM):Stp→Int
  | some x=>yO D x.1 x.2
  | none=>yV D
def stD (D:DiskM):Stp→DiskM
  | some x=>yy D x.1 x.2
  | none=>yx D
def wg:DiskM→List Stp→Int×DiskM
  | D,[]=>(0,D)
  | D,x::r=>if stE D x=0 then wg (stD D x) r else (stE D x,stD D x)
theorem zcu {D:DiskM}{x:Stp}{r:List Stp}(h:stE D x=0):wg D (x::r)=wg (stD D x) r:=by rw[wg,if_pos h]
theorem zbu {D:DiskM}{x:Stp}{r:List Stp}(h:¬stE D x=0):wg D (x::r)=(stE D x,stD D x):=by rw[wg,if_neg h]
theorem zft {D:DiskM}{n:Nat}{s:Bytes}{r:List Stp}(h:yO D n s=0):wg D (some (n,s)::r)=wg (yy D n s) r:=zcu h
theorem zdH {D:DiskM}{n:Nat}{s:Bytes}{r:List Stp}(h:¬yO D n s=0):wg D (some (n,s)::r)=(yO D n s,yy D n s):=zbu h
theorem zdi {D:DiskM}{r:List Stp}(h:yV D=0):wg D (none::r)=wg (yx D) r:=zcu h
theorem zcH {D:DiskM}{r:List Stp}(h:¬yV D=0):wg D (none::r)=(yV D,yx D):=zbu h
theorem zfh (D:DiskM):wg D []=(0,D):=rfl
theorem zeo:∀(l r:List Stp) (D:DiskM),wg D (l++r)=if (wg D l).1=0 then wg (wg D l).2 r else wg D l
  | [],r,D=>by simp[wg]
  | x::l,r,D=>by
    rw[List.cons_append];by_cases h:stE D x=0
    · rw[zcu h,zcu h,zeo l r]
    · rw[zbu h,zbu h,if_neg h]
theorem zpC {N i:Nat}{D:DiskM}(h:okW N i D)(x:Stp):okW N (i+1) (stD D x):=by
  cases x with
  | none=>exact zeL h
  | some x=>exact zkM h _ _
theorem zaW {N i j:Nat}{D:DiskM}(h:okW N i D)(hij:i≤j):okW N j D:=⟨h.1,h.2.1,h.2.2.1,h.2.2.2.1,by have:=h.2.2.2.2;omega⟩
theorem za4 {N:Nat}:∀(l:List Stp) (i:Nat) (D:DiskM),okW N i D→okW N (i+l.length) (wg D l).2
  | [],i,D,h=>h
  | x::l,i,D,h=>by
    by_cases h0:stE D x=0
    · rw[zcu h0];have:=za4 l (i+1) _ (zpC h x);rw[List.length_cons,show i+(l.length+1)=i+1+l.length by omega];exact this
    · rw[zbu h0];exact zaW (zpC h x) (by simp)
def zfN (from_ first used:Nat):Nat→List ChangeM→List Stp
  | _,[]=>[]
  | k,x::c=>some (from_+used+k,wE 111 (first+used+k) (zkc x))::zfN from_ first used (k+1) c
def zjV (from_ many used len:Nat):List Stp:=if used+len+1<many then [some (from_+(used+len+1),[])] else []
def zia (from_ many first used:Nat)(c:List ChangeM):List Stp:=zfN from_ first used 0 c++zjV from_ many used c.length
def zko (from_ first used len:Nat):Stp:=some (from_+(used+len),wE 99 (first+(used+len)) (qN len))
def zfC (from_ many first used:Nat)(c:List ChangeM):List Stp:=zia from_ many first used c++ [none,zko from_ first used c.length,none]
theorem zmV (from_ first used:Nat):∀(c:List ChangeM) (k:Nat),(zfN from_ first used k c).length=c.length
  | [],_=>rfl
  | x::c,k=>by simp[zfN,zmV from_ first used c]
theorem zsq (from_ many used len:Nat):(zjV from_ many used len).length≤1:=by unfold zjV;split <;> simp
theorem znX (from_ many first used:Nat)(c:List ChangeM):(zia from_ many first used c).length≤c.length+1:=by
  have:=zsq from_ many used c.length;simp[zia,zmV];omega
theorem zld {from_ first used k:Nat}{c:List ChangeM}{x:ChangeM}(h:c[k]? =some x):zfN from_ first used k (c.drop k)=some (from_+used+k,wE 111 (first+used+k) (zkc x))::zfN from_ first used (k+1) (c.drop (k+1)):=by
  obtain ⟨hk,rfl⟩:=List.getElem?_eq_some_iff.1 h;rw[List.drop_eq_getElem_cons hk]
  rfl
def zeh:List ChangeM→Int
  | []=>0
  | x::c=>if zbt x=0 then zeh c else zbt x
theorem zi0 {c:List ChangeM}{k:Nat}{x:ChangeM}(h:c[k]? =some x):zeh (c.drop k)=if zbt x=0 then zeh (c.drop (k+1)) else zbt x:=by
  obtain ⟨hk,rfl⟩:=List.getElem?_eq_some_iff.1 h;rw[List.drop_eq_getElem_cons hk]
  rfl
theorem zlB:∀{c:List ChangeM},zeh c=0→∀x∈c,zbt x=0
  | [],_,x,hx=>by simp at hx
  | y::c,h,x,hx=>by
    unfold zeh at h;split at h
    · rename_i h0;rcases List.mem_cons.1 hx with rfl | hx
      · exact h0
      · exact zlB h x hx
    · rename_i h0;exact absurd h h0
def zgs (many used:Nat)(c:List ChangeM):Int:=if 72<c.length then 2 else if many - used<c.length+1 then 8 else zeh c
def zgL (from_ many first used:Nat)(c:List ChangeM)(D:DiskM):Int:=if zgs many used c=0 then (wg D (zfC from_ many first used c)).1 else zgs many used c
def zdd (from_ many first used:Nat)(c:List ChangeM)(D:DiskM):DiskM:=if zgs many used c=0 then (wg D (zfC from_ many first used c)).2 else D
def zhg (from_ many first used:Nat)(c:List ChangeM)(D:DiskM):Nat:=if zgL from_ many first used c D=0 then used+c.length+1 else used
theorem zew {many used:Nat}{c:List ChangeM}(h:zgs many used c=0):c.length≤72∧c.length+1≤many - used∧∀x∈c,zbt x=0:=by
  unfold zgs at h;split at h
  · cases h
  · split at h
    · cases h
    · exact ⟨by omega,by omega,zlB h⟩
theorem zlL {many used:Nat}{c:List ChangeM}(h1:c.length≤72)(h2:c.length+1≤many - used):zgs many used c=zeh c:=by unfold zgs;rw[if_neg (by omega),if_neg (by omega)]
theorem zj4 {from_ many first used:Nat}{c:List ChangeM}{D:DiskM}{e:Int}(h:zgs many used c=e)(he:e≠0):zgL from_ many first used c D=e∧zdd from_ many first used c D=D∧zhg from_ many first used c D=used:=by
  have h0:¬zgs many used c=0:=(by rw[h];exact he);have h1:zgL from_ many first used c D=e:=by unfold zgL;rw[if_neg h0,h]
  refine ⟨h1,?_,?_⟩
  · unfold zdd;rw[if_neg h0]
  · unfold zhg;rw[h1,if_neg he]
theorem zgv {from_ many first used:Nat}{c:List ChangeM}{D D':DiskM}{e:Int}(h:zgs many used c=0)(hr:wg D (zfC from_ many first used c)=(e,D'))(he:e≠0):zgL from_ many first used c D=e∧zdd from_ many first used c D=D'∧zhg from_ many first used c D=used:=by
  have h1:zgL from_ many first used c D=e:=by unfold zgL;rw[if_pos h,hr]
  refine ⟨h1,?_,?_⟩
  · unfold zdd;rw[if_pos h,hr]
  · unfold zhg;rw[h1,if_neg he]
theorem zvW {from_ many first used:Nat}{c:List ChangeM}{D D':DiskM}(h:zgs many used c=0)(hr:wg D (zfC from_ many first used c)=(0,D')):zgL from_ many first used c D=0∧zdd from_ many first used c D=D'∧zhg from_ many first used c D=used+c.length+1:=by
  have h1:zgL from_ many first used c D=0:=by unfold zgL;rw[if_pos h,hr]
  refine ⟨h1,?_,?_⟩
  · unfold zdd;rw[if_pos h,hr]
  · unfold zhg;rw[h1,if_pos rfl]
def zcB (from_ many first used:Nat)(c:List ChangeM):Nat→List Stp
  | 0=>zia from_ many first used c++ [none,zko from_ first used c.length,none]
  | 1=>[none,zko from_ first used c.length,none]
  | 2=>[zko from_ first used c.length,none]
  | 3=>[none]
  | _=>[]
def upW (D:DiskM):Prop:=D.down=false∧D.fuse= -1
theorem znk {D:DiskM}(h:upW D):yV D=0∧yZ D=D:=by
  obtain ⟨k,n,w,f,d⟩:=D;obtain ⟨h1,h2⟩:=h;simp at h1 h2;subst h1 h2;exact ⟨rfl,rfl⟩
theorem zqF {D:DiskM}(h:upW D){n:Int}{s:Bytes}(hb:¬zh5 D n s):yO D n s=0∧yy D n s=ww D n s:=by
  have h1:=znk h;constructor
  · unfold yO;rw[if_neg hb,h1.1]
  · unfold yy;rw[if_neg hb,if_pos h1.1,h1.2]
theorem zrh {D:DiskM}(h:upW D):yV D=0∧yx D=zaO D:=by
  have h1:=znk h;exact ⟨h1.1,by unfold yx;rw[if_pos h1.1,h1.2]⟩
def zcm (N:Nat):Stp→Prop
  | some x=>x.1<N∧x.2.length≤80
  | none=>True
def zav:List Bytes→List Stp→List Bytes
  | L,[]=>L
  | L,some x::r=>zav (L.set x.1 (yi x.2)) r
  | L,none::r=>zav L r
theorem za6:∀(l r:List Stp) (L:List Bytes),zav L (l++r)=zav (zav L l) r
  | [],r,L=>rfl
  | some x::l,r,L=>za6 l r _
  | none::l,r,L=>za6 l r L
theorem zay:∀(l:List Stp) (L:List Bytes),(zav L l).length=L.length
  | [],L=>rfl
  | some x::l,L=>by rw[zav,zay l,List.length_set]
  | none::l,L=>zay l L
theorem zj5 {s:Bytes}(h:s.length≤80):(yi s).length=80:=by unfold yi;simp[zbK];omega
theorem zlH {N:Nat}:∀(l:List Stp) (L:List Bytes),(∀x∈L,x.length=80)→(∀x∈l,zcm N x)→∀x∈zav L l,x.length=80
  | [],L,h,_=>h
  | some y::l,L,h,ho=>zlH l _ (fun x hx=>by
      rcases List.mem_or_eq_of_mem_set hx with h' | h'
      · exact h x h'
      · rw[h'];exact zj5 (ho _ (List.mem_cons_self ..)).2) (fun x hx=>ho x (List.mem_cons_of_mem _ hx))
  | none::l,L,h,ho=>zlH l L h (fun x hx=>ho x (List.mem_cons_of_mem _ hx))
theorem zeC:∀(l:List Stp) (D:DiskM),upW D→(∀x∈l,zcm D.now.length x)→(wg D l).1=0∧upW (wg D l).2∧(wg D l).2.now=zav D.now l
  | [],D,h,_=>⟨rfl,h,rfl⟩
  | none::l,D,h,ho=>by
    have h1:=zrh h;rw[zdi h1.1,h1.2];exact zeC l (zaO D) h (fun x hx=>ho x (List.mem_cons_of_mem _ hx))
  | some y::l,D,h,ho=>by
    obtain ⟨n,s⟩:=y;have hy:=ho _ (List.mem_cons_self ..);have h1:=zqF h (n:=(n:Int)) (s:=s) (by unfold zh5;have h1:=hy.1;have h2:=hy.2;simp only at h1 h2;omega);rw[zft h1.1,h1.2];have:=zeC l (ww D n s) h (fun x hx=>by
      have:=ho x (List.mem_cons_of_mem _ hx);rw[show (ww D n s).now.length=D.now.length by simp[ww]];exact this)
    rw[this.2.2];exact ⟨this.1,this.2.1,rfl⟩
theorem yM {L:List Bytes}{n m:Nat}{x:Bytes}:(L.set n x).getD m []=if n=m∧n<L.length then x else L.getD m []:=by
  rw[List.getD_eq_getElem?_getD,List.getD_eq_getElem?_getD,List.getElem?_set];split
  · rename_i h;subst h;split
    · rename_i h2;rw[if_pos ⟨rfl,h2⟩];rfl
    · rename_i h2;rw[if_neg (fun h=>h2 h.2),List.getElem?_eq_none (by omega)]
  · rename_i h;rw[if_neg (fun h'=>h h'.1)]
theorem zeQ {from_ first used:Nat}:∀(c:List ChangeM) (k:Nat) (L:List Bytes) (m:Nat),(m<from_+used+k∨from_+used+k+c.length≤m)→(zav L (zfN from_ first used k c)).getD m []=L.getD m []
  | [],k,L,m,_=>rfl
  | x::c,k,L,m,h=>by
    rw[zfN,zav,zeQ c (k+1) _ m (by simp at h;omega),yM,if_neg (by simp at h;omega)]
theorem zpr {from_ first used:Nat}:∀(c:List ChangeM) (k:Nat) (L:List Bytes) (j:Nat) (x:ChangeM),from_+used+k+c.length≤L.length→c[j]? =some x→(zav L (zfN from_ first used k c)).getD (from_+used+k+j) []=yi (wE 111 (first+used+k+j) (zkc x))
  | [],k,L,j,x,_,h=>by simp at h
  | y::c,k,L,0,x,hl,h=>by
    simp at h hl;subst h;rw[zfN,zav,zeQ c (k+1) _ _ (by omega),yM,if_pos ⟨by omega,by omega⟩]
    rfl
  | y::c,k,L,j+1,x,hl,h=>by
    simp at h hl;rw[zfN,zav];have:=zpr (from_:=from_) (first:=first) (used:=used) c (k+1) (L.set (from_+used+k) (yi (wE 111 (first+used+k) (zkc y)))) j x (by simp;omega) h;rw[show from_+used+k+(j+1)=from_+used+(k+1)+j by omega,show first+used+k+(j+1)=first+used+(k+1)+j by omega];exact this
theorem zqB {from_ first used N:Nat}:∀(c:List ChangeM) (k:Nat),from_+used+k+c.length≤N→(∀x∈c,zbt x=0)→∀x∈zfN from_ first used k c,zcm N x
  | [],k,_,_,x,h=>by simp[zfN] at h
  | y::c,k,hN,hc,x,h=>by
    simp at hN;rw[zfN] at h;rcases List.mem_cons.1 h with rfl | h
    · exact ⟨by simp only;omega,by rw[zjl];have:=zjQ (hc y (by simp));omega⟩
    · exact zqB c (k+1) (by omega) (fun x hx=>hc x (List.mem_cons_of_mem _ hx)) x h
theorem zjF {from_ many first used N:Nat}{c:List ChangeM}(hN:from_+many≤N)(hv:zgs many used c=0):∀x∈zfC from_ many first used c,zcm N x:=by
  obtain ⟨h1,h2,h3⟩:=zew hv;intro x hx;unfold zfC zia at hx;simp only[List.mem_append,List.mem_cons,List.not_mem_nil,or_false] at hx;rcases hx with (hx | hx) | rfl | rfl | rfl
  · exact zqB c 0 (by omega) h3 x hx
  · unfold zjV at hx;split at hx
    · simp only[List.mem_singleton] at hx;subst hx;exact ⟨by simp only;omega,by simp⟩
    · simp at hx
  · trivial
  · exact ⟨by simp only;omega,by rw[zjl];simp[qN]⟩
  · trivial
theorem zyG {from_ many first used:Nat}{c:List ChangeM}{D:DiskM}(hu:upW D)(hS:∀x∈D.now,x.length=80)(hN:from_+many≤D.now.length)(hv:zgs many used c=0){out:Deeds}(hsc:wd first (fun i=>D.now.getD (from_+i) []) many 0 [] [] 0=(out,used)):
    zgL from_ many first used c D=0∧upW (zdd from_ many first used c D)∧(∀x∈(zdd from_ many first used c D).now,x.length=80)∧(zdd from_ many first used c D).now.length=D.now.length∧
      wd first (fun i=>(zdd from_ many first used c D).now.getD (from_+i) []) many 0 [] [] 0=(out++ [c],used+c.length+1):=by
  obtain ⟨h1,h2,h3⟩:=zew hv;have hok:=zjF (first:=first) hN hv;obtain ⟨r1,r2,r3⟩:=zeC _ D hu hok;have hE:zgL from_ many first used c D=0:=by unfold zgL;rw[if_pos hv,r1]
  have hD:zdd from_ many first used c D=(wg D (zfC from_ many first used c)).2:=by unfold zdd;rw[if_pos hv]
  rw[hD,r3];refine ⟨hE,r2,zlH _ _ hS hok,zay _ _,?_⟩;have hL:zav D.now (zfC from_ many first used c)=zav (zav (zav D.now (zfN from_ first used 0 c)) (zjV from_ many used c.length)) [zko from_ first used c.length]:=by
    unfold zfC zia;rw[za6,za6];rfl
  rw[hL];generalize hL1:zav D.now (zfN from_ first used 0 c)=L1;have l1:L1.length=D.now.length:=(by rw[←hL1,zay]);have hb:∀m,m≠from_+(used+c.length+1)→(zav L1 (zjV from_ many used c.length)).getD m []=L1.getD m []:=fun m hm=>by
    unfold zjV;split
    · rw[zav,zav,yM,if_neg (by simp only;omega)]
    · rfl
  have he:∀(L:List Bytes) m,(zav L [zko from_ first used c.length]).getD m []=if from_+(used+c.length)=m∧from_+(used+c.length)<L.length then yi (wE 99 (first+(used+c.length)) (qN c.length)) else L.getD m []:=fun L m=>by
    unfold zko;rw[zav,zav,yM]
  have l2:(zav L1 (zjV from_ many used c.length)).length=L1.length:=zay _ _;refine zmK hsc h3 (by omega) (by omega) (fun j hj=>?_) (fun k x hx=>?_) ?_ (fun hm=>?_)
  · rw[he,if_neg (by omega),hb _ (by omega),←hL1,zeQ _ _ _ _ (by omega)]
  · have hk:=(List.getElem?_eq_some_iff.1 hx).1;rw[he,if_neg (by omega),hb _ (by omega),←hL1,show from_+(used+k)=from_+used+0+k by omega,zpr c 0 _ k x (by omega) hx,show first+used+0+k=first+(used+k) by omega]
  · rw[he,if_pos ⟨rfl,by omega⟩]
  · rw[he,if_neg (by omega)];unfold zjV;rw[if_pos hm,zav,zav,yM,if_pos ⟨rfl,by simp only;omega⟩]
def zkP (first j:Nat)(s:Bytes):Prop:=∃t,zaK (first+j) s=some (99,t)
def zf7 (K:List Bytes)(from_ i:Nat):Bytes:=K.getD (from_+i) []
def zjc (from_ many first:Nat)(K:List Bytes)(ds:Deeds)(used:Nat):Prop:=wd first (zf7 K from_) many 0 [] [] 0=(ds,used)∧∀j,used≤j→j<many→¬zkP first j (zf7 K from_ j)
theorem zhM {first:Nat}{sec:Nat→Bytes}:∀(f i:Nat) (out:Deeds) (deed:List ChangeM) (used:Nat),(∀j,i≤j→j<i+f→¬zkP first j (sec j))→wd first sec f i out deed used=(out,used)
  | 0,i,out,deed,used,_=>rfl
  | f+1,i,out,deed,used,h=>by
    have h0:=h i (by omega) (by omega);rw[zcV];cases hl:zaK (first+i) (sec i) with
    | none=>rfl
    | some kt=>
      obtain ⟨k,t⟩:=kt;simp only;split
      · rename_i hk;subst hk;exact absurd ⟨t,hl⟩ h0
      · split
        · exact zhM f (i+1) out _ used (fun j h1 h2=>h j (by omega) (by omega))
        · rfl
theorem zkd {first:Nat}{sec:Nat→Bytes}{many:Nat}{ds:Deeds}{used:Nat}(h:wd first sec many 0 [] [] 0=(ds,used)):used≤many:=by
  rcases zfb many 0 [] [] 0 ds used h with ⟨h1,_⟩ | ⟨h1,_⟩ <;> omega
theorem zmn {from_ many first:Nat}{K K':List Bytes}{ds:Deeds}{used:Nat}(h:zjc from_ many first K ds used)(h1:∀j,j<used→zf7 K' from_ j=zf7 K from_ j)(h2:∀j,used≤j→j<many→zf7 K' from_ j=zf7 K from_ j∨¬zkP first j (zf7 K' from_ j)):zjc from_ many first K' ds used:=by
  have h3:∀j,used≤j→j<many→¬zkP first j (zf7 K' from_ j):=fun j a b=>by
    rcases h2 j a b with e | e
    · rw[e];exact h.2 j a b
    · exact e
  refine ⟨?_,h3⟩;have hu:=zkd h.1;rcases zfb many 0 [] [] 0 ds used h.1 with ⟨e1,e2⟩ | ⟨_,e3⟩
  · subst e1 e2;exact zhM many 0 [] [] 0 (fun j a b=>h3 j a (by omega))
  · rw[e3 (zf7 K' from_) (fun j _ hj=>h1 j hj)];exact zhM _ _ _ _ _ (fun j a b=>h3 j a (by omega))
theorem zfe {keep:Int}{w:List (Nat×Bytes)}{K:List Bytes}:∀k (m:Nat),(za3 keep w K k).getD m []=K.getD m []∨∃t∈w,t.1=m∧(za3 keep w K k).getD m []=t.2
  | 0,m=> .inl rfl
  | k+1,m=>by
    have ih:=zfe (keep:=keep) (w:=w) (K:=K) k m;unfold za3;cases ht:w[k]? with
    | none=>exact ih
    | some t=>
      simp only;split
      · rw[yM];split
        · rename_i h;exact .inr ⟨t,List.mem_of_getElem? ht,h.1,rfl⟩
        · exact ih
      · exact ih
def zuV (from_ first used:Nat)(t:Nat×Bytes):Prop:=∃j,used≤j∧t.1=from_+j∧¬zkP first j t.2
theorem zlb {from_ many first:Nat}{D:DiskM}{ds:Deeds}{used:Nat}(keep:Int)(h:zjc from_ many first D.kept ds used)(hw:∀t∈D.wait,zuV from_ first used t):zjc from_ many first (zam keep D) ds used:=by
  refine zmn h (fun j hj=>?_) (fun j h1 h2=>?_)
  · rcases zfe (keep:=keep) (w:=D.wait) (K:=D.kept) D.wait.length (from_+j) with e | ⟨t,ht,e,_⟩
    · exact e
    · obtain ⟨j',g1,g2,_⟩:=hw t ht;omega
  · rcases zfe (keep:=keep) (w:=D.wait) (K:=D.kept) D.wait.length (from_+j) with e | ⟨t,ht,e,e2⟩
    · exact .inl e
    · obtain ⟨j',g1,g2,g3⟩:=hw t ht;obtain rfl:j'=j:=(by omega);right;rw[show zf7 (zam keep D) from_ j'=t.2 from e2];exact g3
theorem ziD {D:DiskM}(h:yV D=0):D.down=false∧(yZ D).down=false:=by
  unfold yV at h;split at h
  · cases h
  · rename_i h1;have hd:D.down=false:=(by cases hd:D.down with | false=>rfl | true=>exact absurd (.inl hd) h1);have hf:¬D.fuse=0:=fun e=>h1 (.inr e);refine ⟨hd,?_⟩;unfold yZ;rw[if_neg (by rw[hd];decide),if_neg hf];exact hd
theorem ziO {from_ first used:Nat}:∀(l:List Stp) (D:DiskM) (e:Int) (D':DiskM),(∀x∈l,zcm D.now.length x)→(∀x∈l,∃t,x=some t∧zuV from_ first used (t.1,yi t.2))→(∀t∈D.wait,zuV from_ first used t)→D.down=false→wg D l=(e,D')→
    (e=0∨e=9)∧D'.kept=D.kept∧(∀t∈D'.wait,zuV from_ first used t)∧(e=0→D'.now=zav D.now l∧D'.down=false)
  | [],D,e,D',_,_,hw,hd,h=>by injection h with h1 h2;subst h1 h2;exact ⟨.inl rfl,rfl,hw,fun _=>⟨rfl,hd⟩⟩
  | none::l,D,e,D',_,ht,_,_,_=>by obtain ⟨t,h,_⟩:=ht none (List.mem_cons_self ..);cases h
  | some y::l,D,e,D',ho,ht,hw,hd,h=>by
    obtain ⟨n,s⟩:=y;have hy:=ho _ (List.mem_cons_self ..);obtain ⟨t,et,htm⟩:=ht _ (List.mem_cons_self ..);injection et with et;subst et;have hb:¬zh5 D (n:Int) s:=(by unfold zh5;have h1:=hy.1;have h2:=hy.2;simp only at h1 h2;omega);by_cases h0:yV D=0
    · have hwe:yO D (n:Int) s=0:=(by unfold yO;rw[if_neg hb,h0]);have hwd:yy D (n:Int) s=ww (yZ D) n s:=(by unfold yy;rw[if_neg hb,if_pos h0]);rw[zft hwe,hwd] at h;have hnow:(ww (yZ D) n s).now=D.now.set n (yi s):=(by simp[ww,wB]);have:=ziO l (ww (yZ D) n s) e D' (fun x hx=>by rw[hnow,List.length_set];exact ho x (List.mem_cons_of_mem _ hx)) (fun x hx=>ht x (List.mem_cons_of_mem _ hx)) (fun t ht'=>by
        simp only[ww,List.mem_append,List.mem_singleton,ws] at ht';rcases ht' with ht' | rfl
        · exact hw t ht'
        · exact htm) (ziD h0).2 h
      rw[hnow,show (ww (yZ D) n s).kept=D.kept from wb D] at this;exact this
    · have hwe:yO D (n:Int) s=yV D:=(by unfold yO;rw[if_neg hb]);have hwd:yy D (n:Int) s=yZ D:=(by unfold yy;rw[if_neg hb,if_neg h0]);rw[zdH (by rw[hwe];exact h0),hwe,hwd] at h;injection h with h1 h2;subst h1 h2;refine ⟨zae D,wb D,fun t ht'=>hw t (by rw[ws] at ht';exact ht'),fun h=>absurd h h0⟩
theorem zmB {from_ first used:Nat}:∀(c:List ChangeM) (k:Nat),(∀x∈c,zbt x=0)→∀x∈zfN from_ first used k c,∃t,x=some t∧zuV from_ first used (t.1,yi t.2)
  | [],k,_,x,h=>by simp[zfN] at h
  | y::c,k,hc,x,h=>by
    rw[zfN] at h;rcases List.mem_cons.1 h with rfl | h
    · refine ⟨_,rfl,used+k,by omega,Nat.add_assoc _ _ _,fun hs=>?_⟩;obtain ⟨t,ht⟩:=hs;rw[show first+(used+k)=first+used+k by omega,zg0 (.inl rfl) (by have:=zjQ (hc y (by simp));omega)] at ht;injection ht with ht;injection ht with ht;cases ht
    · exact zmB c (k+1) (fun x hx=>hc x (List.mem_cons_of_mem _ hx)) x h
theorem zpV {from_ many first used:Nat}{c:List ChangeM}(hc:∀x∈c,zbt x=0):∀x∈zia from_ many first used c,∃t,x=some t∧zuV from_ first used (t.1,yi t.2):=by
  intro x hx;unfold zia at hx;rcases List.mem_append.1 hx with hx | hx
  · exact zmB c 0 hc x hx
  · unfold zjV at hx;split at hx
    · rw[List.mem_singleton] at hx;subst hx;exact ⟨_,rfl,used+c.length+1,by omega,rfl,fun hs=>by obtain ⟨t,ht⟩:=hs;rw[zcC] at ht;cases ht⟩
    · simp at hx
theorem zlp {from_ first used:Nat}:∀(l:List Stp) (K:List Bytes),(∀x∈l,∃t,x=some t∧zuV from_ first used (t.1,yi t.2))→(∀j,j<used→zf7 (zav K l) from_ j=zf7 K from_ j)∧(∀j,used≤j→zf7 (zav K l) from_ j=zf7 K from_ j∨¬zkP first j (zf7 (zav K l) from_ j))
  | [],K,_=>⟨fun _ _=>rfl,fun _ _=> .inl rfl⟩
  | none::l,K,h=>by obtain ⟨t,h,_⟩:=h none (List.mem_cons_self ..);cases h
  | some y::l,K,h=>by
    obtain ⟨n,s⟩:=y;obtain ⟨t,et,j0,g1,g2,g3⟩:=h _ (List.mem_cons_self ..);injection et with et;subst et;simp only at g2 g3;have ih:=zlp l (K.set n (yi s)) (fun x hx=>h x (List.mem_cons_of_mem _ hx));have hs:∀j,zf7 (K.set n (yi s)) from_ j=if n=from_+j∧n<K.length then yi s else zf7 K from_ j:=fun j=>yM
    refine ⟨fun j hj=>?_,fun j hj=>?_⟩
    · rw[zav,ih.1 j hj,hs,if_neg (by omega)]
    · rw[zav];rcases ih.2 j hj with e | e
      · rw[e,hs];split
        · rename_i hc;obtain rfl:j0=j:=(by omega);exact .inr g3
        · exact .inl rfl
      · exact .inr e
def calm (D:DiskM):Prop:=D.kept=D.now∧D.wait=[]∧D.down=false
theorem zbG {D:DiskM}(h:yV D=0):calm (yx D)∧(yx D).now=D.now:=by
  unfold yx;rw[if_pos h];exact ⟨⟨rfl,rfl,(ziD h).2⟩,wB D⟩
theorem zpQ {from_ many first used:Nat}{c:List ChangeM}{D:DiskM}{ds:Deeds}(hq:calm D)(hN:from_+many≤D.now.length)(hv:zgs many used c=0)(hs:zjc from_ many first D.now ds used){e:Int}{D':DiskM}(hr:wg D (zfC from_ many first used c)=(e,D')):
    (e=0∧calm D'∧zjc from_ many first D'.now (ds++ [c]) (used+c.length+1))∨(e=9∧∀keep,∃u,zjc from_ many first (zam keep D') ds u∨zjc from_ many first (zam keep D') (ds++ [c]) u):=by
  obtain ⟨v1,v2,v3⟩:=zew hv;have hok:=zjF (first:=first) hN hv;have hokL:∀x∈zia from_ many first used c,zcm D.now.length x:=fun x hx=>hok x (by unfold zfC;exact List.mem_append_left _ hx)
  have htm:=zpV (from_:=from_) (many:=many) (first:=first) (used:=used) v3;cases hr1:wg D (zia from_ many first used c) with
  | mk e1 D1=>
    obtain ⟨hc1,hk1,hw1,ho1⟩:=ziO _ D e1 D1 hokL htm (by rw[hq.2.1];intro t ht;cases ht) hq.2.2 hr1;have hs1:zjc from_ many first D1.kept ds used:=by rw[hk1,hq.1];exact hs
    have crash:∀D2:DiskM,D2.kept=D1.kept→D2.wait=D1.wait→∀keep,∃u,zjc from_ many first (zam keep D2) ds u∨zjc from_ many first (zam keep D2) (ds++ [c]) u:=fun D2 a b keep=>
      ⟨used, .inl (zlb keep (by rw[a];exact hs1) (by rw[b];exact hw1))⟩
    unfold zfC at hr;rw[zeo,hr1] at hr;simp only at hr;by_cases he1:e1=0
    · rw[if_pos he1] at hr;obtain ⟨hnow,hdn⟩:=ho1 he1;by_cases h2:yV D1=0
      · rw[zdi h2] at hr;obtain ⟨hq2,hn2⟩:=zbG h2;generalize hD2:yx D1=D2 at*;have hl2:D2.now.length=D.now.length:=(by rw[hn2,hnow,zay]);have hs2:zjc from_ many first D2.now ds used:=by
          rw[hn2,hnow];have:=zlp _ D.now htm;exact zmn hs this.1 (fun j a _=>this.2 j a)
        have hfin:zjc from_ many first (D2.now.set (from_+(used+c.length)) (yi (wE 99 (first+(used+c.length)) (qN c.length)))) (ds++ [c]) (used+c.length+1):=by
          have hg:∀m,(D2.now.set (from_+(used+c.length)) (yi (wE 99 (first+(used+c.length)) (qN c.length)))).getD m []=if from_+(used+c.length)=m∧from_+(used+c.length)<D2.now.length then yi (wE 99 (first+(used+c.length)) (qN c.length)) else D2.now.getD m []:=fun m=>yM
          have hn:D2.now=zav (zav D.now (zfN from_ first used 0 c)) (zjV from_ many used c.length):=(by rw[hn2,hnow];unfold zia;rw[za6]);have hb:∀m,m≠from_+(used+c.length+1)→D2.now.getD m []=(zav D.now (zfN from_ first used 0 c)).getD m []:=fun m hm=>by
            rw[hn];unfold zjV;split
            · rw[zav,zav,yM,if_neg (by simp only;omega)]
            · rfl
          have hbl:used+c.length+1<many→D2.now.getD (from_+(used+c.length+1)) []=yi []:=fun hm=>by
            rw[hn];unfold zjV;rw[if_pos hm,zav,zav,yM,if_pos ⟨rfl,by simp only[zay];omega⟩]
          refine ⟨?_,fun j h1 h2'=>?_⟩
          · refine zmK hs.1 v3 (by omega) (by omega) (fun j hj=>?_) (fun k x hx=>?_) ?_ (fun hm=>?_)
            · show List.getD _ _ _=List.getD _ _ _;rw[hg,if_neg (by omega),hb _ (by omega),zeQ _ _ _ _ (by omega)]
            · have hk:=(List.getElem?_eq_some_iff.1 hx).1;show List.getD _ _ _=_;rw[hg,if_neg (by omega),hb _ (by omega),show from_+(used+k)=from_+used+0+k by omega,zpr c 0 _ k x (by omega) hx,show first+used+0+k=first+(used+k) by omega]
            · show List.getD _ _ _=_;rw[hg,if_pos ⟨rfl,by omega⟩]
            · show List.getD _ _ _=_;rw[hg,if_neg (by omega)];exact hbl hm
          · show ¬zkP first j (List.getD _ _ _)
            rw[hg,if_neg (by omega)];exact hs2.2 j (by omega) h2'
        have hb3:¬zh5 D2 ((from_+(used+c.length):Nat):Int) (wE 99 (first+(used+c.length)) (qN c.length)):=(by unfold zh5;rw[zjl];simp only[qN,List.length_cons,List.length_nil];omega);unfold zko at hr;by_cases h3:yV D2=0
        · have hwe:yO D2 ((from_+(used+c.length):Nat):Int) (wE 99 (first+(used+c.length)) (qN c.length))=0:=(by unfold yO;rw[if_neg hb3,h3]);rw[zft hwe] at hr;have hwd:yy D2 ((from_+(used+c.length):Nat):Int) (wE 99 (first+(used+c.length)) (qN c.length))=ww (yZ D2) ((from_+(used+c.length):Nat):Int) (wE 99 (first+(used+c.length)) (qN c.length)):=(by unfold yy;rw[if_neg hb3,if_pos h3]);rw[hwd] at hr;have hn3:(ww (yZ D2) ((from_+(used+c.length):Nat):Int) (wE 99 (first+(used+c.length)) (qN c.length))).now=D2.now.set (from_+(used+c.length)) (yi (wE 99 (first+(used+c.length)) (qN c.length))):=by
            show (yZ D2).now.set (((from_+(used+c.length):Nat):Int)).toNat _=_;rw[wB,Int.toNat_natCast]
          have hk3:(ww (yZ D2) ((from_+(used+c.length):Nat):Int) (wE 99 (first+(used+c.length)) (qN c.length))).kept=D2.now:=(by rw[←hq2.1];exact wb D2);have hw3:(ww (yZ D2) ((from_+(used+c.length):Nat):Int) (wE 99 (first+(used+c.length)) (qN c.length))).wait=[(from_+(used+c.length),yi (wE 99 (first+(used+c.length)) (qN c.length)))]:=by
            show (yZ D2).wait++ [((((from_+(used+c.length):Nat):Int)).toNat,_)]=_;rw[ws,hq2.2.1,Int.toNat_natCast]
            rfl
          generalize ww (yZ D2) ((from_+(used+c.length):Nat):Int) (wE 99 (first+(used+c.length)) (qN c.length))=D3 at*;by_cases h4:yV D3=0
          · rw[zdi h4,zfh] at hr;injection hr with hr1 hr2;subst hr1 hr2;obtain ⟨hq4,hn4⟩:=zbG h4;exact .inl ⟨rfl,hq4,by rw[hn4,hn3];exact hfin⟩
          · rw[zcH h4] at hr;injection hr with hr1 hr2;subst hr1 hr2;right;have hst:yx D3=yZ D3:=(by unfold yx;rw[if_neg h4]);refine ⟨by rcases zae D3 with h | h;exact absurd h h4;exact h,fun keep=>?_⟩;rw[hst];have hres:zam keep (yZ D3)=D2.now∨zam keep (yZ D3)=D2.now.set (from_+(used+c.length)) (yi (wE 99 (first+(used+c.length)) (qN c.length))):=by
              unfold zam;rw[ws,wb,hk3,hw3];simp only[List.length_singleton,za3,List.getElem?_cons_zero];split
              · exact .inr rfl
              · exact .inl rfl
            rcases hres with h | h
            · rw[h];exact ⟨_, .inl hs2⟩
            · rw[h];exact ⟨_, .inr hfin⟩
        · have hwe:yO D2 ((from_+(used+c.length):Nat):Int) (wE 99 (first+(used+c.length)) (qN c.length))=yV D2:=(by unfold yO;rw[if_neg hb3]);have hwd:yy D2 ((from_+(used+c.length):Nat):Int) (wE 99 (first+(used+c.length)) (qN c.length))=yZ D2:=(by unfold yy;rw[if_neg hb3,if_neg h3]);rw[zdH (by rw[hwe];exact h3),hwe,hwd] at hr;injection hr with hr1 hr2;subst hr1 hr2;right;refine ⟨by rcases zae D2 with h | h;exact absurd h h3;exact h,fun keep=>⟨used, .inl ?_⟩⟩;exact zlb keep (by rw[wb,hq2.1];exact hs2) (by rw[ws,hq2.2.1];intro t ht;cases ht)
      · rw[zcH h2] at hr;injection hr with hr1 hr2;subst hr1 hr2;have hst:yx D1=yZ D1:=(by unfold yx;rw[if_neg h2]);rw[hst];exact .inr ⟨by rcases zae D1 with h | h;exact absurd h h2;exact h,crash _ (wb D1) (ws D1)⟩
    · rw[if_neg he1] at hr;injection hr with hr1 hr2;subst hr1 hr2;exact .inr ⟨by rcases hc1 with h | h;exact absurd h he1;exact h,crash _ rfl rfl⟩
theorem wu8 (n:Nat):IntKind.u8.wrap (n:Int)=((n % 256:Nat):Int):=by
  show (n:Int) % 2 ^ 8=_;omega
theorem zkq (n k:Nat):((n:Int)).fdiv (k:Int)=((n / k:Nat):Int):=by
  rw[Int.fdiv_eq_ediv_of_nonneg _ (by omega)];rfl
theorem ziH (n:Nat):[[By ((n % 256:Nat):Int)],[By ((n / 256 % 256:Nat):Int)],[By ((n / 65536 % 256:Nat):Int)],[By ((n / 16777216 % 256:Nat):Int)]]=qr (qN n):=by
  simp only[qr,qN,List.map_cons,List.map_nil,UInt8.toNat_ofNat']
theorem zeJ (n:Nat):[[By ((n % 256:Nat):Int)],[By ((n / 256 % 256:Nat):Int)]]=qr [UInt8.ofNat n,UInt8.ofNat (n / 256)]:=by
  simp only[qr,List.map_cons,List.map_nil,UInt8.toNat_ofNat']
def lookV:Option (UInt8×Bytes)→Value
  | none=> .tuple #[By 0,Str [],Bo false]
  | some (k,t)=> .tuple #[By k.toNat,Str t,Bo true]
abbrev lgC (bd from_ many first next:Nat):Array Value:=#[ptr bd 0,I from_,I many,I first,I next]
theorem zhT {l:List Bytes}{i:Nat}(h:i<l.length):l[i]? =some (l.getD i []):=by rw[List.getD_eq_getElem?_getD,List.getElem?_eq_getElem h];rfl
theorem zeT {l:List Bytes}{i:Nat}(h:i<l.length)(hS:∀x∈l,x.length=80):(l.getD i []).length=80:=hS _ (List.mem_of_getElem? (zhT h))
theorem zx2 (s:Bytes):skN s≤65535:=by unfold skN;have:=(sk s 5).toNat_lt;have:=(sk s 6).toNat_lt;omega
theorem zxT (s:Bytes)(i:Nat)(k:UInt8):((sk s i).toNat:Int)=(k.toNat:Int) ↔ sk s i=k:=by
  constructor
  · intro h;exact UInt8.toNat_inj.1 (by omega)
  · intro h;rw[h]
theorem zad (n:Nat)(F:List HProp):Ct Tryz.prog 146 [I n] ([]++F) (R1 (Str (qN n)) F):=by
  show Ct Tryz.prog 146 [I n] (F) _;refine Ct.of func146 rR 16 ntmps146 (by simp) fun w0=>?_;refine gS (gA rR (qb (gS (gM rR (g_v (yU (r:=((n % 256:Nat):Int)) underlying3 underlying5 rR (wu8 _)) rR (gM rR (g_v (zd4 (r:=((n / 256:Nat):Int)) rR rR (by decide) (zkq n 256)) rR (g_v (yU (r:=((n / 256 % 256:Nat):Int)) underlying3 underlying5 rR (wu8 _)) rR (gM rR (g_v (zd4 (r:=((n / 65536:Nat):Int)) rR rR (by decide) (zkq n 65536)) rR (g_v (yU (r:=((n / 65536 % 256:Nat):Int)) underlying3 underlying5 rR (wu8 _)) rR (gM rR (g_v (zd4 (r:=((n / 16777216:Nat):Int)) rR rR (by decide) (zkq n 16777216)) rR (g_v (yU (r:=((n / 16777216 % 256:Nat):Int)) underlying3 underlying5 rR (wu8 _)) rR ?_))))))))))))));refine g_l (qs (qr (qN n)) underlying199 sizeOf5 zeroValue5 rR rR (ziH n) (by simp[qr]) (by decide) (by decide)) rR ?_;rintro _ _ ⟨b14,rfl,rfl⟩;refine g_v (yL (l:=qN n) underlying199 underlying5 underlying9 rR rR rR) rR (gA rR (qb ?_));refine qn rR rR ?_;exact rfl
-- counterfoil/counterfoilref.four is not in this seat
theorem zhB (kind:UInt8)(n:Nat)(s:Bytes)(hs:s.length≤1000000)(F:List HProp):Ct Tryz.prog 181 [By kind.toNat,I n,Str s] ([]++F) (R1 (Str (wE kind n s)) F):=by
  show Ct Tryz.prog 181 [By kind.toNat,I n,Str s] (F) _;refine Ct.of func181 rR 25 ntmps181 (by simp) fun w0=>?_;refine gS (gA rR (qb (qf ?_)));refine zmt (Lf:=[]) (.q 0 (.q 3 (.q 6 (.q 7 (.q 8 (.q 9 (.q 10 (.q 11 (.q 12 (.q 16 (.alt (.l 1 (.c (.q 2 (.alt (.l 4 (.q 5 (.l 13 (.c (.q 14 (.q 15 (.q 17 (.q 18 (.nil))))))))) (.l 13 (.c (.q 14 (.l 4 (.q 5 (.q 15 (.q 17 (.q 18 (.nil))))))))))))) (.alt (.l 4 (.alt (.l 1 (.c (.q 2 (.q 5 (.l 13 (.c (.q 14 (.q 15 (.q 17 (.q 18 (.nil))))))))))) (.l 13 (.c (.q 14 (.l 1 (.c (.q 2 (.q 5 (.q 15 (.q 17 (.q 18 (.nil))))))))))))) (.l 13 (.c (.q 14 (.alt (.l 1 (.c (.q 2 (.l 4 (.q 5 (.q 15 (.q 17 (.q 18 (.nil))))))))) (.l 4 (.l 1 (.c (.q 2 (.q 5 (.q 15 (.q 17 (.q 18 (.nil))))))))))))))))))))))))) (by kernel_rfl) (by kernel_rfl) (by kernel_rfl) ?_;refine t_v rR (qp rR) rR ?_;refine t_v rR (qp rR) rR ?_;refine t_v rR (qp rR) rR ?_;refine t_v rR (wi underlying9 rR) rR ?_;refine t_v rR (yU (r:=((s.length % 256:Nat):Int)) underlying3 underlying5 rR (wu8 _)) rR ?_;refine t_v rR (qp rR) rR ?_;refine t_v rR (wi underlying9 rR) rR ?_;refine t_v rR (zd4 (r:=((s.length / 256:Nat):Int)) rR rR (by decide) (zkq s.length 256)) rR ?_;refine t_v rR (yU (r:=((s.length / 256 % 256:Nat):Int)) underlying3 underlying5 rR (wu8 _)) rR ?_;refine t_v rR (qp rR) rR ?_;refine zh8 ?_ ?_
  · refine t_l rR (qs (qr ([kind])) underlying199 sizeOf5 zeroValue5 rR rR (rR) (by simp[qr]) (by decide) (by decide)) rR ?_;rintro _ _ ⟨b8,rfl,rfl⟩;refine zil ([owL 5 1 (some ⟨b8,0,none⟩) 1 (qr [kind])]) ?_;refine t_v rR (yL (l:=[kind]) underlying199 underlying5 underlying9 rR rR rR) rR ?_;refine zh8 ?_ ?_
    · refine t_l rR (qi (Pre:=[]) call146 rR (zad n)) rR ?_;rintro _ _ ⟨rfl,rfl⟩;refine t_v rR (wN rR rR (by simp[qN] <;> omega)) rR ?_;refine t_l rR (qs (qr ([UInt8.ofNat s.length,UInt8.ofNat (s.length / 256)])) underlying199 sizeOf5 zeroValue5 rR rR (zeJ s.length) (by simp[qr]) (by decide) (by decide)) rR ?_;rintro _ _ ⟨b20,rfl,rfl⟩;refine zil ([owL 5 1 (some ⟨b20,0,none⟩) 2 (qr [UInt8.ofNat s.length,UInt8.ofNat (s.length / 256)]),owL 5 1 (some ⟨b8,0,none⟩) 1 (qr [kind])]) ?_;refine t_v rR (yL (l:=[UInt8.ofNat s.length,UInt8.ofNat (s.length / 256)]) underlying199 underlying5 underlying9 rR rR rR) rR ?_;refine t_v rR (wN rR rR (by simp[qN])) rR ?_;refine t_v rR (wN rR rR (by simp[qN];omega)) rR ?_;refine t_v rR (qx rR) rR ?_;refine zfr ?_;refine qn rR rR ?_;exact rfl
    · refine t_l rR (qs (qr ([UInt8.ofNat s.length,UInt8.ofNat (s.length / 256)])) underlying199 sizeOf5 zeroValue5 rR rR (zeJ s.length) (by simp[qr]) (by decide) (by decide)) rR ?_;rintro _ _ ⟨b20,rfl,rfl⟩;refine zil ([owL 5 1 (some ⟨b20,0,none⟩) 2 (qr [UInt8.ofNat s.length,UInt8.ofNat (s.length / 256)]),owL 5 1 (some ⟨b8,0,none⟩) 1 (qr [kind])]) ?_;refine t_v rR (yL (l:=[UInt8.ofNat s.length,UInt8.ofNat (s.length / 256)]) underlying199 underlying5 underlying9 rR rR rR) rR ?_;refine t_l rR (qi (Pre:=[]) call146 rR (zad n)) rR ?_;rintro _ _ ⟨rfl,rfl⟩;refine t_v rR (wN rR rR (by simp[qN] <;> omega)) rR ?_;refine t_v rR (wN rR rR (by simp[qN])) rR ?_;refine t_v rR (wN rR rR (by simp[qN];omega)) rR ?_;refine t_v rR (qx rR) rR ?_;refine zfr ?_;refine qn rR rR ?_;exact rfl
  refine zh8 ?_ ?_
  · refine t_l rR (qi (Pre:=[]) call146 rR (zad n)) rR ?_;rintro _ _ ⟨rfl,rfl⟩;refine zh8 ?_ ?_
    · refine t_l rR (qs (qr ([kind])) underlying199 sizeOf5 zeroValue5 rR rR (rR) (by simp[qr]) (by decide) (by decide)) rR ?_;rintro _ _ ⟨b8,rfl,rfl⟩;refine zil ([owL 5 1 (some ⟨b8,0,none⟩) 1 (qr [kind])]) ?_;refine t_v rR (yL (l:=[kind]) underlying199 underlying5 underlying9 rR rR rR) rR ?_;refine t_v rR (wN rR rR (by simp[qN] <;> omega)) rR ?_;refine t_l rR (qs (qr ([UInt8.ofNat s.length,UInt8.ofNat (s.length / 256)])) underlying199 sizeOf5 zeroValue5 rR rR (zeJ s.length) (by simp[qr]) (by decide) (by decide)) rR ?_;rintro _ _ ⟨b20,rfl,rfl⟩;refine zil ([owL 5 1 (some ⟨b20,0,none⟩) 2 (qr [UInt8.ofNat s.length,UInt8.ofNat (s.length / 256)]),owL 5 1 (some ⟨b8,0,none⟩) 1 (qr [kind])]) ?_;refine t_v rR (yL (l:=[UInt8.ofNat s.length,UInt8.ofNat (s.length / 256)]) underlying199 underlying5 underlying9 rR rR rR) rR ?_;refine t_v rR (wN rR rR (by simp[qN])) rR ?_;refine t_v rR (wN rR rR (by simp[qN];omega)) rR ?_;refine t_v rR (qx rR) rR ?_;refine zfr ?_;refine qn rR rR ?_;exact rfl
    · refine t_l rR (qs (qr ([UInt8.ofNat s.length,UInt8.ofNat (s.length / 256)])) underlying199 sizeOf5 zeroValue5 rR rR (zeJ s.length) (by simp[qr]) (by decide) (by decide)) rR ?_;rintro _ _ ⟨b20,rfl,rfl⟩;refine zil ([owL 5 1 (some ⟨b20,0,none⟩) 2 (qr [UInt8.ofNat s.length,UInt8.ofNat (s.length / 256)])]) ?_;refine t_v rR (yL (l:=[UInt8.ofNat s.length,UInt8.ofNat (s.length / 256)]) underlying199 underlying5 underlying9 rR rR rR) rR ?_;refine t_l rR (qs (qr ([kind])) underlying199 sizeOf5 zeroValue5 rR rR (rR) (by simp[qr]) (by decide) (by decide)) rR ?_;rintro _ _ ⟨b8,rfl,rfl⟩;refine zil ([owL 5 1 (some ⟨b8,0,none⟩) 1 (qr [kind]),owL 5 1 (some ⟨b20,0,none⟩) 2 (qr [UInt8.ofNat s.length,UInt8.ofNat (s.length / 256)])]) ?_;refine t_v rR (yL (l:=[kind]) underlying199 underlying5 underlying9 rR rR rR) rR ?_;refine t_v rR (wN rR rR (by simp[qN] <;> omega)) rR ?_;refine t_v rR (wN rR rR (by simp[qN])) rR ?_;refine t_v rR (wN rR rR (by simp[qN];omega)) rR ?_;refine t_v rR (qx rR) rR ?_;refine zfr ?_;refine qn rR rR ?_;exact rfl
  · refine t_l rR (qs (qr ([UInt8.ofNat s.length,UInt8.ofNat (s.length / 256)])) underlying199 sizeOf5 zeroValue5 rR rR (zeJ s.length) (by simp[qr]) (by decide) (by decide)) rR ?_;rintro _ _ ⟨b20,rfl,rfl⟩;refine zil ([owL 5 1 (some ⟨b20,0,none⟩) 2 (qr [UInt8.ofNat s.length,UInt8.ofNat (s.length / 256)])]) ?_;refine t_v rR (yL (l:=[UInt8.ofNat s.length,UInt8.ofNat (s.length / 256)]) underlying199 underlying5 underlying9 rR rR rR) rR ?_;refine zh8 ?_ ?_
    · refine t_l rR (qs (qr ([kind])) underlying199 sizeOf5 zeroValue5 rR rR (rR) (by simp[qr]) (by decide) (by decide)) rR ?_;rintro _ _ ⟨b8,rfl,rfl⟩;refine zil ([owL 5 1 (some ⟨b8,0,none⟩) 1 (qr [kind]),owL 5 1 (some ⟨b20,0,none⟩) 2 (qr [UInt8.ofNat s.length,UInt8.ofNat (s.length / 256)])]) ?_;refine t_v rR (yL (l:=[kind]) underlying199 underlying5 underlying9 rR rR rR) rR ?_;refine t_l rR (qi (Pre:=[]) call146 rR (zad n)) rR ?_;rintro _ _ ⟨rfl,rfl⟩;refine t_v rR (wN rR rR (by simp[qN] <;> omega)) rR ?_;refine t_v rR (wN rR rR (by simp[qN])) rR ?_;refine t_v rR (wN rR rR (by simp[qN];omega)) rR ?_;refine t_v rR (qx rR) rR ?_;refine zfr ?_;refine qn rR rR ?_;exact rfl
    · refine t_l rR (qi (Pre:=[]) call146 rR (zad n)) rR ?_;rintro _ _ ⟨rfl,rfl⟩;refine t_l rR (qs (qr ([kind])) underlying199 sizeOf5 zeroValue5 rR rR (rR) (by simp[qr]) (by decide) (by decide)) rR ?_;rintro _ _ ⟨b8,rfl,rfl⟩;refine zil ([owL 5 1 (some ⟨b8,0,none⟩) 1 (qr [kind]),owL 5 1 (some ⟨b20,0,none⟩) 2 (qr [UInt8.ofNat s.length,UInt8.ofNat (s.length / 256)])]) ?_;refine t_v rR (yL (l:=[kind]) underlying199 underlying5 underlying9 rR rR rR) rR ?_;refine t_v rR (wN rR rR (by simp[qN] <;> omega)) rR ?_;refine t_v rR (wN rR rR (by simp[qN])) rR ?_;refine t_v rR (wN rR rR (by simp[qN];omega)) rR ?_;refine t_v rR (qx rR) rR ?_;refine zfr ?_;refine qn rR rR ?_;exact rfl
theorem zg4 (bl bd from_ many first next:Nat)(hb:next≤many∧many≤1000000)(F:List HProp):Ct Tryz.prog 128 [ptr bl 0] ([pt bl (.cells (lgC bd from_ many first (next)) 222 (0,0))]++F) (R1 (I ((many - next:Nat):Int)) (pt bl (.cells (lgC bd from_ many first (next)) 222 (0,0))::F)):=by
  show Ct Tryz.prog 128 [ptr bl 0] (pt bl (.cells (lgC bd from_ many first (next)) 222 (0,0))::F) _;refine Ct.of func128 rR 12 ntmps128 (by simp) fun w0=>?_;refine gS (gA rR (qb (qf ?_)));refine wS [(0,false),(1,false),(2,false),(3,false),(4,false),(5,false),(6,false),(7,false),(8,false),(9,false)] (by kernel_rfl) (by kernel_rfl) rR (by kernel_rfl) ?_;refine dM rfl rfl rfl (d_v rfl (qc rfl) rfl (d_v rfl (qa 2 underlying222 rfl rfl sizeOf3 (by decide) rfl) rfl (d_v rfl (qe (v:=I many) isAgg3 rfl rfl) rfl (dM rfl rfl rfl (d_v rfl (qc rfl) rfl (d_v rfl (qa 4 underlying222 rfl rfl sizeOf3 (by decide) rfl) rfl (d_v rfl (qe (v:=I next) isAgg3 rfl rfl) rfl (d_v rfl (zce (r:=((many - next:Nat):Int)) rfl rfl (by rw[show (many:Int) - (next:Int)=((many - next:Nat):Int) by omega];exact w64 (by omega))) rfl (d_v rfl (qx rfl) rfl ?_)))))))));refine yc ?_;refine qn rR rR ?_;exact rfl
theorem zhz (bl bd from_ many first next:Nat)(hb:many≤1000000∧first≤1000000000000)(F:List HProp):Ct Tryz.prog 176 [ptr bl 0] ([pt bl (.cells (lgC bd from_ many first (next)) 222 (0,0))]++F) (R1 (I ((first+many:Nat):Int)) (pt bl (.cells (lgC bd from_ many first (next)) 222 (0,0))::F)):=by
  show Ct Tryz.prog 176 [ptr bl 0] (pt bl (.cells (lgC bd from_ many first (next)) 222 (0,0))::F) _;refine Ct.of func176 rR 12 ntmps176 (by simp) fun w0=>?_;refine gS (gA rR (qb (qf ?_)));refine wS [(0,false),(1,false),(2,false),(3,false),(4,false),(5,false),(6,false),(7,false),(8,false),(9,false)] (by kernel_rfl) (by kernel_rfl) rR (by kernel_rfl) ?_;refine dM rfl rfl rfl (d_v rfl (qc rfl) rfl (d_v rfl (qa 3 underlying222 rfl rfl sizeOf3 (by decide) rfl) rfl (d_v rfl (qe (v:=I first) isAgg3 rfl rfl) rfl (dM rfl rfl rfl (d_v rfl (qc rfl) rfl (d_v rfl (qa 2 underlying222 rfl rfl sizeOf3 (by decide) rfl) rfl (d_v rfl (qe (v:=I many) isAgg3 rfl rfl) rfl (d_v rfl (qu (r:=((first+many:Nat):Int)) rfl rfl (by rw[show (first:Int)+(many:Int)=((first+many:Nat):Int) by omega];exact w64 (by omega))) rfl (d_v rfl (qx rfl) rfl ?_)))))))));refine yc ?_;refine qn rR rR ?_;exact rfl
theorem zlN (bl bd from_ many first next:Nat)(D:DiskM)(i:Nat)(hi:i<many)(hdn:D.down=false)(hS:∀x∈D.now,x.length=80)(hfm:from_+many≤D.now.length)(hbd:D.now.length≤1000000∧first≤1000000000000)(F:List HProp):Ct Tryz.prog 145 [ptr bl 0,I i] ([pt bl (.cells (lgC bd from_ many first (next)) 222 (0,0)),dsk 140 142 bd (D)]++F) (R1 (lookV (zaK (first+i) (D.now.getD (from_+i) []))) (pt bl (.cells (lgC bd from_ many first (next)) 222 (0,0))::dsk 140 142 bd (D)::F)):=by
  show Ct Tryz.prog 145 [ptr bl 0,I i] (pt bl (.cells (lgC bd from_ many first (next)) 222 (0,0))::dsk 140 142 bd (D)::F) _;have hlt:from_+i<D.now.length:=(by omega);have hlen:=zeT hlt hS;have hrd:zgR D ((from_:Int)+(i:Int))=((D.now.getD (from_+i) []),0):=zgq hdn (by omega) (by rw[show ((from_:Int)+(i:Int)).toNat=from_+i by omega];exact zhT hlt);have hn5:=zx2 (D.now.getD (from_+i) []);generalize D.now.getD (from_+i) []=sec at*;refine Ct.of func145 rR 64 ntmps145 (by simp) fun w0=>?_;refine gS (gA rR (gA rR (gA rR (qb (qf ?_)))));refine yw (Lf:=[pt bl (.cells (lgC bd from_ many first (next)) 222 (0,0))]) [(0,false),(1,false),(2,false),(3,false),(4,false),(5,false),(6,false),(7,false),(8,false),(9,false),(10,true),(11,false),(12,false),(13,false),(14,false),(15,false)] (by kernel_rfl) (by kernel_rfl) rfl (by kernel_rfl) ?_;refine dM rR rR rR (d_v rR (qc rR) rR (d_v rR (qa 0 underlying222 rR rR sizeOf25 (by decide) rR) rR (d_v rR (qe (v:=ptr bd 0) isAgg25 rR rR) rR (dM rR rR rR (d_v rR (qc rR) rR (d_v rR (qa 1 underlying222 rR rR sizeOf3 (by decide) rR) rR (d_v rR (qe (v:=I from_) isAgg3 rR rR) rR (dM rR rR rR (d_v rR (qu (r:=(from_:Int)+(i:Int)) rR rR (w64 (by omega))) rR ?_)))))))));refine d_l rR (qi (Pre:=[dsk 140 142 bd (D)]) call103 rR (zdn bd D ((from_:Int)+(i:Int)))) rR ?_;rintro _ _ ⟨rfl,rfl⟩;rw[hrd];refine dM rR rR rR (d_v rR (qd (v:=Str sec) rR rR) rR (d_v rR (qd (v:=yK 0) rR rR) rR (d_v rR (qx rR) rR (d_v rR (qx rR) rR ?_))));refine yc ?_;refine qf (qf ?_);refine yw (Lf:=[pt bl (.cells (lgC bd from_ many first (next)) 222 (0,0))]) [(0,false),(1,false),(2,false),(3,false),(4,false),(5,false),(6,false),(7,false),(8,false),(9,false),(10,false),(11,true),(12,false),(13,false),(14,false),(15,false),(16,false),(17,false),(18,false),(19,false),(20,false),(21,false),(22,false),(23,false)] (by kernel_rfl) (by kernel_rfl) rfl (by kernel_rfl) ?_;refine dM rfl rfl rfl (d_v rfl (yf underlying37 rfl) rfl (dM rfl rfl rfl (qQ rfl rfl rfl (by simp) (qp rfl) rfl (qQ rfl rfl rfl (by simp) (zag (l:=1) (h:=5) underlying9 rfl rfl rfl rfl rfl (by decide) (by omega)) rfl (qQ rfl rfl rfl (by simp) (qp rfl) rfl (qQ rfl rfl rfl (by simp) (qc rfl) rfl (qQ rfl rfl rfl (by simp) (qa 3 underlying222 rfl rfl sizeOf3 (by decide) rfl) rfl (qQ rfl rfl rfl (by simp) (qe (v:=I first) isAgg3 rfl rfl) rfl (qQ rfl rfl rfl (by simp) (qp rfl) rfl (qQ rfl rfl rfl (by simp) (qu (r:=((first+i:Nat):Int)) rfl rfl (by rw[show (first:Int)+(i:Int)=((first+i:Nat):Int) by omega];exact w64 (by omega))) rfl ?_))))))))));refine d_gl rfl rfl rfl (by simp) (qi (Pre:=[]) call146 rfl (zad (first+i))) rfl ?_
  rintro _ _ ⟨rfl,rfl⟩;refine qQ rR rR rR (by simp) (zhj rR rR) rR (d_v rR (zaH rR rR) rR (dM rR rR rR ?_));by_cases hnum:(sec.take 5).drop 1=qN (first+i)
  · have hq:=decide_eq_true hnum;refine qQ rR rR rR (by rw[hq];rfl) (qp rR) rR (qQ rR rR rR (by rw[hq];rfl) (qW (r:=sk sec 0) 0 underlying9 rR rR rR (zeY (by omega))) rR (qQ rR rR rR (by rw[hq];rfl) (zd2 rR rR) rR (qQ rR rR rR (by rw[hq];rfl) (qp rR) rR (zbW rR rR rR (fun hg=>qp rR) rR rR (zbW rR rR rR (fun hg=>qW (r:=sk sec 0) 0 underlying9 rR rR rR (zeY (by omega))) rR rR (zbW rR rR rR (fun hg=>zd2 rR rR) rR rR (qQ rR rR rR (by rw[hq];rfl) (zas rR rR) rR (d_v rR (zaH rR rR) rR ?_))))))));refine yc ?_;refine qg rR (fun h47=>?_) (fun h47=>?_)
    · rw[hq] at h47;simp at h47;have hkk:¬(sk sec 0=111∨sk sec 0=99):=fun h=>(by rcases h with h | h <;> rw[h] at h47 <;> simp at h47);refine gS (gA rR (gA rR (gA rR (qb ?_))));rw[show zaK (first+i) sec=none by unfold zaK;rw[if_neg (fun h=>hkk h.2.1)]];exact qn rfl rfl rfl
    · rw[hq] at h47;simp at h47;have hkk:sk sec 0=111∨sk sec 0=99:=by
        by_cases h1:sk sec 0=111
        · exact .inl h1
        · right;have h2:=h47 (fun h=>h1 ((zxT _ _ 111).1 h));exact (zxT _ _ 99).1 h2
      refine qh (qf ?_);refine wS [(0,false),(1,false),(2,false),(3,false),(4,false),(5,false),(6,false),(7,false),(8,false)] (by kernel_rfl) (by kernel_rfl) rR (by kernel_rfl) ?_;refine dM rfl rfl rfl (d_v rfl (qW (r:=sk sec 5) 5 underlying9 rfl rfl rfl (zeY (by omega))) rfl (d_v rfl (yU (r:=((sk sec 5).toNat:Int)) underlying5 underlying3 rfl (w64 (by have:=(sk sec 5).toNat_lt;omega))) rfl (dM rfl rfl rfl (d_v rfl (qW (r:=sk sec 6) 6 underlying9 rfl rfl rfl (zeY (by omega))) rfl (d_v rfl (yU (r:=((sk sec 6).toNat:Int)) underlying5 underlying3 rfl (w64 (by have:=(sk sec 6).toNat_lt;omega))) rfl (d_v rfl (zdk rfl rfl (w64 (by have:=(sk sec 6).toNat_lt;omega))) rfl (d_v rfl (qu (r:=((skN sec:Nat):Int)) rfl rfl (by rw[show ((sk sec 5).toNat:Int)+256*((sk sec 6).toNat:Int)=((skN sec:Nat):Int) by unfold skN;omega];exact w64 (by omega))) rfl (d_v rfl (qx rfl) rfl ?_))))))));refine yc ?_;refine qf (gS (gM rR (g_v (yA rR rR) rR (qb ?_))));refine qg rR (fun h57=>?_) (fun h57=>?_)
      · simp at h57;refine gS (gA rR (gA rR (gA rR (qb ?_))));rw[show zaK (first+i) sec=none by unfold zaK;rw[if_neg (fun h=>by have:=h.2.2;omega)]];exact qn rfl rfl rfl
      · simp at h57;refine qh (qf ?_);refine wS [(0,false),(1,false),(2,false),(3,false),(4,false),(5,false),(6,false),(7,false),(8,false)] (by kernel_rfl) (by kernel_rfl) rR (by kernel_rfl) ?_;refine dM rfl rfl rfl (d_v rfl (qW (r:=sk sec 0) 0 underlying9 rfl rfl rfl (zeY (by omega))) rfl (dM rfl rfl rfl (dM rfl rfl rfl (d_v rfl (qu (r:=((7+skN sec:Nat):Int)) rfl rfl (by rw[show (7:Int)+((skN sec:Nat):Int)=((7+skN sec:Nat):Int) by omega];exact w64 (by omega))) rfl (d_v rfl (zag (l:=7) (h:=7+skN sec) underlying9 rfl rfl rfl rfl rfl (by omega) (by omega)) rfl (d_v rfl (qx rfl) rfl (d_v rfl (qx rfl) rfl (d_v rfl (qx rfl) rfl ?_))))))));refine yc ?_;rw[show zaK (first+i) sec=some (sk sec 0,(sec.take (7+skN sec)).drop 7) by unfold zaK;rw[if_pos ⟨hnum,hkk,by omega⟩]];exact qn rfl rfl rfl
  · have hq:=decide_eq_false hnum;refine qT rR rR rR (by rw[hq];rfl) rR (qT rR rR rR (by rw[hq];rfl) rR (qT rR rR rR (by rw[hq];rfl) rR (qT rR rR rR (by rw[hq];rfl) rR (qT rR rR rR rR rR (qT rR rR rR rR rR (qT rR rR rR rR rR (qT rR rR rR (by rw[hq];rfl) rR (d_v rR (zbp rR (by rw[hq];rfl) rR) rR ?_))))))));refine yc ?_;refine wV rR ?_;refine gS (gA rR (gA rR (gA rR (qb ?_))));rw[show zaK (first+i) sec=none by unfold zaK;rw[if_neg (fun h=>hnum h.1)]];exact qn rfl rfl rfl
theorem zop (bl bd from_ many first used:Nat)(c:List ChangeM)(s:Option Addr)(cap N i:Nat)(D:DiskM)(hok:okW N i D)(hN:N≤1000000∧i≤999000)(hb:many≤1000000∧first≤1000000000000∧from_≤1000000∧used≤many)(hc:∀x∈c,zbt x=0)(hlen:c.length≤72∧used+c.length+1≤many)(F:List HProp):Ct Tryz.prog 179 [ptr bl 0,sl s c.length cap] ([pt bl (.cells (lgC bd from_ many first (used)) 222 (0,0)),dsk 140 142 bd (D),roL 3 s (chR c)]++F) (R1 (yK (wg D (zia from_ many first used c)).1) (pt bl (.cells (lgC bd from_ many first (used)) 222 (0,0))::dsk 140 142 bd ((wg D (zia from_ many first used c)).2)::roL 3 s (chR c)::F)):=by
  show Ct Tryz.prog 179 [ptr bl 0,sl s c.length cap] (pt bl (.cells (lgC bd from_ many first (used)) 222 (0,0))::dsk 140 142 bd (D)::roL 3 s (chR c)::F) _;refine Ct.of func179 rR 85 ntmps179 (by simp) fun w0=>?_;refine gS (gA rR (qb (qf ?_)));refine yw (Lf:=[pt bl (.cells (lgC bd from_ many first (used)) 222 (0,0))]) [(0,false),(1,false),(2,false),(3,false),(4,false),(5,false),(6,false),(7,false),(8,false),(9,false)] (by kernel_rfl) (by kernel_rfl) rfl (by kernel_rfl) ?_;refine dM rfl rfl rfl (d_v rfl (qc rfl) rfl (d_v rfl (qa 1 underlying222 rfl rfl sizeOf3 (by decide) rfl) rfl (d_v rfl (qe (v:=I from_) isAgg3 rfl rfl) rfl (dM rfl rfl rfl (d_v rfl (qc rfl) rfl (d_v rfl (qa 4 underlying222 rfl rfl sizeOf3 (by decide) rfl) rfl (d_v rfl (qe (v:=I used) isAgg3 rfl rfl) rfl (d_v rfl (qu (r:=((from_+used:Nat):Int)) rfl rfl (by rw[show ((from_:Nat):Int)+((used:Nat):Int)=((from_+used:Nat):Int) by omega];exact w64 (by omega))) rfl (d_v rfl (qx rfl) rfl ?_)))))))));refine yc ?_;refine qf (gS (gM rR (g_v (yo underlying34 rR) rR (gM rR (qb (qj ?_))))));refine qE (α:=Nat×DiskM) (fun z=>z.1≤c.length∧okW N (i+z.1) z.2∧wg D (zia from_ many first used c)=wg z.2 (zfN from_ first used z.1 (c.drop z.1)++zjV from_ many used c.length)) (fun z=>U [(0,ptr bl 0),(1,sl s c.length cap),(5,I ((from_+used:Nat):Int)),(20,sl s c.length cap),(21,I c.length),(22,I z.1)]) (fun z=>pt bl (.cells (lgC bd from_ many first (used)) 222 (0,0))::dsk 140 142 bd (z.2)::roL 3 s (chR c)::F) (fun z=>c.length - z.1) (0,D) ⟨by simp,hok,rfl⟩ [0,1,5,20,21,22] rfl rfl ?_;rintro ⟨k,D'⟩ ⟨hk,ok',hrun⟩;simp only[] at hk ok' hrun ⊢;have hfx:=ok'.2.2.1;have hwx:D'.wait.length≤1000000:=(by have:=ok'.2.2.2.2;omega);refine gS (g_v (qJ rR rR) rR (qb (qf ?_)));refine qg rR (fun h23=>?_) (fun h23=>?_)
  · simp at h23;have hkn:k<c.length:=(by omega);obtain ⟨x,hx⟩:∃x,c[k]? =some x:=⟨_,List.getElem?_eq_getElem hkn⟩;have hkr:k<(chR c).length:=(by rw[qO];exact hkn);have hx0:=hc x (List.mem_of_getElem? hx);have hrl:=zjQ hx0;refine qh (qf (qj (gS (gM rR (g_v (qA k underlying34 sizeOf104 rR rR rR hkn hkr) rR (g_v (ym (row:=yu x) isAgg104 sizeOf104 rR (zbg hx) rR) rR ?_))))));refine g_l (qy #[Str [],Str [],Bo false] zeroValue104) rR ?_;rintro _ _ ⟨b7,rfl,rfl⟩;refine gA rR ?_;refine yp (qq (cs:=#[Str [],Str [],Bo false]) (vs:=yu x) (yu x).toArray sizeOf104 rR rR rR rR (by decide) (qC rR)) ?_;rintro _ _ rfl;refine qb (gS (g_v (qI (vs:=yu (x)) isAgg104 sizeOf104 rR rR qR) rR ?_));refine g_l (qi (Pre:=[]) call203 rR (zkH x)) rR ?_;rintro _ _ ⟨rfl,rfl⟩;rw[show zt8 x=(zkc x,0) by unfold zt8;rw[if_pos hx0]];refine gM rR (g_v (qd (v:=Str (zkc x)) rR rR) rR (g_v (qd (v:=yK 0) rR rR) rR (gA rR (gA rR (qb (qf (gS (gM rR (g_v (yf underlying37 rR) rR (qb ?_))))))))));refine qg rR (fun h33=>?_) (fun h33=>?_)
    · simp at h33
    · refine qh (qf ?_);refine yw (Lf:=[pt bl (.cells (lgC bd from_ many first (used)) 222 (0,0))]) [(0,false),(1,false),(2,false),(3,false),(4,false),(5,false),(6,false),(7,false),(8,false),(9,false),(10,false),(11,false),(12,false),(13,false),(14,false),(15,false),(16,false),(17,false),(18,false),(19,true),(20,true),(21,false)] (by kernel_rfl) (by kernel_rfl) rfl (by kernel_rfl) ?_;refine dM rfl rfl rfl (d_v rfl (qc rfl) rfl (d_v rfl (qa 0 underlying222 rfl rfl sizeOf25 (by decide) rfl) rfl (d_v rfl (qe (v:=ptr bd 0) isAgg25 rfl rfl) rfl (dM rfl rfl rfl (dM rfl rfl rfl (d_v rfl (qu (r:=((from_+used+k:Nat):Int)) rfl rfl (by rw[show ((from_+used:Nat):Int)+((k:Nat):Int)=((from_+used+k:Nat):Int) by omega];exact w64 (by omega))) rfl (dM rfl rfl rfl (d_v rfl (qc rfl) rfl (d_v rfl (qa 3 underlying222 rfl rfl sizeOf3 (by decide) rfl) rfl (d_v rfl (qe (v:=I first) isAgg3 rfl rfl) rfl (dM rfl rfl rfl (d_v rfl (qc rfl) rfl (d_v rfl (qa 4 underlying222 rfl rfl sizeOf3 (by decide) rfl) rfl (d_v rfl (qe (v:=I used) isAgg3 rfl rfl) rfl (d_v rfl (qu (r:=((first+used:Nat):Int)) rfl rfl (by rw[show ((first:Nat):Int)+((used:Nat):Int)=((first+used:Nat):Int) by omega];exact w64 (by omega))) rfl (dM rfl rfl rfl (d_v rfl (qu (r:=((first+used+k:Nat):Int)) rfl rfl (by rw[show ((first+used:Nat):Int)+((k:Nat):Int)=((first+used+k:Nat):Int) by omega];exact w64 (by omega))) rfl (dM rfl rfl rfl ?_))))))))))))))))));refine d_l rfl (qi (Pre:=[]) call181 rfl (zhB 111 (first+used+k) (zkc x) (by omega))) rfl ?_;rintro _ _ ⟨rfl,rfl⟩;refine d_l rfl (qi (Pre:=[dsk 140 142 bd (D')]) call136 rfl (wv bd D' ((from_+used+k:Nat):Int) (wE 111 (first+used+k) (zkc x)) hfx hwx)) rfl ?_;rintro _ _ ⟨rfl,rfl⟩;refine d_v rR (qx rR) rR ?_;refine yc ?_;refine gS (gM rR (g_v (yf underlying37 rR) rR (qb ?_)));refine qg rR (fun h57=>?_) (fun h57=>?_)
      · simp at h57;refine gS (gM rR (gA rR (qb ?_)));rw[hrun,zld hx,List.cons_append,zdH h57];dsimp only;exact qn rfl rfl rfl
      · simp at h57;refine qh (qF (qo (g_v (qu rR rR (w64 (by omega))) rR (gM rR (qb ?_)))));refine qm (k+1,yy D' ((from_+used+k:Nat):Int) (wE 111 (first+used+k) (zkc x))) ⟨by simp;omega,?_,?_⟩ (by simp;omega) [0,1,5,20,21,22] rfl rfl
        · exact zkM ok' _ _
        · simp only[];rw[hrun,zld hx,List.cons_append,zcu (show stE D' (some (from_+used+k,wE 111 (first+used+k) (zkc x)))=0 from h57)]
          rfl
  · simp at h23;obtain rfl:k=c.length:=(by omega);rw[List.drop_length,show zfN from_ first used c.length []=[] from rfl,List.nil_append] at hrun;refine qz rR ?_;refine qf (gS (gM rfl (g_v (qc rfl) rfl (g_v (qa 4 underlying222 rfl rfl sizeOf3 (by decide) rfl) rfl (g_v (qe (v:=I used) isAgg3 rfl rfl) rfl (gM rfl (g_v (yo underlying34 rfl) rfl (g_v (qu (r:=((used+c.length:Nat):Int)) rfl rfl (by rw[show ((used:Nat):Int)+((c.length:Nat):Int)=((used+c.length:Nat):Int) by omega];exact w64 (by omega))) rfl (g_v (qu (r:=((used+c.length+1:Nat):Int)) rfl rfl (by rw[show ((used+c.length:Nat):Int)+1=((used+c.length+1:Nat):Int) by omega];exact w64 (by omega))) rfl (gA rfl (qb (gS (gM rfl (gM rfl (g_v (qc rfl) rfl (g_v (qa 2 underlying222 rfl rfl sizeOf3 (by decide) rfl) rfl (g_v (qe (v:=I many) isAgg3 rfl rfl) rfl (g_v (qJ rfl rfl) rfl (qb ?_)))))))))))))))))));refine qg rR (fun h73=>?_) (fun h73=>?_)
    · simp at h73;refine qf ?_;refine yw (Lf:=[pt bl (.cells (lgC bd from_ many first (used)) 222 (0,0))]) [(0,false),(1,false),(2,false),(3,false),(4,false),(5,false),(6,false),(7,false),(8,false),(9,false),(10,true),(11,false)] (by kernel_rfl) (by kernel_rfl) rfl (by kernel_rfl) ?_;refine dM rfl rfl rfl (d_v rfl (qc rfl) rfl (d_v rfl (qa 0 underlying222 rfl rfl sizeOf25 (by decide) rfl) rfl (d_v rfl (qe (v:=ptr bd 0) isAgg25 rfl rfl) rfl (dM rfl rfl rfl (d_v rfl (qc rfl) rfl (d_v rfl (qa 1 underlying222 rfl rfl sizeOf3 (by decide) rfl) rfl (d_v rfl (qe (v:=I from_) isAgg3 rfl rfl) rfl (dM rfl rfl rfl (d_v rfl (qu (r:=((from_+(used+c.length+1):Nat):Int)) rfl rfl (by rw[show ((from_:Nat):Int)+((used+c.length+1:Nat):Int)=((from_+(used+c.length+1):Nat):Int) by omega];exact w64 (by omega))) rfl ?_)))))))));refine d_l rR (qi (Pre:=[dsk 140 142 bd (D')]) call136 rR (wv bd D' ((from_+(used+c.length+1):Nat):Int) [] hfx hwx)) rR ?_;rintro _ _ ⟨rfl,rfl⟩;refine d_v rR (qx rR) rR ?_;refine yc ?_;rw[hrun,show zjV from_ many used c.length=[some (from_+(used+c.length+1),[])] by unfold zjV;rw[if_pos (by omega)]];by_cases h0:yO D' ((from_+(used+c.length+1):Nat):Int) []=0
      · rw[zft h0,zfh];dsimp only;exact qn rfl rfl (congrArg yK h0)
      · rw[zdH h0];dsimp only;exact qn rfl rfl rfl
    · simp at h73;refine qh (gS (gA rR (qb ?_)));rw[hrun,show zjV from_ many used c.length=[] by unfold zjV;rw[if_neg (by omega)],zfh];dsimp only;exact qn rfl rfl rfl
theorem zlE (b2 b3:Nat)(bl bd from_ many first used:Nat)(c:List ChangeM)(s:Option Addr)(cap N i:Nat)(D:DiskM)(hok:okW N i D)(hN:N≤1000000∧i≤999000)(hb:many≤1000000∧first≤1000000000000∧from_≤1000000∧used≤many)(hc:∀x∈c,zbt x=0)(hlen:c.length≤72∧used+c.length+1≤many)(F:List HProp):Ct Tryz.prog 178 [ptr b2 0,ptr b3 0] ([pt b2 (.cells #[ptr bl 0] 178 (0,0)),pt b3 (.cells #[sl s c.length cap] 34 (0,0)),pt bl (.cells (lgC bd from_ many first (used)) 222 (0,0)),dsk 140 142 bd (D),roL 3 s (chR c)]++F) (R1 (yK (wg D (zia from_ many first used c)).1) (pt b2 (.cells #[ptr bl 0] 178 (0,0))::pt b3 (.cells #[sl s c.length cap] 34 (0,0))::pt bl (.cells (lgC bd from_ many first (used)) 222 (0,0))::dsk 140 142 bd ((wg D (zia from_ many first used c)).2)::roL 3 s (chR c)::F)):=by
  show Ct Tryz.prog 178 [ptr b2 0,ptr b3 0] (pt b2 (.cells #[ptr bl 0] 178 (0,0))::pt b3 (.cells #[sl s c.length cap] 34 (0,0))::pt bl (.cells (lgC bd from_ many first (used)) 222 (0,0))::dsk 140 142 bd (D)::roL 3 s (chR c)::F) _;refine Ct.of func178 rR 6 ntmps178 (by simp) fun w0=>?_;refine gS (gA rR (qb (gS (g_v (qe (v:=ptr bl 0) isAgg178 rR rR) rR (g_v (qe (v:=sl s c.length cap) isAgg34 rR rR) rR ?_)))));refine g_l (qi (Pre:=[pt bl (.cells (lgC bd from_ many first (used)) 222 (0,0)),dsk 140 142 bd (D),roL 3 s (chR c)]) call179 rfl (zop bl bd from_ many first used c s cap N i D hok hN hb hc hlen)) rfl ?_;rintro _ _ ⟨rfl,rfl⟩;refine gA rR (qb ?_);refine qn rR rR ?_;exact rfl
theorem zl8 (b2 b8 b3:Nat)(bl bd from_ many first used:Nat)(c:List ChangeM)(s:Option Addr)(cap N i:Nat)(D:DiskM)(hok:okW N i D)(hN:N≤1000000∧i≤999000)(hb:many≤1000000∧first≤1000000000000∧from_≤1000000∧used≤many)(hlen:c.length≤72)(F:List HProp):Ct Tryz.prog 180 [ptr b2 0,ptr b8 0,ptr b3 0] ([pt b2 (.cells #[ptr bl 0] 178 (0,0)),pt b8 (.cells #[I ((used+c.length:Nat):Int)] 3 (0,0)),pt b3 (.cells #[sl s c.length cap] 34 (0,0)),pt bl (.cells (lgC bd from_ many first (used)) 222 (0,0)),dsk 140 142 bd (D),roL 3 s (chR c)]++F) (R1 (yK (stE D (zko from_ first used c.length))) (pt b2 (.cells #[ptr bl 0] 178 (0,0))::pt b8 (.cells #[I ((used+c.length:Nat):Int)] 3 (0,0))::pt b3 (.cells #[sl s c.length cap] 34 (0,0))::pt bl (.cells (lgC bd from_ many first (used)) 222 (0,0))::dsk 140 142 bd (stD D (zko from_ first used c.length))::roL 3 s (chR c)::F)):=by
  show Ct Tryz.prog 180 [ptr b2 0,ptr b8 0,ptr b3 0] (pt b2 (.cells #[ptr bl 0] 178 (0,0))::pt b8 (.cells #[I ((used+c.length:Nat):Int)] 3 (0,0))::pt b3 (.cells #[sl s c.length cap] 34 (0,0))::pt bl (.cells (lgC bd from_ many first (used)) 222 (0,0))::dsk 140 142 bd (D)::roL 3 s (chR c)::F) _;refine Ct.of func180 rR 25 ntmps180 (by simp) fun w0=>?_;refine gS (gA rR (qb (qf ?_)));refine yw (Lf:=[pt b2 (.cells #[ptr bl 0] 178 (0,0)),pt b8 (.cells #[I ((used+c.length:Nat):Int)] 3 (0,0)),pt b3 (.cells #[sl s c.length cap] 34 (0,0)),pt bl (.cells (lgC bd from_ many first (used)) 222 (0,0))]) [(0,false),(1,false),(2,false),(3,false),(4,false),(5,false),(6,false),(7,false),(8,false),(9,false),(10,false),(11,false),(12,false),(13,false),(14,false),(15,false),(16,false),(17,false),(18,true),(19,true),(20,true),(21,false)] (by kernel_rfl) (by kernel_rfl) rfl (by kernel_rfl) ?_;refine d_v rfl (qe (v:=ptr bl 0) isAgg178 rfl rfl) rfl (d_v rfl (qc rfl) rfl (d_v rfl (qa 0 underlying222 rfl rfl sizeOf25 (by decide) rfl) rfl (d_v rfl (qe (v:=ptr bd 0) isAgg25 rfl rfl) rfl (d_v rfl (qe (v:=ptr bl 0) isAgg178 rfl rfl) rfl (d_v rfl (qc rfl) rfl (d_v rfl (qa 1 underlying222 rfl rfl sizeOf3 (by decide) rfl) rfl (d_v rfl (qe (v:=I from_) isAgg3 rfl rfl) rfl (d_v rfl (qe (v:=I ((used+c.length:Nat):Int)) isAgg3 rfl rfl) rfl (d_v rfl (qu (r:=((from_+(used+c.length):Nat):Int)) rfl rfl (by rw[show ((from_:Nat):Int)+((used+c.length:Nat):Int)=((from_+(used+c.length):Nat):Int) by omega];exact w64 (by omega))) rfl (d_v rfl (qe (v:=ptr bl 0) isAgg178 rfl rfl) rfl (d_v rfl (qc rfl) rfl (d_v rfl (qa 3 underlying222 rfl rfl sizeOf3 (by decide) rfl) rfl (d_v rfl (qe (v:=I first) isAgg3 rfl rfl) rfl (d_v rfl (qe (v:=I ((used+c.length:Nat):Int)) isAgg3 rfl rfl) rfl (d_v rfl (qu (r:=((first+(used+c.length):Nat):Int)) rfl rfl (by rw[show ((first:Nat):Int)+((used+c.length:Nat):Int)=((first+(used+c.length):Nat):Int) by omega];exact w64 (by omega))) rfl (d_v rfl (qe (v:=sl s c.length cap) isAgg34 rfl rfl) rfl (d_v rfl (yo underlying34 rfl) rfl ?_)))))))))))))))));refine d_l rR (qi (Pre:=[]) call146 rR (zad c.length)) rR ?_;rintro _ _ ⟨rfl,rfl⟩;refine d_l rfl (qi (Pre:=[]) call181 rfl (zhB 99 (first+(used+c.length)) (qN c.length) (by simp[qN]))) rfl ?_;rintro _ _ ⟨rfl,rfl⟩;refine d_l rfl (qi (Pre:=[dsk 140 142 bd (D)]) call136 rfl (wv bd D ((from_+(used+c.length):Nat):Int) (wE 99 (first+(used+c.length)) (qN c.length)) hok.2.2.1 (by have:=hok.2.2.2.2;omega))) rfl ?_;rintro _ _ ⟨rfl,rfl⟩;refine d_v rR (qx rR) rR ?_;refine yc ?_;show G _ _ _ (dsk 140 142 bd (stD D (zko from_ first used c.length))::_);exact qn rfl rfl rfl
theorem zow (bl bd from_ many first used:Nat)(c:List ChangeM)(s:Option Addr)(cap N i:Nat)(D:DiskM)(hok:okW N i D)(hN:N≤1000000∧i≤998000)(hb:many≤1000000∧first≤1000000000000∧from_≤1000000∧used≤many)(hl:c.length≤9223372036854775807)(F:List HProp):Ct Tryz.prog 130 [ptr bl 0,sl s c.length cap] ([pt bl (.cells (lgC bd from_ many first (used)) 222 (0,0)),dsk 140 142 bd (D),roL 3 s (chR c)]++F) (R1 (yK (zgL from_ many first used c D)) (pt bl (.cells (lgC bd from_ many first (zhg from_ many first used c D)) 222 (0,0))::dsk 140 142 bd (zdd from_ many first used c D)::roL 3 s (chR c)::F)):=by
  show Ct Tryz.prog 130 [ptr bl 0,sl s c.length cap] (pt bl (.cells (lgC bd from_ many first (used)) 222 (0,0))::dsk 140 142 bd (D)::roL 3 s (chR c)::F) _;refine Ct.of func130 rR 71 ntmps130 (by simp) fun w0=>?_;refine gS ?_;refine g_l (wR #[ptr bl 0] rfl rR) rR ?_;rintro _ _ ⟨b2,rfl,rfl⟩;refine g_l (wR #[sl s c.length cap] rfl rR) rR ?_;rintro _ _ ⟨b3,rfl,rfl⟩;refine gA rR (qb (qf (gS (g_v (qe (v:=sl s c.length cap) isAgg34 rR rR) rR (g_v (yo underlying34 rR) rR (g_v (yA rR rR) rR (qb ?_)))))));refine qg rR (fun h14=>?_) (fun h14=>?_)
  · simp at h14;have hv:zgs many used c=2:=(by unfold zgs;rw[if_pos (by omega)]);refine gS (g_v (qB underlying108 rR rR) rR (gA rR (qb ?_)));obtain ⟨ae,ad,au⟩:=zj4 (from_:=from_) (first:=first) (D:=D) hv (by decide);rw[ae,ad,au];exact qn rfl rfl rfl
  · simp at h14;have hlen:c.length≤72:=(by omega);refine qh (qf (qf ?_));refine yw (Lf:=[pt b2 (.cells #[ptr bl 0] 178 (0,0)),pt b3 (.cells #[sl s c.length cap] 34 (0,0))]) [(0,false),(1,false),(2,false),(3,false),(4,true),(5,false)] (by kernel_rfl) (by kernel_rfl) rR (by kernel_rfl) ?_;refine d_v rfl (qe (v:=sl s c.length cap) isAgg34 rfl rfl) rfl (d_v rfl (yo underlying34 rfl) rfl (d_v rfl (qu (r:=((c.length+1:Nat):Int)) rfl rfl (by rw[show (c.length:Int)+1=((c.length+1:Nat):Int) by omega];exact w64 (by omega))) rfl (d_v rfl (qe (v:=ptr bl 0) isAgg178 rfl rfl) rfl ?_)));refine d_l rfl (qi (Pre:=[pt bl (.cells (lgC bd from_ many first (used)) 222 (0,0))]) call128 rfl (zg4 bl bd from_ many first used ⟨hb.2.2.2,hb.1⟩)) rfl ?_;rintro _ _ ⟨rfl,rfl⟩;refine d_v rR (yA rR rR) rR ?_;refine yc ?_;refine qg rR (fun h21=>?_) (fun h21=>?_)
    · simp at h21;have hv:zgs many used c=8:=(by unfold zgs;rw[if_neg (by omega),if_pos (by omega)]);refine gS (g_v (qB underlying108 rR rR) rR (gA rR (qb ?_)));obtain ⟨ae,ad,au⟩:=zj4 (from_:=from_) (first:=first) (D:=D) hv (by decide);rw[ae,ad,au];exact qn rfl rfl rfl
    · simp at h21;have hroom:c.length+1≤many - used:=(by omega);have hv0:=zlL hlen hroom;refine qh (qf (gS (g_v (qe (v:=sl s c.length cap) isAgg34 rR rR) rR (g_v (yo underlying34 rR) rR (gM rR (qb (qj ?_)))))));refine qE (α:=Nat) (fun k=>k≤c.length∧zeh c=zeh (c.drop k)) (fun k=>U [(2,ptr b2 0),(3,ptr b3 0),(23,sl s c.length cap),(24,I c.length),(25,I k)]) (fun k=>pt b2 (.cells #[ptr bl 0] 178 (0,0))::pt b3 (.cells #[sl s c.length cap] 34 (0,0))::pt bl (.cells (lgC bd from_ many first (used)) 222 (0,0))::dsk 140 142 bd (D)::roL 3 s (chR c)::F) (fun k=>c.length - k) 0 ⟨by simp,rfl⟩ [2,3,23,24,25] rfl rfl ?_;rintro k ⟨hk,hflt⟩;refine gS (g_v (qJ rR rR) rR (qb (qf ?_)));refine qg rR (fun h26=>?_) (fun h26=>?_)
      · simp at h26;have hkn:k<c.length:=(by omega);obtain ⟨x,hx⟩:∃x,c[k]? =some x:=⟨_,List.getElem?_eq_getElem hkn⟩;have hkr:k<(chR c).length:=(by rw[qO];exact hkn);refine qh (qf (qj (gS (g_v (qA k underlying34 sizeOf104 rR rR rR hkn hkr) rR (g_v (ym (row:=yu x) isAgg104 sizeOf104 rR (zbg hx) rR) rR ?_)))));refine g_l (qy #[Str [],Str [],Bo false] zeroValue104) rR ?_;rintro _ _ ⟨b6,rfl,rfl⟩;refine yp (qq (cs:=#[Str [],Str [],Bo false]) (vs:=yu x) (yu x).toArray sizeOf104 rR rR rR rR (by decide) (qC rR)) ?_;rintro _ _ rfl;refine qb (gS (g_v (qI (vs:=yu (x)) isAgg104 sizeOf104 rR rR qR) rR ?_));refine g_l (qi (Pre:=[]) call127 rR (zbl x)) rR ?_;rintro _ _ ⟨rfl,rfl⟩;refine gA rR (qb (gS (gM rR (g_v (yf underlying37 rR) rR (qb ?_)))));refine qg rR (fun h32=>?_) (fun h32=>?_)
        · simp at h32;rw[zi0 hx,if_neg h32] at hflt;rw[hflt] at hv0;refine gS (gM rR (gA rR (qb ?_)));obtain ⟨ae,ad,au⟩:=zj4 (from_:=from_) (first:=first) (D:=D) hv0 h32;rw[ae,ad,au];exact qn rfl rfl rfl
        · simp at h32;refine qh (qF (qo (g_v (qu rR rR (w64 (by omega))) rR (gM rR (qb ?_)))));exact qm (k+1) ⟨by omega,by rw[hflt,zi0 hx,if_pos h32]⟩ (by omega) [2,3,23,24,25] rfl rfl
      · simp at h26;obtain rfl:k=c.length:=(by omega);rw[List.drop_length,show zeh []=0 from rfl] at hflt;rw[hflt] at hv0;have hc:=zlB hflt;refine qz rR ?_;refine qf ?_;refine zcJ (Lf:=[pt b2 (.cells #[ptr bl 0] 178 (0,0)),pt b3 (.cells #[sl s c.length cap] 34 (0,0)),pt bl (.cells (lgC bd from_ many first (used)) 222 (0,0))]) [(0,false),(1,false),(2,false),(3,false),(4,false),(5,false),(6,false),(7,true)] 8 rfl (by kernel_rfl) (by kernel_rfl) rfl (by kernel_rfl) (by kernel_rfl) ?_;refine d_v rfl (qe (v:=ptr bl 0) isAgg178 rfl rfl) rfl (d_v rfl (qc rfl) rfl (d_v rfl (qa 4 underlying222 rfl rfl sizeOf3 (by decide) rfl) rfl (d_v rfl (qe (v:=I used) isAgg3 rfl rfl) rfl (d_v rfl (qe (v:=sl s c.length cap) isAgg34 rfl rfl) rfl (d_v rfl (yo underlying34 rfl) rfl (d_v rfl (qu (r:=((used+c.length:Nat):Int)) rfl rfl (by rw[show ((used:Nat):Int)+((c.length:Nat):Int)=((used+c.length:Nat):Int) by omega];exact w64 (by omega))) rfl ?_))))));refine d_l rR (zeP (I 0) zeroValue3 rR) rR ?_;rintro _ _ ⟨b8,rfl,rfl⟩;refine yc ?_;refine yp (qH #[I ((used+c.length:Nat):Int)] sizeOf3 rR rR rR (by simp) rR) ?_;rintro _ _ rfl;refine qb (qf (qf ?_));refine yw (Lf:=[pt b2 (.cells #[ptr bl 0] 178 (0,0)),pt b3 (.cells #[sl s c.length cap] 34 (0,0)),pt bl (.cells (lgC bd from_ many first (used)) 222 (0,0))]) [(0,false),(1,false),(2,false),(3,false),(4,false),(5,false),(6,false),(7,false),(8,false),(9,false),(10,false),(11,false),(14,false),(12,true),(13,false)] (by kernel_rfl) (by kernel_rfl) rfl (by kernel_rfl) ?_;refine d_v rR (wQ rR rR) rR (d_v rR (qe (v:=ptr bl 0) isAgg178 rR rR) rR (d_v rR (qc rR) rR (d_v rR (qa 0 underlying222 rR rR sizeOf25 (by decide) rR) rR (d_v rR (qe (v:=ptr bd 0) isAgg25 rR rR) rR (d_v rR (wQ rR rR) rR (d_v rR (wQ rR rR) rR (d_v rR (qe (v:=ptr bl 0) isAgg178 rR rR) rR (d_v rR (qc rR) rR (d_v rR (qa 0 underlying222 rR rR sizeOf25 (by decide) rR) rR (d_v rR (qe (v:=ptr bd 0) isAgg25 rR rR) rR (d_v rR (wQ rR rR) rR (dM rR rR rR ?_))))))))))));refine d_l rR (qs [[.func (.func 178) #[] #[ptr b2 0,ptr b3 0]],[.func (.func 137) #[ptr bd 0] #[]],[.func (.func 180) #[] #[ptr b2 0,ptr b8 0,ptr b3 0]],[.func (.func 137) #[ptr bd 0] #[]]] underlying257 sizeOf175 zeroValue175 rR rR rR (by simp) (by decide) (by decide)) rR ?_;rintro _ _ ⟨b54,rfl,rfl⟩;refine d_v rR (yo underlying257 rR) rR ?_;refine yc ?_;refine qj ?_;refine qE (α:=Nat×DiskM) (fun z=>z.1≤4∧okW N (i+100*z.1) z.2∧wg D (zfC from_ many first used c)=wg z.2 (zcB from_ many first used c z.1)) (fun z=>U [(2,ptr b2 0),(3,ptr b3 0),(8,ptr b8 0),(54,sl (some ⟨b54,0,none⟩) 4 4),(55,I 4),(56,I z.1)]) (fun z=>pt b2 (.cells #[ptr bl 0] 178 (0,0))::pt b3 (.cells #[sl s c.length cap] 34 (0,0))::pt b8 (.cells #[I ((used+c.length:Nat):Int)] 3 (0,0))::pt bl (.cells (lgC bd from_ many first (used)) 222 (0,0))::dsk 140 142 bd (z.2)::roL 3 s (chR c)::owL 175 1 (some ⟨b54,0,none⟩) 4 [[.func (.func 178) #[] #[ptr b2 0,ptr b3 0]],[.func (.func 137) #[ptr bd 0] #[]],[.func (.func 180) #[] #[ptr b2 0,ptr b8 0,ptr b3 0]],[.func (.func 137) #[ptr bd 0] #[]]]::F) (fun z=>4 - z.1) (0,D) ⟨by simp,hok,rfl⟩ [2,3,8,54,55,56] rfl rfl ?_
        rintro ⟨k,D'⟩ ⟨hk,ok',hrun⟩;simp only[] at hk ok' hrun ⊢;refine gS (g_v (qJ rR rR) rR (qb (qf ?_)));refine qg rR (fun h57=>?_) (fun h57=>?_)
        · simp at h57;refine qh (qf (qj (gS ?_)));rcases (by omega:k=0∨k=1∨k=2∨k=3) with rfl | rfl | rfl | rfl
          · refine g_v (qA 0 underlying257 sizeOf175 rR rR rR (by decide) (by simp)) rR (g_v (yd (v:= .func (.func 178) #[] #[ptr b2 0,ptr b3 0]) isAgg175 rR rR rR) rR (gA rR (qb (gS (gM rR ?_)))));refine g_l (zat (fi:=[]) (cap:=[ptr b2 0,ptr b3 0]) (Pre:=[pt b2 (.cells #[ptr bl 0] 178 (0,0)),pt b3 (.cells #[sl s c.length cap] 34 (0,0)),pt bl (.cells (lgC bd from_ many first (used)) 222 (0,0)),dsk 140 142 bd (D'),roL 3 s (chR c)]) call178 rfl rfl (zlE b2 b3 bl bd from_ many first used c s cap N (i+100*0) D' ok' ⟨hN.1,by omega⟩ hb hc ⟨hlen,by omega⟩)) rfl ?_;rintro _ _ ⟨rfl,rfl⟩;refine gA rR (qb (gS (gM rR (g_v (yf underlying37 rR) rR (qb ?_)))));refine qg rR (fun h63=>?_) (fun h63=>?_)
            · simp at h63;rw[show zcB from_ many first used c 0=zia from_ many first used c++ [none,zko from_ first used c.length,none] from rfl,zeo,if_neg h63] at hrun;obtain ⟨ae,ad,au⟩:=zgv hv0 hrun h63;rw[ae,ad,au];refine gS (gM rR (gA rR (qb ?_)));exact qn rfl rfl rfl
            · simp at h63;have hnext:wg D (zfC from_ many first used c)=wg (wg D' (zia from_ many first used c)).2 (zcB from_ many first used c 1):=(by rw[hrun,show zcB from_ many first used c 0=zia from_ many first used c++ [none,zko from_ first used c.length,none] from rfl,zeo,if_pos h63];rfl);have hll:=znX from_ many first used c
              refine qh (qF (qo (g_v (qu rR rR (w64 (by omega))) rR (gM rR (qb ?_)))));exact qm (1,(wg D' (zia from_ many first used c)).2) ⟨by simp,zaW (za4 _ _ _ ok') (by simp only[];omega),hnext⟩ (by simp) [2,3,8,54,55,56] rfl rfl
          · refine g_v (qA 1 underlying257 sizeOf175 rR rR rR (by decide) (by simp)) rR (g_v (yd (v:= .func (.func 137) #[ptr bd 0] #[]) isAgg175 rR rR rR) rR (gA rR (qb (gS (gM rR ?_)))));refine g_l (zat (fi:=[ptr bd 0]) (cap:=[]) (Pre:=[dsk 140 142 bd (D')]) call137 rR rR (zao bd D' ok'.2.2.1 (by rw[ok'.1,ok'.2.1]) (by rw[ok'.2.1];omega))) rR ?_;rintro _ _ ⟨rfl,rfl⟩;refine gA rR (qb (gS (gM rR (g_v (yf underlying37 rR) rR (qb ?_)))));refine qg rR (fun h63=>?_) (fun h63=>?_)
            · simp at h63;rw[show zcB from_ many first used c 1=none::zcB from_ many first used c 2 from rfl,zcH h63] at hrun;obtain ⟨ae,ad,au⟩:=zgv hv0 hrun h63;rw[ae,ad,au];refine gS (gM rR (gA rR (qb ?_)));exact qn rfl rfl rfl
            · simp at h63;have hnext:wg D (zfC from_ many first used c)=wg (yx D') (zcB from_ many first used c 2):=(by rw[hrun,show zcB from_ many first used c 1=none::zcB from_ many first used c 2 from rfl,zdi h63]);refine qh (qF (qo (g_v (qu rR rR (w64 (by omega))) rR (gM rR (qb ?_)))));exact qm (2,yx D') ⟨by simp,zaW (zeL ok') (by simp),hnext⟩ (by simp) [2,3,8,54,55,56] rfl rfl
          · refine g_v (qA 2 underlying257 sizeOf175 rR rR rR (by decide) (by simp)) rR (g_v (yd (v:= .func (.func 180) #[] #[ptr b2 0,ptr b8 0,ptr b3 0]) isAgg175 rR rR rR) rR (gA rR (qb (gS (gM rR ?_)))));refine g_l (zat (fi:=[]) (cap:=[ptr b2 0,ptr b8 0,ptr b3 0]) (Pre:=[pt b2 (.cells #[ptr bl 0] 178 (0,0)),pt b8 (.cells #[I ((used+c.length:Nat):Int)] 3 (0,0)),pt b3 (.cells #[sl s c.length cap] 34 (0,0)),pt bl (.cells (lgC bd from_ many first (used)) 222 (0,0)),dsk 140 142 bd (D'),roL 3 s (chR c)]) call180 rfl rfl (zl8 b2 b8 b3 bl bd from_ many first used c s cap N (i+100*2) D' ok' ⟨hN.1,by omega⟩ hb hlen)) rfl ?_;rintro _ _ ⟨rfl,rfl⟩;refine gA rR (qb (gS (gM rR (g_v (yf underlying37 rR) rR (qb ?_)))));refine qg rR (fun h63=>?_) (fun h63=>?_)
            · simp at h63;rw[show zcB from_ many first used c 2=zko from_ first used c.length::zcB from_ many first used c 3 from rfl,zbu h63] at hrun;obtain ⟨ae,ad,au⟩:=zgv hv0 hrun h63;rw[ae,ad,au];refine gS (gM rR (gA rR (qb ?_)));exact qn rfl rfl rfl
            · simp at h63;have hnext:wg D (zfC from_ many first used c)=wg (stD D' (zko from_ first used c.length)) (zcB from_ many first used c 3):=(by rw[hrun,show zcB from_ many first used c 2=zko from_ first used c.length::zcB from_ many first used c 3 from rfl,zcu h63]);refine qh (qF (qo (g_v (qu rR rR (w64 (by omega))) rR (gM rR (qb ?_)))));exact qm (3,stD D' (zko from_ first used c.length)) ⟨by simp,zaW (zpC ok' _) (by simp),hnext⟩ (by simp) [2,3,8,54,55,56] rfl rfl
          · refine g_v (qA 3 underlying257 sizeOf175 rR rR rR (by decide) (by simp)) rR (g_v (yd (v:= .func (.func 137) #[ptr bd 0] #[]) isAgg175 rR rR rR) rR (gA rR (qb (gS (gM rR ?_)))));refine g_l (zat (fi:=[ptr bd 0]) (cap:=[]) (Pre:=[dsk 140 142 bd (D')]) call137 rR rR (zao bd D' ok'.2.2.1 (by rw[ok'.1,ok'.2.1]) (by rw[ok'.2.1];omega))) rR ?_;rintro _ _ ⟨rfl,rfl⟩;refine gA rR (qb (gS (gM rR (g_v (yf underlying37 rR) rR (qb ?_)))));refine qg rR (fun h63=>?_) (fun h63=>?_)
            · simp at h63;rw[show zcB from_ many first used c 3=none::zcB from_ many first used c 4 from rfl,zcH h63] at hrun;obtain ⟨ae,ad,au⟩:=zgv hv0 hrun h63;rw[ae,ad,au];refine gS (gM rR (gA rR (qb ?_)));exact qn rfl rfl rfl
            · simp at h63;have hnext:wg D (zfC from_ many first used c)=wg (yx D') (zcB from_ many first used c 4):=(by rw[hrun,show zcB from_ many first used c 3=none::zcB from_ many first used c 4 from rfl,zdi h63]);refine qh (qF (qo (g_v (qu rR rR (w64 (by omega))) rR (gM rR (qb ?_)))));exact qm (4,yx D') ⟨by simp,zaW (zeL ok') (by simp),hnext⟩ (by simp) [2,3,8,54,55,56] rfl rfl
        · simp at h57;obtain rfl:k=4:=(by omega);rw[show zcB from_ many first used c 4=[] from rfl,zfh] at hrun;obtain ⟨ae,ad,au⟩:=zvW hv0 hrun;rw[ae,ad,au];refine qz rR ?_;refine gS (g_v (qe (v:=ptr bl 0) isAgg178 rfl rfl) rfl (g_v (qe (v:=I ((used+c.length:Nat):Int)) isAgg3 rfl rfl) rfl (g_v (qu (r:=((used+c.length+1:Nat):Int)) rfl rfl (by rw[show ((used+c.length:Nat):Int)+1=((used+c.length+1:Nat):Int) by omega];exact w64 (by omega))) rfl (g_v (qc rfl) rfl (g_v (qa 4 underlying222 rfl rfl sizeOf3 (by decide) rfl) rfl ?_)))));refine yp (qH (lgC bd from_ many first (used+c.length+1)) sizeOf3 rfl rfl rfl (by simp) rfl) ?_;rintro _ _ rfl;refine qb (gS (gA rR (qb ?_)));exact qn rfl rfl rfl
def zqo (D:DiskM)(from_ many first:Int):Prop:=from_<0∨many<1∨(D.now.length:Int)<many∨(D.now.length:Int) - many<from_∨first<1
instance (D:DiskM)(from_ many first:Int):Decidable (zqo D from_ many first):=by unfold zqo;infer_instance
def zjz (D:DiskM)(from_:Nat)(i:Nat):Bytes:=D.now.getD (from_+i) []
abbrev LogG:=List (List ChangeM×LocA)
def ROpen (T TT TL TC bd:Nat)(D:DiskM)(from_ many first:Int)(F:List HProp):Value→List HProp→Prop:=fun v L'=>
  (zqo D from_ many first∧v= .tuple #[.pointer none,sl none 0 0,yK 1]∧L'=dsk T TT bd D::F)∨
  (¬zqo D from_ many first∧D.down=true∧v= .tuple #[.pointer none,sl none 0 0,yK 9]∧L'=dsk T TT bd D::F)∨
  (¬zqo D from_ many first∧D.down=false∧∃(bl:Nat) (gl:LogG) (so:Option Addr) (co used:Nat),v= .tuple #[ptr bl 0,sl so gl.length co,yK 0]∧used≤many.toNat∧gl.length≤many.toNat∧
    wd first.toNat (zjz D from_.toNat) many.toNat 0 [] [] 0=(gl.map (·.1),used)∧
    L'=pt bl (.cells (lgC bd from_.toNat many.toNat first.toNat used) TL (0,0))::owL TC 1 so co (dR gl)::zlq gl::dsk T TT bd D::F)
section
variable {c:Cx}{E:Env}{L:List HProp}{K:List KI}
theorem ql {vs:List Value}(L1:List HProp)(hr:zbn E c.fn.results.toList=some vs)(hp:c.R (tup vs) L1)[S:Sub L L1](hds:c.n.ds=[]:=by rfl):G c (.code .ret::K) E L:=
  fun a w hE hS=>wp_ret (yb (qw (hds:=hds) hr hE (S.sat hS) hp))
end
theorem zoN {num:Nat}{s:Bytes}{k:UInt8}{t:Bytes}(h:zaK num s=some (k,t)):t.length≤s.length∧(k=111∨k=99):=by
  unfold zaK at h;split at h
  · rename_i hc;injection h with h;injection h with h1 h2;subst h1 h2;exact ⟨by simp only[List.length_drop,List.length_take];omega,hc.2.1⟩
  · cases h
theorem u99 {k:UInt8}:((k.toNat:Int)=99) ↔ k=99:=⟨fun h=>UInt8.toNat_inj.1 (by rw[show (99:UInt8).toNat=99 from rfl];omega),fun h=>by rw[h];rfl⟩
theorem zhR {first:Nat}{sec:Nat→Bytes}{f i used:Nat}{out:Deeds}{deed:List ChangeM}(h:zaK (first+i) (sec i)=none):wd first sec (f+1) i out deed used=(out,used):=by rw[zcV,h]
theorem zqT {first:Nat}{sec:Nat→Bytes}{f i used:Nat}{out:Deeds}{deed:List ChangeM}{t:Bytes}(h:zaK (first+i) (sec i)=some (99,t))(ht:t=qN deed.length):wd first sec (f+1) i out deed used=wd first sec f (i+1) (out++ [deed]) [] (i+1):=by rw[zcV,h];simp only;rw[if_pos trivial,if_pos ht]
theorem zsZ {first:Nat}{sec:Nat→Bytes}{f i used:Nat}{out:Deeds}{deed:List ChangeM}{t:Bytes}(h:zaK (first+i) (sec i)=some (99,t))(ht:¬t=qN deed.length):wd first sec (f+1) i out deed used=(out,used):=by rw[zcV,h];simp only;rw[if_pos trivial,if_neg ht]
theorem zsX {first:Nat}{sec:Nat→Bytes}{f i used:Nat}{out:Deeds}{deed:List ChangeM}{t:Bytes}{k:UInt8}(h:zaK (first+i) (sec i)=some (k,t))(hk:¬k=99)(hp:(prS t).2=0):wd first sec (f+1) i out deed used=wd first sec f (i+1) out (deed++ [(prS t).1]) used:=by rw[zcV,h];simp only;rw[if_neg hk,if_pos hp]
theorem zs8 {first:Nat}{sec:Nat→Bytes}{f i used:Nat}{out:Deeds}{deed:List ChangeM}{t:Bytes}{k:UInt8}(h:zaK (first+i) (sec i)=some (k,t))(hk:¬k=99)(hp:¬(prS t).2=0):wd first sec (f+1) i out deed used=(out,used):=by rw[zcV,h];simp only;rw[if_neg hk,if_neg hp]
theorem zuE (gl:LogG)(d:List ChangeM)(s:Option Addr)(c:Nat):dR gl++ [[sl s d.length c]]=dR (gl++ [(d,(s,c))]):=by simp[dR]
theorem zs9 (gl:LogG)(d:List ChangeM)(s:Option Addr)(c:Nat):(gl++ [(d,(s,c))]).map (·.1)=gl.map (·.1)++ [d]:=by simp
theorem zp8 (a:List ChangeM)(x:ChangeM):chR a++ [yu x]=chR (a++ [x]):=by simp[chR]
theorem zhu (bd:Nat)(D:DiskM)(from_ many first:Int)(hS:∀x∈D.now,x.length=80)(hbd:D.now.length≤1000000∧first≤1000000000000)(F:List HProp):Ct Tryz.prog 106 [ptr bd 0,I from_,I many,I first] ([dsk 140 142 bd (D)]++F) (ROpen 140 142 222 34 bd D from_ many first F):=by
  show Ct Tryz.prog 106 [ptr bd 0,I from_,I many,I first] (dsk 140 142 bd (D)::F) _;refine Ct.of func106 rR 103 ntmps106 (by simp) fun w0=>?_;refine gS (gA rR (gA rR (gA rR (qb (qf (gS (gM rR (g_v (qJ rR rR) rR (gM rR (qK rR rR (fun hg=>qp rR) rR rR (qK rR rR (fun hg=>qJ rR rR) rR rR (g_v (zaH rR rR) rR (gM rR (qK rR rR (fun hg=>qp rR) rR rR (qK rR rR (fun hg=>qp rR) rR rR ?_)))))))))))))));refine g_gq rR rR (fun hg=>qi (Pre:=[dsk 140 142 bd (D)]) (R:=fun F=>R1 (I (D.now.length:Int)) (dsk 140 142 bd (D)::F)) call102 rR (yX bd D)) rR rR ?_;refine qK rR rR (fun hg=>yA rR rR) rR rR (g_v (zaH rR rR) rR (gM rR (qK rR rR (fun hg=>qp rR) rR rR (qK rR rR (fun hg=>qp rR) rR rR ?_))));refine g_gq rR rR (fun hg=>qi (Pre:=[dsk 140 142 bd (D)]) (R:=fun F=>R1 (I (D.now.length:Int)) (dsk 140 142 bd (D)::F)) call102 rR (yX bd D)) rR rR ?_;refine qK rR rR (fun hg=>qp rR) rR rR (qK rR rR (fun hg=>zce (r:=(D.now.length:Int) - many) rR rR (w64 (by simp at hg;omega))) rR rR (qK rR rR (fun hg=>yA rR rR) rR rR (g_v (zaH rR rR) rR (gM rR (qK rR rR (fun hg=>qp rR) rR rR (qK rR rR (fun hg=>qJ rR rR) rR rR (g_v (zaH rR rR) rR (qb ?_))))))));refine qg rR (fun h43=>?_) (fun h43=>?_)
  · simp at h43;have hbad:zqo D from_ many first:=by unfold zqo;omega
    refine gS (g_v (qB underlying108 rR rR) rR (gA rR (gA rR (gA rR (qb ?_)))));exact ql (dsk 140 142 bd (D)::F) rfl (.inl ⟨hbad,rfl,rfl⟩)
  · simp at h43;have hbad:¬zqo D from_ many first:=by unfold zqo;omega
    have hb2:¬(from_<0∨many<1∨(D.now.length:Int)<many∨(D.now.length:Int) - many<from_∨first<1):=hbad;refine qh (qf (gS (gM rR ?_)));refine g_l (qi (Pre:=[dsk 140 142 bd (D)]) call34 rR (zb3 bd D)) rR ?_;rintro _ _ ⟨rfl,rfl⟩;refine qb ?_;refine qg rR (fun h46=>?_) (fun h46=>?_)
    · refine gS (g_v (qB underlying108 rR rR) rR (gA rR (gA rR (gA rR (qb ?_)))));exact ql (dsk 140 142 bd (D)::F) rfl (.inr (.inl ⟨hbad,h46,rfl,rfl⟩))
    · have hdn:D.down=false:=(by simpa using h46);obtain ⟨from_,rfl⟩:=Int.eq_ofNat_of_zero_le (show 0≤from_ by omega);obtain ⟨many,rfl⟩:=Int.eq_ofNat_of_zero_le (show 0≤many by omega);obtain ⟨first,rfl⟩:=Int.eq_ofNat_of_zero_le (show 0≤first by omega);refine qh (gS (gM rR (gM rR (gM rR (gM rR (g_v (qP rR (zii _ rR _ rR _ rR _ rR)) rR ?_))))));refine g_l (wR (lgC bd from_ many first 0) rfl rfl) rfl ?_;rintro _ _ ⟨b53,rfl,rfl⟩;refine gA rR (qb (gS (gA rR (qb (gS (gA rR (qb (qf (qf ?_)))))))));refine yG 34 1 (dR []) rR ?_;refine yG 104 3 (chR []) rR ?_;refine zvA ?_;refine qo (gM rR (gM rR (qb (qj ?_))));refine qE (α:=Nat×LogG×List ChangeM×Nat×LocA×LocA) (fun z=>z.1≤many∧wd first (zjz D from_) many 0 [] [] 0=wd first (zjz D from_) (many - z.1) z.1 (z.2.1.map (·.1)) z.2.2.1 z.2.2.2.1∧z.2.2.1.length≤z.1∧z.2.1.length≤z.1∧z.2.2.2.1≤z.1) (fun z=>U [(0,ptr bd 0),(11,ptr b53 0),(12,sl z.2.2.2.2.1.1 z.2.1.length z.2.2.2.2.1.2),(13,sl z.2.2.2.2.2.1 z.2.2.1.length z.2.2.2.2.2.2),(54,I many),(55,I z.1)]) (fun z=>pt b53 (.cells (lgC bd from_ many first z.2.2.2.1) 222 (0,0))::owL 34 1 z.2.2.2.2.1.1 z.2.2.2.2.1.2 (dR z.2.1)::owL 104 3 z.2.2.2.2.2.1 z.2.2.2.2.2.2 (chR z.2.2.1)::zlq z.2.1::dsk 140 142 bd (D)::F) (fun z=>many - z.1) (0,[],[],0,(none,0),(none,0)) ⟨by simp,rfl,by simp,by simp,by simp⟩ [0,11,12,13,54,55] rfl rfl ?_;rintro ⟨i,gl,deed,used,⟨so,co⟩,⟨sd,cd⟩⟩ ⟨hi,hsc,hdl,hgl,hul⟩;simp only[] at hi hsc hdl hgl hul ⊢;refine gS (g_v (qJ rR rR) rR (qb (qf ?_)));refine qg rR (fun h56=>?_) (fun h56=>?_)
      · simp at h56;have him:i<many:=(by omega);have hso:wd first (zjz D from_) many 0 [] [] 0=wd first (zjz D from_) ((many - (i+1))+1) i (gl.map (·.1)) deed used:=by rw[hsc,show (many - (i+1))+1=many - i by omega]
        refine qh (qf (qj (gS (gM rR (gA rR (qb (gS (gM rR (gM rR ?_)))))))));refine g_l (qi (Pre:=[pt b53 (.cells (lgC bd from_ many first (used)) 222 (0,0)),dsk 140 142 bd (D)]) call145 rfl (zlN b53 bd from_ many first used D i (by omega) hdn hS (by omega) ⟨hbd.1,by omega⟩)) rfl ?_;rintro _ _ ⟨rfl,rfl⟩;rw[show D.now.getD (from_+i) []=zjz D from_ i from rfl];have hsl:(zjz D from_ i).length=80:=zeT (by omega) hS;rcases hlk:zaK (first+i) (zjz D from_ i) with _ | ⟨k,t⟩;rotate_left;obtain ⟨hts,hk2⟩:=zoN hlk;by_cases hk99:k=99
        · subst hk99;refine gM rR (g_v (qd (v:=By 99) rR rR) rR (g_v (qd (v:=Str t) rR rR) rR (g_v (qd (v:=Bo true) rR rR) rR (gA rR (gA rR (gA rR (qb (qf (gS (gM rR (g_v (wo rR) rR (gM rR (qU rR rR rR (qp rR) rR (qU rR rR rR (wh rR rR) rR (qU rR rR rR (qp rR) rR (qU rR rR rR (qp rR) rR (qU rR rR rR (qp rR) rR (qU rR rR rR (yo underlying34 rR) rR ?_))))))))))))))))));refine zrs rR rR rR (qi (Pre:=[]) call146 rR (zad deed.length)) rR ?_;rintro _ _ ⟨rfl,rfl⟩;refine qU rR rR rR (zhj rR rR) rR (qU rR rR rR (zas rR rR) rR (g_v (zaH rR rR) rR (qb ?_)));refine qg rR (fun h77=>?_) (fun h77=>?_)
          · simp at h77;have hfin:wd first (zjz D from_) many 0 [] [] 0=(gl.map (·.1),used):=by rw[hso,zsZ hlk h77]
            refine qz rR ?_;refine gS (gM rR (gM rR (gA rR (gA rR (gA rR (qb ?_))))));refine ql (pt b53 (.cells (lgC bd from_ many first (used)) 222 (0,0))::owL 34 1 so co (dR gl)::zlq gl::dsk 140 142 bd (D)::F) rfl (.inr (.inr ⟨hbad,hdn,b53,gl,so,co,used,rfl,(Nat.le_trans hul (by omega)),(Nat.le_trans hgl (by omega)),hfin,rfl⟩))
          · simp at h77;have ht:t=qN deed.length:=h77;refine qh (qf (gS (gM rR (g_v (wh rR rR) rR (qb ?_)))));refine wV rR ?_;refine gS (gM rR (gM rR (gM rR ?_)));refine g_l (qs [[sl sd deed.length cd]] underlying185 sizeOf34 zeroValue34 rR rR rR (by simp) (by decide) (by decide)) rR ?_;rintro _ _ ⟨b83,rfl,rfl⟩;refine g_l (yC underlying185 sizeOf34 zeroValue34 rR Tryz.typeInfo34 (by decide) rR rR (zt3 _) rR (by simp) (by simp[ones,one,sl]) ⟨by omega,by decide,by decide⟩) rR ?_;rintro _ _ ⟨s84,c84,rfl,rfl⟩;rw[zuE,show gl.length+1=(gl++ [(deed,(sd,cd))]).length by simp];refine gM rfl (g_v (qu (r:=((i+1:Nat):Int)) rfl rfl (by rw[show (i:Int)+1=((i+1:Nat):Int) by omega];exact w64 (by omega))) rfl (gA rfl (gA rfl (g_v (qc rfl) rfl (g_v (qa 4 underlying222 rfl rfl sizeOf3 (by decide) rfl) rfl ?_)))));refine yp (qH (lgC bd from_ many first (i+1)) sizeOf3 rfl rfl rfl (by simp) rfl) ?_;rintro _ _ rfl;refine qb ?_;refine qz rR ?_;refine qo (g_v (qu (r:=((i+1:Nat):Int)) rfl rfl (by rw[show (i:Int)+1=((i+1:Nat):Int) by omega];exact w64 (by omega))) rfl (gM rfl (qb ?_)));refine yB (T:=104) (cap:=cd) sd ?_;refine zpd gl deed sd cd ?_;refine yG 104 3 (chR []) rR ?_;refine qm (i+1,gl++ [(deed,(sd,cd))],[],i+1,(s84,c84),(none,0)) ⟨by simp;omega,?_,by simp,by simp;omega,by simp⟩ (by simp;omega) [0,11,12,13,54,55] rfl rfl;simp only[];rw[hso,zqT hlk ht,zs9]
        · refine gM rR (g_v (qd (v:=By k.toNat) rR rR) rR (g_v (qd (v:=Str t) rR rR) rR (g_v (qd (v:=Bo true) rR rR) rR (gA rR (gA rR (gA rR (qb (qf (gS (gM rR (g_v (wo rR) rR (gM rR ?_))))))))))));have hk99':¬((k.toNat:Int)=99):=fun h=>hk99 (u99.1 h);refine qU rR rR rR (qp rR) rR (qU rR rR rR (wh rR rR) rR (qU rR rR rR (qp rR) rR (yH rR rR (by simp[zpE,hk99']) rR (yH rR rR (by simp[zpE,hk99']) rR (yH rR rR (by simp[zpE,hk99']) rR (yH rR rR (by simp[zpE,hk99']) rR (yH rR rR (by simp[zpE,hk99']) rR (qU rR rR rR (zau rR (by simp[hk99']) rR) rR (g_v (zaH rR rR) rR (qb ?_))))))))));refine qg rR (fun h77=>?_) (fun h77=>?_)
          · simp at h77
          · refine qh (qf (gS (gM rR (g_v (wh rR rR) rR (qb ?_)))));refine qg rR (fun h79=>?_) (fun h79=>?_)
            · simp at h79;exact absurd (u99.1 h79) hk99
            · refine qh (gS (gM rR ?_));refine g_l (qi (Pre:=[]) call147 rR (zk9 t (by omega))) rR ?_;rintro _ _ ⟨rfl,rfl⟩;refine gM rR (g_v (qd (v:= .agg (yu (prS t).1).toArray) rR rR) rR (g_v (qd (v:=yK (prS t).2) rR rR) rR ?_));refine g_l (qy #[Str [],Str [],Bo false] zeroValue104) rR ?_;rintro _ _ ⟨b18,rfl,rfl⟩;refine yp (qq (cs:=#[Str [],Str [],Bo false]) (vs:=yu (prS t).1) (yu (prS t).1).toArray sizeOf104 rR rR rR rR (by decide) (qC rR)) ?_;rintro _ _ rfl;refine gA rR (qb (qf (gS (gM rR (g_v (yf underlying37 rR) rR (qb ?_))))));refine qg rR (fun h95=>?_) (fun h95=>?_)
              · simp at h95;have hfin:wd first (zjz D from_) many 0 [] [] 0=(gl.map (·.1),used):=by rw[hso,zs8 hlk hk99 h95]
                refine qz rR ?_;refine gS (gM rR (gM rR (gA rR (gA rR (gA rR (qb ?_))))));refine ql (pt b53 (.cells (lgC bd from_ many first (used)) 222 (0,0))::owL 34 1 so co (dR gl)::zlq gl::dsk 140 142 bd (D)::F) rfl (.inr (.inr ⟨hbad,hdn,b53,gl,so,co,used,rfl,(Nat.le_trans hul (by omega)),(Nat.le_trans hgl (by omega)),hfin,rfl⟩))
              · simp at h95;have hpe:(prS t).2=0:=h95;refine qh (qo (gM rR (g_v (qI (vs:=yu ((prS t).1)) isAgg104 sizeOf104 rR rR qR) rR ?_)));refine g_l (qs [yu (prS t).1] underlying34 sizeOf104 zeroValue104 rR rR rR (by simp[yu]) (by decide) (by decide)) rR ?_;rintro _ _ ⟨b98,rfl,rfl⟩;refine g_l (yC underlying34 sizeOf104 zeroValue104 rR Tryz.typeInfo104 (by decide) rR rR (qO _) rR (by simp[yu]) (by simp[ones,one,yu]) ⟨by omega,by decide,by decide⟩) rR ?_;rintro _ _ ⟨s99,c99,rfl,rfl⟩;rw[zp8,show deed.length+1=(deed++ [(prS t).1]).length by simp];refine gA rfl (qb (qF (qo (g_v (qu (r:=((i+1:Nat):Int)) rfl rfl (by rw[show (i:Int)+1=((i+1:Nat):Int) by omega];exact w64 (by omega))) rfl (gM rfl (qb ?_))))));refine qm (i+1,gl,deed++ [(prS t).1],used,(so,co),(s99,c99)) ⟨by simp;omega,?_,by simp;omega,by simp only[];omega,by simp only[];omega⟩ (by simp;omega) [0,11,12,13,54,55] rfl rfl;simp only[];rw[hso,zsX hlk hk99 hpe]
        · refine gM rR (g_v (qd (v:=By 0) rR rR) rR (g_v (qd (v:=Str []) rR rR) rR (g_v (qd (v:=Bo false) rR rR) rR (gA rR (gA rR (gA rR (qb (qf (gS (gM rR (g_v (wo rR) rR (gM rR (yH rR rR rR rR (yH rR rR rR rR (yH rR rR rR rR (yH rR rR rR rR (yH rR rR rR rR (yH rR rR rR rR (yH rR rR rR rR (yH rR rR rR rR (yH rR rR rR rR (g_v (zbp rR rR rR) rR (qb ?_)))))))))))))))))))))));refine wV rR ?_;refine qz rR ?_;refine gS (gM rR (gM rR (gA rR (gA rR (gA rR (qb ?_))))));have hfin:wd first (zjz D from_) many 0 [] [] 0=(gl.map (·.1),used):=by rw[hso,zhR hlk]
          refine ql (pt b53 (.cells (lgC bd from_ many first (used)) 222 (0,0))::owL 34 1 so co (dR gl)::zlq gl::dsk 140 142 bd (D)::F) rfl (.inr (.inr ⟨hbad,hdn,b53,gl,so,co,used,rfl,(Nat.le_trans hul (by omega)),(Nat.le_trans hgl (by omega)),hfin,rfl⟩))
      · simp at h56;obtain rfl:many=i:=(by omega);have hfin:wd first (zjz D from_) many 0 [] [] 0=(gl.map (·.1),used):=by rw[hsc,Nat.sub_self];rfl
        refine qz rR ?_;refine gS (gM rR (gM rR (gA rR (gA rR (gA rR (qb ?_))))));refine ql (pt b53 (.cells (lgC bd from_ many first (used)) 222 (0,0))::owL 34 1 so co (dR gl)::zlq gl::dsk 140 142 bd (D)::F) rfl (.inr (.inr ⟨hbad,hdn,b53,gl,so,co,used,rfl,(Nat.le_trans hul (by omega)),(Nat.le_trans hgl (by omega)),hfin,rfl⟩))
open Go Go.Sl Go.Proofs
abbrev kl (a b:Bytes):Bool:=Op.bytesLess a b
theorem zee:∀a:Bytes,kl a a=false
  | []=>rfl
  | x::a=>by
    show (decide (x<x) || (x==x && Op.bytesLess a a))=false;rw[show Op.bytesLess a a=false from zee a];simp[UInt8.lt_iff_toNat_lt]
theorem za7:∀{a b c:Bytes},kl a b=true→kl b c=true→kl a c=true
  | a,[],c,h1,h2=>by cases a <;> cases h1
  | a,b,[],h1,h2=>by cases b <;> cases h2
  | [],y::b,z::c,h1,h2=>rfl
  | x::a,y::b,z::c,h1,h2=>by
    have e1:(decide (x<y) || (x==y && Op.bytesLess a b))=true:=h1;have e2:(decide (y<z) || (y==z && Op.bytesLess b c))=true:=h2;show (decide (x<z) || (x==z && Op.bytesLess a c))=true;simp only[Bool.or_eq_true,decide_eq_true_eq,Bool.and_eq_true,beq_iff_eq,UInt8.lt_iff_toNat_lt] at e1 e2 ⊢;rcases e1 with e1 | ⟨rfl,e1⟩
    · rcases e2 with e2 | ⟨rfl,e2⟩
      · left;omega
      · left;exact e1
    · rcases e2 with e2 | ⟨rfl,e2⟩
      · left;exact e2
      · exact .inr ⟨rfl,za7 e1 e2⟩
theorem zgK:∀(a b:Bytes),kl a b=true∨a=b∨kl b a=true
  | [],[]=> .inr (.inl rfl)
  | [],_::_=> .inl rfl
  | _::_,[]=> .inr (.inr rfl)
  | x::a,y::b=>by
    show (decide (x<y) || (x==y && Op.bytesLess a b))=true∨x::a=y::b∨(decide (y<x) || (y==x && Op.bytesLess b a))=true;simp only[Bool.or_eq_true,decide_eq_true_eq,Bool.and_eq_true,beq_iff_eq,UInt8.lt_iff_toNat_lt];rcases Nat.lt_trichotomy x.toNat y.toNat with h | h | h
    · exact .inl (.inl h)
    · have e:x=y:=UInt8.toNat_inj.1 h;subst e;rcases zgK a b with h2 | h2 | h2
      · exact .inl (.inr ⟨rfl,h2⟩)
      · exact .inr (.inl (by rw[h2]))
      · exact .inr (.inr (.inr ⟨rfl,h2⟩))
    · exact .inr (.inr (.inl h))
theorem zdh {a b:Bytes}(h:kl a b=true):kl b a=false:=by
  cases h2:kl b a
  · rfl
  · have:=za7 h h2;rw[zee] at this;cases this
theorem zc3 {a b:Bytes}(h:kl a b=true):a≠b:=fun e=>by rw[e,zee] at h;cases h
theorem zi4:∀(a b:Bytes),(Lib.compareBytes a b<0 ↔ kl a b=true)∧(Lib.compareBytes a b=0 ↔ a=b)
  | [],[]=>by simp[Lib.compareBytes,kl,Op.bytesLess]
  | [],_::_=>by simp[Lib.compareBytes,kl,Op.bytesLess]
  | _::_,[]=>by simp[Lib.compareBytes,kl,Op.bytesLess]
  | x::a,y::b=>by
    have ih:=zi4 a b;have hk:kl (x::a) (y::b)=(decide (x<y) || (x==y && Op.bytesLess a b)):=rfl;rw[hk];unfold Lib.compareBytes;simp only[UInt8.lt_iff_toNat_lt,Bool.or_eq_true,decide_eq_true_eq,Bool.and_eq_true,beq_iff_eq];rcases Nat.lt_trichotomy x.toNat y.toNat with h | h | h
    · rw[if_pos h];have hne:x≠y:=fun e=>(by rw[e] at h;omega);simp[h,hne]
    · have e:x=y:=UInt8.toNat_inj.1 h;subst e;rw[if_neg (by omega),if_neg (by omega)];simp only[Nat.lt_irrefl,false_or,true_and,List.cons.injEq];exact ih
    · rw[if_neg (by omega),if_pos h];have hne:x≠y:=fun e=>(by rw[e] at h;omega);have h3:¬x.toNat<y.toNat:=(by omega);simp[h3,hne]
def srt (l:List ChangeM):Prop:=l.Pairwise fun a b=>kl a.key b.key=true
theorem znW (k:Bytes):∀{l:List ChangeM},srt l→∃A B,l=A++B∧(∀a∈A,kl a.key k=true)∧((∃b B',B=b::B'∧b.key=k∧∀x∈B',kl k x.key=true)∨∀x∈B,kl k x.key=true)
  | [],_=>⟨[],[],rfl,by simp, .inr (by simp)⟩
  | r::l,h=>by
    have h1:=(List.pairwise_cons.1 h).1;rcases zgK r.key k with h2 | h2 | h2
    · obtain ⟨A,B,rfl,hA,hB⟩:=znW k (List.pairwise_cons.1 h).2;exact ⟨r::A,B,rfl,fun a ha=>by rcases List.mem_cons.1 ha with rfl | ha;exact h2;exact hA a ha,hB⟩
    · exact ⟨[],r::l,rfl,by simp, .inl ⟨r,l,rfl,h2,fun x hx=>by rw[←h2];exact h1 x hx⟩⟩
    · exact ⟨[],r::l,rfl,by simp, .inr fun x hx=>by rcases List.mem_cons.1 hx with rfl | hx;exact h2;exact za7 h2 (h1 x hx)⟩
def lbS (l:List ChangeM)(k:Bytes):Nat:=(l.filter fun r=>kl r.key k).length
def isS (l:List ChangeM)(k:Bytes):Bool:=l.any fun r=>decide (r.key=k)
def apS (l:List ChangeM)(c:ChangeM):List ChangeM:=(l.filter fun r=>kl r.key c.key)++(if c.gone then [] else [c])++l.filter fun r=>kl c.key r.key
theorem zm6 {l:List ChangeM}{p:ChangeM→Bool}(h:∀x∈l,p x=true):l.filter p=l:=List.filter_eq_self.2 h
theorem zsV {l:List ChangeM}{p:ChangeM→Bool}(h:∀x∈l,p x=false):l.filter p=[]:=List.filter_eq_nil_iff.2 fun x hx=>by rw[h x hx];simp
theorem parts {k:Bytes}{A B:List ChangeM}(hA:∀a∈A,kl a.key k=true)(hB:(∃b B',B=b::B'∧b.key=k∧∀x∈B',kl k x.key=true)∨∀x∈B,kl k x.key=true):
    (A++B).filter (fun r=>kl r.key k)=A∧lbS (A++B) k=A.length∧
    ((∃b B',B=b::B'∧b.key=k∧isS (A++B) k=true∧(A++B).filter (fun r=>kl k r.key)=B')∨(isS (A++B) k=false∧(A++B).filter (fun r=>kl k r.key)=B)):=by
  have f1:A.filter (fun r=>kl r.key k)=A:=zm6 hA;have f2:A.filter (fun r=>kl k r.key)=[]:=zsV fun x hx=>zdh (hA x hx);have i1:A.any (fun r=>decide (r.key=k))=false:=List.any_eq_false.2 fun x hx=>(by simpa using zc3 (hA x hx));rcases hB with ⟨b,B',rfl,hb,hB⟩ | hB
  · have f3:(b::B').filter (fun r=>kl r.key k)=[]:=zsV fun x hx=>by
      rcases List.mem_cons.1 hx with rfl | hx
      · rw[hb];exact zee k
      · exact zdh (hB x hx)
    have f4:(b::B').filter (fun r=>kl k r.key)=B':=by
      rw[List.filter_cons,hb,zee,if_neg (by simp)];exact zm6 hB
    refine ⟨by rw[List.filter_append,f1,f3,List.append_nil],by unfold lbS;rw[List.filter_append,f1,f3,List.append_nil], .inl ⟨b,B',rfl,hb,?_,by rw[List.filter_append,f2,f4];rfl⟩⟩;unfold isS;rw[List.any_append,List.any_cons,hb];simp
  · have f3:B.filter (fun r=>kl r.key k)=[]:=zsV fun x hx=>zdh (hB x hx);have f4:B.filter (fun r=>kl k r.key)=B:=zm6 hB;refine ⟨by rw[List.filter_append,f1,f3,List.append_nil],by unfold lbS;rw[List.filter_append,f1,f3,List.append_nil], .inr ⟨?_,by rw[List.filter_append,f2,f4];rfl⟩⟩;unfold isS;rw[List.any_append,i1];exact List.any_eq_false.2 fun x hx=>by simpa using (zc3 (hB x hx)).symm
theorem zt9 {l:List ChangeM}(h:srt l)(k:Bytes){j:Nat}{r:ChangeM}(hr:l[j]? =some r):kl r.key k=true ↔ j<lbS l k:=by
  obtain ⟨A,B,rfl,hA,hB⟩:=znW k h;rw[(parts hA hB).2.1];by_cases hj:j<A.length
  · rw[List.getElem?_append_left hj] at hr;exact ⟨fun _=>hj,fun _=>hA r (List.mem_of_getElem? hr)⟩
  · rw[List.getElem?_append_right (by omega)] at hr;have hm:=List.mem_of_getElem? hr;have:kl r.key k=false:=by
      rcases hB with ⟨b,B',rfl,hb,hB⟩ | hB
      · rcases List.mem_cons.1 hm with rfl | hm
        · rw[hb];exact zee k
        · exact zdh (hB r hm)
      · exact zdh (hB r hm)
    rw[this];exact ⟨fun h=>(by cases h),fun h=>absurd h hj⟩
theorem zqL (l:List ChangeM)(k:Bytes):lbS l k≤l.length:=List.length_filter_le _ _
theorem zmw {l:List ChangeM}(h:srt l)(k:Bytes):isS l k=(match l[lbS l k]? with | some r=>decide (r.key=k) | none=>false):=by
  obtain ⟨A,B,rfl,hA,hB⟩:=znW k h;obtain ⟨_,p2,p3⟩:=parts hA hB;rw[p2,List.getElem?_append_right (Nat.le_refl _),Nat.sub_self];rcases p3 with ⟨b,B',rfl,hb,hi,_⟩ | ⟨hi,_⟩
  · rw[hi];simp[hb]
  · rw[hi];cases B with
    | nil=>rfl
    | cons b B'=>
      unfold isS at hi;rw[List.any_append,List.any_cons] at hi;simp at hi;simp[hi.2.1]
theorem zdg {l:List ChangeM}(h:srt l)(c:ChangeM):apS l c=if isS l c.key=true then (if c.gone=true then l.eraseIdx (lbS l c.key) else l.set (lbS l c.key) c) else (if c.gone=true then l else l.take (lbS l c.key)++ [c]++l.drop (lbS l c.key)):=by
  obtain ⟨A,B,rfl,hA,hB⟩:=znW c.key h;obtain ⟨p1,p2,p3⟩:=parts hA hB;unfold apS;rw[p1,p2];rcases p3 with ⟨b,B',rfl,hb,hi,hf⟩ | ⟨hi,hf⟩
  · rw[hi,hf,if_pos rfl];by_cases hg:c.gone=true
    · rw[if_pos hg,if_pos hg,List.eraseIdx_append_of_length_le (Nat.le_refl _),Nat.sub_self];simp
    · rw[if_neg hg,if_neg hg,List.set_append_right _ _ (Nat.le_refl _),Nat.sub_self];simp
  · rw[hi,hf,if_neg (show ¬(false=true) by simp)];by_cases hg:c.gone=true
    · rw[if_pos hg,if_pos hg];simp
    · rw[if_neg hg,if_neg hg];simp
theorem zxo {l:List ChangeM}(h:srt l)(c:ChangeM):srt (apS l c):=by
  unfold apS srt;rw[List.append_assoc];refine List.pairwise_append.2 ⟨h.sublist List.filter_sublist,List.pairwise_append.2 ⟨by split <;> simp,h.sublist List.filter_sublist,fun a ha b hb=>?_⟩,fun a ha b hb=>?_⟩
  · split at ha
    · cases ha
    · simp at ha hb;subst ha;exact hb.2
  · simp only[List.mem_filter] at ha;rcases List.mem_append.1 hb with hb | hb
    · split at hb
      · cases hb
      · simp at hb;subst hb;exact ha.2
    · simp only[List.mem_filter] at hb;exact za7 ha.2 hb.2
theorem zx9 (l:List ChangeM)(c:ChangeM)(h:srt l):(apS l c).length≤l.length+1:=by
  rw[zdg h];split
  · split
    · have:=List.length_eraseIdx_le l (lbS l c.key);omega
    · simp
  · split
    · omega
    · have:=zqL l c.key;simp;omega
def zaG (l:List ChangeM)(cs:List ChangeM):List ChangeM:=cs.foldl apS l
theorem zsc {l cs:List ChangeM}{k:Nat}{r:ChangeM}(h:cs[k]? =some r):zaG l (cs.take (k+1))=apS (zaG l (cs.take k)) r:=by
  unfold zaG;rw[zfB h,List.foldl_append]
  rfl
theorem x_cmp:∃fn,Tryz.prog.funcs[204]? =some fn∧(fn.name== "runtime.NumGoroutine")=false∧fn.body.isNone=true∧Extern.findNext fn=none∧Extern.find fn=some Extern.BytealgCompare.compare:=
  ⟨(Tryz.prog.funcs[204]?).get (by kernel_rfl),(Option.some_get _).symm,by kernel_rfl,by kernel_rfl,by kernel_rfl,by kernel_rfl⟩
theorem zpt (a b:Bytes)(w:World):(callFunc 204 [Str a,Str b].toArray).run Tryz.prog w= .ok (.value (I (Lib.compareBytes a b))) w:=by
  obtain ⟨fn,h1,h2,h3,h4,h5⟩:=x_cmp;rw[run_callFunc_extern h1 h2 h3 h4 h5];show ((Extern.BytealgCompare.compare #[.string ⟨⟨a⟩⟩, .string ⟨⟨b⟩⟩]).run Tryz.prog w).andThen _=_;rw[Lib.run_compareString]
  rfl
theorem zrS (l:List ChangeM)(i:Nat):(chR l).take i++((chR l).drop (i+1)).take (l.length - (i+1))=chR (l.eraseIdx i):=by
  rw[List.take_of_length_le (i:=l.length - (i+1)) (l:=(chR l).drop (i+1)) (by simp[chR]),List.eraseIdx_eq_take_drop_succ];simp[chR]
theorem zgg (l:List ChangeM):∀r∈chR l,ones r=true:=fun r hr=>by simp only[chR,List.mem_map] at hr;obtain ⟨x,_,rfl⟩:=hr;rfl
theorem zdl (l:List ChangeM):∀r∈chR l,r.length=3:=fun r hr=>by simp only[chR,List.mem_map] at hr;obtain ⟨x,_,rfl⟩:=hr;rfl
theorem zaR (a b:Bytes)(F:List HProp):Ct Tryz.prog 182 [Str a,Str b] ([]++F) (R1 (I (Lib.compareBytes a b)) F):=by
  show Ct Tryz.prog 182 [Str a,Str b] (F) _;refine Ct.of func182 rR 8 ntmps182 (by simp) fun w0=>?_;refine gS (gA rR (qb (gS (gM rR (gM rR ?_)))));refine g_l (zpo (v:=I (Lib.compareBytes a b)) (zpt a b) rR) rR ?_;rintro _ _ ⟨rfl,rfl⟩;refine gA rR (qb ?_);refine qn rR rR ?_;exact rfl
theorem zb2 (a b:Bytes)(F:List HProp):Ct Tryz.prog 132 [Str a,Str b] ([]++F) (R1 (I (Lib.compareBytes a b)) F):=by
  show Ct Tryz.prog 132 [Str a,Str b] (F) _;refine Ct.of func132 rR 8 ntmps132 (by simp) fun w0=>?_;refine gS (gA rR (qb (gS (gM rR (gM rR ?_)))));refine g_l (qi (Pre:=[]) call182 rR (zaR a b)) rR ?_;rintro _ _ ⟨rfl,rfl⟩;refine gA rR (qb ?_);refine qn rR rR ?_;exact rfl
theorem zeG (x:ChangeM)(k:Bytes)(F:List HProp):Ct Tryz.prog 148 [.agg (yu x).toArray,Str k] ([]++F) (R1 (I (Lib.compareBytes x.key k)) F):=by
  show Ct Tryz.prog 148 [.agg (yu x).toArray,Str k] (F) _;refine Ct.of func148 rR 9 ntmps148 (by simp) fun w0=>?_;refine gS ?_;refine g_l (wR (yu x).toArray rR rR) rR ?_;rintro _ _ ⟨b2,rfl,rfl⟩;refine gA rR (qb (gS (g_v (qa 0 underlying104 rR rR sizeOf9 (by decide) rR) rR (g_v (qe (v:=Str x.key) isAgg9 rR rR) rR (gM rR ?_)))));refine g_l (qi (Pre:=[]) call132 rR (zb2 x.key k)) rR ?_;rintro _ _ ⟨rfl,rfl⟩;refine gA rR (qb ?_);refine qn rR rR ?_;exact rfl
theorem zdx (l:List ChangeM)(s:Option Addr)(cap:Nat)(hl:l.length≤1000000)(F:List HProp):Ct Tryz.prog 111 [sl s l.length cap] ([roL 3 s (chR l)]++F) (RSl 104 3 l.length (chR l) (roL 3 s (chR l)::F)):=by
  show Ct Tryz.prog 111 [sl s l.length cap] (roL 3 s (chR l)::F) _;refine Ct.of func111 rR 8 ntmps111 (by simp) fun w0=>?_;refine zqa (φ:=s=none→l=[]) (fun w hS hs=>by
    have h1:=(SlR.ro (sz:=3) (s:=s) (rows:=chR l) (L:=F)).out w0 w hS;rcases h1 with h | ⟨b,o,ob,h,_⟩
    · simpa [chR] using h
    · rw[hs] at h;cases h) (fun hnil=>?_)
  refine gS (gA rR (qb (qf (gS (gM rR (g_v (zpP underlying34 rR) rR (qb ?_)))))));refine qg rR (fun h4=>?_) (fun h4=>?_)
  · have hs0:s=none:=(by simpa using h4);have hl0:=hnil hs0;subst hl0;refine yG 104 3 (chR []) rR ?_;refine gS (gA rR (qb ?_));exact wx rfl rfl rfl rfl
  · refine qh (gS ?_);refine g_l (zju underlying34 sizeOf104) rR ?_;rintro _ _ ⟨b5,rfl,rfl⟩;refine gM rR ?_;refine g_l (yC underlying34 sizeOf104 zeroValue104 rR Tryz.typeInfo104 (by decide) rR rR rR (qO l) (zdl l) (zgg l) ⟨by omega,by decide,by decide⟩) rR ?_;rintro _ _ ⟨s7,c7,rfl,rfl⟩;rw[Nat.zero_add];simp only[List.nil_append];refine gA rR (qb ?_);exact wx rfl rfl rfl rfl
theorem zfY (l:List ChangeM)(s:Option Addr)(cap i:Nat)(hi:i<l.length)(hl:l.length≤1000000)(F:List HProp):Ct Tryz.prog 149 [sl s l.length cap,I i,I ((i:Int)+1)] ([owL 104 3 s cap (chR l)]++F) (R1 (sl s (l.length - 1) cap) (owL 104 3 s cap (chR (l.eraseIdx i))::F)):=by
  show Ct Tryz.prog 149 [sl s l.length cap,I i,I ((i:Int)+1)] (owL 104 3 s cap (chR l)::F) _;refine Ct.of func149 rR 33 ntmps149 (by simp) fun w0=>?_;refine zlM s fun hcap=>?_;rw[qO] at hcap;refine gS (gA rR (qb (gS (gM rR (gM rR (gM rR (gM rR (g_v (yo underlying34 rR) rR (g_v (zwX (l:=i) (h:=i+1) (q:=l.length) underlying34 sizeOf104 rR rR rR rR (by omega) rR rR (by omega) (by omega) hcap) rR (qb (qf (gS (gM rR (gM rR (g_v (wh rR rR) rR (qb ?_))))))))))))))));refine qg rR (fun h16=>?_) (fun h16=>?_)
  · simp at h16;omega
  · refine qh (gS (gM rR (g_v (yo underlying34 rR) rR (gA rR (qb (qf ?_))))));refine yw (Lf:=F) [(0,false),(1,false),(2,false),(3,false),(4,false),(5,false),(6,true),(7,false)] (by kernel_rfl) (by kernel_rfl) rR (by kernel_rfl) ?_;refine dM rR rR rR (dM rR rR rR (d_v rR (zhU (h:=i) underlying34 sizeOf104 rR rR rR (by omega)) rR (dM rR rR rR (dM rR rR rR (d_v rR (zb7 (l:=i+1) underlying34 sizeOf104 rR rR (by omega) (by omega)) rR ?_)))));refine d_l rR (zn8 (s:=s) (p:=i+1) underlying34 sizeOf104 (by decide) rR rR (by unfold At;split;exact .inr (.inr (by omega));exact .inr (.inl rR)) (by rw[qO];omega) (by rw[qO];omega) (by rw[qO];omega) (by rw[qO];omega) (zgg l)) rR ?_;rintro _ _ ⟨rfl,rfl⟩;rw[zrS];refine d_v rR (qx rR) rR ?_;refine yc ?_;refine gS (gM rR (gM rR (g_v (yo underlying34 rR) rR (gM rR (g_v (zr7 (l:=i+(l.length - (i+1))) (h:=l.length) underlying34 sizeOf104 rR rR rR rR rR (by omega) hcap) rR ?_)))));refine yp (zev (sz:=3) (l:=i+(l.length - (i+1))) s underlying34 zeroValue104 rR rR rR (by unfold At;split;exact .inr (.inr (by omega));exact .inr (.inl rR)) (by rw[qO,List.length_eraseIdx];split <;> omega) (by omega)) ?_;rintro _ _ ⟨rfl,rfl⟩;refine qb (gS (gM rR (gA rR (qb ?_))));exact qn rfl rfl (by rw[show l.length - 1=i+(l.length - (i+1)) by omega];rfl)
theorem zc2 (l:List ChangeM)(s:Option Addr)(cap:Nat)(k:Bytes)(hs:srt l)(hl:l.length≤1000000)(F:List HProp):Ct Tryz.prog 133 [sl s l.length cap,Str k, .func (.func 148) #[] #[]] ([owL 104 3 s cap (chR l)]++F) (R1 (.tuple #[I (lbS l k),Bo (isS l k)]) (owL 104 3 s cap (chR l)::F)):=by
  show Ct Tryz.prog 133 [sl s l.length cap,Str k, .func (.func 148) #[] #[]] (owL 104 3 s cap (chR l)::F) _;refine Ct.of func133 rR 49 ntmps133 (by simp) fun w0=>?_;refine gS (gA rR (gA rR (qb (gS (gM rR (g_v (yo underlying34 rR) rR (gA rR (qb (gS (gM rR (gA rR (gA rR (qb (qf (qj ?_)))))))))))))));refine qE (α:=Nat×Nat) (fun z=>z.1≤lbS l k∧lbS l k≤z.2∧z.2≤l.length) (fun z=>U [(0,sl s l.length cap),(1,Str k),(2, .func (.func 148) #[] #[]),(8,I l.length),(9,I z.1),(10,I z.2)]) (fun _=>owL 104 3 s cap (chR l)::F) (fun z=>z.2 - z.1) (0,l.length) ⟨by simp,zqL _ _,Nat.le_refl _⟩ [0,1,2,8,9,10] rfl rR ?_;rintro ⟨i,j⟩ ⟨hi,hj,hjl⟩;simp only[] at hi hj hjl ⊢;refine qf (gS (gM rR (gM rR (g_v (qJ rR rR) rR (qb ?_)))));refine qg rR (fun h17=>?_) (fun h17=>?_)
  · simp at h17;refine qh (qj (qf ?_));have hkn:(i+j) / 2<l.length:=(by omega);obtain ⟨x,hx⟩:∃x,l[(i+j) / 2]? =some x:=⟨_,List.getElem?_eq_getElem hkn⟩;have hkr:(i+j) / 2<(chR l).length:=(by rw[qO];exact hkn);have hlb:=zt9 hs k hx;refine qo (gM rfl (gM rfl (g_v (qu rfl rfl (w64 (by omega))) rfl (g_v (yU underlying3 underlying194 rfl (zn3 (by omega))) rfl (g_v (zd4 (r:=(((i+j) / 2:Nat):Int)) rfl rfl (by decide) (by rw[show min ((1:Int).toNat) IntKind.u64.bits=1 by decide,Int.fdiv_eq_ediv_of_nonneg _ (by decide)];omega)) rfl (g_v (yU underlying194 underlying3 rfl (w64 (by omega))) rfl (gA rfl (qb (gS (gM rfl (gM rfl (gM rfl (g_v (qA ((i+j) / 2) underlying34 sizeOf104 rfl rfl rfl hkn hkr) rfl (g_v (ym (row:=yu x) isAgg104 sizeOf104 rfl (zbg hx) rfl) rfl (gM rfl ?_)))))))))))))));refine g_l (zat (fi:=[]) (cap:=[]) (Pre:=[]) call148 rR rR (zeG x k)) rR ?_;rintro _ _ ⟨rfl,rfl⟩;refine g_v (qJ rR rR) rR (qb ?_);refine qg rR (fun h31=>?_) (fun h31=>?_)
    · simp at h31;refine qo (gM rR (g_v (qu rR rR (w64 (by omega))) rR (gA rR (qb (qF ?_)))));exact qm ((i+j) / 2+1,j) ⟨by simp only[];have:=hlb.1 ((zi4 _ _).1.1 h31);omega,hj,hjl⟩ (by simp only[];omega) [0,1,2,8,9,10] rfl rfl
    · simp at h31;refine qo (gM rR (gA rR (qb (qF ?_))));exact qm (i,(i+j) / 2) ⟨hi,by simp only[];rcases Nat.lt_or_ge ((i+j) / 2) (lbS l k) with h | h;have:=(zi4 _ _).1.2 (hlb.2 h);omega;exact h,by simp only[];omega⟩ (by simp only[];omega) [0,1,2,8,9,10] rfl rfl
  · simp at h17;obtain rfl:i=lbS l k:=(by omega);refine qz rR ?_;refine gS (gM rR (gM rR (gM rR (g_v (qJ rR rR) rR (gM rR ?_)))));by_cases hin:lbS l k<l.length
    · obtain ⟨x,hx⟩:∃x,l[lbS l k]? =some x:=⟨_,List.getElem?_eq_getElem hin⟩;have hkr:lbS l k<(chR l).length:=(by rw[qO];exact hin);have hb:decide ((lbS l k:Int)<l.length)=true:=decide_eq_true (by omega);refine qU rR rR hb (qp rR) rR (qU rR rR hb (qp rR) rR (qU rR rR hb (qp rR) rR (qU rR rR hb (qA (lbS l k) underlying34 sizeOf104 rR rR rR hin hkr) rR (qU rR rR hb (ym (row:=yu x) isAgg104 sizeOf104 rR (zbg hx) rR) rR (qU rR rR hb (qp rR) rR ?_)))));refine zrs rR rR hb (zat (fi:=[]) (cap:=[]) (Pre:=[]) call148 rR rR (zeG x k)) rR ?_;rintro _ _ ⟨rfl,rfl⟩;refine qU rR rR hb (wh rR rR) rR (g_v (zas rR rR) rR (gA rR (gA rR (qb ?_))));exact qn rfl rfl (by rw[zmw hs,hx];show Value.tuple #[I (lbS l k),Bo (decide ((lbS l k:Int)<l.length) && decide (Lib.compareBytes x.key k=0))]=_;rw[hb,Bool.true_and,decide_eq_decide.2 (zi4 x.key k).2])
    · have hb:decide ((lbS l k:Int)<l.length)=false:=decide_eq_false (by omega);refine yH rR rR (by rw[hb];rfl) rR (yH rR rR (by rw[hb];rfl) rR (yH rR rR (by rw[hb];rfl) rR (yH rR rR (by rw[hb];rfl) rR (yH rR rR (by rw[hb];rfl) rR (yH rR rR (by rw[hb];rfl) rR (yH rR rR (by rw[hb];rfl) rR (yH rR rR (by rw[hb];rfl) rR (g_v (zau rR hb rR) rR (gA rR (gA rR (qb ?_)))))))))));exact qn rfl rfl (by rw[zmw hs,List.getElem?_eq_none (by omega)];rfl)
section
variable {c:Cx}{g:Option (Nat×Bool)}{E:Env}{L:List HProp}{d:Option Tmp}{ty:TypeId}{pos:String}{af:Array Edge}{gu:Option (Nat×Bool)}{x:Operand}{t e:TypeId}{s:Option Addr}{n cap:Nat}
theorem zyC (hu:c.P.underlying t=some (.slice e))(hx:ev g E x=some (sl s n cap)):OpV c g E L ⟨d, .call {callee:= .builtin .cap,args:=#[x],argTypes:=#[t]},ty,pos,af,gu⟩ (I cap):= .mk fun a w hE hg hS=>by
  simp[execOp,resolve,invoke,builtin,Builtin.cap_,underlying,program,Sem.run,hu,hE.ev hg hx,sl,goInt]
end
theorem zyh:∃fn,Tryz.prog.funcs[186]? =some fn∧(fn.name== "runtime.NumGoroutine")=false∧fn.body.isNone=true∧Extern.findNext fn=none∧Extern.find fn=some (Extern.SlicesOverlaps.overlaps #[34,34] #[4]):=
  ⟨(Tryz.prog.funcs[186]?).get (by kernel_rfl),(Option.some_get _).symm,by kernel_rfl,by kernel_rfl,by kernel_rfl,by kernel_rfl⟩
theorem zoQ {w0 w:World}{L F1 F2:List HProp}{b1 b2 c1 c2 l1 l2 n1 n2 p:Nat}{r1 r2:List (List Value)}[R1:Rem L (owL 104 3 (some ⟨b1,0,none⟩) c1 r1) F1][R2:Rem F1 (owL 104 3 (some ⟨b2,0,none⟩) c2 r2) F2](h0:0<r2.length)(hS:Sat w0 w L):
    (callFunc 186 [sl (some ⟨b1,0,none⟩) l1 n1,sl (some ⟨b2,p,none⟩) l2 n2].toArray).run Tryz.prog w= .ok (.value (Bo false)) w:=by
  obtain ⟨fn,h1,h2,h3,h4,h5⟩:=zyh;have hS1:=R1.sat hS;have r3:Rem (owL 104 3 (some ⟨b1,0,none⟩) c1 r1::F1) (owL 104 3 (some ⟨b2,0,none⟩) c2 r2) (owL 104 3 (some ⟨b1,0,none⟩) c1 r1::F2):=inferInstance;have hS2:=r3.sat hS1;have r4:Rem (owL 104 3 (some ⟨b2,0,none⟩) c2 r2::owL 104 3 (some ⟨b1,0,none⟩) c1 r1::F2) (owL 104 3 (some ⟨b1,0,none⟩) c1 r1) (owL 104 3 (some ⟨b2,0,none⟩) c2 r2::F2):=inferInstance;have hS3:=r4.sat hS2;rw[run_callFunc_extern h1 h2 h3 h4 h5];have:=zvg (P:=Tryz.prog) (t:=34) (tR:=4) (l1:=l1) (l2:=l2) (n1:=n1) (n2:=n2) (p:=p) underlying34 sizeOf104 (by decide) h0 hS3;show ((Extern.SlicesOverlaps.overlaps _ _ #[.slice (some ⟨b1,0,none⟩) l1 n1, .slice (some ⟨b2,p,none⟩) l2 n2]).run Tryz.prog w).andThen _=_;rw[this]
  rfl
def zqM (l:List ChangeM)(i:Nat)(c:ChangeM):List ChangeM:=l.take i++ [c]++l.drop i
theorem zgP (a b:List ChangeM):chR (a++b)=chR a++chR b:=by simp[chR]
theorem ziX (a:List ChangeM)(i:Nat):chR (a.take i)=(chR a).take i:=by simp[chR]
theorem zjH (a:List ChangeM)(i:Nat):chR (a.drop i)=(chR a).drop i:=by simp[chR]
section
variable {l:List ChangeM}{i:Nat}{c:ChangeM}
theorem put1R {α:Type}(A R:List α)(y x:α):(A++y::R).take A.length++ [x]++(A++y::R).drop (A.length+1)=A++x::R:=by
  rw[List.take_left',List.append_assoc]
  · congr 1;rw[List.drop_append];simp
  · rfl
theorem put2 {α:Type}(P R X:List α)(h:X.length=R.length):(P++R).take P.length++X.take R.length++(P++R).drop (P.length+R.length)=P++X:=by
  have e1:(P++R).take P.length=P:=List.take_left' rfl;have e2:X.take R.length=X:=List.take_of_length_le (by omega);have e3:(P++R).drop (P.length+R.length)=[]:=List.drop_of_length_le (by simp);rw[e1,e2,e3,List.append_nil]
theorem ins1 (hi:i≤l.length){q:Nat}(hq:Nat.min 1 q=1){z:List Value}:((chR l).take i++List.replicate (l.length+1 - i) z).take i++([yu c].drop 0).take (Nat.min 1 q)++((chR l).take i++List.replicate (l.length+1 - i) z).drop (i+Nat.min 1 q)=chR (l.take i++ [c])++List.replicate (l.length - i) z:=by
  rw[hq];have h1:((chR l).take i).length=i:=(by rw[List.length_take,qO];omega);have h2:List.replicate (l.length+1 - i) z=z::List.replicate (l.length - i) z:=(by rw[show l.length+1 - i=(l.length - i)+1 by omega];rfl);have h3:=put1R ((chR l).take i) (List.replicate (l.length - i) z) z (yu c);rw[h1] at h3;rw[h2,zgP,ziX,List.append_assoc ((chR l).take i) (chR [c])];exact h3
theorem ins2 (hi:i≤l.length){m q:Nat}(hm:Nat.min m q=l.length - i){z:List Value}:(chR (l.take i++ [c])++List.replicate (l.length - i) z).take (i+1)++((chR l).drop i).take (Nat.min m q)++(chR (l.take i++ [c])++List.replicate (l.length - i) z).drop (i+1+Nat.min m q)=chR (zqM l i c):=by
  rw[hm];have h1:(chR (l.take i++ [c])).length=i+1:=(by rw[qO];simp;omega);have h3:=put2 (chR (l.take i++ [c])) (List.replicate (l.length - i) z) ((chR l).drop i) (by rw[List.length_drop,qO,List.length_replicate]);rw[h1,List.length_replicate] at h3;rw[h3];unfold zqM;rw[zgP _ (l.drop i),zjH]
theorem zjB (hi:i≤l.length){g:List Value}:((chR l++ [g]).drop i).take (l.length - i)=(chR l).drop i:=by
  rw[List.drop_append_of_le_length (by rw[qO];exact hi),List.take_append_of_le_length (by rw[List.length_drop,qO];omega),List.take_of_length_le (by rw[List.length_drop,qO];omega)]
theorem ins3 (hi:i<l.length){m q:Nat}(hm:Nat.min m q=l.length - i){g:List Value}:(chR l++ [g]).take (i+1)++((chR l++ [g]).drop i).take (Nat.min m q)++(chR l++ [g]).drop (i+1+Nat.min m q)=chR (l.take (i+1)++l.drop i):=by
  rw[hm];have e1:(chR l++ [g]).take (i+1)=(chR l).take (i+1):=List.take_append_of_le_length (by rw[qO];omega);have e2:=zjB (l:=l) (i:=i) (by omega) (g:=g);have e3:(chR l++ [g]).drop (i+1+(l.length - i))=[]:=List.drop_of_length_le (by rw[List.length_append,qO];simp;omega);rw[e1,e2,e3,List.append_nil,zgP,ziX,zjH]
theorem ins4 (hi:i<l.length){q:Nat}(hq:Nat.min 1 q=1):(chR (l.take (i+1)++l.drop i)).take i++([yu c].drop 0).take (Nat.min 1 q)++(chR (l.take (i+1)++l.drop i)).drop (i+Nat.min 1 q)=chR (zqM l i c):=by
  rw[hq,←ziX,←zjH];have h1:(l.take (i+1)).length=i+1:=(by rw[List.length_take];omega);have e1:(l.take (i+1)++l.drop i).take i=l.take i:=by
    rw[List.take_append_of_le_length (by omega),List.take_take,Nat.min_eq_left (by omega)]
  have e2:(l.take (i+1)++l.drop i).drop (i+1)=l.drop i:=List.drop_left' h1;rw[e1,e2];unfold zqM;rw[zgP _ (l.drop i),zgP]
  rfl
end
theorem zf1 (l:List ChangeM)(c:ChangeM)(s:Option Addr)(cap bn i:Nat)(hi:i≤l.length)(hl:l.length≤1000)(F:List HProp):Ct Tryz.prog 150 [sl s l.length cap,I i,sl (some ⟨bn,0,none⟩) 1 1] ([owL 104 3 s cap (chR l),owL 104 3 (some ⟨bn,0,none⟩) 1 [yu c]]++F) (RSl 104 3 (l.length+1) (chR (zqM l i c)) F):=by
  show Ct Tryz.prog 150 [sl s l.length cap,I i,sl (some ⟨bn,0,none⟩) 1 1] (owL 104 3 s cap (chR l)::owL 104 3 (some ⟨bn,0,none⟩) 1 [yu c]::F) _;refine Ct.of func150 rR 95 ntmps150 (by simp) fun w0=>?_;refine zlM s fun hcap=>?_;rw[qO] at hcap;refine gS (gA rR (qb (gS (gM rR (gM rR (g_v (zb7 (l:=i) underlying34 sizeOf104 rR rR (by omega) (by omega)) rR (qb (gS (gM rR (g_v (yo underlying34 rR) rR (gA rR (qb (qf (gS (gM rR (g_v (wh rR rR) rR (qb ?_)))))))))))))))));refine qg rR (fun h16=>?_) (fun h16=>?_)
  · simp at h16
  · refine qh (gS (gM rR (g_v (yo underlying34 rR) rR (gA rR (qb (qf (gS (gM rR (gM rR (g_v (wh rR rR) rR (qb ?_)))))))))));refine qg rR (fun h22=>?_) (fun h22=>?_)
    · simp at h22;refine gS (gM rR (gM rR ?_));refine g_l (yC underlying34 sizeOf104 zeroValue104 rR Tryz.typeInfo104 (by decide) rR rR (qO l) rR (by simp[yu]) (by simp[yu,ones,one]) ⟨by omega,by decide,by decide⟩) rR ?_;rintro _ _ ⟨s25,c25,rfl,rfl⟩;rw[show chR l++ [yu c]=chR (zqM l i c) by unfold zqM;rw[show i=l.length by omega];simp[chR]];refine gA rR (qb ?_);exact wx rfl rfl rfl rfl
    · simp at h22;refine qh (qf (gS (gM rR (gM rR (g_v (qu rR rR (w64 (by omega))) rR (gM rR (g_v (zyC underlying34 rR) rR (g_v (yA rR rR) rR (qb ?_)))))))));refine qg rR (fun h31=>?_) (fun h31=>?_)
      · simp at h31;refine gS (gM rR (gM rR (g_v (zhU (h:=i) underlying34 sizeOf104 rR rR rR (by omega)) rR (gM rR (gM rR (g_v (qu rR rR (w64 (by omega))) rR (gM rR (g_v (zce rR rR (w64 (by omega))) rR ?_))))))));refine g_l (zf4 (m:=l.length+1 - i) underlying34 underlying3 sizeOf104 zeroValue104 rR Tryz.typeInfo104 (by decide) rR rR (by omega) (by rw[qO];exact hi) (zdl l) (by omega) (by omega) ⟨by omega,by decide,by decide⟩) rR ?_;rintro _ _ ⟨b40,c40,rfl,rfl⟩;refine zlM (some ⟨b40,0,none⟩) fun hc40=>?_;rw[List.length_append,List.length_take,qO,List.length_replicate] at hc40;refine gA rR (qb (gS (gM rR (gM rR (g_v (zb7 (l:=i) underlying34 sizeOf104 rR rR (by omega) (by omega)) rR (gM rR ?_))))));refine g_l (zg9 (s:=(some ⟨b40,0,none⟩)) (s2:=(some ⟨bn,0,none⟩)) (l:=i) (p:=0) underlying34 sizeOf104 (by decide) rR rR (by unfold At;split;exact .inr (.inr (by omega));exact .inr (.inl rR)) (.inl ⟨rfl,rfl⟩) (by simp[chR];omega) (by simp) (by simp[yu]) (by simp[yu,ones,one])) rR ?_;rintro _ _ ⟨rfl,rfl⟩;refine zcX (some ⟨b40,0,none⟩) (chR (l.take i++ [c])++List.replicate (l.length - i) (yu noC)) (ins1 hi (by show min _ _=_;omega)) ?_;refine qb (qf ?_);refine yw (Lf:=F) [(0,false),(1,false),(2,false),(3,false),(4,false),(5,false),(6,false),(7,false),(8,true)] (by kernel_rfl) (by kernel_rfl) rR (by kernel_rfl) ?_;refine dM rR rR rR (dM rR rR rR (dM rR rR rR (d_v rR (qu rR rR (w64 (by omega))) rR (d_v rR (zb7 (l:=i+1) underlying34 sizeOf104 rR rR (by omega) (by omega)) rR (dM rR rR rR (dM rR rR rR (d_v rR (zb7 (l:=i) underlying34 sizeOf104 rR rR (by omega) (by omega)) rR ?_)))))));refine d_l rR (zg9 (s:=(some ⟨b40,0,none⟩)) (s2:=s) (l:=i+1) (p:=i) underlying34 sizeOf104 (by decide) rR rR (by unfold At;split;exact .inr (.inr (by omega));exact .inr (.inl rR)) (by unfold At;split;exact .inr (.inr (by omega));exact .inr (.inl rR)) (by simp[chR];omega) (by rw[qO];omega) (zdl l) (zgg l)) rR ?_;rintro _ _ ⟨rfl,rfl⟩;refine zcX (some ⟨b40,0,none⟩) (chR (zqM l i c)) (ins2 hi (by show min _ _=_;omega)) ?_;refine yc ?_;refine gS (gM rR (gA rR (qb ?_)));exact wx rfl rfl rfl (by omega)
      · simp at h31;refine qh (qf ?_);have hil:i<l.length:=(by omega);have hmin:Nat.min (l.length+1 - i) (l.length+1 - (i+1))=l.length - i:=(by show min _ _=_;omega);refine zxH s (by rw[qO];omega) ?_;rintro b rfl;refine qo (gM rR (gM rR (gM rR (g_v (qu rR rR (w64 (by omega))) rR (g_v (zhU (h:=l.length+1) underlying34 sizeOf104 rR rR (by omega) (by omega)) rR (gA rR (qb (qf (gS (gM rR (gM rR (gM rR (gM rR (g_v (qu rR rR (w64 (by omega))) rR (g_v (zb7 (l:=i+1) underlying34 sizeOf104 rR rR (by omega) (by omega)) rR ?_)))))))))))))));rw[if_neg (show ¬cap=i+1 by omega),show ((some (⟨b,0,none⟩:Addr)).map (·.add ((i+1)*3)))=some ⟨b,0+(i+1)*3,none⟩ from congrArg some (zaV _ _ _)];refine g_l (zsg (v:=Bo false) (fun w hS=>zoQ (c1:=1) (r1:=[yu c]) (c2:=cap) (r2:=chR l) (by rw[qO];omega) hS) rR) rR ?_;rintro _ _ ⟨rfl,rfl⟩;refine g_v (wo rR) rR (qb ?_);refine qg rR (fun h68=>?_) (fun h68=>?_)
        · refine qf ?_;refine zs1 (some ⟨b,0,none⟩) (by rw[qO];omega) ?_;intro gr hgr;refine yw (Lf:=F) [(0,false),(1,false),(2,false),(3,false),(4,false),(5,false),(6,false),(7,false),(8,true)] (by kernel_rfl) (by kernel_rfl) rR (by kernel_rfl) ?_;refine dM rR rR rR (dM rR rR rR (dM rR rR rR (d_v rR (qu rR rR (w64 (by omega))) rR (d_v rR (zb7 (l:=i+1) underlying34 sizeOf104 rR rR (by omega) (by omega)) rR (dM rR rR rR (dM rR rR rR (d_v rR (zb7 (l:=i) underlying34 sizeOf104 rR rR (by omega) (by omega)) rR ?_)))))));refine d_l rR (zwH (s:=(some ⟨b,0,none⟩)) (s2:=(some ⟨b,0,none⟩)) (l:=i+1) (p:=i) underlying34 sizeOf104 (by decide) rR rR (by unfold At;split;exact .inr (.inr (by omega));exact .inr (.inl rR)) (by unfold At;split;exact .inr (.inr (by omega));exact .inr (.inl rR)) (by rw[hmin,List.length_append,qO];simp;omega) (by rw[hmin,List.length_append,qO];simp;omega) (by rw[hmin,zjB (by omega)];exact fun r hr=>zdl l r (List.mem_of_mem_drop hr)) (by rw[hmin,zjB (by omega)];exact fun r hr=>zgg l r (List.mem_of_mem_drop hr))) rR ?_;rintro _ _ ⟨rfl,rfl⟩;refine zcX (some ⟨b,0,none⟩) (chR (l.take (i+1)++l.drop i)) (ins3 hil hmin) ?_;refine yc ?_;refine gS (gM rR (gM rR (g_v (zb7 (l:=i) underlying34 sizeOf104 rR rR (by omega) (by omega)) rR (gM rR ?_))));refine g_l (zg9 (s:=(some ⟨b,0,none⟩)) (s2:=(some ⟨bn,0,none⟩)) (l:=i) (p:=0) underlying34 sizeOf104 (by decide) rR rR (by unfold At;split;exact .inr (.inr (by omega));exact .inr (.inl rR)) (.inl ⟨rfl,rfl⟩) (by simp[chR];omega) (by simp) (by simp[yu]) (by simp[yu,ones,one])) rR ?_;rintro _ _ ⟨rfl,rfl⟩;refine zcX (some ⟨b,0,none⟩) (chR (zqM l i c)) (ins4 hil (by show min _ _=_;omega)) ?_;refine qb (gS (gM rR (gA rR (qb ?_))));exact wx rfl rfl rfl rfl
        · simp at h68
section
variable {c:Cx}{E:Env}{L:List HProp}{K:List KI}
end
theorem zjo {l:List ChangeM}(h:srt l):∀cs:List ChangeM,srt (zaG l cs)∧(zaG l cs).length≤l.length+cs.length:=by
  intro cs
  induction cs generalizing l with
  | nil=>exact ⟨h,by simp[zaG]⟩
  | cons c cs ih=>
    have:=ih (zxo h c);have h2:=zx9 l c h;refine ⟨this.1,?_⟩;have h3:=this.2;simp only[zaG,List.foldl_cons,List.length_cons] at h3 ⊢;omega
theorem zxc {l:List ChangeM}(h:srt l){k:Bytes}(hi:isS l k=true):lbS l k<l.length:=by
  rw[zmw h] at hi;split at hi
  · rename_i r hr;exact (List.getElem?_eq_some_iff.1 hr).1
  · cases hi
section
variable {c r:ChangeM}{z:Bool×List ChangeM}
end
theorem zdp (l cs:List ChangeM)(s s':Option Addr)(cap cap':Nat)(hs:srt l)(hl:l.length≤400)(hc:cs.length≤100)(F:List HProp):Ct Tryz.prog 107 [sl s l.length cap,sl s' cs.length cap'] ([roL 3 s (chR l),roL 3 s' (chR cs)]++F) (RSl 104 3 (zaG l cs).length (chR (zaG l cs)) (roL 3 s (chR l)::roL 3 s' (chR cs)::F)):=by
  show Ct Tryz.prog 107 [sl s l.length cap,sl s' cs.length cap'] (roL 3 s (chR l)::roL 3 s' (chR cs)::F) _;refine Ct.of func107 rR 52 ntmps107 (by simp) fun w0=>?_;refine gS (gA rR (qb (gS (gM rR ?_))));refine g_l (qi (Pre:=[roL 3 s (chR l)]) call111 rR (zdx l s cap (by omega))) rR ?_;rintro _ _ ⟨s10,c10,rfl,rfl⟩;show G _ _ _ (owL 104 3 s10 c10 (chR (zaG l (cs.take 0)))::roL 3 s (chR l)::roL 3 s' (chR cs)::F);refine gA rR (qb (qf (gS (gM rR (g_v (yo underlying34 rR) rR (gM rR (qb (qj ?_))))))));refine qE (α:=Nat×Option Addr×Nat) (fun z=>z.1≤cs.length) (fun z=>U [(0,sl z.2.1 (zaG l (cs.take z.1)).length z.2.2),(11,sl s' cs.length cap'),(12,I cs.length),(13,I z.1)]) (fun z=>owL 104 3 z.2.1 z.2.2 (chR (zaG l (cs.take z.1)))::roL 3 s (chR l)::roL 3 s' (chR cs)::F) (fun z=>cs.length - z.1) (0,s10,c10) (by simp) [0,11,12,13] rfl rR ?_;rintro ⟨k,sA,cA⟩ hk;simp only[] at hk ⊢;refine gS (g_v (qJ rR rR) rR (qb (qf ?_)));refine qg rR (fun h14=>?_) (fun h14=>?_)
  · simp at h14;have hin:k<cs.length:=(by omega);obtain ⟨x,hx⟩:∃x,cs[k]? =some x:=⟨_,List.getElem?_eq_getElem hin⟩;have hir:k<(chR cs).length:=(by rw[qO];exact hin);have hnx:=zsc (l:=l) hx;have hRs:=(zjo hs (cs.take k)).1;have hRl:=(zjo hs (cs.take k)).2;rw[List.length_take] at hRl;generalize hRd:zaG l (cs.take k)=R at*;refine qh (qf (qj (gS (g_v (qA k underlying34 sizeOf104 rR rR rR hin hir) rR (g_v (ym (row:=yu x) isAgg104 sizeOf104 rR (zbg hx) rR) rR ?_)))));refine g_l (qy #[Str [],Str [],Bo false] zeroValue104) rR ?_;rintro _ _ ⟨b6,rfl,rfl⟩;refine yp (qq (cs:=#[Str [],Str [],Bo false]) (vs:=yu x) (yu x).toArray sizeOf104 rR rR rR rR (by decide) (qC rR)) ?_;rintro _ _ rfl;refine qb (gS (gM rR (g_v (qa 0 underlying104 rR rR sizeOf9 (by decide) rR) rR (g_v (qe (v:=Str x.key) isAgg9 rR rR) rR ?_))));refine g_l (qi (Pre:=[owL 104 3 sA cA (chR (R))]) call133 rR (zc2 R sA cA x.key hRs (by omega))) rR ?_;rintro _ _ ⟨rfl,rfl⟩;refine gM rR (g_v (qd (v:=I (lbS R x.key)) rR rR) rR (g_v (qd (v:=Bo (isS R x.key)) rR rR) rR (gA rR (gA rR (qb (qj (gS (gM rR (gM rR (qK rR rR (fun hg=>qa 2 underlying104 rR rR sizeOf4 (by decide) rR) rR rR (qK rR rR (fun hg=>qe (v:=Bo x.gone) isAgg4 rR rR) rR rR (g_v (zas rR rR) rR (gA rR (qb ?_))))))))))))));refine qg rR (fun h24=>?_) (fun h24=>?_)
    · simp at h24;have hlt:=zxc hRs h24.1;refine qo (gM rR (gM rR (gM rR (g_v (qu rR rR (w64 (by omega))) rR ?_))));refine g_l (qi (Pre:=[owL 104 3 sA cA (chR (R))]) call149 rR (zfY R sA cA (lbS R x.key) hlt (by omega))) rR ?_;rintro _ _ ⟨rfl,rfl⟩;refine gA rR (qb (qF (qF (qo (g_v (qu rR rR (w64 (by omega))) rR (gM rR (qb ?_)))))));rw[show R.length - 1=(zaG l (cs.take (k+1))).length by rw[hnx,zdg hRs,if_pos h24.1,if_pos h24.2];rw[List.length_eraseIdx,if_pos hlt],show R.eraseIdx (lbS R x.key)=zaG l (cs.take (k+1)) by rw[hnx,zdg hRs,if_pos h24.1,if_pos h24.2]];exact qm (k+1,sA,cA) (by simp only[];omega) (by simp only[];omega) [0,11,12,13] rfl rfl
    · simp at h24;refine gS (gM rR (gA rR (qb ?_)));refine qg rR (fun h35=>?_) (fun h35=>?_)
      · have hlt:=zxc hRs h35;have hng:¬x.gone=true:=(by simp[h24 h35]);refine qo (gM rR (gM rR (g_v (qI (vs:=yu x) isAgg104 sizeOf104 rR rR qR) rR (g_v (qA (lbS R x.key) underlying34 sizeOf104 rR rR rR hlt (by rw[qO];exact hlt)) rR ?_))));refine yp (zgO (vs:=yu x) sizeOf104 rR rR rR rR (by rw[qO];exact hlt) (by decide)) ?_;rintro _ _ rfl;rw[show (chR R).set (lbS R x.key) (yu x)=chR (R.set (lbS R x.key) x) by simp[chR,List.map_set]];refine qb (qF (qF (qo (g_v (qu rR rR (w64 (by omega))) rR (gM rR (qb ?_))))));rw[show R.length=(zaG l (cs.take (k+1))).length by rw[hnx,zdg hRs,if_pos h35,if_neg hng];rw[List.length_set],show R.set (lbS R x.key) x=zaG l (cs.take (k+1)) by rw[hnx,zdg hRs,if_pos h35,if_neg hng]];exact qm (k+1,sA,cA) (by simp only[];omega) (by simp only[];omega) [0,11,12,13] rfl rfl
      · have hni:¬isS R x.key=true:=(by rw[h35];simp);refine gS (g_v (qa 2 underlying104 rR rR sizeOf4 (by decide) rR) rR (g_v (qe (v:=Bo x.gone) isAgg4 rR rR) rR (g_v (wo rR) rR (gA rR (qb ?_)))));refine qg rR (fun h41=>?_) (fun h41=>?_)
        · have hng:¬x.gone=true:=(by simpa using h41);have hlb:=zqL R x.key;refine qo (gM rR (gM rR (g_v (qI (vs:=yu x) isAgg104 sizeOf104 rR rR qR) rR ?_)));refine g_l (qs [yu x] underlying34 sizeOf104 zeroValue104 rR rR rR (by simp[yu]) (by decide) (by decide)) rR ?_;rintro _ _ ⟨b48,rfl,rfl⟩;refine g_l (qi (Pre:=[owL 104 3 sA cA (chR (R)),owL 104 3 (some ⟨b48,0,none⟩) 1 [yu x]]) call150 rR (zf1 R x sA cA b48 (lbS R x.key) (zqL _ _) (by omega))) rR ?_;rintro _ _ ⟨s49,c49,rfl,rfl⟩;refine gA rR (qb (qF (qF (qo (g_v (qu rR rR (w64 (by omega))) rR (gM rR (qb ?_)))))));rw[show R.length+1=(zaG l (cs.take (k+1))).length by rw[hnx,zdg hRs,if_neg hni,if_neg hng];simp[zqM];omega,show zqM R (lbS R x.key) x=zaG l (cs.take (k+1)) by rw[hnx,zdg hRs,if_neg hni,if_neg hng];rfl];exact qm (k+1,s49,c49) (by simp only[];omega) (by simp only[];omega) [0,11,12,13] rfl rfl
        · simp at h41;refine qh (qF (qF (qo (g_v (qu rR rR (w64 (by omega))) rR (gM rR (qb ?_))))));rw[show R=zaG l (cs.take (k+1)) by rw[hnx,zdg hRs,if_neg hni,if_pos h41]];exact qm (k+1,sA,cA) (by simp only[];omega) (by simp only[];omega) [0,11,12,13] rfl rfl
  · simp at h14;obtain rfl:k=cs.length:=(by omega);rw[List.take_length];refine qz rR ?_;refine gS (gM rR (gA rR (qb ?_)));exact wx rfl rfl rfl rfl
-- counterfoil/counterfoilref.Applied is not in this seat
end Go.Proofs.YthdjckbjjfiopadGreatDoor
