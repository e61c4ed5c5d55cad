/- Several texts in one: walks and rules used by them. No condition. -/
import Derived.Test.YthdjckbjjfiopadGreatDoorPartA
import Derived.Laws.Externs
import Derived.Lib.Overlaps
import Derived.Maps.RangeRun
import Derived.Lib.UnsafeStr
import Derived.RangeFuncRecord
import Derived.RangeFuncIn
import Derived.TacticsIn
import Derived.OrdersIn
set_option linter.unusedSimpArgs false
set_option linter.unusedVariables false
namespace Go.Proofs.YthdjckbjjfiopadGreatDoor
open _root_.Go.Proofs.Tryz
open Go.Sl Go.Proofs
abbrev Bytes:=List UInt8
def yN (l:List Bytes):List (List Value):=l.map fun s=>[Str s]
theorem zb6 (l:List Bytes):(yN l).length=l.length:=by simp[yN]
def zbK (n:Nat):Bytes:=List.replicate n 0
def yi (s:Bytes):Bytes:=s++zbK (80 - s.length)
theorem zpj {n:Int}{k:Nat}(h0:0≤n)(h:n<2 ^ k):n.fdiv (2 ^ k)=0:=by
  rw[Int.fdiv_eq_ediv_of_nonneg _ (by
      have:(0:Int)<2 ^ k:=(by exact Int.pow_pos (by decide));omega)]
  exact Int.ediv_eq_zero_of_lt h0 h
def znr (s:Bytes)(n k:Nat):List (List Value):=List.replicate k [Str s]++List.replicate (n - k) [Str []]
theorem znS (s:Bytes){n k:Nat}(h:k≤n):(znr s n k).length=n:=by simp[znr];omega
theorem znM (s:Bytes){n k:Nat}(r:List Value)(h:r∈znr s n k):r.length=1∧ones r=true:=by
  rcases List.mem_append.1 h with h | h <;> (obtain ⟨_,rfl⟩:=List.mem_replicate.1 h;exact ⟨rfl,rfl⟩)
theorem zoj (s:Bytes){n:Nat}(h:1≤n):(List.replicate n [Str []]).take 0++(([[Str s]]:List (List Value)).drop 0).take (Nat.min 1 n)++(List.replicate n [Str []]).drop (0+Nat.min 1 n)=znr s n 1:=by
  have:Nat.min 1 n=1:=Nat.min_eq_left h;simp[znr,this]
theorem zpp (s:Bytes){n k:Nat}(h:k≤n):(znr s n k).take k++((znr s n k).drop 0).take (Nat.min k (n - k))++(znr s n k).drop (k+Nat.min k (n - k))=znr s n (k+Nat.min k (n - k)):=by
  have h1:Nat.min k (n - k)≤k:=Nat.min_le_left _ _;have h2:Nat.min k (n - k)≤n - k:=Nat.min_le_right _ _;generalize Nat.min k (n - k)=r at*;simp only[znr,List.drop_zero];rw[List.take_append_of_le_length (by simp),List.take_append_of_le_length (by simp;omega),List.drop_append,List.take_replicate,List.take_replicate,List.drop_replicate];simp[List.drop_replicate];rw[Nat.min_eq_left h1,show n - k - r=n - (k+r) by omega]
abbrev Uw (n:Int):Value:= .int .u64 n
theorem zfQ (s:Bytes)(hs:s.length≤80)(F:List HProp):Ct Tryz.prog 84 [Str s] ([]++F) (R1 (Str (yi s)) F):=by
  show Ct Tryz.prog 84 [Str s] (F) _;refine Ct.of func84 rR 10 ntmps84 (by simp) fun w0=>?_;refine gS (gA rR (qb (gS (gM rR (gM rR (g_v (wi underlying9 rR) rR (g_v (zce rR rR (w64 (by omega))) rR ?_)))))));refine g_l (zg8 (80 - s.length) underlying199 sizeOf5 zeroValue5 Tryz.typeInfo5 rR (by decide) rR rR (by omega) ⟨by omega,by decide⟩) rR ?_;rintro _ _ ⟨b7,rfl,rfl⟩;refine g_v (yL (l:=zbK (80 - s.length)) underlying199 underlying5 underlying9 rR (zov _) (by simp[zbK])) rR (g_v (wN rR rR (by simp[zbK];omega)) rR (gA rR (qb ?_)));refine qn rR rR ?_;exact rfl
theorem zkr (n:Int)(hn:0≤n∧n<4294967296)(F:List HProp):Ct Tryz.prog 169 [Uw 1,Uw n] ([]++F) (R1 (.tuple #[Uw 0,Uw n]) F):=by
  show Ct Tryz.prog 169 [Uw 1,Uw n] (F) _;refine Ct.of func169 rR 51 ntmps169 (by simp) fun w0=>?_;refine gS (gA rR (gA rR (qb (gS (gM rR (g_v (ziY 32 rR (by omega) (by decide) (by decide)) rR (gA rR (qb ?_))))))));rw[show (1:Int) % 2 ^ 32=1 by decide];refine gS (gM rR (g_v (zd4 (r:=0) rR rR (by decide) (zpj (k:=32) (by omega) (by omega))) rR (gA rR (qb (gS (gM rR (g_v (ziY 32 rR (by omega) (by decide) (by decide)) rR (gA rR (qb ?_)))))))));rw[show n % 2 ^ 32=n by omega];refine gS (gM rfl (g_v (zd4 (r:=0) rfl rfl (by decide) (zpj (k:=32) (by omega) (by omega))) rfl (gA rfl (qb (gS (gM rfl (gM rfl (g_v (zdk (r:=n) rfl rfl (by rw[Int.one_mul];exact zn3 (by omega))) rfl (gA rfl (qb (gS (gM rfl (gM rfl (g_v (zdk (r:=0) rfl rfl (by rw[Int.zero_mul];exact zn3 (by omega))) rfl (gM rfl (g_v (zd4 (r:=0) rfl rfl (by decide) (zpj (k:=32) (by omega) (by omega))) rfl (g_v (qu (r:=0) rfl rfl (by rw[show (0+0:Int)=0 by omega];exact zn3 (by omega))) rfl (gA rfl (qb (gS (gM rfl (g_v (ziY 32 rfl (by omega) (by decide) (by decide)) rfl (gA rfl (qb ?_))))))))))))))))))))))));rw[show (0:Int) % 2 ^ 32=0 by decide];refine gS (gM rfl (g_v (zd4 (r:=0) rfl rfl (by decide) (zpj (k:=32) (by omega) (by omega))) rfl (gA rfl (qb (gS (gM rfl (gM rfl (gM rfl (g_v (zdk (r:=0) rfl rfl (by rw[Int.mul_zero];exact zn3 (by omega))) rfl (g_v (qu (r:=0) rfl rfl (by rw[show (0+0:Int)=0 by omega];exact zn3 (by omega))) rfl (gA rfl (qb (gS (gM rfl (gM rfl (g_v (zdk (r:=0) rfl rfl (by rw[Int.zero_mul];exact zn3 (by omega))) rfl (gM rfl (g_v (qu (r:=0) rfl rfl (by rw[show (0+0:Int)=0 by omega];exact zn3 (by omega))) rfl (gM rfl (g_v (zd4 (r:=0) rfl rfl (by decide) (zpj (k:=32) (by omega) (by omega))) rfl (g_v (qu (r:=0) rfl rfl (by rw[show (0+0:Int)=0 by omega];exact zn3 (by omega))) rfl (gA rfl (qb (gS (gM rfl (gM rfl (g_v (zdk (r:=n) rfl rfl (by rw[Int.one_mul];exact zn3 (by omega))) rfl (gA rfl (qb ?_)))))))))))))))))))))))))))));refine qn rR rR ?_;exact rfl
theorem zoO (n:Int)(hn:0≤n∧n<4294967296)(F:List HProp):Ct Tryz.prog 117 [Uw 1,Uw n] ([]++F) (R1 (.tuple #[Uw 0,Uw n]) F):=by
  show Ct Tryz.prog 117 [Uw 1,Uw n] (F) _;refine Ct.of func117 rR 30 ntmps117 (by simp) fun w0=>?_;refine gS (gA rR (gA rR (qb (qf ?_))));refine yR rR ?_;refine qh (gS (gM rR (gM rR ?_)));refine g_l (qi (Pre:=[]) call169 rR (zkr n hn)) rR ?_;rintro _ _ ⟨rfl,rfl⟩;refine gM rR (g_v (qd rR rR) rR (g_v (qd rR rR) rR (gA rR (gA rR (qb (gS (gM rR (gM rR (gA rR (gA rR (qb ?_)))))))))));refine qn rR rR ?_;exact rfl
theorem zi1 (x:Bytes)(s:Option Addr)(cap:Nat)(n:Nat)(hn:1≤n∧n≤1048576)(F:List HProp):Ct Tryz.prog 83 [sl s 1 cap,I n] ([roL 1 s [[Str x]]]++F) (RSl 9 1 n (yN (List.replicate n x)) (roL 1 s [[Str x]]::F)):=by
  show Ct Tryz.prog 83 [sl s 1 cap,I n] (roL 1 s [[Str x]]::F) _;refine Ct.of func83 rR 48 ntmps83 (by simp) fun w0=>?_;refine gS (gA rR (qb (qf (gS (gM rR (g_v (qJ rR rR) rR (qb ?_)))))));refine qg rR (fun h10=>?_) (fun h10=>?_)
  · exfalso;simp at h10;omega
  · refine qh (gS (gM rR (g_v (yo underlying31 rR) rR (g_v (yU (r:=1) underlying3 underlying194 rR (zn3 (by decide))) rR (gM rR (g_v (yU underlying3 underlying194 rR (zn3 (by omega))) rR ?_))))));refine g_l (qi (Pre:=[]) call117 rR (zoO n (by omega))) rR ?_;rintro _ _ ⟨rfl,rfl⟩;refine gM rR (g_v (qd rR rR) rR (g_v (qd rR rR) rR (gA rR (gA rR (qb (qf (gS (gM rR (g_v (yA rR rR) rR (gM rR (qK rR rR (fun hg=>qp rR) rR rR (qK rR rR (fun hg=>yA rR rR) rR rR (g_v (zaH rR rR) rR (qb ?_))))))))))))));refine qg rR (fun h26=>?_) (fun h26=>?_)
    · exfalso;simp at h26;omega
    · refine qh (gS (gM rR (g_v (yU underlying194 underlying3 rR (w64 (by omega))) rR ?_)));refine g_l (zg8 n underlying31 sizeOf9 zeroValue9 Tryz.typeInfo9 rR (by decide) rR rR rR ⟨by omega,by decide⟩) rR ?_;rintro _ _ ⟨b30,rfl,rfl⟩;refine gA rR (qb (gS (gM rR (gM rR ?_))));refine g_l (zg9 (s:=some ⟨b30,0,none⟩) (s2:=s) (l:=0) (p:=0) underlying31 sizeOf9 (by decide) rR rR (.inl ⟨rfl,rfl⟩) (.inl ⟨rfl,rfl⟩) (by simp) (by simp) (by simp) (by simp[ones,one])) rR ?_;rintro _ _ ⟨rfl,rfl⟩;refine zcX (some ⟨b30,0,none⟩) (znr x n 1) (zoj x hn.1) ?_;rw[show Nat.min 1 n=1 from Nat.min_eq_left hn.1];refine gA rR (qb (qf (qj ?_)));refine qE (α:=Nat) (fun k=>1≤k∧k≤n) (fun k=>U [(7,sl (some ⟨b30,0,none⟩) n n),(8,I k)]) (fun k=>owL 9 1 (some ⟨b30,0,none⟩) n (znr x n k)::roL 1 s [[Str x]]::F) (fun k=>n - k) 1 (by omega) [7,8] rfl rR ?_;rintro k ⟨hk1,hk2⟩;refine qf (gS (gM rR (gM rR (g_v (yo underlying31 rR) rR (g_v (qJ rR rR) rR (qb ?_))))));refine qg rR (fun h37=>?_) (fun h37=>?_)
      · simp at h37;refine qh (qj ?_);refine yw (Lf:=[]) [(0,false),(1,false),(2,false),(3,false),(4,false),(5,false),(6,false),(7,true),(8,false),(9,false)] (by kernel_rfl) (by kernel_rfl) rR (by kernel_rfl) ?_;refine dM rR rR rR (dM rR rR rR (dM rR rR rR (d_v rR (zb7 underlying31 sizeOf9 rR rR rR (by omega)) rR (dM rR rR rR (dM rR rR rR (d_v rR (zhU underlying31 sizeOf9 rR rR rR (by omega)) rR ?_))))));refine d_l rR (zg9 (s:=some ⟨b30,0,none⟩) (s2:=some ⟨b30,0,none⟩) (l:=k) (p:=0) underlying31 sizeOf9 (by decide) rR rR (.inr (.inl (if_neg (by omega)))) (.inl ⟨rfl,rfl⟩) (by rw[znS x (by omega)];omega) (by rw[znS x (by omega)];omega) (fun r hr=>(znM x r hr).1) (fun r hr=>(znM x r hr).2)) rR ?_;rintro _ _ ⟨rfl,rfl⟩;refine zcX (some ⟨b30,0,none⟩) (znr x n (k+Nat.min k (n - k))) (zpp x (by omega)) ?_;have hmn:Nat.min k (n - k)≤n - k:=Nat.min_le_right _ _;refine d_v rR (qu rR rR (w64 (by omega))) rR (d_v rR (qx rR) rR ?_);refine yc ?_;refine qF ?_;have hm:1≤Nat.min k (n - k)∧Nat.min k (n - k)≤n - k:=⟨Nat.le_min.2 ⟨by omega,by omega⟩,Nat.min_le_right _ _⟩;exact qm (k+Nat.min k (n - k)) ⟨by omega,by omega⟩ (by omega) [7,8] rfl rfl
      · simp at h37;obtain rfl:k=n:=(by omega);refine zcX (some ⟨b30,0,none⟩) (yN (List.replicate k x)) (by simp[znr,yN]) ?_;refine qz rR ?_;refine gS (gM rR (gA rR (qb ?_)));exact wx rfl rfl rfl rfl
theorem zk6 (l:List Bytes)(a:Addr)(cap:Nat)(hl:l.length≤1048576)(F:List HProp):Ct Tryz.prog 85 [sl (some a) l.length cap] ([owL 9 1 (some a) cap (yN l)]++F) (RSl 9 1 l.length (yN l) (owL 9 1 (some a) cap (yN l)::F)):=by
  show Ct Tryz.prog 85 [sl (some a) l.length cap] (owL 9 1 (some a) cap (yN l)::F) _;refine Ct.of func85 rR 8 ntmps85 (by simp) fun w0=>?_;refine gS (gA rR (qb (qf (gS (gM rR (g_v (zpP underlying31 rR) rR (qb ?_)))))));refine yR rR ?_;refine qh (gS ?_);refine g_l (zju underlying31 sizeOf9) rR ?_;rintro _ _ ⟨b5,rfl,rfl⟩;refine gM rR ?_;refine g_l (yC underlying31 sizeOf9 zeroValue9 rR Tryz.typeInfo9 (by decide) rR rR rR (zb6 l) (by simp[yN]) (by simp[yN,ones,one]) ⟨by omega,by decide,by decide⟩) rR ?_;rintro _ _ ⟨s7,c7,rfl,rfl⟩;rw[Nat.zero_add];simp only[List.nil_append];refine gA rR (qb ?_);exact wx rfl rfl rfl rfl
structure ChangeM where
  key:Bytes
  val:Bytes
  gone:Bool
  deriving DecidableEq
def yu (c:ChangeM):List Value:=[Str c.key,Str c.val,Bo c.gone]
def chR (l:List ChangeM):List (List Value):=l.map yu
theorem qO (l:List ChangeM):(chR l).length=l.length:=by simp[chR]
theorem zbg {l:List ChangeM}{k:Nat}{c:ChangeM}(h:l[k]? =some c):(chR l)[k]? =some (yu c):=by simp[chR,h]
def zjq (c:ChangeM):Bool:=decide (c.key.length≤20) && decide (c.val.length≤60)
def zde (l:List ChangeM)(most:Int):Bool:=decide ((l.length:Int)≤most) && l.all zjq
theorem zjL {α:Type}{p:α→Bool}{l:List α}{k:Nat}{a:α}(h:(l.take k).all p=true)(ha:l[k]? =some a)(hp:p a=true):(l.take (k+1)).all p=true:=by
  obtain ⟨h1,h2⟩:=List.getElem?_eq_some_iff.1 ha;rw[List.take_succ_eq_append_getElem h1,List.all_append,h,h2];simp[hp]
theorem zgA {α:Type}{p:α→Bool}{l:List α}{k:Nat}{a:α}(ha:l[k]? =some a)(hp:p a=false):l.all p=false:=by
  rw[List.all_eq_false];exact ⟨a,List.mem_of_getElem? ha,by simp[hp]⟩
theorem zfE (l:List ChangeM)(s:Option Addr)(cap:Nat)(most:Int)(hl:l.length≤9223372036854775807)(F:List HProp):Ct Tryz.prog 48 [sl s l.length cap,I most] ([roL 3 s (chR l)]++F) (R1 (Bo (zde l most)) (roL 3 s (chR l)::F)):=by
  show Ct Tryz.prog 48 [sl s l.length cap,I most] (roL 3 s (chR l)::F) _;refine Ct.of func48 rR 32 ntmps48 (by simp) fun w0=>?_;refine gS (gA rR (qb (qf (gS (gM rR (g_v (yo underlying34 rR) rR (gM rR (g_v (yA rR rR) rR (qb ?_)))))))));refine qg rR (fun h9=>?_) (fun h9=>?_)
  · simp at h9;refine gS (gA rR (qb ?_));refine qn rR rR ?_;show Bo false=_;rw[show zde l most=false by unfold zde;rw[decide_eq_false (by omega)];rfl]
  · simp at h9;refine qh (qf (gS (gA rR (qb (qj ?_)))));refine qE (α:=Nat) (fun k=>k≤l.length∧(l.take k).all zjq=true) (fun k=>U [(0,sl s l.length cap),(5,I k)]) (fun _=>roL 3 s (chR l)::F) (fun k=>l.length - k) 0 (by simp) [0,5] rfl rR ?_;rintro k ⟨hk,hall⟩;refine qf (gS (gM rR (gM rR (g_v (yo underlying34 rR) rR (g_v (qJ rR rR) rR (qb ?_))))));refine qg rR (fun h13=>?_) (fun h13=>?_)
    · simp at h13;have hkn:k<l.length:=(by omega);obtain ⟨c,hc⟩:∃c,l[k]? =some c:=⟨_,List.getElem?_eq_getElem hkn⟩;have hkr:k<(chR l).length:=(by rw[qO];exact hkn);refine qh (qf (qj (gS (gM rR (gM rR (g_v (qA k underlying34 sizeOf104 rR rR rR hkn hkr) rR (g_v (ye (j:=k) 0 underlying104 rR rR sizeOf9 (by decide) rR hkr) rR (g_v (wC (v:=Str c.key) isAgg9 rR (zbg hc) rR) rR (g_v (wi underlying9 rR) rR (g_v (yA rR rR) rR (gM rR (qK rR rR (fun hg=>qp rR) rR rR (qK rR rR (fun hg=>qp rR) rR rR (qK rR rR (fun hg=>qA k underlying34 sizeOf104 rR rR rR hkn hkr) rR rR (qK rR rR (fun hg=>ye (j:=k) 1 underlying104 rR rR sizeOf9 (by decide) rR hkr) rR rR (qK rR rR (fun hg=>wC (v:=Str c.val) isAgg9 rR (zbg hc) rR) rR rR (qK rR rR (fun hg=>wi underlying9 rR) rR rR (qK rR rR (fun hg=>yA rR rR) rR rR (g_v (zaH rR rR) rR (qb ?_))))))))))))))))))));refine qg rR (fun h31=>?_) (fun h31=>?_)
      · simp at h31;refine gS (gA rR (qb ?_));refine qn rR rR ?_;show Bo false=_;rw[show zde l most=false by unfold zde;rw[zgA hc (by simp[zjq];omega)];simp]
      · simp at h31;refine qh (qF (qo (gM rR (g_v (qu rR rR (w64 (by omega))) rR (gA rR (qb ?_))))));exact qm (k+1) ⟨by omega,zjL hall hc (by simp[zjq];omega)⟩ (by omega) [0,5] rfl rfl
    · simp at h13;obtain rfl:k=l.length:=(by omega);rw[List.take_length] at hall;refine qz rR ?_;refine gS (gA rR (qb ?_));refine qn rR rR ?_;show Bo true=_;rw[show zde l most=true by unfold zde;rw[hall,decide_eq_true (by omega)];rfl]
structure PutM where
  at_:Int
  data:Bytes
  deriving DecidableEq
def zfv (p:PutM):List Value:=[I p.at_,Str p.data]
def zbx (l:List PutM):List (List Value):=l.map zfv
theorem zbA (l:List PutM):(zbx l).length=l.length:=by simp[zbx]
theorem ziW {l:List PutM}{k:Nat}{c:PutM}(h:l[k]? =some c):(zbx l)[k]? =some (zfv c):=by simp[zbx,h]
structure ActM where
  kind:Bytes
  s:Bytes
  a:Int
  b:Int
  c:Int
  d:Int
  k:Int
  puts:List PutM
  changes:List ChangeM
abbrev ActZ:=(Option Addr×Nat)×(Option Addr×Nat)
def zcv (x:ActM)(z:ActZ):List Value:=[Str x.kind,Str x.s,I x.a,I x.b,I x.c,I x.d,Uw x.k,sl z.1.1 x.puts.length z.1.2,sl z.2.1 x.changes.length z.2.2]
def zoT (l:List ActM)(f:Nat→ActZ):List (List Value):=l.mapIdx fun i x=>zcv x (f i)
theorem zmO (l:List ActM)(f:Nat→ActZ):(zoT l f).length=l.length:=by simp[zoT]
theorem zcR {l:List ActM}{f:Nat→ActZ}{k:Nat}{x:ActM}(h:l[k]? =some x):(zoT l f)[k]? =some (zcv x (f k)):=by simp[zoT,h]
def acts (s:Option Addr)(l:List ActM)(f:Nat→ActZ):HProp:=fun m=>roL 9 s (zoT l f) m∧∀i x,l[i]? =some x→roL 2 (f i).1.1 (zbx x.puts) m∧roL 3 (f i).2.1 (chR x.changes) m
def ros (m:Res):Res:=fun b=>match m b with
  | some (o,true)=>some (o,true)
  | _=>none
theorem zw5 {m:Res}{b:Nat}{o:Obj}(h:m b=some (o,true)):ros m b=some (o,true):=by simp[ros,h]
theorem zjO {sz:Nat}{s:Option Addr}{rows:List (List Value)}{m:Res}(h:roL sz s rows m):roL sz s rows (ros m):=by
  rcases h with h | ⟨b,off,o,h1,h2,h3⟩
  · exact .inl h
  · exact .inr ⟨b,off,o,h1,zw5 h2,h3⟩
theorem zkl (s:Option Addr)(l:List ActM)(f:Nat→ActZ):Pers (acts s l f):=fun m h=>by
  refine ⟨ros m,fun b x hx=>?_,fun b x hx=>?_,zjO h.1,fun i x hx=>⟨zjO (h.2 i x hx).1,zjO (h.2 i x hx).2⟩⟩
  · unfold ros at hx;split at hx
    · rename_i o ho;rw[ho];exact hx
    · cases hx
  · unfold ros at hx;split at hx
    · injection hx with hx;subst hx;rfl
    · cases hx
section
variable {c:Cx}{E:Env}{L:List HProp}{K:List KI}{s:Option Addr}{l:List ActM}{f:Nat→ActZ}{w0 w:World}
instance (priority:=high) SlR.acts:SlR (acts s l f::L) s 9 (zoT l f):=⟨fun w0 w h=>SlR.ro.out w0 w (h.weak (B:=roL 9 s (zoT l f)) fun m hm=>hm.1)⟩
theorem zpk {F:List HProp}(s:Option Addr)(l:List ActM)(f:Nat→ActZ)(i:Nat){x:ActM}(hx:l[i]? =some x)[R:Rem L (acts s l f) F](h:G c K E (roL 2 (f i).1.1 (zbx x.puts)::acts s l f::F)):G c K E L:=fun a w hE hS=>
  h a w hE (((R.sat hS).dup (zkl s l f)).weak fun m hm=>(hm.2 i x hx).1)
theorem zkw {F:List HProp}(s:Option Addr)(l:List ActM)(f:Nat→ActZ)(i:Nat){x:ActM}(hx:l[i]? =some x)[R:Rem L (acts s l f) F](h:G c K E (roL 3 (f i).2.1 (chR x.changes)::acts s l f::F)):G c K E L:=fun a w hE hS=>
  h a w hE (((R.sat hS).dup (zkl s l f)).weak fun m hm=>(hm.2 i x hx).2)
end
open Go.Sl Go.Proofs Go.ChangeShapes Go.WideShapes Go.ChangeAt Go.RowKit
section
variable {H:Type}{enc:TypeId×Value→H}{W:World}{t e:TypeId}{cs:List Value}
def Tr (enc:TypeId×Value→H)(W:World)(t:TypeId)(cs:List Value):Prop:=∃fuel x,DataW.trod enc Tryz.prog W 0 (fun _=>true) true fuel t cs=some x
theorem zkR (ht:Tryz.prog.underlying t=some (.int .i64))(h:Tr enc W t cs):∃n,cs=[I n]∧zqi n:=by
  obtain ⟨fuel,x,h⟩:=h;obtain ⟨n,h1,_,h2⟩:=DataW.trod_int ht h;exact ⟨n,h1,zyz h2⟩
theorem zxI {n:Int}(h:(Lit.int .u64 n).wf=true):0≤n∧n<18446744073709551616:=by
  have:=h;simp[Lit.wf,IntKind.min,IntKind.max,IntKind.signed,IntKind.bits] at this;omega
theorem zxy (ht:Tryz.prog.underlying t=some (.int .u64))(h:Tr enc W t cs):∃n,cs=[Uw n]∧(0≤n∧n<18446744073709551616):=by
  obtain ⟨fuel,x,h⟩:=h;obtain ⟨n,h1,_,h2⟩:=DataW.trod_int ht h;exact ⟨n,h1,zxI h2⟩
theorem zkf (ht:Tryz.prog.underlying t=some .string)(h:Tr enc W t cs):∃s:Bytes,cs=[Str s]∧s.length≤maxLen:=by
  obtain ⟨fuel,x,h⟩:=h;obtain ⟨s,h1,_,h2⟩:=DataW.trod_string ht h;exact ⟨s.data.toList,by simpa using h1,by simpa using h2⟩
theorem zvX (ht:Tryz.prog.underlying t=some .bool)(h:Tr enc W t cs):∃b,cs=[Bo b]:=by
  obtain ⟨fuel,x,h⟩:=h;obtain ⟨n,h1,_⟩:=DataW.trod_bool ht h;exact ⟨n,h1⟩
theorem wW {fs:Array Field}{f:Field}{i off sz:Nat}(ht:Tryz.prog.underlying t=some (.struct fs))(hf:fs[i]? =some f)(h1:f.type=e)(h2:f.offset=off)(hC:Tryz.prog.cellsOf e=sz)(h:Tr enc W t cs):Tr enc W e ((cs.drop off).take sz):=by
  subst h1 h2 hC;obtain ⟨fuel,x,h⟩:=h;obtain ⟨xs,n,_,_,_,hl,hfs⟩:=DataW.trod_struct ht h;have h3:=hfs i f hf;have hi:i<fs.size:=(Array.getElem?_eq_some_iff.1 hf).1;exact ⟨n,xs[i]'(by omega),by rw[h3];simp⟩
theorem zjD {α:Type}[Inhabited α](sz:Nat)(en:α→List Value)(Q:α→Prop)(ht:Tryz.prog.underlying t=some (.slice e))(hC:Tryz.prog.cellsOf e=sz)(hsz:sz≠0)
    (hel:∀cs,cs.length=sz→Tr enc W e cs→∃x,cs=en x∧Q x) (h:Tr enc W t cs):
    ∃(s:Option Addr) (l:List α) (cap:Nat),cs=[sl s l.length cap]∧OldRows W s sz (l.map en)∧(∀x∈l,Q x)∧l.length≤maxLen:=by
  obtain ⟨fuel,x,h⟩:=h;rcases Deep.open_slice ht h with ⟨rfl,_⟩ | ⟨a',len,cap,m,n,D,Pl,rfl,hb,hl,hm,hmm,hx,hi⟩
  · exact ⟨none,[],0,rfl, .inl rfl,by simp,by simp⟩
  · have key:∀i,i<len→∃x:α,(∀f v,(en x)[f]? =some v→W.cell? ((a'.add (i*sz)).add f)=some v)∧(en x).length=sz∧Q x:=fun i hil=>by
      obtain ⟨cs',hc,ht'⟩:=hi i (by simp at hmm;omega);rw[hC] at hc;obtain ⟨_,hcl,hat⟩:=World.cells?_some hc;obtain ⟨y,rfl,hq⟩:=hel cs' hcl ⟨n,_,ht'⟩;refine ⟨y,fun f v hf=>?_,hcl,hq⟩;have hfl:=(List.getElem?_eq_some_iff.1 hf).1;have:=hat f (by omega);rw[this,hf]
    obtain ⟨f,hf⟩:=Deep.choose_lt key;refine ⟨some a',(List.range len).map f,cap,by simp[sl],zoq (len:=len) (by simp) (fun i row hrow g v hg=>?_) (fun row hrow=>?_),fun x hx=>?_,by simp;omega⟩
    · simp only[List.map_map,List.getElem?_map,Option.map_eq_some_iff] at hrow;obtain ⟨j,hj,rfl⟩:=hrow;obtain ⟨hj1,hj2⟩:=List.getElem?_eq_some_iff.1 hj;simp at hj1 hj2;subst hj2;exact (hf i hj1).1 g v hg
    · simp at hrow;obtain ⟨i,hi',rfl⟩:=hrow;intro h0;have:=(hf i hi').2.1;rw[h0] at this;exact hsz this.symm
    · simp at hx;obtain ⟨i,hi',rfl⟩:=hx;exact (hf i hi').2.2
theorem tr_of {v:Value}{d:DataW H}{p:List MemPlace}(h:DataW.Trod enc Tryz.prog W 0 (fun _=>true) true t v d p):Tr enc W t v.cells.toList:=let ⟨f,hf⟩:=h;⟨f,_,hf⟩
end
theorem zog:∃(fs:Array Field) (f0 f1:Field),Tryz.prog.underlying 44=some (.struct fs)∧(fs[0]? =some f0∧f0.type=3∧f0.offset=0)∧(fs[1]? =some f1∧f1.type=9∧f1.offset=1):=
  ⟨_,_,_,underlying44,⟨rfl,rfl,rfl⟩,⟨rfl,rfl,rfl⟩⟩
theorem ziU:∃(fs:Array Field) (f0 f1 f2:Field),Tryz.prog.underlying 104=some (.struct fs)∧(fs[0]? =some f0∧f0.type=9∧f0.offset=0)∧(fs[1]? =some f1∧f1.type=9∧f1.offset=1)∧(fs[2]? =some f2∧f2.type=4∧f2.offset=2):=
  ⟨_,_,_,_,underlying104,⟨rfl,rfl,rfl⟩,⟨rfl,rfl,rfl⟩,⟨rfl,rfl,rfl⟩⟩
theorem zoz:∃(fs:Array Field) (f0 f1 f2 f3 f4 f5 f6 f7 f8:Field),Tryz.prog.underlying 58=some (.struct fs)∧(fs[0]? =some f0∧f0.type=9∧f0.offset=0)∧(fs[1]? =some f1∧f1.type=9∧f1.offset=1)∧(fs[2]? =some f2∧f2.type=3∧f2.offset=2)∧(fs[3]? =some f3∧f3.type=3∧f3.offset=3)∧(fs[4]? =some f4∧f4.type=3∧f4.offset=4)∧(fs[5]? =some f5∧f5.type=3∧f5.offset=5)∧(fs[6]? =some f6∧f6.type=56∧f6.offset=6)∧(fs[7]? =some f7∧f7.type=23∧f7.offset=7)∧(fs[8]? =some f8∧f8.type=34∧f8.offset=8):=
  ⟨_,_,_,_,_,_,_,_,_,_,underlying58,⟨rfl,rfl,rfl⟩,⟨rfl,rfl,rfl⟩,⟨rfl,rfl,rfl⟩,⟨rfl,rfl,rfl⟩,⟨rfl,rfl,rfl⟩,⟨rfl,rfl,rfl⟩,⟨rfl,rfl,rfl⟩,⟨rfl,rfl,rfl⟩,⟨rfl,rfl,rfl⟩⟩
theorem zrf:Tryz.prog.cellsOf 3=1:=by kernel_rfl
theorem zqu:Tryz.prog.cellsOf 9=1:=by kernel_rfl
theorem zxu:Tryz.prog.cellsOf 4=1:=by kernel_rfl
theorem c_u64:Tryz.prog.cellsOf 56=1:=by kernel_rfl
theorem zyi:Tryz.prog.cellsOf 23=1:=by kernel_rfl
theorem c_chs:Tryz.prog.cellsOf 34=1:=by kernel_rfl
theorem c_put:Tryz.prog.cellsOf 44=2:=by kernel_rfl
theorem c_ch:Tryz.prog.cellsOf 104=3:=by kernel_rfl
theorem c_act:Tryz.prog.cellsOf 58=9:=by kernel_rfl
instance:Inhabited PutM:=⟨⟨0,[]⟩⟩
instance:Inhabited ChangeM:=⟨⟨[],[],false⟩⟩
instance:Inhabited ActM:=⟨⟨[],[],0,0,0,0,0,[],[]⟩⟩
def zs7 (p:PutM):Prop:=zqi p.at_∧p.data.length≤maxLen
def chOk (c:ChangeM):Prop:=c.key.length≤maxLen∧c.val.length≤maxLen
def znD (x:ActM):Prop:=(x.kind.length≤maxLen∧x.s.length≤maxLen)∧zqi x.a∧zqi x.b∧zqi x.c∧zqi x.d∧(0≤x.k∧x.k<18446744073709551616)∧(x.puts.length≤maxLen∧∀p∈x.puts,zs7 p)∧(x.changes.length≤maxLen∧∀p∈x.changes,chOk p)
section
variable {H:Type}{enc:TypeId×Value→H}{W:World}{cs:List Value}
theorem zxE (hl:cs.length=2)(h:Tr enc W 44 cs):∃x:PutM,cs=zfv x∧zs7 x:=by
  match cs,hl with
  | [a,b],_=>
    obtain ⟨fs,f0,f1,hu,⟨g0,t0,o0⟩,⟨g1,t1,o1⟩⟩:=zog;have h0:Tr enc W 3 [a]:=wW hu g0 t0 o0 zrf h;have h1:Tr enc W 9 [b]:=wW hu g1 t1 o1 zqu h;obtain ⟨n,e0,w0⟩:=zkR underlying3 h0;obtain ⟨s,e1,w1⟩:=zkf underlying9 h1;injection e0 with e0;injection e1 with e1;subst e0 e1;exact ⟨⟨n,s⟩,rfl,w0,w1⟩
theorem zrp (hl:cs.length=3)(h:Tr enc W 104 cs):∃x:ChangeM,cs=yu x∧chOk x:=by
  match cs,hl with
  | [a,b,c],_=>
    obtain ⟨fs,f0,f1,f2,hu,⟨g0,t0,o0⟩,⟨g1,t1,o1⟩,⟨g2,t2,o2⟩⟩:=ziU;have h0:Tr enc W 9 [a]:=wW hu g0 t0 o0 zqu h;have h1:Tr enc W 9 [b]:=wW hu g1 t1 o1 zqu h;have h2:Tr enc W 4 [c]:=wW hu g2 t2 o2 zxu h;obtain ⟨n,e0,w0⟩:=zkf underlying9 h0;obtain ⟨s,e1,w1⟩:=zkf underlying9 h1;obtain ⟨q,e2⟩:=zvX underlying4 h2;injection e0 with e0;injection e1 with e1;injection e2 with e2;subst e0 e1 e2;exact ⟨⟨n,s,q⟩,rfl,w0,w1⟩
theorem zwz (h:Tr enc W 23 cs):∃(s:Option Addr) (l:List PutM) (cap:Nat),cs=[sl s l.length cap]∧OldRows W s 2 (zbx l)∧(∀x∈l,zs7 x)∧l.length≤maxLen:=
  zjD 2 zfv zs7 underlying23 c_put (by decide) (fun _ hl h=>zxE hl h) h
theorem zoL (h:Tr enc W 34 cs):∃(s:Option Addr) (l:List ChangeM) (cap:Nat),cs=[sl s l.length cap]∧OldRows W s 3 (chR l)∧(∀x∈l,chOk x)∧l.length≤maxLen:=
  zjD 3 yu chOk underlying34 c_ch (by decide) (fun _ hl h=>zrp hl h) h
theorem zyk (hl:cs.length=9)(h:Tr enc W 58 cs):∃x:ActM×ActZ,cs=zcv x.1 x.2∧znD x.1∧OldRows W x.2.1.1 2 (zbx x.1.puts)∧OldRows W x.2.2.1 3 (chR x.1.changes):=by
  match cs,hl with
  | [v0,v1,v2,v3,v4,v5,v6,v7,v8],_=>
    obtain ⟨fs,f0,f1,f2,f3,f4,f5,f6,f7,f8,hu,⟨g0,t0,o0⟩,⟨g1,t1,o1⟩,⟨g2,t2,o2⟩,⟨g3,t3,o3⟩,⟨g4,t4,o4⟩,⟨g5,t5,o5⟩,⟨g6,t6,o6⟩,⟨g7,t7,o7⟩,⟨g8,t8,o8⟩⟩:=zoz;have h0:Tr enc W 9 [v0]:=wW hu g0 t0 o0 zqu h;have h1:Tr enc W 9 [v1]:=wW hu g1 t1 o1 zqu h;have h2:Tr enc W 3 [v2]:=wW hu g2 t2 o2 zrf h;have h3:Tr enc W 3 [v3]:=wW hu g3 t3 o3 zrf h;have h4:Tr enc W 3 [v4]:=wW hu g4 t4 o4 zrf h;have h5:Tr enc W 3 [v5]:=wW hu g5 t5 o5 zrf h;have h6:Tr enc W 56 [v6]:=wW hu g6 t6 o6 c_u64 h;have h7:Tr enc W 23 [v7]:=wW hu g7 t7 o7 zyi h;have h8:Tr enc W 34 [v8]:=wW hu g8 t8 o8 c_chs h;obtain ⟨x0,e0,w0⟩:=zkf underlying9 h0;obtain ⟨x1,e1,w1⟩:=zkf underlying9 h1;obtain ⟨x2,e2,w2⟩:=zkR underlying3 h2;obtain ⟨x3,e3,w3⟩:=zkR underlying3 h3;obtain ⟨x4,e4,w4⟩:=zkR underlying3 h4;obtain ⟨x5,e5,w5⟩:=zkR underlying3 h5;obtain ⟨x6,e6,w6⟩:=zxy underlying56 h6;obtain ⟨s7,x7,c7,e7,r7,w7,l7⟩:=zwz h7;obtain ⟨s8,x8,c8,e8,r8,w8,l8⟩:=zoL h8;injection e0 with e0;injection e1 with e1;injection e2 with e2;injection e3 with e3;injection e4 with e4;injection e5 with e5;injection e6 with e6;injection e7 with e7;injection e8 with e8;subst e0 e1 e2 e3 e4 e5 e6 e7 e8;exact ⟨(⟨x0,x1,x2,x3,x4,x5,x6,x7,x8⟩,(s7,c7),(s8,c8)),rfl,⟨⟨w0,w1⟩,w2,w3,w4,w5,w6,⟨l7,w7⟩,⟨l8,w8⟩⟩,r7,r8⟩
def OldActs (W:World)(s:Option Addr)(l:List ActM)(f:Nat→ActZ):Prop:=OldRows W s 9 (zoT l f)∧∀i x,l[i]? =some x→OldRows W (f i).1.1 2 (zbx x.puts)∧OldRows W (f i).2.1 3 (chR x.changes)
theorem zwG (h:Tr enc W 22 cs):∃(s:Option Addr) (l:List ActM) (f:Nat→ActZ) (cap:Nat),cs=[sl s l.length cap]∧OldActs W s l f∧(∀x∈l,znD x)∧l.length≤maxLen:=by
  obtain ⟨s,l,cap,e,hr,hq,hn⟩:=zjD (α:=ActM×ActZ) 9 (fun x=>zcv x.1 x.2) _ underlying22 c_act (by decide) (fun _ hl h=>zyk hl h) h;refine ⟨s,l.map Prod.fst,fun i=>(l.getD i default).2,cap,by simpa using e,⟨?_,fun i x hx=>?_⟩,fun x hx=>?_,by simpa using hn⟩
  · have:zoT (l.map Prod.fst) (fun i=>(l.getD i default).2)=l.map fun x=>zcv x.1 x.2:=by
      apply List.ext_getElem?;intro i;simp only[zoT,List.getElem?_mapIdx,List.getElem?_map,List.getD_eq_getElem?_getD];cases l[i]? <;> rfl
    rw[this];exact hr
  · simp only[List.getElem?_map,Option.map_eq_some_iff] at hx;obtain ⟨y,hy,rfl⟩:=hx;have h2:=(hq y (List.mem_of_getElem? hy)).2;simp only[List.getD_eq_getElem?_getD,hy,Option.getD_some];exact h2
  · simp only[List.mem_map] at hx;obtain ⟨y,hy,rfl⟩:=hx;exact (hq y hy).1
theorem OldRows.roL {W:World}{a:Option Addr}{sz:Nat}{rows:List (List Value)}{m:Res}(h:OldRows W a sz rows)(hm:old W m):Go.Sl.roL sz a rows m:=by
  rcases h with rfl | ⟨b,off,o,rfl,hb,hr⟩
  · exact .inl rfl
  · exact .inr ⟨b,off,o,rfl,hm b o hb,hr⟩
theorem OldActs.sat {w0 w:World}{L:List HProp}{s:Option Addr}{l:List ActM}{f:Nat→ActZ}(h:OldActs w0 s l f)(hS:Sat w0 w (old w0::L)):Sat w0 w (acts s l f::old w0::L):=
  (hS.dup (Pers.old w0)).weak fun m hm=>⟨h.1.roL hm,fun i x hx=>⟨(h.2 i x hx).1.roL hm,(h.2 i x hx).2.roL hm⟩⟩
theorem zrF {v:Value}{d:DataW H}{p:List MemPlace}(hv:∃a len cap,v= .slice a len cap)(h:DataW.Trod enc Tryz.prog W 0 (fun _=>true) true 22 v d p):
    ∃(s:Option Addr) (l:List ActM) (f:Nat→ActZ) (cap:Nat),v=sl s l.length cap∧OldActs W s l f∧(∀x∈l,znD x)∧l.length≤maxLen:=by
  obtain ⟨a,len,cap,rfl⟩:=hv;obtain ⟨s,l,f,cap',e,h1,h2,h3⟩:=zwG (tr_of h);simp[Value.cells] at e;exact ⟨s,l,f,cap',by simp[sl,e],h1,h2,h3⟩
end
end Go.Proofs.YthdjckbjjfiopadGreatDoor
namespace Go.Sl
section
variable {c:Cx}{g:Option (Nat×Bool)}{E:Env}{L L':List HProp}{d:Option Tmp}{ty:TypeId}{pos:String}{af:Array Edge}{gu:Option (Nat×Bool)}
variable {x y z y3:Operand}{t u e:TypeId}{k:IntKind}{v:Value}{s:Option Addr}{b o i j n sz cap off:Nat}
theorem SlR.part {F:List HProp}{s2 ya:Option Addr}{p m:Nat}{rows2:List (List Value)}(Y:SlR F s2 sz rows2)(hya:At ya s2 p sz m)(hpm:p+m≤rows2.length):SlR F ya sz ((rows2.drop p).take m):=⟨fun w0 w h=>by
  by_cases hm0:m=0
  · left;subst hm0;rfl
  · rcases Y.out w0 w h with h | ⟨b,off,o,rfl,hh,hR⟩
    · subst h;simp at hpm;omega
    · exact .inr ⟨b,off+p*sz,o,hya.addr (by omega),hh,hR.part⟩⟩
theorem zlM {K:List KI}{T:Nat}{rows:List (List Value)}{F:List HProp}(s:Option Addr)[R:OwR L s T sz cap rows F](h:rows.length≤cap→G c K E L):G c K E L:=fun a w hE hS=>h (by
  rcases yP (R.sat hS) with ⟨_,h1,h2,_⟩ | ⟨b,cs,h1,h2,h3,_⟩
  · rw[h1];simp
  · exact h3) a w hE hS
end
end Go.Sl
namespace Go.Sl
section
variable {c:Cx}{E:Env}{L:List HProp}{K:List KI}{t:TypeId}{b o sz:Nat}
theorem zl5 {a:Act}{w:World}{r q:Nat}{ob:Obj}{vs:List Value}{v2:Value}{Post:List HProp}(hf:c.fn.results.toList=[.cell r t, .tmp q])(hx:look none E r=some (ptr b o))(hq:look none E q=some v2)(ha:∀w,(isAgg t).run c.P w= .ok true w)(hz:∀w,(sizeOf t).run c.P w= .ok sz w)[h:Has L b ob](hl:vs.length=sz)
    (hv:∀k v,vs[k]? =some v→yl ob (o+k)=some v) (hE:EOk c.n E a) (hS:Sat c.w0 w L) [S:Sub L Post] (hR:c.R (.tuple #[.agg vs.toArray,v2]) Post) (hds:c.n.ds=[]:=by rfl):(a.defers=[]∧∃v,(results c.fn a.tmps).run c.P w= .ok v w∧∃L,Sat c.w0 w L∧c.R v L)∨∃D w',a.defers=[markD D]∧(Instr.takeDeferred D).run c.P w= .ok [] w'∧∃v,(results c.fn a.tmps).run c.P w'= .ok v w'∧∃L,Sat c.w0 w' L∧c.R v L:=by
  have hh:=h.out _ _ hS;have hload:=wI (P:=c.P) (w:=w) b sz 0 o #[] vs hl (fun k v hk=>by simpa using za1 hh (hv k v hk));have h1:=hE.look (yD a) hx;have h2:=hE.look (yD a) hq;refine .inl ⟨hE.defers.trans hds, .tuple #[.agg vs.toArray,v2],?_,Post,S.sat hS,hR⟩;rw[zdZ,Array.mapM_eq_mapM_toList,hf];simp[zix,Array.getD_eq_getD_getElem?,h1,h2,asAddr,loadVar,ha,hz,loadCells,hload]
theorem zfy {r q:Nat}{ob:Obj}{v2:Value}{Post:List HProp}(vs:List Value)(hR:c.R=R1 (.tuple #[.agg vs.toArray,v2]) Post)(hf:c.fn.results.toList=[.cell r t, .tmp q])(hx:look none E r=some (ptr b o))(hq:look none E q=some v2)(ha:∀w,(isAgg t).run c.P w= .ok true w)(hz:∀w,(sizeOf t).run c.P w= .ok sz w)[h:Has L b ob](hl:vs.length=sz)
    (hv:∀k v,vs[k]? =some v→yl ob (o+k)=some v) [S:Sub L Post] (hds:c.n.ds=[]:=by rfl):G c (.code .ret::K) E L:=
  fun a w hE hS=>wp_ret (yb (zl5 (hds:=hds) (h:=h) (S:=S) hf hx hq ha hz hl hv hE hS (by rw[hR];exact ⟨rfl,rfl⟩)))
theorem qR {T:TypeId}{f:Nat×Nat}{vs:List Value}:∀k v,vs[k]? =some v→yl (.cells vs.toArray T f) (0+k)=some v:=fun k v h=>by simpa [yl] using h
end
end Go.Sl
namespace Go.Sl
section
variable {c:Cx}{g:Option (Nat×Bool)}{E:Env}{L L':List HProp}{d:Option Tmp}{ty:TypeId}{pos:String}{af:Array Edge}{gu:Option (Nat×Bool)}{K:List KI}
variable {x y z:Operand}{t u e:TypeId}{k:IntKind}{v v1 v2:Value}{s:Option Addr}{b o i j n sz cap off:Nat}
theorem zpo {f:FuncId}{xs:List Operand}{vs:List Value}{ats:Array TypeId}(hcall:∀w,(callFunc f vs.toArray).run c.P w= .ok (.value v) w)(hx:evs g E xs=some vs):
    OpL c g E L ⟨d, .call {callee:= .value (.func f),args:=xs.toArray,argTypes:=ats},ty,pos,af,gu⟩ fun v' L'=>v'=v∧L'=L:=
  .of_run fun a w hE hg hS=>by
    have hc:=hcall w;rw[←hE.evs hg hx] at hc;exact ⟨v,w,L,by simp[execOp,resolve,Act.eval,Deferred.ofValue,invoke,hc],hS,rfl,rfl⟩
theorem zwH {s2 xa ya:Option Addr}{l p q m cx cy:Nat}{T:Nat}{rows rows2:List (List Value)}{F:List HProp}(hu:c.P.underlying t=some (.slice T))(hz:∀w,(sizeOf T).run c.P w= .ok sz w)(h0:0<sz)
    (hx:ev g E x=some (sl xa q cx)) (hy:ev g E y=some (sl ya m cy)) [R:OwR L s T sz cap rows F] [Y:SlR L s2 sz rows2] (hxa:At xa s l sz q) (hya:At ya s2 p sz m) (hk:l+Nat.min m q≤rows.length) (hm:p+Nat.min m q≤rows2.length)
    (hnl:∀r∈(rows2.drop p).take (Nat.min m q),r.length=sz) (h1:∀r∈(rows2.drop p).take (Nat.min m q),ones r=true):
    OpL c g E L ⟨d, .call {callee:= .builtin .copy,args:=#[x,y],argTypes:=#[t,u]},ty,pos,af,gu⟩ fun v L'=>v=I (Nat.min m q)∧L'=owL T sz s cap (rows.take l++((rows2.drop p).take (Nat.min m q))++rows.drop (l+Nat.min m q))::F:=
  .of_run fun a w hE hg hS=>by
    have hS1:=R.sat hS;have hY:=Y.out _ _ hS;have e1:=hE.ev hg hx;have e2:=hE.ev hg hy;generalize hr:Nat.min m q=r at*;have hr1:r≤m:=(by rw[←hr];exact Nat.min_le_left _ _);have hr2:r≤q:=(by rw[←hr];exact Nat.min_le_right _ _);have hnews:∀x∈(rows2.drop p).take r,x.length=sz:=hnl;have hlen:((rows2.drop p).take r).length=r:=(by simp;omega);have hones:ones ((rows2.drop p).take r).flatten=true:=zdb fun v hv=>by
      obtain ⟨x,hx,hv⟩:=List.mem_flatten.1 hv;exact zdM (h1 x hx) v hv
    have hfirst:(Builtin.firstCells sz r (sl ya m cy)).run c.P w= .ok ((rows2.drop p).take r).flatten.toArray w:=by
      refine zdG h0 hnews hlen ?_;by_cases hr0:r=0
      · left;rw[hr0];rfl
      · right;rcases hY with h | ⟨b,off,o,rfl,hh,hR⟩
        · subst h;simp at hm;omega
        · exact ⟨b,off+p*sz,o,hya.addr (by omega),hh,hR.part⟩
    have hlo:(Builtin.lenOf (Value.slice ya m cy)).run c.P w= .ok m w:=zdN;have hfi:(Builtin.firstCells sz r (Value.slice ya m cy)).run c.P w= .ok ((rows2.drop p).take r).flatten.toArray w:=hfirst;by_cases hr0:r=0
    · subst hr0;refine ⟨I ((0:Nat):Int),w,owL T sz s cap rows::F,?_,hS1,rfl,by simp⟩;refine (zeW (r:= .ok (I ((0:Nat):Int)) w) e1 e2 ?_).trans rfl;cases xa <;> simp[Builtin.copy_,underlying,program,Sem.run,hu,hz,sl,goInt,storeCells,hlo,hr,hfi]
    · rcases yP hS1 with ⟨rfl,rfl,rfl,hF⟩ | ⟨b,cs,rfl,a1,a2,a3,a4,hP⟩
      · simp at hk;omega
      · obtain ⟨hle,hrows⟩:=zhC (T:=T) (l:=l) (news:=(rows2.drop p).take r) h0 a1 a2 (by rw[hlen];omega) a3 hnews a4;have hst:=yJ (P:=c.P) b (l*sz) T ((rows2.drop p).take r).flatten w cs 0 hP.at_ (by omega) hones;have hxa':=hxa.addr (by omega);subst hxa';refine ⟨I (r:Int),zfj w b (.cells (yW cs (l*sz) ((rows2.drop p).take r).flatten) T (0,0)),_,(zeW (r:= .ok (I (r:Int)) _) e1 e2 ?_).trans rfl,?_,rfl,rfl⟩
        · simp[Builtin.copy_,underlying,program,Sem.run,hu,hz,sl,goInt,hlo,hr,hfi,hst]
        · rw[hlen] at hrows;refine wY (hP.set (o':= .cells (yW cs (l*sz) ((rows2.drop p).take r).flatten) T (0,0)) rR) (by rw[wH,a1]) (by simp;omega) ?_ hrows;intro x hx;rcases List.mem_append.1 hx with hx | hx
          · rcases List.mem_append.1 hx with hx | hx
            · exact a3 x (List.mem_of_mem_take hx)
            · exact hnews x hx
          · exact a3 x (List.mem_of_mem_drop hx)
theorem zv4 (zr:Array Value)(n:Nat)(h0:0<zr.size):Builtin.zeroCells zr n=(List.replicate n zr.toList).flatten.toArray:=by
  have hl:∀r∈List.replicate n zr.toList,r.length=zr.size:=fun r hr=>(by obtain ⟨_,rfl⟩:=List.mem_replicate.1 hr;simp);apply Array.ext_getElem?;intro k;rw[show (List.replicate n zr.toList).flatten.toArray[k]? =(List.replicate n zr.toList).flatten[k]? by simp,zco h0 _ hl];unfold Builtin.zeroCells;rw[Array.getElem?_map];have hm:=Nat.mod_lt k h0;by_cases hk:k<n*zr.size
  · have hd:k / zr.size<n:=(by rw[Nat.div_lt_iff_lt_mul h0];exact hk);rw[Array.getElem?_range,if_pos hk,List.getElem?_replicate,if_pos hd];simp only[Option.map_some,Option.bind_some];rw[getElem!_pos zr _ hm];simp[hm]
  · have hd:¬k / zr.size<n:=(by rw[Nat.div_lt_iff_lt_mul h0];exact hk);rw[Array.getElem?_range,if_neg hk,List.getElem?_replicate,if_neg hd]
    rfl
theorem zf4 {m:Nat}{m':Int}{zv:Value}{info:TypeInfo}{T:Nat}{rows:List (List Value)}(hu:c.P.underlying t=some (.slice T))(hu2:c.P.underlying u=some (.int .i64))(hz:∀w,(sizeOf T).run c.P w= .ok sz w)(hzv:∀w,(zeroValue T).run c.P w= .ok zv w)(hzs:zv.cells.size=sz)(hti:∀w,(typeInfo T).run c.P w= .ok info w)(h0:0<sz)
    (hx:ev g E x=some (sl s i cap)) (hy:ev g E y=some (I m')) (hm:m'=(m:Int)) [Y:SlR L s sz rows] (hi:i≤rows.length) (hnl:∀r∈rows,r.length=sz) (hgr:cap<i+m) (hm1:0<m)
    (hb:i+m≤1048576∧0<info.bytes∧info.bytes≤4096):
    OpL c g E L ⟨d, .call {callee:= .builtin .append,args:=#[x,y],argTypes:=#[t,u]},ty,pos,af,gu⟩ fun v L'=>∃b' cap',v=sl (some ⟨b',0,none⟩) (i+m) cap'∧L'=owL T sz (some ⟨b',0,none⟩) cap' (rows.take i++List.replicate m zv.cells.toList)::L:=
  .of_run fun a w hE hg hS=>by
    subst hm hzs;have e1:=hE.ev hg hx;have e2:=hE.ev hg hy;have hw:IntKind.i64.wrap (m:Int)=m:=w64 (by omega);have hnl2:∀r∈rows.take i,r.length=zv.cells.size:=fun r hr=>hnl r (List.mem_of_mem_take hr);have hzl:∀r∈List.replicate m zv.cells.toList,r.length=zv.cells.size:=fun r hr=>(by obtain ⟨_,rfl⟩:=List.mem_replicate.1 hr;simp);have htk:(rows.take i).length=i:=(by simp;omega);have hfo:∀w':World,w'.heap=w.heap→(Builtin.firstCells zv.cells.size i (sl s i cap)).run c.P w'= .ok (rows.take i).flatten.toArray w':=fun w' hw'=>by
      refine zdA h0 hnl2 htk ?_;rcases Y.out _ _ hS with h | ⟨b,off,o,h1,h2,h3⟩
      · left;rw[h];simp
      · exact .inr ⟨b,off,o,h1,by rw[hw'];exact h2,h3.take i⟩
    have hfo':(Builtin.firstCells zv.cells.size i (.slice s i cap)).run c.P w.drew= .ok (rows.take i).flatten.toArray w.drew:=hfo w.drew rfl;have c1:¬i+m≤cap:=(by omega);have c3:¬(Builtin.nextslicecap (i+m) cap*info.bytes > 2 ^ 48):=by
      have h1:=zfK (i+m) cap hgr;have h2:Builtin.nextslicecap (i+m) cap*info.bytes≤(2*1048576+192)*4096:=Nat.mul_le_mul (by omega) hb.2.2;omega
    have h48:¬((m:Int)*(info.bytes:Int) > 2 ^ 48):=by
      have h1:m*info.bytes≤1048576*4096:=Nat.mul_le_mul (by omega) hb.2.2;have h2:((m*info.bytes:Nat):Int)=(m:Int)*info.bytes:=(by simp);rw[←h2];omega
    have hmx:¬((i+m:Nat):Int) > IntKind.i64.max:=(by simp[IntKind.max,IntKind.signed,IntKind.bits];omega);have hask:=fun (w:World) (k:Nat)=>zcN (P:=c.P) (w:=w) k;have hm0:0<m∨m=0:=(by omega);obtain ⟨newCap,hc,hrun⟩:∃newCap,i+m≤newCap∧(Builtin.append_ #[t,u] ty #[.slice s i cap,I (m:Int)]).run c.P w= .ok (.slice (some ⟨w.heap.size,0,none⟩) (i+m) newCap) (w.drew.alloc (.cells ((rows.take i).flatten.toArray++Builtin.zeroCells zv.cells m++Builtin.zeroCells zv.cells (newCap - (i+m))) T (0,0))):=by
      refine ⟨(Question.appendCap (i+m) cap T).cut (w.tape w.drawn (.appendCap (i+m) cap T)),by simp[Question.cut],?_⟩;have e0:info.bytes≠0:=(by omega);have hmn:¬((m:Int)<0):=(by omega);have hz0:¬(m*zv.cells.size=0)∨m=0:=by
        rcases hm0 with h | h
        · left;have:=Nat.mul_pos h h0;omega
        · exact .inr h
      unfold Builtin.append_;rcases hz0 with hz0 | hz0
      · simp[underlying,program,Sem.run,hu,hu2,hz,c1,hti,choose,Question.forced,asInt,asIntOf,hw,h48,hmn];rw[if_neg (by omega),if_neg (by omega),if_neg (by simpa using c3)];simp[hask,hfo',hzv,newRow,newObj,Sem.run,Question.cut,hz0]
      · subst hz0;exact absurd hm1 (by omega)
    refine ⟨_,_,_,(zcP (d:=d) (ty:=ty) (pos:=pos) (af:=af) (gu:=gu) (t:=t) (u:=u) (r:= .ok _ _) (P:=c.P) (w:=w) e1 e2 hrun).trans rfl,?_,w.heap.size,newCap,rfl,rfl⟩;have hS2:Sat c.w0 (w.drew.alloc (.cells ((rows.take i).flatten.toArray++Builtin.zeroCells zv.cells m++Builtin.zeroCells zv.cells (newCap - (i+m))) T (0,0))) _:=(hS.drew (w.drawn+1)).alloc _;rw[zv4 _ m h0] at hS2 ⊢;refine wY hS2 ?_ (by rw[List.length_append,htk,List.length_replicate];exact hc) ?_ (zdv h0 hnl2 hzl)
    · simp only[Array.size_append,List.size_toArray,wc _ hnl2,wc _ hzl,zbb,htk,List.length_replicate];rw[←Nat.add_mul,←Nat.add_mul];congr 1;omega
    · intro r hr;rcases List.mem_append.1 hr with h | h
      · exact hnl2 r h
      · exact hzl r h
theorem zs1 {T:Nat}{rows:List (List Value)}{F:List HProp}(s:Option Addr)[R:OwR L s T sz cap rows F](hlt:rows.length<cap)(h:∀r:List Value,r.length=sz→G c K E (owL T sz s cap (rows++ [r])::F)):G c K E L:=fun a w hE hS=>by
  have hS1:=R.sat hS;rcases yP hS1 with ⟨rfl,rfl,rfl,hF⟩ | ⟨b,cs,rfl,a1,a2,a3,a4,hP⟩
  · omega
  · have hsz:rows.length*sz+sz≤cs.size:=by
      rw[a1];have:(rows.length+1)*sz≤cap*sz:=Nat.mul_le_mul_right _ hlt;rw[Nat.add_mul,Nat.one_mul] at this;exact this
    refine h ((cs.toList.drop (rows.length*sz)).take sz) (by simp;omega) a w hE (wY hP a1 (by simp;omega) (fun r hr=>?_) (Rows.app a4 fun q row hq f v hf=>?_))
    · rcases List.mem_append.1 hr with hr | hr
      · exact a3 r hr
      · simp at hr;subst hr;simp;omega
    · match q,hq with
      | 0,hq=>
        injection hq with hq;subst hq;have hfs:f<sz:=(by have:=(List.getElem?_eq_some_iff.1 hf).1;simp at this;omega);rw[List.getElem?_take_of_lt hfs,List.getElem?_drop] at hf;simp only[yl,Nat.zero_add,Nat.zero_mul];rw[←Array.getElem?_toList];exact hf
      | q+1,hq=>simp at hq
end
end Go.Sl
namespace Go.Sl
section
variable {c:Cx}{g:Option (Nat×Bool)}{E:Env}{L L':List HProp}{d:Option Tmp}{ty:TypeId}{pos:String}{af:Array Edge}{gu:Option (Nat×Bool)}{K:List KI}
variable {x y z:Operand}{t u e:TypeId}{k:IntKind}{v v1 v2:Value}{s:Option Addr}{b o i j n sz cap off:Nat}
theorem Sat.ne {w0 w:World}{b b':Nat}{o o':Obj}(h:Sat w0 w (pt b o::pt b' o'::L)):b≠b':=by
  obtain ⟨_,_,_,_,f,hf,hd⟩:=h;have h0:f 0 b=some (o,false):=(hf 0 _ rfl).1;have h1:f 1 b'=some (o',false):=(hf 1 _ rfl).1;intro e;subst e;have:=(hd 0 1 (by simp) (by simp) (by decide) b _ _ h0 h1).1;cases this
theorem zxH {T:Nat}{rows:List (List Value)}{F:List HProp}(s:Option Addr)[R:OwR L s T sz cap rows F](h0:0<rows.length)(h:∀b,s=some ⟨b,0,none⟩→G c K E L):G c K E L:=fun a w hE hS=>by
  rcases yP (R.sat hS) with ⟨_,h1,_⟩ | ⟨b,cs,h1,_⟩
  · rw[h1] at h0;simp at h0
  · exact h b h1 a w hE hS
theorem zsg {f:FuncId}{xs:List Operand}{vs:List Value}{ats:Array TypeId}(hcall:∀w,Sat c.w0 w L→(callFunc f vs.toArray).run c.P w= .ok (.value v) w)(hx:evs g E xs=some vs):
    OpL c g E L ⟨d, .call {callee:= .value (.func f),args:=xs.toArray,argTypes:=ats},ty,pos,af,gu⟩ fun v' L'=>v'=v∧L'=L:=
  .of_run fun a w hE hg hS=>by
    have hc:=hcall w hS;rw[←hE.evs hg hx] at hc;exact ⟨v,w,L,by simp[execOp,resolve,Act.eval,Deferred.ofValue,invoke,hc],hS,rfl,rfl⟩
theorem zk1 {w:World}{b o:Nat}{cs:Array Value}{T:TypeId}(h:w.heap[b]? =some (.cells cs T (0,0))):w.frozen? ⟨b,o,none⟩=false:=by
  simp[World.frozen?,h]
theorem zvg {P:Program}{w0 w:World}{F:List HProp}{T tR c1 c2 l1 l2 n1 n2:Nat}{b1 b2 p:Nat}{r1 r2:List (List Value)}(ht:P.underlying t=some (.slice T))(hz:∀w,(sizeOf T).run P w= .ok sz w)(h0:0<sz)(hc2:0<r2.length)
    (hS:Sat w0 w (owL T sz (some ⟨b1,0,none⟩) c1 r1::owL T sz (some ⟨b2,0,none⟩) c2 r2::F)):
    (Extern.SlicesOverlaps.overlaps #[t,t] #[tR] #[.slice (some ⟨b1,0,none⟩) l1 n1, .slice (some ⟨b2,p,none⟩) l2 n2]).run P w= .ok (.bool false) w:=by
  rcases yP hS with ⟨h,_⟩ | ⟨b,cs,h,a1,a2,a3,a4,hP⟩
  · cases h
  · injection h with h;injection h with h;subst h;have hS2:Sat w0 w (owL T sz (some ⟨b2,0,none⟩) c2 r2::pt b1 (.cells cs T (0,0))::F):=(hP.front (i:=1) rfl);rcases yP hS2 with ⟨h,_⟩ | ⟨b,cs',h,e1,e2,e3,e4,hP2⟩
    · cases h
    · injection h with h;injection h with h;subst h;have hne:=Sat.ne hP2;have hb1:=hP.at_;have hb2:=hP2.at_;have hk:cs'.size≠0:=by
        rw[e1];have:=Nat.mul_pos (show 0<c2 by omega) h0;omega
      exact Lib.run_overlaps_apart w t tR T ht sz hz ⟨b1,0,none⟩ ⟨b2,p,none⟩ l1 n1 l2 n2 (fun h=>hne h.symm) T T cs.size cs'.size (by simp[World.shape?,hb1]) (by simp[World.shape?,hb2]) hk (zk1 hb1) (zk1 hb1)
end
end Go.Sl
namespace Go.Sl
section
variable {c:Cx}{E:Env}{L:List HProp}{d:Nat}{ty:TypeId}{pos:String}{af:Array Edge}{K:List KI}{all:List Oper}{op:Op}{N:Value→List HProp→Prop}{Lf:List HProp}{pl:List (Nat×Bool)}
theorem qT {i j s:Nat}{vs:Value}{want:Bool}(hi:all[i]? =some ⟨some d,op,ty,pos,af,some (j,want)⟩)(hj:(all[j]?).bind (·.dst)=some s)(hs:look none E s=some vs)(hw:zpE vs want=true)[SC:Sub L Lf](hd:dOk c.n d E=true)
    (k:G c (.plan all (fun w=>Sat c.w0 w Lf) pl::K) ((d,none,undef)::E) L):G c (.plan all (fun w=>Sat c.w0 w Lf) ((i,false)::pl)::K) E L:=fun a w hE hS=>by
  have h1:=hE.look (yD a) hs;have hy:yielded all.toArray a.tmps j≠some want:=by
    cases vs <;> simp[yielded,hj,h1,zpE] at hw ⊢
    all_goals (rename_i b;cases b <;> cases want <;> simp at hw ⊢)
  exact ⟨SC.sat hS,_,undef,by simpa using hi, .inr ⟨by simp[Region.wanted,hy],rfl⟩,k _ w (hE.put1 hd) hS⟩
end
section
variable {c:Cx}{g:Option (Nat×Bool)}{E:Env}{L L':List HProp}{d:Option Tmp}{ty:TypeId}{pos:String}{af:Array Edge}{gu:Option (Nat×Bool)}
variable {x y z:Operand}{t u e:TypeId}{k:IntKind}{v:Value}{s:Option Addr}{b o i j n sz cap off:Nat}
theorem zgO {rows:List (List Value)}{vs:List Value}{T:Nat}{F:List HProp}(hz:∀w,(sizeOf t).run c.P w= .ok sz w)(hx:ev g E x=some (adr s (j*sz)))(hy:ev g E y=some (.agg vs.toArray))(hl:vs.length=sz)(h1:ones vs=true)[R:OwR L s T sz cap rows F](hj:j<rows.length)(h0:0<sz):
    OpL c g E L ⟨d, .store t x y,ty,pos,af,gu⟩ fun _ L'=>L'=owL T sz s cap (rows.set j vs)::F:=
  .of_skip fun a w hE hg hS=>by
    rcases yP (R.sat hS) with ⟨rfl,rfl,rfl,_⟩ | ⟨b,cs,rfl,a1,a2,a3,a4,hP⟩
    · simp at hj
    · obtain ⟨hle,hrows⟩:=zhC (T:=T) (l:=j) (news:=[vs]) h0 a1 a2 (by simp;omega) a3 (by simpa using hl) a4;have hset:rows.take j++ [vs]++rows.drop (j+ [vs].length)=rows.set j vs:=by
        rw[List.set_eq_take_append_cons_drop,if_pos hj];simp
      rw[hset] at hrows;have hfl:[vs].flatten=vs:=(by simp);rw[hfl] at hle hrows;have hr:=yJ (P:=c.P) b (j*sz) T vs w cs 0 hP.at_ (by omega) h1;have e1:a.eval x=ptr b (j*sz):=by
        rw[hE.ev hg hx];simp[adr,zaV,ptr]
      refine ⟨_,_,?_,wY (hP.set (o':= .cells (yW cs (j*sz) vs) T (0,0)) rfl) (by rw[wH,a1]) (by simp;exact a2) (fun r hr=>?_) hrows,rfl⟩
      · simp only[execOp,e1,hE.ev hg hy,Instr.storeAt,Instr.sureAddr,storeVar];simp[hz,hl,Value.cells,hr,ptr,zfj,Sem.run]
      · rcases List.mem_or_eq_of_mem_set hr with h | h
        · exact a3 r h
        · rw[h];exact hl
end
end Go.Sl
namespace Go.Sl
abbrev MM:=List (Int×Value)
structure MOk (es:Array MapEntry) (clk:Nat) (M:MM):Prop where
  perm:(es.toList.map fun e=>(e.key,e.val)).Perm (M.map fun p=>(I p.1,p.2))
  nodup:(M.map (·.1)).Nodup
  born:∀e∈es.toList,e.born<clk
  bnd:(es.toList.map (·.born)).Nodup
def mp (r:Nat)(M:MM):HProp:=hex fun p:Array MapEntry×Nat=>fun m=>MOk p.1 p.2 M∧m r=some (.map p.1 p.2,false)
def mpE (r:Nat)(es:Array MapEntry)(clk:Nat)(M:MM):HProp:=fun m=>MOk es clk M∧m r=some (.map es clk,false)
def lk:MM→Int→Option Value
  | [],_=>none
  | (k,v)::M,q=>if k=q then some v else lk M q
def zgC (M:MM)(q:Int)(v:Value):MM:=if (lk M q).isSome then M.map fun p=>if p.1=q then (q,v) else p else M++ [(q,v)]
def zj9 (M:MM)(q:Int):MM:=M.filter fun p=>!decide (p.1=q)
theorem lk_none {M:MM}{q:Int}:lk M q=none ↔ ∀p∈M,p.1≠q:=by
  induction M with
  | nil=>simp[lk]
  | cons p M ih=>
    obtain ⟨k,v⟩:=p;simp only[lk];split
    · rename_i h;simp[h]
    · rename_i h;simp[ih,h]
theorem zmP {M:MM}(h:(M.map (·.1)).Nodup){q:Int}{v:Value}:lk M q=some v ↔ (q,v)∈M:=by
  induction M with
  | nil=>simp[lk]
  | cons p M ih=>
    obtain ⟨k,u⟩:=p;simp only[List.map_cons,List.nodup_cons] at h;simp only[lk];split
    · rename_i hk;subst hk;constructor
      · intro e;injection e with e;subst e;simp
      · intro hm;rcases List.mem_cons.1 hm with e | hm
        · injection e with _ e;rw[e]
        · exact absurd (List.mem_map.2 ⟨_,hm,rfl⟩) h.1
    · rename_i hk;rw[ih h.2];constructor
      · intro hm;exact List.mem_cons_of_mem _ hm
      · intro hm;rcases List.mem_cons.1 hm with e | hm
        · injection e with e _;exact absurd e.symm hk
        · exact hm
theorem zhs {M:MM}(h:(M.map (·.1)).Nodup):M.Nodup:=by
  induction M with
  | nil=>exact List.Pairwise.nil
  | cons p M ih=>
    simp only[List.map_cons,List.nodup_cons] at h;exact List.nodup_cons.2 ⟨fun hm=>h.1 (List.mem_map.2 ⟨_,hm,rfl⟩),ih h.2⟩
theorem zfG {M M':MM}(h:(M.map (·.1)).Nodup)(h':(M'.map (·.1)).Nodup)(he:∀q,lk M q=lk M' q):M.Perm M':=by
  refine (List.perm_ext_iff_of_nodup (zhs h) (zhs h')).2 fun ⟨q,v⟩=>?_;rw[←zmP h,←zmP h',he]
theorem MOk.perm_ {es:Array MapEntry}{clk:Nat}{M M':MM}(h:MOk es clk M)(hp:M.Perm M'):MOk es clk M':=⟨h.perm.trans (hp.map _),(hp.map (·.1)).nodup_iff.1 h.nodup,h.born,h.bnd⟩
theorem zeO (M:MM)(q:Int)(v:Value)(h:(M.map (·.1)).Nodup):((zgC M q v).map (·.1)).Nodup:=by
  unfold zgC;split
  · have:(M.map fun p=>if p.1=q then (q,v) else p).map (·.1)=M.map (·.1):=by
      rw[List.map_map];apply List.map_congr_left;intro p _;simp only[Function.comp_apply];split <;> simp_all
    rw[this];exact h
  · rename_i hn;simp only[Option.not_isSome_iff_eq_none] at hn;rw[lk_none] at hn;rw[List.map_append,List.nodup_append];refine ⟨h,by simp,fun a ha b hb=>?_⟩;simp at hb;subst hb;obtain ⟨p,hp,rfl⟩:=List.mem_map.1 ha;exact hn p hp
theorem zqm (M N:MM)(q:Int):lk (M++N) q=(lk M q).or (lk N q):=by
  induction M with
  | nil=>simp[lk]
  | cons p M ih=>obtain ⟨k,v⟩:=p;simp only[List.cons_append,lk];split <;> simp[ih]
theorem zmp (M:MM)(q:Int)(v:Value)(k:Int):lk (zgC M q v) k=if q=k then some v else lk M k:=by
  unfold zgC;split
  · rename_i h;have key:∀N:MM,(∀k',k'=q→(lk N k').isSome→lk (N.map fun p=>if p.1=q then (q,v) else p) k'=some v)∧(∀k',k'≠q→lk (N.map fun p=>if p.1=q then (q,v) else p) k'=lk N k'):=by
      intro N
      induction N with
      | nil=>exact ⟨fun k' _ h=>by simp[lk] at h,fun k' _=>rfl⟩
      | cons p N ih=>
        obtain ⟨a,u⟩:=p;refine ⟨fun k' e hs=>?_,fun k' e=>?_⟩
        · subst e;by_cases ha:a=k'
          · simp[lk,ha]
          · simp[lk,ha] at hs ⊢;exact ih.1 k' rfl hs
        · by_cases ha:a=q
          · subst ha;have:a≠k':=fun e'=>e e'.symm;simp[lk,this,ih.2 k' e]
          · by_cases hb:a=k'
            · subst hb;simp[lk,e]
            · simp[lk,ha,hb,ih.2 k' e]
    split
    · rename_i e;exact (key M).1 k e.symm (e ▸ h)
    · rename_i e;exact (key M).2 k fun e'=>e e'.symm
  · rename_i h;rw[zqm];simp only[Option.not_isSome_iff_eq_none] at h;split
    · rename_i e;subst e;simp[h,lk]
    · rename_i e;simp[lk,e]
theorem zhy (M:MM)(q:Int)(h:(M.map (·.1)).Nodup):((zj9 M q).map (·.1)).Nodup:=List.Nodup.sublist (List.Sublist.map _ List.filter_sublist) h
theorem zmy (M:MM)(q k:Int):lk (zj9 M q) k=if q=k then none else lk M k:=by
  induction M with
  | nil=>simp[zj9,lk]
  | cons p M ih=>
    obtain ⟨a,u⟩:=p;unfold zj9 at ih ⊢;by_cases ha:a=q
    · subst ha;rw[List.filter_cons_of_neg (by simp),ih];by_cases hk:a=k <;> simp[lk,hk]
    · rw[List.filter_cons_of_pos (by simp[ha])];simp only[lk,ih];by_cases hk:q=k
      · subst hk;simp[ha]
      · simp[hk]
theorem MOk.key {es:Array MapEntry}{clk:Nat}{M:MM}(h:MOk es clk M){e:MapEntry}(he:e∈es.toList):∃p∈M,e.key=I p.1∧e.val=p.2:=by
  have:(e.key,e.val)∈M.map fun p=>(I p.1,p.2):=h.perm.mem_iff.1 (List.mem_map.2 ⟨e,he,rfl⟩);obtain ⟨p,hp,he⟩:=List.mem_map.1 this;injection he with h1 h2;exact ⟨p,hp,h1.symm,h2.symm⟩
theorem zrQ {a b:Int}(h:I a=I b):a=b:=by injection h
theorem zkG (kk:IntKind)(q:Int):∀(l:List MapEntry) (i:Nat),(∀e∈l,∃k,e.key=I k)→
    (∃j e,l[j]? =some e∧e.key=I q∧Instr.findNow (.int kk) (I q) l i=some (some (i+j,e.val)))∨((∀e∈l,e.key≠I q)∧Instr.findNow (.int kk) (I q) l i=some none)
  | [],i,_=> .inr ⟨by simp,rfl⟩
  | e::l,i,h=>by
    obtain ⟨k,hk⟩:=h e (by simp);by_cases hq:k=q
    · subst hq;exact .inl ⟨0,e,rfl,hk,by simp[Instr.findNow,hk,Instr.sameNow,I]⟩
    · have hs:Instr.sameNow (.int kk) (I q) e.key=some false:=(by rw[hk];simp[Instr.sameNow,I,Ne.symm hq]);rcases zkG kk q l (i+1) (fun e he=>h e (by simp[he])) with ⟨j,e',h1,h2,h3⟩ | ⟨h1,h2⟩
      · exact .inl ⟨j+1,e',by simpa using h1,h2,by simp only[Instr.findNow,hs,h3];congr 3;omega⟩
      · refine .inr ⟨fun e' he'=>?_,by simp only[Instr.findNow,hs,h2]⟩;rcases List.mem_cons.1 he' with rfl | he'
        · rw[hk];exact fun e=>hq (zrQ e)
        · exact h1 e' he'
theorem MOk.find {es:Array MapEntry}{clk:Nat}{M:MM}(h:MOk es clk M)(kk:IntKind)(q:Int):
    (∃j e,es.toList[j]? =some e∧e.key=I q∧lk M q=some e.val∧Instr.findNow (.int kk) (I q) es.toList 0=some (some (j,e.val)))∨
    (lk M q=none∧(∀e∈es.toList,e.key≠I q)∧Instr.findNow (.int kk) (I q) es.toList 0=some none):=by
  rcases zkG kk q es.toList 0 (fun e he=>let ⟨p,_,h,_⟩:=h.key he;⟨p.1,h⟩) with ⟨j,e,h1,h2,h3⟩ | ⟨h1,h2⟩
  · obtain ⟨p,hp,e1,e2⟩:=h.key (List.mem_of_getElem? h1);refine .inl ⟨j,e,h1,h2,?_,by simpa using h3⟩;rw[zmP h.nodup];have:p.1=q:=zrQ (e1.symm.trans h2);rw[←this,e2];exact hp
  · refine .inr ⟨?_,h1,h2⟩;rw[lk_none];intro p hp hq;have:(I p.1,p.2)∈es.toList.map fun e=>(e.key,e.val):=h.perm.mem_iff.2 (List.mem_map.2 ⟨p,hp,rfl⟩);obtain ⟨e,he,e1⟩:=List.mem_map.1 this;injection e1 with e1 _;exact h1 e he (by rw[e1,hq])
theorem wF {P:Program}{w:World}{t:TypeId}{kk:IntKind}{q:Int}(b:Bool)(hu:P.underlying t=some (.int kk)):(Instr.checkKey b 10000 t (I q)).run P w= .ok () w:=by
  have key:∀n,(Instr.checkKey b (n+1) t (I q)).run P w= .ok () w:=fun n=>by
    unfold Instr.checkKey;simp[underlying,program,Sem.run,hu,I]
  exact key 9999
theorem zah {P:Program}{w:World}{t:TypeId}{kk:IntKind}{q:Int}{es:List MapEntry}{r:Option (Nat×Value)}(hu:P.underlying t=some (.int kk))(h:Instr.findNow (.int kk) (I q) es 0=some r):(Instr.findKey t (I q) es).run P w= .ok r w:=by
  simp[Instr.findKey,underlying,program,Sem.run,hu,h]
class HasM (L:List HProp) (r:Nat) (M:outParam MM):Prop where
  out:∀w0 w,Sat w0 w L→∃es clk,MOk es clk M∧w.heap[r]? =some (.map es clk)
instance (priority:=high) HasM.head {r:Nat}{M:MM}{L:List HProp}:HasM (mp r M::L) r M:=⟨fun w0 w h=>by
  obtain ⟨⟨es,clk⟩,h⟩:=h.ex;obtain ⟨_,_,_,_,f,hf,_⟩:=h;have:=hf 0 _ rfl;exact ⟨es,clk,this.1.1,this.2 r _ this.1.2⟩⟩
instance (priority:=high) HasM.headE {r:Nat}{es:Array MapEntry}{clk:Nat}{M:MM}{L:List HProp}:HasM (mpE r es clk M::L) r M:=⟨fun w0 w h=>by
  obtain ⟨_,_,_,_,f,hf,_⟩:=h;have:=hf 0 _ rfl;exact ⟨es,clk,this.1.1,this.2 r _ this.1.2⟩⟩
instance (priority:=low) HasM.tail {A:HProp}{r:Nat}{M:MM}{L:List HProp}[h:HasM L r M]:HasM (A::L) r M:=⟨fun w0 w hS=>h.out w0 w hS.tail⟩
class RemM (L:List HProp) (r:Nat) (M:outParam MM) (F:outParam (List HProp)):Prop where
  out:∃i,L[i]? =some (mp r M)∧F=L.eraseIdx i
instance (priority:=high) RemM.head {r:Nat}{M:MM}{L:List HProp}:RemM (mp r M::L) r M L:=⟨0,rfl,rfl⟩
instance (priority:=low) RemM.tail {A:HProp}{r:Nat}{M:MM}{L F:List HProp}[h:RemM L r M F]:RemM (A::L) r M (A::F):=⟨let ⟨i,h1,h2⟩:=h.out;⟨i+1,by simpa using h1,by simp[h2]⟩⟩
theorem RemM.sat {w0 w:World}{r:Nat}{M:MM}{L F:List HProp}(R:RemM L r M F)(h:Sat w0 w L):∃es clk,MOk es clk M∧Sat w0 w (pt r (.map es clk)::F):=by
  obtain ⟨i,h1,rfl⟩:=R.out;obtain ⟨⟨es,clk⟩,h⟩:=(h.front h1).ex;have hok:MOk es clk M:=by
    obtain ⟨_,_,_,_,f,hf,_⟩:=h;exact (hf 0 _ rfl).1.1
  exact ⟨es,clk,hok,h.weak fun m hm=>hm.2⟩
theorem zfJ {w0 w:World}{r clk:Nat}{es:Array MapEntry}{M:MM}{F:List HProp}(h:Sat w0 w (pt r (.map es clk)::F))(hok:MOk es clk M):Sat w0 w (mp r M::F):=Sat.ex_mk (A:=fun p:Array MapEntry×Nat=>fun m=>MOk p.1 p.2 M∧m r=some (.map p.1 p.2,false)) (es,clk) (h.weak fun m hm=>⟨hok,hm⟩)
section
variable {c:Cx}{g:Option (Nat×Bool)}{E:Env}{L L' F:List HProp}{d:Option Tmp}{ty:TypeId}{pos:String}{af:Array Edge}{gu:Option (Nat×Bool)}{K:List KI}
variable {x y z:Operand}{t u e:TypeId}{k:IntKind}{v zv:Value}{r b n:Nat}{q:Int}{M:MM}
theorem zd8 (hu:c.P.underlying t=some (.map u e))(hx:ev g E x=some (.map (some r)))[h:HasM L r M]:OpV c g E L ⟨d, .call {callee:= .builtin .len,args:=#[x],argTypes:=#[t]},ty,pos,af,gu⟩ (I M.length):= .mk fun a w hE hg hS=>by
  obtain ⟨es,clk,hok,hw⟩:=h.out _ _ hS;have hl:es.size=M.length:=(by simpa using hok.perm.length_eq);simp[execOp,resolve,invoke,builtin,Builtin.len_,underlying,program,getObj,Sem.run,hu,hE.ev hg hx,goInt,hw,hl]
theorem yF (hu:c.P.underlying t=some (.map u e))(hk:c.P.underlying u=some (.int .i64))(hzv:∀w,(zeroValue e).run c.P w= .ok zv w)(hx:ev g E x=some (.map (some r)))(hy:ev g E y=some (I q))(hv:(lk M q).getD zv=v)[h:HasM L r M]:
    OpV c g E L ⟨d, .lookup t x y false,ty,pos,af,gu⟩ v:= .mk fun a w hE hg hS=>by
  subst hv;obtain ⟨es,clk,hok,hw⟩:=h.out _ _ hS;rcases hok.find .i64 q with ⟨j,en,h1,h2,h3,h4⟩ | ⟨h1,h2,h3⟩
  · simp[execOp,hE.ev hg hx,hE.ev hg hy,Instr.lookup,underlying,program,getObj,Sem.run,Sem.run_bind,hu,hw,wF _ hk,zah hk h4,h3]
  · simp[execOp,hE.ev hg hx,hE.ev hg hy,Instr.lookup,underlying,program,getObj,Sem.run,Sem.run_bind,hu,hw,wF _ hk,zah hk h3,h1,hzv]
theorem zaJ {bb:Bool}(hu:c.P.underlying t=some (.map u e))(hk:c.P.underlying u=some (.int .i64))(hzv:∀w,(zeroValue e).run c.P w= .ok zv w)(hx:ev g E x=some (.map (some r)))(hy:ev g E y=some (I q))(hv:(lk M q).getD zv=v)(hb:(lk M q).isSome=bb)[h:HasM L r M]:
    OpV c g E L ⟨d, .lookup t x y true,ty,pos,af,gu⟩ (.tuple #[v, .bool bb]):= .mk fun a w hE hg hS=>by
  subst hv hb;obtain ⟨es,clk,hok,hw⟩:=h.out _ _ hS;rcases hok.find .i64 q with ⟨j,en,h1,h2,h3,h4⟩ | ⟨h1,h2,h3⟩
  · simp[execOp,hE.ev hg hx,hE.ev hg hy,Instr.lookup,underlying,program,getObj,Sem.run,Sem.run_bind,hu,hw,wF _ hk,zah hk h4,h3]
  · simp[execOp,hE.ev hg hx,hE.ev hg hy,Instr.lookup,underlying,program,getObj,Sem.run,Sem.run_bind,hu,hw,wF _ hk,zah hk h3,h1,hzv]
theorem MOk.nil:MOk #[] 0 []:=⟨by simp,by simp,by simp,by simp⟩
theorem zaP:OpL c g E L ⟨d, .makeMap t none,ty,pos,af,gu⟩ fun v L'=>∃b,v= .map (some b)∧L'=mp b []::L:=
  .of_run fun a w hE hg hS=>⟨.map (some w.heap.size),_,_,by simp[execOp,Instr.makeMap,newObj,Sem.run],zfJ (hS.alloc (.map #[] 0)) MOk.nil,_,rfl,rfl⟩
open Classical in
theorem MOk.upd {es:Array MapEntry}{clk j:Nat}{en:MapEntry}(h:MOk es clk M)(h1:es.toList[j]? =some en)(h2:en.key=I q)(h3:lk M q=some en.val)(v:Value):MOk (es.modify j fun e=>{e with key:=I q,val:=v}) clk (zgC M q v):=by
  have hj:j<es.toList.length:=(List.getElem?_eq_some_iff.1 h1).1;have hb:(es.modify j fun e=>{e with key:=I q,val:=v}).toList.map (·.born)=es.toList.map (·.born):=by
    apply List.ext_getElem?;intro i;simp only[List.getElem?_map,Array.getElem?_toList,Array.getElem?_modify];split
    · cases es[i]? <;> rfl
    · rfl
  refine ⟨?_,zeO M q v h.nodup,fun e he=>?_,by rw[hb];exact h.bnd⟩
  · have e1:(es.modify j fun e=>{e with key:=I q,val:=v}).toList.map (fun e=>(e.key,e.val))=(es.toList.map fun e=>(e.key,e.val)).map fun p=>if p.1=I q then (I q,v) else p:=by
      apply List.ext_getElem?;intro i;simp only[List.getElem?_map,Array.getElem?_toList,Array.getElem?_modify,Option.map_map];by_cases hij:j=i
      · subst hij;have:es[j]? =some en:=(by simpa using h1);simp[this,h2]
      · simp only[hij,if_false];cases hi:es[i]? with
        | none=>rfl
        | some e'=>
          simp only[Option.map_some,Function.comp_apply];rw[if_neg];intro hk;have hnd:(es.toList.map (·.key)).Nodup:=by
            have:(es.toList.map (·.key)).Perm ((M.map (·.1)).map I):=by
              have:=h.perm.map (·.1);simpa [List.map_map,Function.comp_def] using this
            rw[this.nodup_iff];exact List.Pairwise.map I (fun a b hab e=>hab (zrQ e)) h.nodup
          have hi':es.toList[i]? =some e':=(by simpa using hi);have il:i<es.toList.length:=(List.getElem?_eq_some_iff.1 hi').1;have hp:=List.pairwise_iff_getElem.1 hnd;have g1:es.toList[j]=en:=(List.getElem?_eq_some_iff.1 h1).2;have g2:es.toList[i]=e':=(List.getElem?_eq_some_iff.1 hi').2;rcases Nat.lt_or_gt_of_ne hij with hlt | hlt
          · refine hp j i (by simpa using hj) (by simpa using il) hlt ?_;rw[List.getElem_map,List.getElem_map,g1,g2,h2,hk]
          · refine hp i j (by simpa using il) (by simpa using hj) hlt ?_;rw[List.getElem_map,List.getElem_map,g1,g2,h2,hk]
    rw[e1];refine (h.perm.map _).trans (List.Perm.of_eq ?_);unfold zgC;rw[if_pos (by simp[h3]),List.map_map,List.map_map];apply List.map_congr_left;intro p _;simp only[Function.comp_apply];by_cases hp:p.1=q
    · simp[hp]
    · have:I p.1≠I q:=fun e=>hp (zrQ e);simp[hp,this]
  · have:e.born∈es.toList.map (·.born):=(by rw[←hb];exact List.mem_map.2 ⟨e,he,rfl⟩);obtain ⟨e',he',e2⟩:=List.mem_map.1 this;rw[←e2];exact h.born e' he'
theorem MOk.add {es:Array MapEntry}{clk:Nat}(h:MOk es clk M)(h3:lk M q=none)(v:Value):MOk (es.push {key:=I q,val:=v,born:=clk}) (clk+1) (zgC M q v):=by
  refine ⟨?_,zeO M q v h.nodup,fun e he=>?_,?_⟩
  · unfold zgC;rw[if_neg (by simp[h3])];simp only[Array.toList_push,List.map_append,List.map_cons,List.map_nil];exact h.perm.append_right _
  · simp at he;rcases he with he | rfl
    · have:=h.born e (by simpa using he);omega
    · simp
  · simp only[Array.toList_push,List.map_append,List.map_cons,List.map_nil];rw[List.nodup_append];refine ⟨h.bnd,by simp,fun a ha b hb=>?_⟩;simp at hb;subst hb;obtain ⟨e,he,rfl⟩:=List.mem_map.1 ha;exact Nat.ne_of_lt (h.born e he)
theorem zrU {P:Program}{w:World}(q:Int):(Instr.keyThatStays (I q) (I q)).run P w= .ok (I q) w:=by
  simp[Instr.keyThatStays,Instr.sameBits,I,Sem.run_pure]
theorem zdT {P:Program}{w:World}{es:Array MapEntry}{clk:Nat}{o':Obj}(h:w.heap[r]? =some (.map es clk)):(setObj r o').run P w= .ok () (zfj w r o'):=by
  simp[setObj,Sem.run,h,zfj]
theorem yg (hu:c.P.underlying t=some (.map u e))(hk:c.P.underlying u=some (.int .i64))(hx:ev g E x=some (.map (some r)))(hy:ev g E y=some (I q))(hz:ev g E z=some v)[R:RemM L r M F]:
    OpL c g E L ⟨d, .mapUpdate t x y z,ty,pos,af,gu⟩ fun _ L''=>L''=mp r (zgC M q v)::F:=
  .of_skip fun a w hE hg hS=>by
    obtain ⟨es,clk,hok,hS⟩:=R.sat hS;have hw:=hS.at_;rcases hok.find .i64 q with ⟨j,en,h1,h2,h3,h4⟩ | ⟨h1,h2,h3⟩
    · have h1':es[j]? =some en:=(by simpa using h1);refine ⟨zfj w r (.map (es.modify j fun e=>{e with key:=I q,val:=v}) clk),_,?_,zfJ (hS.set rfl) (hok.upd h1 h2 h3 v),rfl⟩;simp[execOp,hE.ev hg hx,hE.ev hg hy,hE.ev hg hz,Instr.mapUpdate,underlying,program,getObj,Sem.run,Sem.run_bind,hu,hw,wF _ hk,zah hk h4,h1',h2,zrU,zdT hw]
    · refine ⟨zfj w r (.map (es.push {key:=I q,val:=v,born:=clk}) (clk+1)),_,?_,zfJ (hS.set rfl) (hok.add h1 v),rfl⟩;simp[execOp,hE.ev hg hx,hE.ev hg hy,hE.ev hg hz,Instr.mapUpdate,underlying,program,getObj,Sem.run,Sem.run_bind,hu,hw,wF _ hk,zah hk h3,zdT hw]
theorem zga (r:Nat)(M':MM)[R:RemM L r M F](h:M.Perm M')(k:G c K E (mp r M'::F)):G c K E L:=fun a w hE hS=>by
  obtain ⟨es,clk,hok,hS⟩:=R.sat hS;exact k a w hE (zfJ hS (hok.perm_ h))
theorem zaZ (r:Nat)[R:HasM L r M](k:(M.map (·.1)).Nodup→G c K E L):G c K E L:=fun a w hE hS=>by
  obtain ⟨es,clk,hok,_⟩:=R.out _ _ hS;exact k hok.nodup a w hE hS
end
end Go.Sl
namespace Go.Sl
def mit (b r:Nat)(es:Array MapEntry)(clk:Nat)(rest:MM)(cur:Option (Int×Value)):HProp:=fun m=>∃(seen:Array Nat) (c0:Nat),m b=some (.mapIter (some r) clk seen c0,false)∧clk≤c0∧
  ((leftOf es seen).toList.map fun e=>(e.key,e.val)).Perm (rest.map fun p=>(I p.1,p.2))∧∀p,cur=some p→c0=clk∧∃(s0:Array Nat) (e:MapEntry),e∈es.toList∧seen=s0.push e.born∧e.key=I p.1∧e.val=p.2
class HasE (L:List HProp) (r:Nat) (es:outParam (Array MapEntry)) (clk:outParam Nat) (M:outParam MM):Prop where
  out:∀w0 w,Sat w0 w L→MOk es clk M∧w.heap[r]? =some (.map es clk)
instance (priority:=high) HasE.head {r:Nat}{es:Array MapEntry}{clk:Nat}{M:MM}{L:List HProp}:HasE (mpE r es clk M::L) r es clk M:=⟨fun w0 w h=>by
  obtain ⟨_,_,_,_,f,hf,_⟩:=h;have:=hf 0 _ rfl;exact ⟨this.1.1,this.2 r _ this.1.2⟩⟩
instance (priority:=low) HasE.tail {A:HProp}{r:Nat}{es:Array MapEntry}{clk:Nat}{M:MM}{L:List HProp}[h:HasE L r es clk M]:HasE (A::L) r es clk M:=⟨fun w0 w hS=>h.out w0 w hS.tail⟩
class RemE (L:List HProp) (r:Nat) (es:outParam (Array MapEntry)) (clk:outParam Nat) (M:outParam MM) (F:outParam (List HProp)):Prop where
  out:∃i,L[i]? =some (mpE r es clk M)∧F=L.eraseIdx i
instance (priority:=high) RemE.head {r:Nat}{es:Array MapEntry}{clk:Nat}{M:MM}{L:List HProp}:RemE (mpE r es clk M::L) r es clk M L:=⟨0,rfl,rfl⟩
instance (priority:=low) RemE.tail {A:HProp}{r:Nat}{es:Array MapEntry}{clk:Nat}{M:MM}{L F:List HProp}[h:RemE L r es clk M F]:RemE (A::L) r es clk M (A::F):=⟨let ⟨i,h1,h2⟩:=h.out;⟨i+1,by simpa using h1,by simp[h2]⟩⟩
class RemI (L:List HProp) (b:Nat) (r:outParam Nat) (es:outParam (Array MapEntry)) (clk:outParam Nat) (rest:outParam MM) (cur:outParam (Option (Int×Value))) (F:outParam (List HProp)):Prop where
  out:∃i,L[i]? =some (mit b r es clk rest cur)∧F=L.eraseIdx i
instance (priority:=high) RemI.head {b r:Nat}{es:Array MapEntry}{clk:Nat}{rest:MM}{cur:Option (Int×Value)}{L:List HProp}:RemI (mit b r es clk rest cur::L) b r es clk rest cur L:=⟨0,rfl,rfl⟩
instance (priority:=low) RemI.tail {A:HProp}{b r:Nat}{es:Array MapEntry}{clk:Nat}{rest:MM}{cur:Option (Int×Value)}{L F:List HProp}[h:RemI L b r es clk rest cur F]:RemI (A::L) b r es clk rest cur (A::F):=⟨let ⟨i,h1,h2⟩:=h.out;⟨i+1,by simpa using h1,by simp[h2]⟩⟩
theorem zmE {w0 w:World}{b r clk:Nat}{es:Array MapEntry}{rest:MM}{cur:Option (Int×Value)}{F:List HProp}(h:Sat w0 w (mit b r es clk rest cur::F)):∃(seen:Array Nat) (c0:Nat),clk≤c0∧((leftOf es seen).toList.map fun e=>(e.key,e.val)).Perm (rest.map fun p=>(I p.1,p.2))∧
    (∀p,cur=some p→c0=clk∧∃(s0:Array Nat) (e:MapEntry),e∈es.toList∧seen=s0.push e.born∧e.key=I p.1∧e.val=p.2)∧Sat w0 w (pt b (.mapIter (some r) clk seen c0)::F):=by
  have h':Sat w0 w (hex (fun s:Array Nat×Nat=>fun m=>m b=some (.mapIter (some r) clk s.1 s.2,false)∧clk≤s.2∧
    ((leftOf es s.1).toList.map fun e=>(e.key,e.val)).Perm (rest.map fun p=>(I p.1,p.2))∧∀p,cur=some p→s.2=clk∧∃(s0:Array Nat) (e:MapEntry),e∈es.toList∧s.1=s0.push e.born∧e.key=I p.1∧e.val=p.2)::F):=h.weak fun m ⟨s,c,hm⟩=>⟨(s,c),hm⟩
  obtain ⟨⟨s,c⟩,h⟩:=h'.ex;have hf:clk≤c∧((leftOf es s).toList.map fun e=>(e.key,e.val)).Perm (rest.map fun p=>(I p.1,p.2))∧∀p,cur=some p→c=clk∧∃(s0:Array Nat) (e:MapEntry),e∈es.toList∧s=s0.push e.born∧e.key=I p.1∧e.val=p.2:=by
    obtain ⟨_,_,_,_,f,hf,_⟩:=h;exact (hf 0 _ rfl).1.2
  exact ⟨s,c,hf.1,hf.2.1,hf.2.2,h.weak fun m hm=>hm.1⟩
theorem zjt {w0 w:World}{b r clk c0:Nat}{seen:Array Nat}{es:Array MapEntry}{rest:MM}{cur:Option (Int×Value)}{F:List HProp}(h:Sat w0 w (pt b (.mapIter (some r) clk seen c0)::F))(h1:clk≤c0)
    (h2:((leftOf es seen).toList.map fun e=>(e.key,e.val)).Perm (rest.map fun p=>(I p.1,p.2))) (h3:∀p,cur=some p→c0=clk∧∃(s0:Array Nat) (e:MapEntry),e∈es.toList∧seen=s0.push e.born∧e.key=I p.1∧e.val=p.2):
    Sat w0 w (mit b r es clk rest cur::F):=h.weak fun m hm=>⟨seen,c0,hm,h1,h2,h3⟩
theorem zsx (es:Array MapEntry):leftOf es #[]=es:=by simp[leftOf]
theorem ziQ:∀{l:List MapEntry} {e:MapEntry},e∈l→(l.map (·.born)).Nodup→l.Perm (e::l.filter fun x=>!decide (x.born=e.born))
  | [],e,h,_=>by simp at h
  | a::l,e,h,hn=>by
    simp only[List.map_cons,List.nodup_cons] at hn;rcases List.mem_cons.1 h with rfl | h
    · rw[List.filter_cons_of_neg (by simp)];refine List.Perm.cons _ (List.Perm.of_eq ?_)
      symm
      rw[List.filter_eq_self];intro x hx;have:x.born≠e.born:=fun e'=>hn.1 (List.mem_map.2 ⟨x,hx,e'⟩);simp[this]
    · have hne:a.born≠e.born:=fun e'=>hn.1 (List.mem_map.2 ⟨e,h,e'.symm⟩);rw[List.filter_cons_of_pos (by simp[hne])];exact ((ziQ h hn.2).cons a).trans (List.Perm.swap _ _ _)
theorem zrJ (es:Array MapEntry)(seen:Array Nat)(b:Nat):(leftOf es (seen.push b)).toList=(leftOf es seen).toList.filter fun x=>!decide (x.born=b):=by
  simp only[leftOf,Array.toList_filter,List.filter_filter];congr 1
  funext x
  simp only[Array.contains_push];cases h:seen.contains x.born <;> simp[h,Bool.beq_eq_decide_eq]
section
variable {c:Cx}{g:Option (Nat×Bool)}{E:Env}{L L' F:List HProp}{d:Option Tmp}{ty:TypeId}{pos:String}{af:Array Edge}{gu:Option (Nat×Bool)}{K:List KI}
variable {x y z:Operand}{t u e:TypeId}{k:IntKind}{v zv:Value}{r b n clk:Nat}{q:Int}{M rest:MM}{es:Array MapEntry}{cur:Option (Int×Value)}
theorem zaj (r:Nat)[R:RemM L r M F](k:∀es clk,G c K E (mpE r es clk M::F)):G c K E L:=fun a w hE hS=>by
  obtain ⟨es,clk,hok,hS⟩:=R.sat hS;exact k es clk a w hE (hS.weak fun m hm=>⟨hok,hm⟩)
theorem qL (r:Nat)[R:RemE L r es clk M F](k:G c K E (mp r M::F)):G c K E L:=fun a w hE hS=>by
  obtain ⟨i,h1,rfl⟩:=R.out;have h:=hS.front h1;exact k a w hE (Sat.ex_mk (A:=fun p:Array MapEntry×Nat=>fun m=>MOk p.1 p.2 M∧m r=some (.map p.1 p.2,false)) (es,clk) h)
theorem zbq (hu:c.P.underlying t=some (.map u e))(hx:ev g E x=some (.map (some r)))[h:HasE L r es clk M]:
    OpL c g E L ⟨d, .range t x,ty,pos,af,gu⟩ fun v L'=>∃b,v=ptr b 0∧L'=mit b r es clk M none::L:=
  .of_run fun a w hE hg hS=>by
    obtain ⟨hok,hw⟩:=h.out _ _ hS;refine ⟨ptr w.heap.size 0,_,_,?_,zjt (hS.alloc (.mapIter (some r) clk #[] clk)) (Nat.le_refl _) (by rw[zsx];exact hok.perm) (fun p hp=>by cases hp),_,rfl,rfl⟩;simp[execOp,hE.ev hg hx,Instr.range,underlying,program,getObj,newObj,Sem.run,Sem.run_bind,hu,hw]
theorem zcT (hx:ev g E x=some (ptr b 0))[R:RemI L b r es clk rest cur F][h:HasE F r es clk M]:
    OpL c g E L ⟨d, .next x false,ty,pos,af,gu⟩ fun v L'=>(rest=[]∧v= .tuple #[.bool false]∧L'=mit b r es clk [] none::F)∨
      ∃p rest',rest.Perm (p::rest')∧v= .tuple #[.bool true,I p.1,p.2]∧L'=mit b r es clk rest' (some p)::F:=
  .of_run fun a w hE hg hS=>by
    obtain ⟨i,h1,rfl⟩:=R.out;obtain ⟨seen,c0,hc,hp,hcur,hS⟩:=zmE (hS.front h1);obtain ⟨hok,hw⟩:=h.out _ _ hS.tail;have hr:=hS.at_;rcases run_next_at (P:=c.P) w ty b r clk c0 seen es clk hr hw hok.born hc with ⟨h0,hrun⟩ | ⟨en,hen,w1,hal,hrun⟩
    · have h0':(leftOf es seen).toList=[]:=by
        apply List.eq_nil_of_length_eq_zero;simpa using h0
      have hr0:rest=[]:=by
        have:=hp.length_eq;rw[h0'] at this;exact List.eq_nil_of_length_eq_zero (by simpa using this.symm)
      subst hr0;exact ⟨_,w,_,by simp[execOp,hE.ev hg hx,ptr,hrun],zjt hS hc hp (fun p hp=>by cases hp), .inl ⟨rfl,rfl,rfl⟩⟩
    · have hS1:Sat c.w0 w1 (pt b (.mapIter (some r) clk seen c0)::L.eraseIdx i):=by
        rcases hal with rfl | rfl
        · exact hS
        · exact hS.drew _
      have hm:(en.key,en.val)∈rest.map fun p=>(I p.1,p.2):=hp.mem_iff.1 (List.mem_map.2 ⟨en,hen,rfl⟩);obtain ⟨p,hpm,hpe⟩:=List.mem_map.1 hm;injection hpe with e1 e2;obtain ⟨s,t',hst⟩:=List.append_of_mem hpm;have hperm:rest.Perm (p::(s++t')):=(by rw[hst];exact List.perm_middle);have hes:en∈es.toList:=by
        have:=hen;simp only[leftOf,Array.toList_filter,List.mem_filter] at this;exact this.1
      have hnd:((leftOf es seen).toList.map (·.born)).Nodup:=by
        simp only[leftOf,Array.toList_filter];exact List.Nodup.sublist (List.Sublist.map _ List.filter_sublist) hok.bnd
      have hl:=ziQ hen hnd;have hrun':(Instr.next (.pointer (some ⟨b,0,none⟩)) false ty).run c.P w= .ok (.tuple #[.bool true,en.key,en.val]) (zfj w1 b (.mapIter (some r) clk (seen.push en.born) clk)):=hrun;refine ⟨.tuple #[.bool true,en.key,en.val],zfj w1 b (.mapIter (some r) clk (seen.push en.born) clk),_,by simp[execOp,hE.ev hg hx,ptr,hrun'],zjt (rest:=s++t') (cur:=some p) (hS1.set rfl) (Nat.le_refl _) ?_ ?_, .inr ⟨p,s++t',hperm,by rw[e1,e2],rfl⟩⟩
      · rw[zrJ];have h2:=((hl.map fun e=>(e.key,e.val)).symm.trans (hp.trans (hperm.map fun p=>(I p.1,p.2))));simp only[List.map_cons,e1,e2] at h2;exact h2.cons_inv
      · intro p' hp';injection hp' with hp';subst hp';exact ⟨rfl,seen,en,hes,rfl,e1.symm,e2.symm⟩
theorem zbs {p:Int×Value}(hx:ev g E x=some (ptr b 0))[R:RemI L b r es clk rest (some p) F][h:HasE F r es clk M]:OpV c g E L ⟨d, .entry x,ty,pos,af,gu⟩ (.tuple #[I p.1,p.2]):= .mk fun a w hE hg hS=>by
  obtain ⟨i,h1,rfl⟩:=R.out;obtain ⟨seen,c0,hc,hp,hcur,hS⟩:=zmE (hS.front h1);obtain ⟨hok,hw⟩:=h.out _ _ hS.tail;obtain ⟨rfl,s0,en,hen,rfl,e1,e2⟩:=hcur p rfl;have hrun:=run_entry_at (P:=c.P) w b r c0 s0 es c0 en hS.at_ hw hen hok.bnd;rw[e1,e2] at hrun;simp[execOp,hE.ev hg hx,ptr,hrun]
theorem zeR {α:Type}:∀{l:List α} {j:Nat} {e:α},l[j]? =some e→l.Perm (e::l.eraseIdx j)
  | [],j,e,h=>by simp at h
  | a::l,0,e,h=>by simp at h;subst h;exact .refl _
  | a::l,j+1,e,h=>((zeR (l:=l) (j:=j) (by simpa using h)).cons a).trans (List.Perm.swap _ _ _)
theorem MOk.del {j:Nat}{en:MapEntry}(h:MOk es clk M)(h1:es.toList[j]? =some en)(h2:en.key=I q):MOk (es.eraseIdxIfInBounds j) clk (zj9 M q):=by
  have hj:j<es.toList.length:=(List.getElem?_eq_some_iff.1 h1).1;have ej:es.toList[j]=en:=(List.getElem?_eq_some_iff.1 h1).2;have hl:(es.eraseIdxIfInBounds j).toList=es.toList.eraseIdx j:=by
    have:j<es.size:=(by simpa using hj);simp[Array.eraseIdxIfInBounds,this]
  have hp:es.toList.Perm (en::es.toList.eraseIdx j):=zeR h1;have hk:(es.toList.map (·.key)).Perm ((M.map (·.1)).map I):=by
    have:=h.perm.map (·.1);simpa [List.map_map,Function.comp_def] using this
  refine ⟨?_,zhy M q h.nodup,fun e he=>h.born e ?_,?_⟩
  · rw[hl];have h3:((en.key,en.val)::(es.toList.eraseIdx j).map fun e=>(e.key,e.val)).Perm (M.map fun p=>(I p.1,p.2)):=((hp.map fun e:MapEntry=>(e.key,e.val)).symm).trans h.perm;obtain ⟨p,hpm,e1,e2⟩:=h.key (List.mem_of_getElem? h1);have e3:p.1=q:=zrQ (e1.symm.trans h2);obtain ⟨s,t',hst⟩:=List.append_of_mem hpm;have hnd:=h.nodup;rw[hst,List.map_append,List.map_cons] at hnd;rw[List.nodup_append] at hnd;obtain ⟨n1,n2,n3⟩:=hnd;rw[List.nodup_cons] at n2;have hd:zj9 M q=s++t':=by
      unfold zj9;rw[hst,List.filter_append,List.filter_cons_of_neg (by simp[e3])];congr 1
      · rw[List.filter_eq_self];intro a ha;have:a.1≠p.1:=n3 a.1 (List.mem_map.2 ⟨a,ha,rfl⟩) p.1 (by simp);simp[←e3,this]
      · rw[List.filter_eq_self];intro a ha;have:a.1≠p.1:=fun e=>n2.1 (e ▸ List.mem_map.2 ⟨a,ha,rfl⟩);simp[←e3,this]
    rw[hd];have h4:(M.map fun p=>(I p.1,p.2)).Perm ((en.key,en.val)::(s++t').map fun p=>(I p.1,p.2)):=by
      rw[hst,e1,e2];exact (List.perm_middle.map fun p:Int×Value=>(I p.1,p.2))
    exact (h3.trans h4).cons_inv
  · rw[hl] at he;exact List.mem_of_mem_eraseIdx he
  · rw[hl];exact List.Nodup.sublist (List.Sublist.map _ (List.eraseIdx_sublist _ _)) h.bnd
theorem zb0 {ut:TypeId}(hu:c.P.underlying t=some (.map u e))(hk:c.P.underlying u=some (.int .i64))(hx:ev g E x=some (.map (some r)))(hy:ev g E y=some (I q))[R:RemM L r M F]:
    OpL c g E L ⟨d, .call {callee:= .builtin .delete,args:=#[x,y],argTypes:=#[t,ut]},ty,pos,af,gu⟩ fun v L''=>v= .tuple #[]∧L''=mp r (zj9 M q)::F:=
  .of_run fun a w hE hg hS=>by
    obtain ⟨es,clk,hok,hS⟩:=R.sat hS;have hw:=hS.at_;rcases hok.find .i64 q with ⟨j,en,h1,h2,h3,h4⟩ | ⟨h1,h2,h3⟩
    · refine ⟨_,zfj w r (.map (es.eraseIdxIfInBounds j) clk),_,?_,zfJ (hS.set rfl) (hok.del h1 h2),rfl,rfl⟩;simp[execOp,resolve,invoke,builtin,Builtin.delete_,hE.ev hg hx,hE.ev hg hy,underlying,program,getObj,Sem.run,Sem.run_bind,hu,hw,wF _ hk,zah hk h4,zdT hw]
    · have hd:zj9 M q=M:=by
        unfold zj9;rw[List.filter_eq_self];intro p hp;have:=lk_none.1 h1 p hp;simp[this]
      refine ⟨_,zfj w r (.map es clk),_,?_,zfJ (hS.set rfl) (hd.symm ▸ hok),rfl,rfl⟩;simp[execOp,resolve,invoke,builtin,Builtin.delete_,hE.ev hg hx,hE.ev hg hy,underlying,program,getObj,Sem.run,Sem.run_bind,hu,hw,wF _ hk,zah hk h3,zdT hw]
end
end Go.Sl
namespace Go.Sl
section
variable {ρ:Type}
def tbl (enc:ρ→Value)(l:List Nat)(B:Int→Option ρ):MM:=l.filterMap fun k:Nat=>(B (k:Int)).map fun x=>((k:Int),enc x)
def tb (enc:ρ→Value)(n:Nat)(B:Int→Option ρ):MM:=tbl enc (List.range' 1 n) B
def qD (B:Int→Option ρ)(k:Int)(x:Option ρ):Int→Option ρ:=fun q=>if q=k then x else B q
def ids (n:Nat)(B:Int→Option ρ):List Int:=((List.range' 1 n).filter fun k:Nat=>(B (k:Int)).isSome).map fun k:Nat=>(k:Int)
def zbi (n:Nat)(B:Int→Option ρ):Option Nat:=(List.range' 1 n).find? fun k:Nat=>(B (k:Int)).isNone
def sup (n:Nat)(B:Int→Option ρ):Prop:=∀q x,B q=some x→1≤q∧q≤n
theorem zsf (enc:ρ→Value)(l:List Nat)(B:Int→Option ρ):(tbl enc l B).map (·.1)=(l.filter fun k:Nat=>(B (k:Int)).isSome).map fun k:Nat=>(k:Int):=by
  induction l with
  | nil=>rfl
  | cons k l ih=>
    unfold tbl at ih ⊢;cases h:B (k:Int) with
    | none=>simp[h,ih]
    | some x=>simp[h,ih]
theorem zds (enc:ρ→Value)(n:Nat)(B:Int→Option ρ):(tb enc n B).map (·.1)=ids n B:=zsf enc _ B
theorem ids_nodup (n:Nat)(B:Int→Option ρ):(ids n B).Nodup:=by
  unfold ids;refine List.Pairwise.map _ (fun a b (h:a≠b) e=>h (by omega)) (List.Nodup.sublist List.filter_sublist (List.nodup_range' (step:=1)))
theorem zby (enc:ρ→Value)(n:Nat)(B:Int→Option ρ):((tb enc n B).map (·.1)).Nodup:=by rw[zds];exact ids_nodup n B
theorem zaQ (enc:ρ→Value)(n:Nat)(B:Int→Option ρ):(tb enc n B).length=(ids n B).length:=by rw[←zds enc,List.length_map]
theorem zfL (n:Nat)(B:Int→Option ρ):(ids n B).Pairwise (· <·):=by
  unfold ids;refine List.Pairwise.map _ (fun a b (h:a<b)=>by omega) (List.Pairwise.sublist List.filter_sublist (List.pairwise_lt_range' (s:=1) (n:=n) 1))
theorem mem_ids {n:Nat}{B:Int→Option ρ}{q:Int}:q∈ids n B ↔ (1≤q∧q≤n)∧(B q).isSome=true:=by
  unfold ids;constructor
  · intro h;obtain ⟨k,hk,rfl⟩:=List.mem_map.1 h;rw[List.mem_filter,List.mem_range'_1] at hk;exact ⟨by omega,hk.2⟩
  · rintro ⟨⟨h1,h2⟩,h3⟩;refine List.mem_map.2 ⟨q.toNat,List.mem_filter.2 ⟨by rw[List.mem_range'_1];omega,?_⟩,by omega⟩;rw[show ((q.toNat:Nat):Int)=q by omega];exact h3
theorem zaI (n:Nat)(B:Int→Option ρ):(ids n B).length≤n:=by
  unfold ids;rw[List.length_map];exact Nat.le_trans (List.length_filter_le _ _) (by simp)
theorem zus (enc:ρ→Value)(B:Int→Option ρ)(q:Int):∀(l:List Nat),lk (tbl enc l B) q=if 0≤q∧q.toNat∈l then (B q).map enc else none
  | []=>by simp[tbl,lk]
  | k::l=>by
    have ih:=zus enc B q l;unfold tbl at ih ⊢;by_cases hk:(k:Int)=q
    · subst hk;cases h:B (k:Int) with
      | none=>simp[h,ih]
      | some x=>simp[h,lk]
    · have hne:q.toNat≠k∨¬0≤q:=(by omega);have e:(0≤q∧q.toNat∈k::l) ↔ (0≤q∧q.toNat∈l):=by
        constructor
        · rintro ⟨h1,h2⟩;rcases List.mem_cons.1 h2 with h2 | h2
          · omega
          · exact ⟨h1,h2⟩
        · rintro ⟨h1,h2⟩;exact ⟨h1,List.mem_cons_of_mem _ h2⟩
      simp only[e];cases h:B (k:Int) with
      | none=>simp[h,ih]
      | some x=>simp[h,lk,hk,ih]
theorem zlf (enc:ρ→Value)(n:Nat)(B:Int→Option ρ)(q:Int):lk (tb enc n B) q=if 1≤q∧q≤n then (B q).map enc else none:=by
  unfold tb;rw[zus];have:(0≤q∧q.toNat∈List.range' 1 n) ↔ (1≤q∧q≤n):=(by rw[List.mem_range'_1];omega);simp only[this]
theorem zqQ (enc:ρ→Value){n:Nat}{B:Int→Option ρ}(h:sup n B)(q:Int):lk (tb enc n B) q=(B q).map enc:=by
  rw[zlf];split
  · rfl
  · rename_i hn;cases e:B q with
    | none=>rfl
    | some x=>exact absurd (h q x e) hn
theorem zed (enc:ρ→Value){n:Nat}{B:Int→Option ρ}{k:Int}{x:ρ}(hk:1≤k∧k≤n):(zgC (tb enc n B) k (enc x)).Perm (tb enc n (qD B k (some x))):=by
  refine zfG (zeO _ _ _ (zby enc n B)) (zby enc n _) fun q=>?_;rw[zmp,zlf,zlf];by_cases h:k=q
  · subst h;simp[hk,qD]
  · simp[h,qD,Ne.symm h]
theorem zyn (enc:ρ→Value){n:Nat}{B:Int→Option ρ}{k:Int}:(zj9 (tb enc n B) k).Perm (tb enc n (qD B k none)):=by
  refine zfG (zhy _ _ (zby enc n B)) (zby enc n _) fun q=>?_;rw[zmy,zlf,zlf];by_cases h:k=q
  · subst h;simp[qD]
  · simp[h,qD,Ne.symm h]
theorem zcI (enc:ρ→Value)(n:Nat):tb enc n (fun _=>none)=[]:=by
  unfold tb tbl
  induction List.range' 1 n with
  | nil=>rfl
  | cons k l ih=>simp
theorem zbU {n:Nat}{B:Int→Option ρ}{k:Int}{x:Option ρ}(h:sup n B)(hk:x.isSome=true→1≤k∧k≤n):sup n (qD B k x):=fun q y e=>by
  unfold qD at e;split at e
  · rename_i hq;subst hq;exact hk (by simp[e])
  · exact h q y e
theorem zeA (n:Nat):sup n (fun _=>(none:Option ρ)):=fun q x e=>by cases e
theorem full_iff {n:Nat}{B:Int→Option ρ}:(ids n B).length=n ↔ zbi n B=none:=by
  unfold ids zbi;rw[List.length_map,←List.countP_eq_length_filter,List.find?_eq_none];have:=List.countP_eq_length (p:=fun k:Nat=>(B (k:Int)).isSome) (l:=List.range' 1 n);rw[List.length_range'] at this;rw[this];constructor
  · intro h x hx;have:=h x hx;cases e:B (x:Int) <;> simp[e] at this ⊢
  · intro h x hx;have:=h x hx;cases e:B (x:Int) <;> simp[e] at this ⊢
theorem zbm {n k:Nat}{B:Int→Option ρ}(h:zbi n B=some k):(1≤k∧k≤n)∧B k=none∧∀j:Nat,1≤j→j<k→(B j).isSome=true:=by
  unfold zbi at h;rw[List.find?_range'_eq_some] at h;obtain ⟨h1,h2,h3⟩:=h;rw[List.mem_range'_1] at h2;refine ⟨by omega,by simpa using h1,fun j h4 h5=>?_⟩;have:=h3 j h4 h5;cases e:B (j:Int) <;> simp[e] at this ⊢
theorem zhN {n:Nat}{B:Int→Option ρ}(h:(ids n B).length≠n):∃k,zbi n B=some k:=by
  cases e:zbi n B with
  | none=>exact absurd (full_iff.2 e) h
  | some k=>exact ⟨k,rfl⟩
theorem zgw {n:Nat}{B:Int→Option ρ}{l:List Int}(h:l.Perm (ids n B)):l.mergeSort (fun x y=>decide (x≤y))=ids n B:=by
  refine List.Perm.eq_of_pairwise (le:=fun a b:Int=>a≤b) (fun a b _ _ h1 h2=>by omega) ?_ ?_ ((List.mergeSort_perm _ _).trans h)
  · have:=List.pairwise_mergeSort (le:=fun x y:Int=>decide (x≤y)) (fun a b c h1 h2=>by simp at*;omega) (fun a b=>by simp;omega) l;exact this.imp fun h=>by simpa using h
  · exact (zfL n B).imp fun h=>by omega
theorem zio {enc:ρ→Value}{n:Nat}{B:Int→Option ρ}{p:Int×Value}(h:p∈tb enc n B):∃x,B p.1=some x∧p.2=enc x∧1≤p.1∧p.1≤n:=by
  obtain ⟨q,v⟩:=p;rw[←zmP (zby enc n B),zlf] at h;split at h
  · rename_i hq;cases e:B q with
    | none=>simp[e] at h
    | some x=>simp[e] at h;exact ⟨x,rfl,h.symm,hq.1,hq.2⟩
  · cases h
end
end Go.Sl
namespace Go.Sl
section
variable {c:Cx}{g:Option (Nat×Bool)}{E:Env}{L:List HProp}{d:Option Tmp}{ty:TypeId}{pos:String}{af:Array Edge}{gu:Option (Nat×Bool)}
variable {x y z:Operand}{t u e:TypeId}{k:IntKind}{v:Value}{s:Option Addr}{b o i j n sz cap off:Nat}
theorem zgu {fs:Array Field}{f:Field}{cs:Array Value}(vs:List Value)(hu:c.P.underlying t=some (.struct fs))(hf:fs[i]? =some f)(ha:∀w,(isAgg f.type).run c.P w= .ok true w)(hz:∀w,(sizeOf f.type).run c.P w= .ok sz w)(hx:ev g E x=some (.agg cs))(hv:cs.extract f.offset (f.offset+sz)=vs.toArray):
    OpV c g E L ⟨d, .field t x i,ty,pos,af,gu⟩ (.agg vs.toArray):= .mk fun a w hE hg hS=>by
  simp[execOp,hE.ev hg hx,Instr.field,underlying,program,Sem.run,hu,hf,asAgg,part,ha,hz,hv]
end
theorem zkA {ρ:Type}(enc:ρ→Value){n:Nat}{B:Int→Option ρ}{k:Int}{v:Value}:(zj9 (zgC (tb enc n B) k v) k).Perm (tb enc n (qD B k none)):=by
  refine zfG (zhy _ _ (zeO _ _ _ (zby enc n B))) (zby enc n _) fun q=>?_;rw[zmy,zmp,zlf,zlf];by_cases h:k=q
  · subst h;simp[qD]
  · simp[h,qD,Ne.symm h]
theorem qv {cs:Array Value}{vs:List Value}(h:cs.size=vs.length):yW cs 0 vs=vs.toArray:=by
  apply Array.ext_getElem?;intro i;rw[zaU cs 0 vs (by omega)];by_cases hi:i<vs.length
  · rw[if_pos (by omega)];simp
  · rw[if_neg (by omega),Array.getElem?_eq_none (by omega),Array.getElem?_eq_none (by simp;omega)]
theorem zlV (l:List Value)(i:Nat)(v:Value):l.toArray.setIfInBounds i v=(l.set i v).toArray:=by rw[List.setIfInBounds_toArray]
end Go.Sl
namespace Go.Sl
inductive PT where
  | nil
  | q (i:Nat) (t:PT)
  | l (i:Nat) (t:PT)
  | alt (s t:PT)
  | c (t:PT)
def PT.heads:PT→List Nat
  | .l i _=>[i]
  | .alt s t=>s.heads++t.heads
  | _=>[]
section
variable {P:Program}{ops:Array Oper}{Q:Post}
def PT.ok (ops:Array Oper):PT→Bool→Nat→Array Bool→Bool
  | .nil,top,n,listed=>top && Nat.beq n 0 && (Region.ready .any ops listed).isEmpty
  | .q i t,top,n,listed=>top && (match n with | 0=>false | m+1=>(Region.ready .any ops listed).contains i && Region.free .any ops listed i && t.ok ops true m (listed.setIfInBounds i true))
  | .l i t,top,n,listed=>(!top || Region.ready .any ops listed==[i]) && (match n with | 0=>false | m+1=>t.ok ops true m (listed.setIfInBounds i true))
  | .alt s t,top,n,listed=>(!top || (!(Region.ready .any ops listed).isEmpty && (Region.ready .any ops listed).all fun j=>(s.heads++t.heads).contains j)) && s.ok ops false n listed && t.ok ops false n listed
  | .c t,top,n,listed=>top && t.ok ops true n listed
def wpT (P:Program)(ops:Array Oper)(Q:Post):PT→(World→Prop)→Act→World→Prop
  | .nil,C,a,w=>C w∧Q .normal a w
  | .q i t,C,a,w=>C w∧∃o v,ops[i]? =some o∧YieldsC P ops C o v a∧wpT P ops Q t C (a.put o.dst v) w
  | .l i t,C,a,w=>C w∧wpOp P ops Q i (wpT P ops Q t C) a w
  | .alt s t,C,a,w=>wpT P ops Q s C a w∧wpT P ops Q t C a w
  | .c t,C,a,w=>∃C':World→Prop,(∀w,C' w→C w)∧wpT P ops Q t C' a w
theorem zgM {C C':World→Prop}(h:∀w,C' w→C w):∀(fuel:Nat) (listed:Array Bool) (a:Act) (w:World),wpAnyC P ops C' Q fuel listed a w→wpAnyC P ops C Q fuel listed a w
  | 0,_,_,_,H=>⟨h _ H.1,H.2⟩
  | fuel+1,_,_,_,H=>⟨h _ H.1,H.2.1,fun i hi=>wpOp_mono (fun a w=>zgM h fuel _ a w) (H.2.2 i hi)⟩
theorem zaE (hs:Region.noSelect ops=true)(hQ:∀c a d v w,Q (.panic c) (a.put d v) w→Q (.panic c) a w):∀(t:PT),
    (∀(C:World→Prop) n listed a w,t.ok ops true n listed=true→wpT P ops Q t C a w→wpAnyC P ops C Q n listed a w)∧
    (∀(C:World→Prop) n listed a w i,t.ok ops false n listed=true→wpT P ops Q t C a w→i∈t.heads→∃m,n=m+1∧C w∧wpOp P ops Q i (wpAnyC P ops C Q m (listed.setIfInBounds i true)) a w)
  | .nil=>⟨fun C n listed a w ho h=>by
      simp only[PT.ok,Bool.and_eq_true,Bool.true_and] at ho;have:=Nat.eq_of_beq_eq_true ho.1;subst this;exact ⟨h.1,by simpa using ho.2,h.2⟩,fun C n listed a w i ho=>by simp[PT.ok] at ho⟩
  | .q i t=>⟨fun C n listed a w ho h=>by
      cases n with
      | zero=>simp[PT.ok] at ho
      | succ m=>
        simp only[PT.ok,Bool.and_eq_true,Bool.true_and] at ho;obtain ⟨⟨hr,hf⟩,hp'⟩:=ho;obtain ⟨hw,o,v,hi,hy,h⟩:=h;exact zfO hi (Region.noSelect_spec hs) (fun c a w=>hQ c a _ _ w) m listed a w (Region.free_spec hi hf) (by simpa using hr) hy hw
          ((zaE hs hQ t).1 C m _ _ _ hp' h),fun C n listed a w i ho=>by simp[PT.ok] at ho⟩
  | .l i t=>⟨fun C n listed a w ho h=>by
      cases n with
      | zero=>simp[PT.ok] at ho
      | succ m=>
        simp only[PT.ok,Bool.and_eq_true,Bool.not_true,Bool.false_or,beq_iff_eq] at ho;refine ⟨h.1,fun h0=>(by rw[ho.1] at h0;cases h0),fun j hj=>?_⟩;rw[ho.1] at hj;have:j=i:=(by simpa using hj);subst this;exact wpOp_mono (fun a w=>(zaE hs hQ t).1 C m _ a w ho.2) h.2,
      fun C n listed a w j ho h hj=>by
        cases n with
        | zero=>simp[PT.ok] at ho
        | succ m=>
          simp only[PT.ok,Bool.and_eq_true,Bool.not_false,Bool.true_or,true_and] at ho;have:j=i:=(by simpa [PT.heads] using hj);subst this;exact ⟨m,rfl,h.1,wpOp_mono (fun a w=>(zaE hs hQ t).1 C m _ a w ho) h.2⟩⟩
  | .alt s t=>by
      have h2:∀(C:World→Prop) n listed a w i,s.ok ops false n listed=true→t.ok ops false n listed=true→wpT P ops Q (.alt s t) C a w→i∈s.heads++t.heads→∃m,n=m+1∧C w∧wpOp P ops Q i (wpAnyC P ops C Q m (listed.setIfInBounds i true)) a w:=by
        intro C n listed a w i h1 h2 h hi;rcases List.mem_append.1 hi with hi | hi
        · exact (zaE hs hQ s).2 C n listed a w i h1 h.1 hi
        · exact (zaE hs hQ t).2 C n listed a w i h2 h.2 hi
      refine ⟨fun C n listed a w ho h=>?_,fun C n listed a w i ho h hi=>?_⟩
      · simp only[PT.ok,Bool.and_eq_true,Bool.not_true,Bool.false_or] at ho;obtain ⟨⟨⟨hne,hall⟩,hs1⟩,ht1⟩:=ho;cases hr:Region.ready .any ops listed with
        | nil=>rw[hr] at hne;simp at hne
        | cons i0 rest=>
          rw[hr] at hall;have hin:∀j∈i0::rest,j∈s.heads++t.heads:=fun j hj=>by
            have:=List.all_eq_true.1 hall j hj;simpa using this
          obtain ⟨m,rfl,hC,_⟩:=h2 C n listed a w i0 hs1 ht1 h (hin i0 (by simp));refine ⟨hC,fun h0=>(by rw[hr] at h0;cases h0),fun j hj=>?_⟩;rw[hr] at hj;obtain ⟨m',he,_,hw⟩:=h2 C (m+1) listed a w j hs1 ht1 h (hin j hj);have:m'=m:=(by omega);subst this;exact hw
      · simp only[PT.ok,Bool.and_eq_true,Bool.not_false,Bool.true_or,true_and] at ho;exact h2 C n listed a w i ho.1 ho.2 h (by simpa [PT.heads] using hi)
  | .c t=>⟨fun C n listed a w ho h=>by
      simp only[PT.ok,Bool.true_and] at ho;obtain ⟨C',hC,h⟩:=h;exact zgM hC _ _ _ _ ((zaE hs hQ t).1 C' n listed a w ho h),fun C n listed a w i ho=>by simp[PT.ok] at ho⟩
theorem zl1 {C:World→Prop}{id:Nat}{a:Act}{w:World}{t:PT}(hm:P.follows .mixedOrders=true)(hs:Region.noSelect ops=true)
    (hQ:∀c a d v w,Q (.panic c) (a.put d v) w→Q (.panic c) a w) (hp:t.ok ops true ops.size (Array.replicate ops.size false)=true)
    (h:wpT P ops Q t C a {w with drawn:=w.drawn+1}):(Code.region id ops true).wp P Q a w:=
  wp_region_any hm (zd0 _ _ _ _ ((zaE hs hQ t).1 C _ _ a _ hp h))
end
def KT (c:Cx)(all:List Oper)(Lf:List HProp)(t:PT)(K:List KI):List KI:= .fin (fun a w=>wpT c.P all.toArray (kq c.P c.Q K) t (fun w=>Sat c.w0 w Lf) a w)::K
section
variable {c:Cx}{E:Env}{L Lf Lf':List HProp}{d:Nat}{ty:TypeId}{pos:String}{af:Array Edge}{K:List KI}{all:List Oper}{op:Op}{v:Value}{N:Value→List HProp→Prop}{t s:PT}
theorem zmt {id:Nat}{l:List Oper}{Lf:List HProp}(t:PT)(hm:c.P.follows .mixedOrders=true)(hs:Region.noSelect l.toArray=true)(hp:t.ok l.toArray true l.length (Array.replicate l.length false)=true)
    (h:G c (KT c l Lf t K) E L):G c (.code (.region id l.toArray true)::K) E L:=fun a w hE hS=>
  zl1 (t:=t) hm hs (fun ch a d v w hq=>absurd hq za8) (by simpa using hp) (h a _ hE (hS.drew _))
theorem zfr [SC:Sub L Lf](h:G c K E L):G c (KT c all Lf .nil K) E L:=fun a w hE hS=>⟨SC.sat hS,h a w hE hS⟩
theorem t_v {i:Nat}(hi:all[i]? =some ⟨some d,op,ty,pos,af,none⟩)[SC:Sub L Lf](h:OpV c none E Lf ⟨some d,op,ty,pos,af,none⟩ v)(hd:dOk c.n d E=true)
    (k:G c (KT c all Lf t K) ((d,none,v)::E) L):G c (KT c all Lf (.q i t) K) E L:=fun a w hE hS=>
  ⟨SC.sat hS,_,v,by simpa using hi, .inl ⟨by simp[Region.wanted],fun w' hw'=> .inl (h.out a w' hE (yD a) hw')⟩,k _ w (hE.put1 hd) hS⟩
theorem t_l {i:Nat}(hi:all[i]? =some ⟨some d,op,ty,pos,af,none⟩)[SC:Sub L Lf](h:OpL c none E L ⟨some d,op,ty,pos,af,none⟩ N)(hd:dOk c.n d E=true)
    (k:∀v L',N v L'→G c (KT c all Lf t K) ((d,none,v)::E) L'):G c (KT c all Lf (.l i t) K) E L:=fun a w hE hS=>by
  refine ⟨SC.sat hS,?_⟩;unfold wpOp;simp only[List.getElem?_toArray,hi];rw[if_pos (by simp[Region.wanted])];exact .inl (h.out a w hE (yD a) hS _ _ fun v w' L' hS' hN=>k v L' hN _ w' (hE.put1 hd) hS')
theorem zwe {i:Nat}(hi:all[i]? =some ⟨none,op,ty,pos,af,none⟩)[SC:Sub L Lf](h:OpL c none E L ⟨none,op,ty,pos,af,none⟩ N)
    (k:∀v L',N v L'→G c (KT c all Lf t K) E L'):G c (KT c all Lf (.l i t) K) E L:=fun a w hE hS=>by
  refine ⟨SC.sat hS,?_⟩;unfold wpOp;simp only[List.getElem?_toArray,hi];rw[if_pos (by simp[Region.wanted])];exact .inl (h.out a w hE (yD a) hS _ _ fun v w' L' hS' hN=>k v L' hN _ w' hE hS')
theorem zh8 (h1:G c (KT c all Lf s K) E L)(h2:G c (KT c all Lf t K) E L):G c (KT c all Lf (.alt s t) K) E L:=fun a w hE hS=>⟨h1 a w hE hS,h2 a w hE hS⟩
theorem zil (Lf':List HProp)[SC:Sub Lf' Lf](h:G c (KT c all Lf' t K) E L):G c (KT c all Lf (.c t) K) E L:=fun a w hE hS=>⟨fun w=>Sat c.w0 w Lf',fun w hw=>SC.sat hw,h a w hE hS⟩
end
end Go.Sl
namespace Go.Sl
section
variable {c:Cx}{g:Option (Nat×Bool)}{E:Env}{L L':List HProp}{d:Option Tmp}{ty:TypeId}{pos:String}{af:Array Edge}{gu:Option (Nat×Bool)}{K:List KI}
variable {x y z:Operand}{t u e:TypeId}{k:IntKind}{v v1 v2:Value}{s:Option Addr}{b o i j n sz cap off:Nat}
theorem zwm (m q r:Nat)(hx:ev g E x=some (I (m:Int)))(hy:ev g E y=some (I ((2 ^ q*r:Nat):Int)))(hm:m<2 ^ q)(hb:m+2 ^ q*r<9223372036854775808):OpV c g E L ⟨d, .binOp .or t x y u,ty,pos,af,gu⟩ (I ((m+2 ^ q*r:Nat):Int)):= .mk fun a w hE hg hS=>by
  have h1:IntKind.i64.wrap (((BitVec.ofInt IntKind.i64.bits (m:Int) ||| BitVec.ofInt IntKind.i64.bits ((2 ^ q*r:Nat):Int)).toNat:Nat):Int)=((m+2 ^ q*r:Nat):Int):=by
    have e1:(BitVec.ofInt IntKind.i64.bits (m:Int)).toNat=m:=by
      show (BitVec.ofInt 64 (m:Int)).toNat=m;rw[BitVec.toNat_ofInt];omega
    have e2:(BitVec.ofInt IntKind.i64.bits ((2 ^ q*r:Nat):Int)).toNat=2 ^ q*r:=by
      show (BitVec.ofInt 64 _).toNat=_;rw[BitVec.toNat_ofInt];omega
    rw[BitVec.toNat_or,e1,e2,Nat.or_comm,←Nat.two_pow_add_eq_or_of_lt hm,Nat.add_comm];show IntKind.wrap .i64 _=_;exact w64 (by omega)
  have hrun:(Op.intBits .or .i64 (m:Int) ((2 ^ q*r:Nat):Int)).run c.P w= .ok (I ((m+2 ^ q*r:Nat):Int)) w:=by
    show (Sem.pure (Value.int .i64 _)).run c.P w=_;rw[h1];rfl
  simp only[execOp,hE.ev hg hx,hE.ev hg hy,eqGuard,binOp];generalize ((2 ^ q*r:Nat):Int)=A at*;generalize ((m+2 ^ q*r:Nat):Int)=B at*;simp[hrun]
theorem zqe (p:List UInt8):(Array.mk p).map (fun b=>Value.int .u8 b.toNat)=(qr p).flatten.toArray:=by
  apply Array.ext';simp[zcQ,Function.comp_def]
theorem zo8 {P:Program}{w:World}{a:Addr}:∃w',(markStringish a).run P w= .ok () w'∧w'.os=w.os∧w'.tape=w.tape∧w'.output=w.output∧w'.heap.size=w.heap.size∧(∀c,c≠a.block→w'.heap[c]? =w.heap[c]?)∧
    ∀cs T f,w.heap[a.block]? =some (.cells cs T f)→∃f',w'.heap[a.block]? =some (.cells cs T f'):=by
  unfold markStringish;cases hs:w.shape? a.block with
  | none=>
    refine ⟨w,by simp[hs],rfl,rfl,rfl,rfl,fun _ _=>rfl,fun cs T f h=>⟨f,h⟩⟩
  | some en=>
    obtain ⟨e,n⟩:=en;refine ⟨w.freeze {block:=a.block,off:=n} 1,by simp[hs],?_⟩;unfold World.freeze;rw[if_neg (by decide)];refine ⟨rfl,rfl,rfl,by simp,fun c hc=>?_,fun cs T f h=>?_⟩
    · simp only[Array.getElem?_modify];rw[if_neg (by omega)]
    · obtain ⟨lo,hi⟩:=f;refine ⟨_,by simp only[Array.getElem?_modify];rw[if_pos trivial,h];rfl⟩
theorem zoh {p:List UInt8}(hu:c.P.underlying t=some .string)(hu2:c.P.underlying u=some (.slice e))(he:c.P.underlying e=some (.int .u8))(hx:ev g E x=some (Str p)):
    OpL c g E L ⟨d, .convert t u x,ty,pos,af,gu⟩ fun v L'=>∃b cap,v=sl (some ⟨b,0,none⟩) p.length cap∧p.length≤cap∧L'=roL 1 (some ⟨b,0,none⟩) (qr p)::L:=
  .of_run fun a w hE hg hS=>by
    obtain ⟨cap,hcap⟩:∃q,(Question.appendCap p.length 0 e).cut (w.tape w.drawn (.appendCap p.length 0 e))=q:=⟨_,rfl⟩;have hle:p.length≤cap:=(by rw[←hcap];simp[Question.cut]);obtain ⟨w1,hw1⟩:∃w1,w.drew.alloc (.cells ((qr p).flatten.toArray++Array.replicate (cap - p.length) (By 0)) e (0,0))=w1:=⟨_,rfl⟩;have hS1:Sat c.w0 w1 (pt w.heap.size (.cells ((qr p).flatten.toArray++Array.replicate (cap - p.length) (By 0)) e (0,0))::L):=(by rw[←hw1];exact (hS.drew (w.drawn+1)).alloc _);obtain ⟨w2,hm,m1,m2,m3,m4,m5,m6⟩:=zo8 (P:=c.P) (w:=w1) (a:=⟨w.heap.size,0,none⟩);obtain ⟨f',hf'⟩:=m6 _ _ _ hS1.at_;refine ⟨sl (some ⟨w.heap.size,0,none⟩) p.length cap,w2,_,?_,?_,w.heap.size,cap,rfl,hle,rfl⟩
    · have hsz:ByteArray.size ⟨⟨p⟩⟩=p.length:=rfl;have hrun:(Conv.stringToBytes e ⟨⟨p⟩⟩).run c.P w= .ok (sl (some ⟨w.heap.size,0,none⟩) p.length cap) w2:=by
        unfold Conv.stringToBytes;rw[hsz];simp only[Sem.run_bind,choose,Sem.run,Result.andThen_ok,Question.forced];rw[hcap,zqe];simp only[newRow,newObj,Sem.run_bind,Sem.run_map,Sem.run,Result.andThen_ok];change ((markStringish ⟨w.heap.size,0,none⟩).run c.P (w.drew.alloc (.cells ((qr p).flatten.toArray++Array.replicate (cap - p.length) (By 0)) e (0,0)))).andThen (fun _ w'=> .ok (sl (some ⟨w.heap.size,0,none⟩) p.length cap) w')=_;rw[hw1,hm]
        rfl
      simp only[execOp,hE.ev hg hx,convert];simp[underlying,program,Sem.run,hu,hu2,he,hrun]
    · have h3:=hS1.head (w':=w2) (L1:=[roL 1 (some ⟨w.heap.size,0,none⟩) (qr p)]) m1 m2 m3 (by omega) (fun m hA hf=>by
        refine ⟨fun _=>Res.one w.heap.size (.cells ((qr p).flatten.toArray++Array.replicate (cap - p.length) (By 0)) e f',true),OkL.one (.inr ⟨w.heap.size,0,_,rfl,Res.one_self,?_⟩) fun c' x hx=>?_,fun n hn hdj=>⟨fun c' x hx=>?_,fun i _ c' x y hx hy=>?_⟩⟩
        · intro j row hj f v hf';have hr:∀r∈qr p,r.length=1:=(by intro r hr;simp[qr] at hr;obtain ⟨_,_,rfl⟩:=hr;rfl);have hR:Rows (.cells ((qr p).flatten.toArray++Array.replicate (cap - p.length) (By 0)) e (0,0)) 0 1 (qr p):=Rows.of_flat (by decide) hr fun k v hk=>by
            have hlt:=(List.getElem?_eq_some_iff.1 hk).1;rw[Nat.zero_add,Array.getElem?_append_left (by simpa using hlt)];simpa using hk
          exact hR j row hj f v hf'
        · obtain ⟨rfl,rfl⟩:=Res.one_eq hx;exact hf'
        · have hne:c'≠w.heap.size:=by
            rintro rfl;have:=(hdj _ x _ hx hA).2;cases this
          rw[m5 c' hne];exact hn c' x hx
        · obtain ⟨rfl,rfl⟩:=Res.one_eq hx;have:=(hdj _ y _ hy hA).2;cases this)
      exact h3
theorem ziC {P:Program}{w:World}(p:List UInt8):(Builtin.firstCells 1 p.length (Str p)).run P w= .ok (qr p).flatten.toArray w:=by
  have:=Lib.run_firstCells_string (P:=P) w 1 ⟨⟨p⟩⟩;rw[show (ByteArray.mk ⟨p⟩).size=p.length from rfl] at this;rw[this];congr 1;apply Array.ext';simp[Lib.strCells,zcQ,Function.comp_def]
theorem zpT {P:Program}{w:World}(p:List UInt8):(Builtin.lenOf (Str p)).run P w= .ok p.length w:=by simp[Builtin.lenOf,Sem.run_pure];rfl
theorem zc9 {P:Program}{w w':World}{base:Option Addr}{p:List UInt8}(hu:P.underlying t=some (.slice e))(hu2:P.underlying u=some .string)(hz:∀w,(sizeOf e).run P w= .ok 1 w)(hfit:n+p.length≤cap)
    (hs:(match base with | some a=>storeCells (a.add (n*1)) (qr p).flatten | none=>(pure ():Sem Unit)).run P w= .ok () w'):(Builtin.append_ #[t,u] ty #[.slice base n cap,Str p]).run P w= .ok (.slice base (n+p.length) cap) w':=by
  have hf:=ziC (P:=P) (w:=w) p;have hl:=zpT (P:=P) (w:=w) p;unfold Builtin.append_;cases base with
  | none=>
    have e:w=w':=(by injection hs);subst e;simp[underlying,program,Sem.run,hu,hu2,hz,hl,hf,hfit]
  | some a=>simp only[Nat.mul_one] at hs;simp[underlying,program,Sem.run,hu,hu2,hz,hl,hf,hfit,hs]
theorem zgb {P:Program}{w:World}{base:Option Addr}{zv:Value}{p:List UInt8}{old:Array Value}{info:TypeInfo}(hu:P.underlying t=some (.slice e))(hu2:P.underlying u=some .string)(hz:∀w,(sizeOf e).run P w= .ok 1 w)(hzv:∀w,(zeroValue e).run P w= .ok zv w)(hti:∀w,(typeInfo e).run P w= .ok info w)
    (ho:(Builtin.firstCells 1 n (.slice base n cap)).run P w.drew= .ok old w.drew) (hfit:cap<n+p.length) (hb:n+p.length≤1073741824∧0<info.bytes∧info.bytes≤4096):
    ∃newCap,n+p.length≤newCap∧(Builtin.append_ #[t,u] ty #[.slice base n cap,Str p]).run P w= .ok (.slice (some ⟨w.heap.size,0,none⟩) (n+p.length) newCap) (w.drew.alloc (.cells (old++(qr p).flatten.toArray++Builtin.zeroCells zv.cells (newCap - (n+p.length))) e (0,0))):=by
  have hf:=ziC (P:=P) (w:=w.drew) p;have hl:=zpT (P:=P) (w:=w) p;have c1:¬n+p.length≤cap:=(by omega);have c3:¬(Builtin.nextslicecap (n+p.length) cap*info.bytes > 2 ^ 48):=by
    have h1:=zfK (n+p.length) cap hfit;have h2:Builtin.nextslicecap (n+p.length) cap*info.bytes≤(2*1073741824+192)*4096:=Nat.mul_le_mul (by omega) hb.2.2;omega
  have hask:=fun (w:World) (k:Nat)=>zcN (P:=P) (w:=w) k;refine ⟨(Question.appendCap (n+p.length) cap e).cut (w.tape w.drawn (.appendCap (n+p.length) cap e)),by simp[Question.cut],?_⟩;have e0:info.bytes≠0:=(by omega);unfold Builtin.append_;simp[underlying,program,Sem.run,hu,hu2,hz,hl,c1,hti,choose,Question.forced];rw[if_neg (by omega),if_neg (by simpa using c3)];simp[hask,hf,ho,hzv,newRow,newObj,Sem.run,Question.cut]
theorem wO:∀(p:List UInt8),∀r∈qr p,r.length=1:=fun p r hr=>by simp[qr] at hr;obtain ⟨_,_,rfl⟩:=hr;rfl
theorem zoE (p q:List UInt8):qr (p++q)=qr p++qr q:=by simp[qr]
theorem zsA {zv:Value}{info:TypeInfo}{T:Nat}{l p:List UInt8}{F:List HProp}(hu:c.P.underlying t=some (.slice T))(hu2:c.P.underlying u=some .string)(hz:∀w,(sizeOf T).run c.P w= .ok 1 w)(hzv:∀w,(zeroValue T).run c.P w= .ok zv w)(hzs:zv.cells.size=1)(hti:∀w,(typeInfo T).run c.P w= .ok info w)
    (hx:ev g E x=some (sl s n cap)) (hy:ev g E y=some (Str p)) [R:OwR L s T 1 cap (qr l) F] (hn:l.length=n) (hb:n+p.length≤1073741824∧0<info.bytes∧info.bytes≤4096):
    OpL c g E L ⟨d, .call {callee:= .builtin .append,args:=#[x,y],argTypes:=#[t,u]},ty,pos,af,gu⟩ fun v L'=>∃s' cap',v=sl s' (l++p).length cap'∧(p≠ []→s'≠none)∧L'=owL T 1 s' cap' (qr (l++p))::F:=
  .of_run fun a w hE hg hS=>by
    subst hn;rw[zoE,List.length_append];have hS1:=R.sat hS;have fl1:ones (qr p).flatten=true:=zdb fun v hv=>by
      rw[zcQ] at hv;simp at hv;obtain ⟨_,_,rfl⟩:=hv
      rfl
    have ex:=fun w' v h=>zcP (d:=d) (ty:=ty) (pos:=pos) (af:=af) (gu:=gu) (t:=t) (u:=u) (r:= .ok v w') (P:=c.P) (w:=w) (hE.ev hg hx) (hE.ev hg hy) h;by_cases hfit:l.length+p.length≤cap
    · rcases yP hS1 with ⟨rfl,hl0,rfl,hF⟩ | ⟨b,cs,rfl,a1,a2,a3,a4,hP⟩
      · have hl:l.length=0:=(by omega);have hp0:p=[]:=List.length_eq_zero_iff.1 (by omega);subst hp0;refine ⟨sl none (l.length+0) 0,w,_,ex w _ ?_,hS1,none,0,rfl,fun h=>absurd rfl h,by simp[qr]⟩;exact zc9 (base:=none) hu hu2 hz hfit rfl
      · obtain ⟨hle,hrows⟩:=zdm (T:=T) (news:=qr p) (by decide) a1 (by rw[wP,wP];exact hfit) a3 (wO p) a4;rw[wP] at hle hrows a2;have hst:=yJ (P:=c.P) b (l.length*1) T (qr p).flatten w cs 0 hP.at_ (by omega) fl1;refine ⟨sl (some ⟨b,0,none⟩) (l.length+p.length) cap,zfj w b (.cells (yW cs (l.length*1) (qr p).flatten) T (0,0)),_,ex _ _ ?_,?_,some ⟨b,0,none⟩,cap,rfl,(fun _ h=>by cases h),rfl⟩
        · exact zc9 (base:=some ⟨b,0,none⟩) hu hu2 hz hfit (by simpa [zaV] using hst)
        · refine wY (hP.set (o':= .cells (yW cs (l.length*1) (qr p).flatten) T (0,0)) rR) (by rw[wH,a1]) (by simpa [wP] using hfit) ?_ hrows;intro r hr;rcases List.mem_append.1 hr with h | h
          · exact wO l r h
          · exact wO p r h
    · have hold:qr l=[]∨∃b off o,s=some ⟨b,off,none⟩∧w.heap[b]? =some o∧Rows o off 1 (qr l):=by
        rcases yP hS1 with ⟨rfl,h0,rfl,hF⟩ | ⟨b,cs,rfl,a1,a2,a3,a4,hP⟩
        · exact .inl h0
        · exact .inr ⟨b,0,_,rfl,hP.at_,a4⟩
      have hfo:(Builtin.firstCells 1 l.length (sl s l.length cap)).run c.P w.drew= .ok (qr l).flatten.toArray w.drew:=zdA (by decide) (wO l) (wP l) hold;obtain ⟨newCap,hc,hrun⟩:=zgb (ty:=ty) (t:=t) (u:=u) (cap:=cap) (n:=l.length) (p:=p) hu hu2 hz hzv hti hfo (by omega) hb;refine ⟨_,_,_,ex _ _ hrun,?_,some ⟨w.heap.size,0,none⟩,newCap,rfl,(fun _ h=>by cases h),rfl⟩;have hS2:Sat c.w0 (w.drew.alloc (.cells ((qr l).flatten.toArray++(qr p).flatten.toArray++Builtin.zeroCells zv.cells (newCap - (l.length+p.length))) T (0,0))) _:=(hS1.tail.drew (w.drawn+1)).alloc _;refine wY hS2 ?_ (by simpa [wP] using hc) ?_ (zdv (by decide) (wO l) (wO p))
      · simp only[Array.size_append,List.size_toArray,wc _ (wO l),wc _ (wO p),zbb,hzs,wP];omega
      · intro r hr;rcases List.mem_append.1 hr with h | h
        · exact wO l r h
        · exact wO p r h
theorem l_usd {T:Nat}{l:List UInt8}{F:List HProp}(hx:ev g E x=some (sl s n cap))[R:OwR L s T 1 cap (qr l) F](h0:l≠ []∨s=none):
    OpL c g E L ⟨d, .call {callee:= .builtin .unsafeSliceData,args:=#[x],argTypes:=#[t]},ty,pos,af,gu⟩ fun v L'=>v= .pointer s∧L'=L:=
  .of_run fun a w hE hg hS=>by
    refine ⟨.pointer s,w,L,?_,hS,rfl,rfl⟩;have hrun:(Builtin.unsafeSliceData_ #[t] ty #[sl s n cap]).run c.P w= .ok (.pointer s) w:=by
      cases s with
      | none=>rfl
      | some ad=>
        refine Lib.run_unsafeSliceData_row w _ _ ad n cap ?_;rcases yP (R.sat hS) with ⟨h,_⟩ | ⟨b,cs,_,a1,a2,_⟩
        · cases h
        · rcases h0 with h | h
          · rw[wP] at a2;have:l.length≠0:=fun e=>h (List.length_eq_zero_iff.1 e);omega
          · cases h
    simp[execOp,resolve,invoke,builtin,hE.ev hg hx,hrun]
theorem zxR {T:Nat}{l:List UInt8}{F:List HProp}{it:TypeId}(hp:c.P.underlying t=some (.pointer T))(hc:c.P.cellsOf T=1)(hx:ev g E x=some (.pointer s))(hy:ev g E y=some (I (n:Int)))[R:OwR L s T 1 cap (qr l) F](hn:l.length=n)(h0:l≠ []∨s=none)(h63:l.length≤9223372036854775807):
    OpL c g E L ⟨d, .call {callee:= .builtin .unsafeString,args:=#[x,y],argTypes:=#[t,it]},ty,pos,af,gu⟩ fun v L'=>v=Str l∧L'=F:=
  .of_run fun a w hE hg hS=>by
    subst hn;have hS1:=R.sat hS;have ex:=fun w' v (h:(Builtin.unsafeString_ #[t,it] ty #[.pointer s,I (l.length:Int)]).run c.P w= .ok v w')=>show (execOp a.eval ⟨d, .call {callee:= .builtin .unsafeString,args:=#[x,y],argTypes:=#[t,it]},ty,pos,af,gu⟩).run c.P w= .ok (.value v) w' by
      simp[execOp,resolve,invoke,builtin,hE.ev hg hx,hE.ev hg hy,h]
    rcases yP hS1 with ⟨rfl,hl0,rfl,hF⟩ | ⟨b,cs,rfl,a1,a2,a3,a4,hP⟩
    · have:l=[]:=(by simpa [qr] using hl0);subst this;exact ⟨Str [],w,F,ex w _ (Lib.run_unsafeString_none w t it ty none),hF,rfl,rfl⟩
    · have hne:l≠ []:=(by rcases h0 with h | h;exact h;cases h);have hh:=hP.at_;have hsh:w.shape? b=some (T,cs.size):=(by unfold World.shape?;rw[hh]);have hcell:∀j x,l[j]? =some x→w.cell? ((⟨b,0,none⟩:Addr).add j)=some (.int .u8 x.toNat):=fun j x hj=>by
        have:=a4 j [By x.toNat] (by simp[qr,hj]) 0 _ rfl;rw[zaV];exact za1 hh (by simpa using this)
      have hrun:=Lib.run_unsafeString_row (P:=c.P) w t it ty T hp hc b cs.size hsh l hne (by rw[a1];rw[wP] at a2;omega) h63 hcell;refine ⟨Str l,w.freeze ⟨b,0,none⟩ l.length,F,ex _ _ hrun,?_,rfl,rfl⟩;have hlt:l.length≠0:=fun e=>hne (List.length_eq_zero_iff.1 e);have h3:=hP.head (w':=w.freeze ⟨b,0,none⟩ l.length) (L1:=[]) (by unfold World.freeze;rw[if_neg hlt]) (by unfold World.freeze;rw[if_neg hlt]) (by unfold World.freeze;rw[if_neg hlt]) (by unfold World.freeze;rw[if_neg hlt];simp) (fun m hA hf=>by
        refine ⟨fun _=>m,⟨fun i A h=>by simp at h,fun i j h=>by simp at h⟩,fun n hn hdj=>⟨fun c' x hx=>?_,fun i h=>by simp at h⟩⟩;have hne':b≠c':=by
          rintro rfl;have:=(hdj _ x _ hx hA).2;cases this
        have:=hn c' x hx;unfold World.freeze;rw[if_neg hlt];simp only[Array.getElem?_modify];rw[if_neg hne'];exact this)
      exact h3
theorem zwf {cs:Array Value}{T:TypeId}{f:Nat×Nat}(hu:c.P.underlying t=some (.pointer e))(hu2:c.P.underlying u=some .unsafePointer)(hz:∀w,(sizeOf e).run c.P w= .ok sz w)(h0:0<sz)(hx:ev g E x=some (ptr b 0))[hh:Has L b (.cells cs T f)](hs:0<cs.size):
    OpV c g E L ⟨d, .convert t u x,ty,pos,af,gu⟩ (ptr b 0):= .mk fun a w hE hg hS=>by
  have h1:=hh.out _ _ hS;have hsh:w.shape? b=some (T,cs.size):=(by unfold World.shape?;rw[h1]);have hsz:sz≠0:=(by omega);have hcs:¬cs.size=0:=(by omega);have hrun:(Conv.unsafePointer t u (ptr b 0)).run c.P w= .ok (ptr b 0) w:=by
    unfold Conv.unsafePointer;simp[underlying,program,Sem.run,hu,hu2,Conv.seenAt,viewAt,cellsIn,hsh,hz,hsz,hcs]
  simp[execOp,hE.ev hg hx,convert,underlying,program,Sem.run,hu,hu2,hrun]
theorem zok {P:Program}{e:TypeId}{cells:Nat}(hc:P.cellsOf e=cells)(h0:0<cells):liesAt P P.depth e (cells / cells) 0 e 1=true:=by
  have hd:P.depth=(2*(P.types.size+Made.depth)+1)+1:=rfl;rw[hd];simp only[liesAt,Bool.or_eq_true];left;rw[hd];simp[rowAt,hc,sameLayout,Nat.div_self h0];omega
theorem zhf {P:Program}{w:World}(h:(sizeOf e).run P w= .ok sz w):P.cellsOf e=sz:=by
  unfold Program.cellsOf;cases hi:P.info? e with
  | none=>simp[sizeOf,typeInfo,program,Sem.run,hi] at h
  | some i=>simp[sizeOf,typeInfo,program,Sem.run,hi] at h;simpa using h
theorem zuS {cs:Array Value}{f:Nat×Nat}(hu:c.P.underlying t=some .unsafePointer)(hu2:c.P.underlying u=some (.pointer e))(hz:∀w,(sizeOf e).run c.P w= .ok sz w)(h0:0<sz)(hx:ev g E x=some (ptr b 0))[hh:Has L b (.cells cs e f)](hs:cs.size=sz):
    OpV c g E L ⟨d, .convert t u x,ty,pos,af,gu⟩ (ptr b 0):= .mk fun a w hE hg hS=>by
  have h1:=hh.out _ _ hS;have hsh:w.shape? b=some (e,cs.size):=(by unfold World.shape?;rw[h1]);have hc:=zhf (hz w);have hl:=zok hc h0;have hsz:sz≠0:=(by omega);have hrun:(Conv.unsafePointer t u (ptr b 0)).run c.P w= .ok (ptr b 0) w:=by
    unfold Conv.unsafePointer;simp[underlying,program,Sem.run,hu,hu2,Conv.seenAt,viewAt,hsh,variablesAt,hs,hc,hl,hz]
  simp[execOp,hE.ev hg hx,convert,underlying,program,Sem.run,hu,hu2,hrun]
theorem zoi {p:Addr}(hu:c.P.underlying t=some (.pointer e))(hz:∀w,(sizeOf e).run c.P w= .ok sz w)(hx:ev g E x=some (.pointer (some p)))(hy:ev g E y=some (.pointer (some p))):OpV c g E L ⟨d, .binOp .neq t x y u,ty,pos,af,gu⟩ (Bo false):= .mk fun a w hE hg hS=>by
  have hrun:(Op.equal t (.pointer (some p)) (.pointer (some p))).run c.P w= .ok true w:=by
    show (Op.equalIn (9999+1) _ _ _).run _ _=_;unfold Op.equalIn;simp[underlying,program,Sem.run,hu,hz,samePointer,sameAddr]
  simp only[execOp,hE.ev hg hx,hE.ev hg hy,eqGuard,binOp] at hrun ⊢;simp[hrun,Sem.run]
theorem zwC {p:Option Addr}(hu:c.P.underlying t=some (.pointer e))(hx:ev g E x=some (.pointer p)):OpV c g E L ⟨d, .binOp .neq t x (.const (.pointer none)) u,ty,pos,af,gu⟩ (Bo (!p.isNone)):= .mk fun a w hE hg hS=>by
  have h3:a.eval (.const (.pointer none))= .pointer none:=rfl;have h4:=znT (P:=c.P) (w:=w) (p:=p) hu;simp only[execOp,hE.ev hg hx,h3,eqGuard,binOp] at h4 ⊢;simp[h4,Sem.run]
end
end Go.Sl
namespace Go.Sl
abbrev FW:=Fence.wide
section
variable {P:Program}{l:Nat}{Q Q':Post}{ops:Array Oper}
def zcD:List Oper→Bool
  | []=>true
  | o::r=>(match o.op with | .defer _=>false | _=>true) && zcD r
theorem zej:∀{r:List Oper} {o:Oper},zcD r=true→o∈r→∀c,o.op≠ .defer c
  | [],o,_,hm,_=>by cases hm
  | x::r,o,h,hm,c=>by
    simp only[zcD,Bool.and_eq_true] at h;rcases List.mem_cons.1 hm with rfl | hm
    · intro e;rw[e] at h;exact absurd h.1 (by simp)
    · exact zej h.2 hm c
def Closed (Q:Post):Prop:=(∀ch a w,¬Q (.panic ch) a w)∧∀a w,¬Q .outgrown a w
theorem Closed.lets (h:Closed Q'):¬LetsOut Q':=fun ⟨a,w,hq⟩=>h.2 a w hq
theorem zru {o:Oper}{a:Act}{w:World}{nx:Act→World→Prop}(hnd:∀c,o.op≠ .defer c)(hc:Closed Q')(h:o.wp P a w nx Q'):o.wpIn (FW.inRound l) 0 P a w nx Q:=by
  refine ⟨fun _ _=>trivial,?_⟩;rw[show (FW.inRound l).round=some l from rfl,Oper.semAt_some l a.eval o hnd];unfold Oper.wp at h;generalize (execOp a.eval o).run P w=r at*;cases r with
  | ok x w'=>
    cases x with
    | value v=>exact h
    | skip=>exact h
    | defer d=>exact h
    | enter f args=>
      refine ⟨(fun h=>by cases h),?_⟩;have h2:Calls P f args w' fun e w''=>match e with
        | .returned v=>nx (a.put o.dst v) w''
        | .panicked zoJ=>Q (.panic zoJ) a w''
        | .outgrown=>LetsOut Q:=Calls.mono h fun e w'' he=>by
          cases e with
          | returned v=>exact he
          | panicked ch=>exact absurd he (hc.1 _ _ _)
          | outgrown=>exact absurd he hc.lets
      have h3:=(callsIn_wide (n:=0)).2 h2;exact CallsIn.mono (F:=FW.inRound l) (n:=0 - 1) h3 fun e w'' he=>by cases e <;> exact he
    | row row args=>
      refine ⟨(fun h=>by cases h),fun c cs _=>?_⟩;obtain ⟨v,w'',hr,hs⟩:=h c cs;exact ⟨v,w'',hr,stepsIn_wide.2 hs⟩
    | _=>exact False.elim h
  | halt x w'=>
    cases x with
    | panic v=>exact absurd h (hc.1 _ _ _)
    | _=>exact False.elim h
theorem zl3 (hc:Closed Q')(hn:∀a w,Q' .normal a w→Q .normal a w):∀(r:List Oper) (a:Act) (w:World),zcD r=true→wpList P ops Q' r a w→wpListIn (FW.inRound l) 0 P ops Q r a w
  | [],a,w,_,h=>hn a w h
  | o::r,a,w,hd,h=>by
    have hd1:=zej hd (List.mem_cons_self ..);have hd2:zcD r=true:=(by simp only[zcD,Bool.and_eq_true] at hd;exact hd.2);unfold wpList at h;unfold wpListIn;split
    · rename_i hw;rw[if_pos hw] at h;rcases h with h | ⟨_,h⟩
      · exact Oper.wpIn_mono (fun a w hh=>zl3 hc hn r a w hd2 hh) (zru hd1 hc h)
      · exact absurd h hc.lets
    · rename_i hw;rw[if_neg hw] at h;exact ⟨fun _ _=>trivial,zl3 hc hn r _ w hd2 h⟩
theorem znP (hc:Closed Q')(hn:∀a w,Q' .normal a w→Q .normal a w)(hd:zcD ops.toList=true):∀(fuel:Nat) (listed:Array Bool) (a:Act) (w:World),wpAny P .any ops Q' fuel listed a w→wpAnyIn (FW.inRound l) 0 P .any ops Q fuel listed a w
  | 0,listed,a,w,h=>⟨h.1,hn a w h.2⟩
  | fuel+1,listed,a,w,h=>by
    refine ⟨fun h0=>hn a w (h.1 h0),fun i hi=>?_⟩;have h1:=h.2 i hi;unfold wpOp at h1;unfold wpOpIn;cases ho:ops[i]? with
    | none=>rw[ho] at h1;exact znP hc hn hd fuel _ a w h1
    | some o=>
      rw[ho] at h1;simp only at h1 ⊢;have hd1:=zej hd (o:=o) (Array.mem_toList_iff.2 (Array.mem_of_getElem? ho));split
      · rename_i hw;rw[if_pos hw] at h1;rcases h1 with h1 | ⟨_,h1⟩
        · exact Oper.wpIn_mono (fun a w hh=>znP hc hn hd fuel _ a w hh) (zru hd1 hc h1)
        · exact absurd h1 hc.lets
      · rename_i hw;rw[if_neg hw] at h1;exact ⟨fun _ _=>trivial,znP hc hn hd fuel _ _ w h1⟩
end
def kr (P:Program)(l:Nat)(Q:Post):List KI→Post
  | [],e,a,w=>Q e a w
  | .code c::K,e,a,w=>match e with
    | .normal=>c.wpIn (FW.inRound l) 0 P (kr P l Q K) a w
    | e=>kr P l Q K e a w
  | .blk id::K,e,a,w=>Exit.inBlock id (kr P l Q K) e a w
  | _::K,e,a,w=>kr P l Q K e a w
@[reducible] def Cx.rd (c : Cx) : Cx := { c with n := ⟨c.n.n, []⟩ }
def H (c:Cx)(l:Nat)(Q:Post)(K:List KI)(E:Env)(L:List HProp):Prop:=∀a w,EOk c.rd.n E a→Sat c.w0 w L→kr c.P l Q K .normal a w
section
variable {c:Cx}{l:Nat}{Q:Post}{K:List KI}{E:Env}{L:List HProp}{x y:Code}
theorem ziN {c:Cx}{J:Act→World→Prop}:Closed (kq c.P c.Q [.fin J]):=⟨fun ch a w h=>za8 (c:=c) (K:=[.fin J]) h,fun a w h=>h.elim (fun h=>h) (fun h=>h)⟩
theorem zsT (h:H c l Q (.code x:: .code y::K) E L):H c l Q (.code (.seq x y)::K) E L:=fun a w hE hS=>by
  refine wpIn_seq (wpIn_mono (h a w hE hS) fun e a w hq=>?_);cases e <;> exact hq
theorem zxX (h:H c l Q K E L):H c l Q (.code .skip::K) E L:=fun a w hE hS=>wpIn_skip (h a w hE hS)
theorem zvF {id:Nat}(h:H c l Q (.code x:: .blk id::K) E L):H c l Q (.code (.block id x)::K) E L:=fun a w hE hS=>wpIn_block (wpIn_mono (h a w hE hS) fun e a w hq=>hq)
theorem h_blk {id:Nat}(h:H c l Q K E L):H c l Q (.blk id::K) E L:=fun a w hE hS=>h a w hE hS
theorem zwZ {t:Operand}{b:Bool}(ht:ev none E t=some (.bool b))(h1:b=true→H c l Q (.code x::K) E L)(h2:b=false→H c l Q (.code y::K) E L):H c l Q (.code (.cond t x y)::K) E L:=
  fun a w hE hS=>wpIn_cond_split (hE.ev (yD a) ht) (fun e=>h1 e a w hE hS) (fun e=>h2 e a w hE hS)
theorem ziL {P:Program}{a:Act}{w:World}(h:Q .ret a w):∀{K:List KI},kr P l Q K .ret a w
  | []=>h
  | .code c::K=>ziL h (K:=K)
  | .blk _::K=>ziL h (K:=K)
  | .ops _ _::K=>ziL h (K:=K)
  | .plan _ _ _::K=>ziL h (K:=K)
  | .fin _::K=>ziL h (K:=K)
theorem zuL {α:Type}{id:Nat}{ops:List Oper}(φ:α→Prop)(Ei:α→Env)(Li:α→List HProp)(hd:zcD ops=true)(h1:G c.rd (.ops ops ops:: [.fin (Cut c.rd φ Ei Li)]) E L)(h2:∀z,φ z→H c l Q K (Ei z) (Li z)):H c l Q (.code (.region id ops.toArray false)::K) E L:=fun a w hE hS=>
  wpIn_region_lit (zl3 (ziN (c:=c.rd)) (fun a w hq=>by obtain ⟨z,hz,hE,hS⟩:=hq;exact h2 z hz a w hE hS) ops a w hd (h1 a w hE hS))
theorem zx1 {α:Type}{id:Nat}{ops:List Oper}{Lf:List HProp}(pl:List (Nat×Bool))(φ:α→Prop)(Ei:α→Env)(Li:α→List HProp)(hm:c.P.follows .mixedOrders=true)(hs:Region.noSelect ops.toArray=true)(hl:pl.length=ops.length)(hp:zbw ops.toArray pl (Array.replicate ops.length false)=true)(hd:zcD ops=true)
    (h1:G c.rd (.plan ops (fun w=>Sat c.w0 w Lf) pl:: [.fin (Cut c.rd φ Ei Li)]) E L) (h2:∀z,φ z→H c l Q K (Ei z) (Li z)):H c l Q (.code (.region id ops.toArray true)::K) E L:=fun a w hE hS=>by
  have hpl:=h1 a _ hE (hS.drew (w.drawn+1));have hC:=za9 (Q:=kq c.rd.P c.rd.Q [.fin (Cut c.rd φ Ei Li)]) hs (fun ch a d v w hq=>absurd hq za8) pl (Array.replicate ops.length false) a _ hp hpl;refine wpIn_region_any hm (znP (l:=l) (Q':=kq c.rd.P c.rd.Q [.fin (Cut c.rd φ Ei Li)]) (Q:=kr c.P l Q K) (ziN (c:=c.rd)) (fun a w hq=>by obtain ⟨z,hz,hE,hS⟩:=hq;exact h2 z hz a w hE hS) (by simpa using hd) _ _ a _ (zd0 (C:=fun w=>Sat c.w0 w Lf) _ _ _ _ ?_));rw[hl] at hC;rw[List.size_toArray];exact hC
theorem zrb {φ:Prop}(hp:φ)(h:H c l Q K E (zcZ φ::L)):H c l Q K E L:=fun a w hE hS=>h a w hE (hS.pure_mk hp)
theorem zwa {φ:Prop}{F:List HProp}{c:Cx}{K:List KI}{E:Env}{L:List HProp}[R:Rem L (zcZ φ) F](h:φ→G c K E F):G c K E L:=fun a w hE hS=>by
  have hp:=(R.sat hS).pure_;exact h hp.1 a w hE hp.2
theorem zxU {b m n:Nat}{t:List UInt8}{F:List HProp}[R:Rem L (roL 1 (some ⟨b,0,none⟩) (qr t)) F](h:H c l Q K E (roL 1 (some ⟨b,m,none⟩) (qr ((t.drop m).take n))::roL 1 (some ⟨b,0,none⟩) (qr t)::F)):H c l Q K E L:=fun a w hE hS=>by
  refine h a w hE (((R.sat hS).dup (Pers.roL 1 _ _)).weak fun m' hm=>?_);rcases hm with hm | ⟨b',off,o,h1,h2,h3⟩
  · left;have:t=[]:=(by simpa [qr] using hm);subst this;simp[qr]
  · right;injection h1 with h1;injection h1 with e1 e2 e3;subst e1 e2;refine ⟨b,m,o,rfl,h2,fun j row hj f v hf=>?_⟩;have hj':(qr t)[m+j]? =some row:=by
      simp only[qr,List.map_take,List.map_drop] at hj;rw[List.getElem?_take] at hj;split at hj
      · rw[List.getElem?_drop] at hj;exact hj
      · cases hj
    have:=h3 (m+j) row hj' f v hf;rw[show m+(j*1+f)=0+((m+j)*1+f) by omega];exact this
def zsb (c:Cx)(L1 L2:List HProp):Post:=fun e a w=>match e with
  | .normal=>Sat c.w0 w L1
  | .ret=>Sat c.w0 w L2
  | _=>False
theorem h_end {L1 L2:List HProp}[S:Sub L L1]:H c l (zsb c L1 L2) [] E L:=fun a w hE hS=>S.sat hS
theorem h_ret {L1 L2:List HProp}[S:Sub L L2]:H c l (zsb c L1 L2) (.code .ret::K) E L:=fun a w hE hS=>wpIn_ret (ziL (S.sat hS))
end
def zmc (P:Program)(l:Nat)(v:Value)(w0:World)(L L1 L2:List HProp):Prop:=∀w,Sat w0 w L→∃fn tmps assign body,(Instr.yield l #[v]).run P w= .ok (.round l fn tmps assign body) w∧
  RoundIn FW 0 P l fn tmps assign body w fun e w'=>(e= .returned (.bool true)∧Sat w0 w' L1)∨(e= .returned (.bool false)∧Sat w0 w' L2)
def KY (c:Cx)(all rest:List Oper)(K:List KI):List KI:= .fin (fun a w=>wpListIn FW 0 c.P all.toArray (kq c.P c.Q K) rest a w)::K
section
variable {c:Cx}{E:Env}{L L1 L2:List HProp}{d:Nat}{ty:TypeId}{pos:String}{af:Array Edge}{K:List KI}{all rest:List Oper}{op:Op}{v:Value}{l:Nat}{x f:Operand}{ats:Array TypeId}
theorem zxG {id:Nat}{ops:List Oper}(h:G c (KY c ops ops K) E L):G c (.code (.region id ops.toArray false)::K) E L:=fun a w hE hS=>(wpIn_wide (n:=0)).1 (wpIn_region_lit (h a w hE hS))
theorem zym (h:G c K E L):G c (KY c all [] K) E L:=fun a w hE hS=>h a w hE hS
theorem y_v (h:OpV c none E L ⟨some d,op,ty,pos,af,none⟩ v)(hd:dOk c.n d E=true)(k:G c (KY c all rest K) ((d,none,v)::E) L):G c (KY c all (⟨some d,op,ty,pos,af,none⟩::rest) K) E L:=fun a w hE hS=>by
  show wpListIn FW 0 c.P all.toArray (kq c.P c.Q K) (⟨some d,op,ty,pos,af,none⟩::rest) a w;unfold wpListIn;rw[if_pos (by simp[Region.wanted])];refine ⟨fun _ _=>trivial,?_⟩;rw[show FW.round=none from rfl,Oper.semAt_none,h.out a w hE (yD a) hS];exact k _ w (hE.put1 hd) hS
theorem zvH (hf:ev none E f=some (.func (.yield l) #[] #[]))(hx:ev none E x=some v)(hr:zmc c.P l v c.w0 L L1 L2)(hd:dOk c.n d E=true)(k1:G c (KY c all rest K) ((d,none, .bool true)::E) L1)(k2:G c (KY c all rest K) ((d,none, .bool false)::E) L2):
    G c (KY c all (⟨some d, .call {callee:= .value f,args:=#[x],argTypes:=ats},ty,pos,af,none⟩::rest) K) E L:=fun a w hE hS=>by
  show wpListIn FW 0 c.P all.toArray (kq c.P c.Q K) (⟨some d, .call {callee:= .value f,args:=#[x],argTypes:=ats},ty,pos,af,none⟩::rest) a w;obtain ⟨fn,tmps,assign,body,hy,hround⟩:=hr w hS;unfold wpListIn;rw[if_pos (by simp[Region.wanted])];refine ⟨fun _ _=>trivial,?_⟩;have hrun:(execOp a.eval ⟨some d, .call {callee:= .value f,args:=#[x],argTypes:=ats},ty,pos,af,none⟩).run c.P w= .ok (.round l fn tmps assign body) w:=by
    have h1:=hE.ev (yD a) hf;have h2:=hE.ev (yD a) hx;simp[execOp,resolve,h1,h2,Deferred.ofValue,invoke,hy]
  rw[show FW.round=none from rfl,Oper.semAt_none,hrun];refine ⟨(fun h=>by cases h),RoundIn.mono hround fun e w' he=>?_⟩;rcases he with ⟨rfl,hS'⟩ | ⟨rfl,hS'⟩
  · exact k1 _ w' (hE.put1 hd) hS'
  · exact k2 _ w' (hE.put1 hd) hS'
end
theorem zr0 {P:Program}{f:FuncId}{fn:Func}{cd:Code}{args:List Value}{L:List HProp}{R:Value→List HProp→Prop}(hf:P.funcs[f]? =some fn)(hb:fn.body=some cd)(n:Nat)(hn:fn.ntmps=n)(hle:args.length≤n)
    {w0:World} (h:G ⟨P,fn,w0,R,⟨n,[]⟩⟩ [.code cd] (zgE 0 args) L):∀w,Sat w0 w L→Calls P f args.toArray w fun e w'=>match e with
    | .returned v=>∃L',Sat w0 w' L'∧R v L'
    | _=>False:=fun w hS=>by
  refine callsIn_wide.1 (callsIn_of_wp_marks (n:=0) hf hb trivial (wpIn_wide.2 (wp_mono (h _ w ?_ hS) fun e a w hq=>?_)));rotate_left
  · cases e with
    | normal | ret=>
      rcases hq with ⟨hd,v,hr,hR⟩ | ⟨D,w',hd,ht,v,hr,hR⟩
      · show LeavesInM _ _ _ _ _ _ _ _ _;rw[hd];exact ⟨v,hr,hR⟩
      · show LeavesInM _ _ _ _ _ _ _ _ _;rw[hd];exact ⟨(fun h=>by cases h), .inl ⟨D,w',rfl,ht,v,hr,hR⟩⟩
    | panic ch=>exact absurd hq (fun h=>h.elim (fun h=>h.2) (fun h=>h))
    | exit id=>exact hq.elim (fun h=>h.elim) (fun h=>h.elim)
    | goto l=>exact hq.elim (fun h=>h.elim) (fun h=>h.elim)
    | outgrown=>exact hq.elim (fun h=>h.elim) (fun h=>h.elim)
  refine ⟨rfl,by simp[hn];omega,?_⟩;have key:∀(l:List Value) (i:Nat) (t:Nat) (g:Option (Nat×Bool)) (v:Value),ent (zgE i l) t=some (g,v)→i≤t∧l[t - i]? =some v:=by
    intro l
    induction l with
    | nil=>intro i t g v h;cases h
    | cons u l ih=>
      intro i t g v h;simp only[zgE] at h;unfold ent at h;split at h
      · rename_i hb;have:=Nat.eq_of_beq_eq_true hb;subst this;injection h with h;injection h with _ h;subst h;simp
      · have:=ih (i+1) t g v h;refine ⟨by omega,?_⟩;have e:t - i=(t - (i+1))+1:=(by omega);rw[e];simpa using this.2
  intro t g v he _;have:=(key args 0 t g v he).2;simp only[Nat.sub_zero] at this;have hlt:=(List.getElem?_eq_some_iff.1 this).1;rw[Array.getElem?_append_left (by simpa using hlt)];simpa using this
theorem Sat.swap {w0 w:World}{x y:HProp}{R:List HProp}:∀{X:List HProp},Sat w0 w (X++y::x::R)→Sat w0 w (X++x::y::R):=fun {X} h=>by
  obtain ⟨h1,h2,h3,h4,f,hf,hd⟩:=h;obtain ⟨σ,hσ⟩:∃σ:Nat→Nat,σ=fun i=>if i=X.length then X.length+1 else if i=X.length+1 then X.length else i:=⟨_,rfl⟩
  have hget:∀i,(X++x::y::R)[i]? =(X++y::x::R)[σ i]? :=fun i=>by
    rw[hσ];simp only;split
    · rename_i h;subst h;rw[List.getElem?_append_right (by omega),List.getElem?_append_right (by omega)];simp
    · split
      · rename_i h;subst h;rw[List.getElem?_append_right (by omega),List.getElem?_append_right (by omega)];simp
      · rename_i h5 h6;by_cases hi:i<X.length
        · rw[List.getElem?_append_left hi,List.getElem?_append_left hi]
        · rw[List.getElem?_append_right (by omega),List.getElem?_append_right (by omega)];obtain ⟨j,rfl⟩:∃j,i=X.length+2+j:=⟨i - X.length - 2,by omega⟩;rw[show X.length+2+j - X.length=j+2 by omega];simp
  have hlen:(X++x::y::R).length=(X++y::x::R).length:=(by simp);have hl2:(X++y::x::R).length=X.length+R.length+2:=(by simp;omega);have hσlt:∀i,i<(X++x::y::R).length→σ i<(X++y::x::R).length:=fun i hi=>by
    rw[hlen] at hi;rw[hσ];simp only;split
    · omega
    · split
      · omega
      · exact hi
  refine ⟨h1,h2,h3,h4,fun i=>f (σ i),fun i A hA=>hf (σ i) A (by rw[←hget];exact hA),fun i j hi hj hne=>hd _ _ (hσlt i hi) (hσlt j hj) fun e=>hne ?_⟩;rw[hσ] at e;simp only at e;split at e <;> split at e <;> (try split at e) <;> (try split at e) <;> omega
theorem Sat.perm {w0 w:World}{L L':List HProp}(hp:L.Perm L'):∀X:List HProp,Sat w0 w (X++L)→Sat w0 w (X++L'):=by
  induction hp with
  | nil=>intro X h;exact h
  | cons x _ ih=>
    intro X h;have:=ih (X++ [x]) (by simpa using h);simpa using this
  | swap x y l=>intro X h;exact Sat.swap h
  | trans _ _ ih1 ih2=>intro X h;exact ih2 X (ih1 X h)
theorem Sat.perm0 {w0 w:World}{L L':List HProp}(hp:L.Perm L')(h:Sat w0 w L):Sat w0 w L':=by simpa using Sat.perm hp [] (by simpa using h)
abbrev dO:Obj:= .deferred (some [])
section
variable {c:Cx}{E:Env}{L:List HProp}{K:List KI}
theorem has1 {n:Nd}{P:Program}{l id p q:Nat}{ty:TypeId}{pos:String}{af:Array Edge}{v:Value}{E:Env}{a:Act}{w:World}(hE:EOk n ((p,none,v)::E) a)(hq:dOk n q ((p,none,v)::E)=true):
    (Code.region id #[⟨some q, .assign (.tmp p),ty,pos,af,none⟩] false).wpIn (FW.inRound l) 0 P (Exit.then (fun a' w'=>w'=w∧EOk n ((q,none,v)::(p,none,v)::E) a') (fun _ _ _=>False)) a w:=by
  refine wpIn_region_lit (l:=[_]) (wpListIn_plain rR fun K hK=>?_);refine ⟨fun _ _=>trivial,?_⟩;have hx:a.eval (.tmp p)=v:=hE.ev (yD a) (by simp[ev,look,ent,Nat.beq_refl]);rw[show (FW.inRound l).round=some l from rfl,Oper.semAt_some l a.eval _ (fun c h=>by cases h)];have hrun:(execOp a.eval ⟨some q, .assign (.tmp p),ty,pos,af,none⟩).run P w= .ok (.value v) w:=(by simp[execOp,hx]);rw[hrun];exact hK _ _ (wpListIn_nil ⟨rfl,hE.put1 hq⟩)
theorem zlZ {gop:Operand}{p:Tmp}{assign body:Code}{gf:FuncId}{cap:List Value}{Pre:List HProp}{A:Nat→List HProp}{B:List HProp}{N:Nat}{v:Nat→Value}{E1:Nat→Env}
    (hd0:c.n.ds=[]) (hp:dOk c.n p E=true) (hg:ev none E gop=some (.func (.func gf) #[] cap.toArray)) (hcall:∀args w,(callFunc gf args).run c.P w= .ok (.enter gf args) w)
    (hseq:∀(l:Nat) (A':Nat→List HProp) (B':List HProp),(∀k,k<N→zmc c.P l (v k) c.w0 (Pre++A' k) (Pre++A' (k+1)) (Pre++B'))→∀w,Sat c.w0 w (Pre++A' 0)→Calls c.P gf (.func (.yield l) #[] #[]::cap).toArray w fun e w'=>match e with
      | .returned _=>Sat c.w0 w' (Pre++A' N)∨Sat c.w0 w' (Pre++B')
      | _=>False)
    (hL:L=Pre++A 0)
    (has:∀l k a w,EOk c.rd.n ((p,none,v k)::E) a→assign.wpIn (FW.inRound l) 0 c.P (Exit.then (fun a' w'=>w'=w∧EOk c.rd.n (E1 k) a') (fun _ _ _=>False)) a w)
    (hbody:∀(l D:Nat) (O:Obj) k,k<N→H c l (zsb c (Pre++pt l O::pt D dO::A (k+1)) (Pre++pt l O::pt D dO::B)) [.code body] (E1 k) (Pre++pt l O::pt D dO::A k))
    (done:∀D,G {c with n:=⟨c.n.n,[markD D]⟩} K E (pt D dO::(Pre++A N)))
    (ret:∀D,G {c with n:=⟨c.n.n,[markD D]⟩} (.code .ret::K) E (pt D dO::(Pre++B))):G c (.code (.rangeFunc gop #[p] assign body)::K) E L:=fun a w hE hS=>by
  have hS0:Sat c.w0 w (Pre++A 0):=hL ▸ hS;refine (wpIn_wide (n:=0)).1 (wpIn_rangeFunc fun fn _=>?_);obtain ⟨rec,hrec⟩:∃rec:LoopState→Option Code→Loop,rec=fun st pe=>{state:=st,pending:=pe,fn,tmps:=a.tmps,params:=#[p],assign,body,defers:=w.heap.size}:=⟨_,rfl⟩;obtain ⟨W1,hW1⟩:∃W1,(w.alloc dO).alloc (.loop (rec .ready none))=W1:=⟨_,rfl⟩;have hS1:Sat c.w0 W1 (pt (w.heap.size+1) (.loop (rec .ready none))::pt w.heap.size dO::(Pre++A 0)):=by
    have e:(w.alloc dO).heap.size=w.heap.size+1:=World.size_alloc ..;rw[←hW1,←e];exact (hS0.alloc dO).alloc _
  -- the lists' two orders
  have fwd:∀{w:World} {X:List HProp} {O:Obj},Sat c.w0 w (pt (w.heap.size+0) O:: [])→True:=fun _=>trivial;have toF:∀{W:World} {O:Obj} {X:List HProp},Sat c.w0 W (Pre++pt (w.heap.size+1) O::pt w.heap.size dO::X)→Sat c.w0 W (pt (w.heap.size+1) O::pt w.heap.size dO::(Pre++X)):=fun h=>
    h.perm0 (List.perm_middle.trans (List.Perm.cons _ List.perm_middle))
  have toP:∀{W:World} {O:Obj} {X:List HProp},Sat c.w0 W (pt (w.heap.size+1) O::pt w.heap.size dO::(Pre++X))→Sat c.w0 W (Pre++pt (w.heap.size+1) O::pt w.heap.size dO::X):=fun h=>
    h.perm0 (List.perm_middle.trans (List.Perm.cons _ List.perm_middle)).symm
  have wn:∀{W:World} {O O':Obj} {X:List HProp},Sat c.w0 W (Pre++pt (w.heap.size+1) O::pt w.heap.size dO::X)→Sat c.w0 (W.putObj (w.heap.size+1) O') (Pre++pt (w.heap.size+1) O'::pt w.heap.size dO::X):=fun h=>
    toP ((toF h).set rfl)
  have hcd:EOk c.n E a:=hE;have hE2:∀D,EOk (⟨c.n.n,[markD D]⟩:Nd) E {a with defers:=[markD D]++a.defers}:=fun D=>⟨by rw[hE.defers,hd0];rfl,hE.size,fun t h u he hk=>hE.at_ t h u he hk⟩;refine ⟨w.heap.size+1,[markD w.heap.size],W1,{target:= .fn (.func gf) cap.toArray,args:=#[.func (.yield (w.heap.size+1)) #[] #[]]},W1,gf,(.func (.yield (w.heap.size+1)) #[] #[]::cap).toArray,W1,?_,?_,fun _ _=>trivial,?_,(fun h=>by cases h),callsIn_wide.2 ?_⟩
  · rw[←hW1,hrec];exact run_enterLoop_outer _ _ _ _ _
  · have h1:=hE.ev (yD a) hg;simp only[resolve,h1];simp[go_sem]
  · have:(#[Value.func (.yield (w.heap.size+1)) #[] #[]]++cap.toArray)=(Value.func (.yield (w.heap.size+1)) #[] #[]::cap).toArray:=(by simp);simp only[invoke,this,hcall]
  · refine Calls.mono (hseq (w.heap.size+1) (fun k=>pt (w.heap.size+1) (.loop (rec .ready none))::pt w.heap.size dO::A k) (pt (w.heap.size+1) (.loop (rec .done (some .ret)))::pt w.heap.size dO::B) (fun k hk W hSW=>?_) W1 (toP hS1)) fun e W2 he=>?_
    · have hl:W.heap[w.heap.size+1]? =some (.loop (rec .ready none)):=(toF hSW).at_;have hy:=run_yield (P:=c.P) (args:=#[v k]) hl (by rw[hrec];rfl);rw[hrec] at hy;refine ⟨fn,_,assign,body,hy,?_⟩;have hEr:EOk c.rd.n ((p,none,v k)::E) ({tmps:=a.tmps.setIfInBounds p (v k),defers:=[]}:Act):=by
        have h0:EOk c.rd.n E ({tmps:=a.tmps,defers:=[]}:Act):=⟨rfl,hE.size,fun t h u he hk=>hE.at_ t h u he hk⟩;have hp':dOk c.rd.n p E=true:=by
          have:∀(E:Env),dOk c.rd.n p E=dOk c.n p E:=by
            intro E
            induction E with
            | nil=>rfl
            | cons x E ih=>obtain ⟨s,g,u⟩:=x;cases g with
              | none=>exact ih
              | some jb=>obtain ⟨j,b⟩:=jb;simp only[dOk,ih]
          rw[this];exact hp
        exact h0.put1 hp'
      have hfold:((#[p]:Array Tmp).zip #[v k]).foldl (fun tmps (t,u)=>tmps.setIfInBounds t u) a.tmps=a.tmps.setIfInBounds p (v k):=(by simp);refine roundIn_of_wpIn trivial (wpIn_mono (has (w.heap.size+1) k _ W (by rw[hfold];exact hEr)) fun e a1 w1 hq=>?_);cases e with
      | normal=>
        obtain ⟨rfl,hE1⟩:=hq;refine ⟨_,run_beginRound hl (by rw[hrec]),?_⟩;have hb:=hbody (w.heap.size+1) w.heap.size (.loop {rec .ready none with state:= .busy}) k hk a1 _ hE1 (wn hSW);refine wpIn_mono hb fun e a3 W3 hp3=>?_;cases e with
        | normal=>
          have hl3:=(toF hp3).at_;have hr:=run_endRound (P:=c.P) none hl3;refine ⟨_,_,hr, .inl ⟨rfl,?_⟩⟩;have:=wn (O':= .loop {({rec .ready none with state:= .busy}:Loop) with state:=if (none:Option Code).isNone then .ready else .done,pending:=none}) hp3;rw[hrec] at this ⊢;exact this
        | ret=>
          have hl3:=(toF hp3).at_;have hr:=run_endRound (P:=c.P) (some .ret) hl3;refine ⟨_,_,hr, .inr ⟨rfl,?_⟩⟩;have:=wn (O':= .loop {({rec .ready none with state:= .busy}:Loop) with state:=if (some Code.ret).isNone then .ready else .done,pending:=some .ret}) hp3;rw[hrec] at this ⊢;exact this
        | exit id=>exact hp3.elim
        | goto t=>exact hp3.elim
        | panic ch=>exact hp3.elim
        | outgrown=>exact hp3.elim
      | exit id=>exact hq.elim
      | goto t=>exact hq.elim
      | ret=>exact hq.elim
      | panic ch=>exact hq.elim
      | outgrown=>exact hq.elim
    · cases e with
      | returned u=>
        rcases he with he | he
        · have hl2:=(toF he).at_;refine ⟨_,_,run_endLoop (P:=c.P) hl2 (by rw[hrec];simp),?_⟩;rw[show (rec .ready none).pending=none by rw[hrec]];exact done w.heap.size _ _ (hE2 _) (toF (wn he)).tail
        · have hl2:=(toF he).at_;refine ⟨_,_,run_endLoop (P:=c.P) hl2 (by rw[hrec];simp),?_⟩;rw[show (rec .done (some .ret)).pending=some .ret by rw[hrec]];exact (wpIn_wide (n:=0)).2 (ret w.heap.size _ _ (hE2 _) (toF (wn he)).tail)
      | panicked ch=>exact he.elim
      | outgrown=>exact he.elim
theorem zo1 {D b o r:Nat}{t:TypeId}{v:Value}{ob:Obj}{L' Lf:List HProp}(hds:c.n.ds=[markD D])[U:Upd L D dO (.deferred none) L'](hf:c.fn.results.toList=[.cell r t])(hx:look none E r=some (ptr b o))(ha:∀w,(isAgg t).run c.P w= .ok false w)[h:Has L' b ob](hv:yl ob o=some v)[S:Sub L' Lf](hR:c.R v Lf):G c (.code .ret::K) E L:=fun a w hE hS=>by
  refine wp_ret (yb (.inr ?_));have hU:=U.sat hS;refine ⟨D,w.putObj D (.deferred none),hE.defers.trans hds,run_takeDeferred hU.2,v,?_,Lf,S.sat hU.1,hR⟩;have h1:=hE.look (yD a) hx;have hh:=za1 (h.out _ _ hU.1) hv;have hl:=zmN (P:=c.P) hh;have hset:zfj w D (.deferred none)=w.putObj D (.deferred none):=rfl;rw[hset] at hl hh;rw[zdZ,Array.mapM_eq_mapM_toList,hf];simp[zix,Array.getD_eq_getD_getElem?,h1,asAddr,loadVar,ha,hl,hh]
end
end Go.Sl
namespace Go.Sl
section
variable {c:Cx}{g:Option (Nat×Bool)}{E:Env}{L L':List HProp}{d:Option Tmp}{ty:TypeId}{pos:String}{af:Array Edge}{gu:Option (Nat×Bool)}{K:List KI}
variable {x y z:Operand}{t u e:TypeId}{k:IntKind}{v:Value}{s:Option Addr}{b o i j n m sz cap off:Nat}
theorem v_iNe {ms:Array (String×TypeId)}{T:Nat}{p:Value}(hu:c.P.underlying t=some (.interface ms))(hx:ev g E x=some (.iface T p)):OpV c g E L ⟨d, .binOp .neq t x (.const .nilIface) u,ty,pos,af,gu⟩ (Bo true):= .mk fun a w hE hg hS=>by
  have h1:(Op.equal t (.iface T p) .nilIface).run c.P w= .ok false w:=by
    show (Op.equalIn (9999+1) _ _ _).run _ _=_;unfold Op.equalIn;simp[underlying,program,Sem.run,hu]
  have h2:(eqGuard .neq t x (.const .nilIface) (.iface T p) .nilIface).run c.P w= .ok () w:=(by simp[eqGuard]);have h3:a.eval (.const .nilIface)= .nilIface:=rfl;have h4:binOp .neq t (.iface T p) .nilIface=(do pure (.bool (!(←Op.equal t (.iface T p) .nilIface)))):=(by simp[binOp]);simp[execOp,hE.ev hg hx,h3,h2,h4,h1]
theorem zxO (hu:c.P.underlying t=some (.array n e))(hx:ev g E x=some (sl s m cap))(h:n≤m):OpV c g E L ⟨d, .sliceToArrayPointer t x,ty,pos,af,gu⟩ (.pointer s):= .mk fun a w hE hg hS=>by
  simp only[execOp,Instr.arrayAt,hE.ev hg hx,sl];simp[underlying,program,Sem.run,hu,show ¬m<n by omega]
theorem zvi {q:Int}{l:Nat}(hu:c.P.underlying t=some (.slice e))(hz:∀w,(sizeOf e).run c.P w= .ok sz w)(hx:ev g E x=some (sl s n cap))(hy:ev g E y=some (I q))(hm:q=l)(hl:l≤n)(hc:l<cap):
    OpV c g E L ⟨d, .slice t x (some y) none none,ty,pos,af,gu⟩ (sl (s.map (·.add (l*sz))) (n - l) (cap - l)):=by
  have h:=zb7 (c:=c) (g:=g) (L:=L) (d:=d) (ty:=ty) (pos:=pos) (af:=af) (gu:=gu) hu hz hx hy hm hl;rw[if_neg (show ¬cap=l by omega)] at h;exact h
theorem zn5 {rows:List (List Value)}{vs:List Value}(j:Nat)(ha:∀w,(isAgg t).run c.P w= .ok true w)(hz:∀w,(sizeOf t).run c.P w= .ok sz w)(hx:ev g E x=some (.pointer (s.map (·.add (j*1)))))[h:SlR L s 1 rows](hl:vs.length=sz)(h0:0<sz)(hv:∀k v,vs[k]? =some v→rows[j+k]? =some [v]):
    OpV c g E L ⟨d, .load t x,ty,pos,af,gu⟩ (.agg vs.toArray):= .mk fun a w hE hg hS=>by
  rcases h.out _ _ hS with h | ⟨b,o,ob,rfl,hh,hR⟩
  · subst h
    match vs,hl with
    | [],hl=>simp at hl;omega
    | v::vs,hl=>have:=hv 0 v rfl;simp at this
  · have:=wI (P:=c.P) (w:=w) b sz 0 (o+j) #[] vs hl (fun k v hk=>by
      have:=za1 hh (hR (j+k) [v] (hv k v hk) 0 v rfl);simpa [Nat.add_assoc] using this)
    have ej:(if j=0 then ({block:=b,off:=o}:Addr) else {block:=b,off:=o+j})={block:=b,off:=o+j}:=(by split <;> simp[*]);simp[execOp,hE.ev hg hx,Instr.loadAt,Instr.sureAddr,loadVar,ha,hz,loadCells,zaV,Addr.add,ej,this]
end
section
variable {c:Cx}{E:Env}{L:List HProp}{d:Nat}{ty:TypeId}{pos:String}{af:Array Edge}{K:List KI}{all:List Oper}{op:Op}{N:Value→List HProp→Prop}{Lf:List HProp}{pl:List (Nat×Bool)}
theorem d_noL {i j s:Nat}{vs:Value}{want:Bool}(hi:all[i]? =some ⟨some d,op,ty,pos,af,some (j,want)⟩)(hj:(all[j]?).bind (·.dst)=some s)(hs:look none E s=some vs)(hw:zpE vs want=true)[SC:Sub L Lf](hd:dOk c.n d E=true)
    (k:G c (.plan all (fun w=>Sat c.w0 w Lf) pl::K) ((d,none,undef)::E) L):G c (.plan all (fun w=>Sat c.w0 w Lf) ((i,true)::pl)::K) E L:=fun a w hE hS=>by
  have h1:=hE.look (yD a) hs;have hy:yielded all.toArray a.tmps j≠some want:=by
    cases vs <;> simp[yielded,hj,h1,zpE] at hw ⊢
    all_goals (rename_i b;cases b <;> cases want <;> simp at hw ⊢)
  refine ⟨SC.sat hS,?_⟩;unfold wpOp;simp only[List.getElem?_toArray,hi];rw[if_neg (by simp[Region.wanted,hy])];exact k _ w (hE.put1 hd) hS
end
abbrev IM:=List (Int×Int)
def mi (F:IM):MM:=F.map fun p=>(p.1,I p.2)
def li:IM→Int→Option Int
  | [],_=>none
  | p::F,q=>if p.1=q then some p.2 else li F q
def sti (F:IM)(q v:Int):IM:=if (li F q).isSome then F.map (fun p=>if p.1=q then (q,v) else p) else F++ [(q,v)]
def dli (F:IM)(q:Int):IM:=F.filter fun p=>!decide (p.1=q)
theorem zos (F:IM)(q:Int):lk (mi F) q=(li F q).map I:=by
  induction F with
  | nil=>rfl
  | cons p F ih=>
    show (if p.1=q then some (I p.2) else lk (mi F) q)=_;simp only[li];split
    · rfl
    · exact ih
theorem zcs (F:IM)(q d:Int):(lk (mi F) q).getD (I d)=I ((li F q).getD d):=by
  rw[zos];cases li F q <;> rfl
theorem zoa (F:IM)(q:Int):(lk (mi F) q).isSome=(li F q).isSome:=by
  rw[zos];cases li F q <;> rfl
theorem zhb (F:IM)(q v:Int):zgC (mi F) q (I v)=mi (sti F q v):=by
  unfold zgC sti;rw[zoa];split
  · simp only[mi,List.map_map];apply List.map_congr_left;intro p _;simp only[Function.comp];split <;> rfl
  · simp[mi]
theorem zrm (F:IM)(q:Int):zj9 (mi F) q=mi (dli F q):=by
  unfold zj9 dli mi;rw[List.filter_map]
  rfl
theorem zhw (F:IM):(mi F).map (·.1)=F.map (·.1):=by simp[mi]
theorem zkx {a b:Option Int}(h:a.map I=b.map I):a=b:=by
  cases a <;> cases b <;> simp at h ⊢;exact h
theorem ziI (F:IM)(q v k:Int):li (sti F q v) k=if q=k then some v else li F k:=by
  have h:=zmp (mi F) q (I v) k;rw[zhb,zos,zos] at h;apply zkx;rw[h];split <;> rfl
theorem zul (F:IM)(q k:Int):li (dli F q) k=if q=k then none else li F k:=by
  have h:=zmy (mi F) q k;rw[zrm,zos,zos] at h;apply zkx;rw[h];split <;> rfl
theorem zj0 {F:IM}{q:Int}:(li F q).isSome=true ↔ q∈F.map (·.1):=by
  induction F with
  | nil=>simp[li]
  | cons p F ih=>
    simp only[li,List.map_cons,List.mem_cons];split
    · rename_i h;simp[h]
    · rename_i h;rw[ih];simp[Ne.symm h]
theorem zhv:∀{l m:List Int},l.Nodup→(∀q∈l,q∈m)→l.length≤m.length
  | [],_,_,_=>by simp
  | a::l,m,hl,h=>by
    rw[List.nodup_cons] at hl;have ha:a∈m:=h a (by simp);have h1:=zhv (m:=m.erase a) hl.2 fun q hq=>(List.mem_erase_of_ne (fun e:q=a=>hl.1 (by rw[←e];exact hq))).2 (h q (by simp[hq]));rw[List.length_erase_of_mem ha] at h1;have:0<m.length:=List.length_pos_of_mem ha;simp only[List.length_cons];omega
theorem ziB {l m:List Int}(hl:l.Nodup)(hm:m.Nodup)(h:∀q∈l,q∈m):l.length=m.length ↔ ∀q∈m,q∈l:=by
  constructor
  · intro e q hq;refine Decidable.byContradiction fun hn=>?_;have:=zhv (l:=q::l) (m:=m) (List.nodup_cons.2 ⟨hn,hl⟩) fun p hp=>by
      rcases List.mem_cons.1 hp with rfl | hp
      · exact hq
      · exact h p hp
    simp at this;omega
  · intro h2;exact Nat.le_antisymm (zhv hl h) (zhv hm h2)
def zjX (f:Int×Value→Int):MM→Int
  | []=>0
  | p::M=>f p+zjX f M
theorem zlc {f:Int×Value→Int}{M M':MM}(h:M.Perm M'):zjX f M=zjX f M':=by
  induction h with
  | nil=>rfl
  | cons x _ ih=>simp only[zjX];rw[ih]
  | swap x y l=>simp only[zjX];omega
  | trans _ _ h1 h2=>rw[h1,h2]
end Go.Sl
namespace Go.Sl
section
variable {c:Cx}{E:Env}{L Lf:List HProp}{d:Nat}{ty:TypeId}{pos:String}{af:Array Edge}{K:List KI}{all:List Oper}{op:Op}{v:Value}{N:Value→List HProp→Prop}{t:PT}
end
def big {α:Type}(f:α→List HProp)(l:List α):HProp:=zmm (l.flatMap f)
theorem Sat.big {w0 w:World}{α:Type}{f:α→List HProp}{l:List α}{F:List HProp}(h:Sat w0 w (Go.Sl.big f l::F)):Sat w0 w (l.flatMap f++F):=h.list
theorem Sat.big_mk {w0 w:World}{α:Type}{f:α→List HProp}{l:List α}{F:List HProp}(h:Sat w0 w (l.flatMap f++F)):Sat w0 w (Go.Sl.big f l::F):=h.list_mk
theorem Sat.big_perm {w0 w:World}{α:Type}{f:α→List HProp}{l l':List α}{F:List HProp}(hp:l.Perm l')(h:Sat w0 w (Go.Sl.big f l::F)):Sat w0 w (Go.Sl.big f l'::F):=
  (Sat.perm0 ((hp.flatMap_right f).append_right F) h.big).big_mk
theorem Sat.big_out {w0 w:World}{α:Type}{f:α→List HProp}{l:List α}{e:α}{F:List HProp}(h:Sat w0 w (Go.Sl.big f (e::l)::F)):Sat w0 w (f e++Go.Sl.big f l::F):=by
  have h1:=h.big;rw[List.flatMap_cons,List.append_assoc] at h1;have h2:Sat w0 w (l.flatMap f++(f e++F)):=Sat.perm0 (by rw[←List.append_assoc,←List.append_assoc];exact List.perm_append_comm.append_right F) h1;exact Sat.perm0 List.perm_middle.symm h2.big_mk
theorem Sat.big_in {w0 w:World}{α:Type}{f:α→List HProp}{l:List α}{e:α}{F:List HProp}(h:Sat w0 w (f e++Go.Sl.big f l::F)):Sat w0 w (Go.Sl.big f (e::l)::F):=by
  have h1:Sat w0 w (Go.Sl.big f l::(f e++F)):=Sat.perm0 List.perm_middle h;have h2:=h1.big;refine Sat.big_mk ?_;rw[List.flatMap_cons];exact Sat.perm0 (by rw[←List.append_assoc];exact List.perm_append_comm.append_right F) h2
theorem zdD {α:Type}:∀{l:List α} {i:Nat} {e:α},l[i]? =some e→l.Perm (e::l.eraseIdx i)
  | [],i,e,h=>by simp at h
  | a::l,0,e,h=>by
    simp at h;subst h;exact List.Perm.refl _
  | a::l,i+1,e,h=>by
    rw[List.eraseIdx_cons_succ];exact ((zdD (l:=l) (by simpa using h)).cons a).trans (List.Perm.swap e a _)
theorem znC {α:Type}:∀{l:List α} {i:Nat} (e:α),i<l.length→(l.set i e).Perm (e::l.eraseIdx i)
  | [],i,e,h=>by simp at h
  | a::l,0,e,h=>List.Perm.refl _
  | a::l,i+1,e,h=>by
    rw[List.eraseIdx_cons_succ,List.set_cons_succ];exact ((znC (l:=l) e (by simpa using h)).cons a).trans (List.Perm.swap e a _)
section
variable {c:Cx}{E:Env}{L F F':List HProp}{K:List KI}{α:Type}{f:α→List HProp}
theorem znN (f:α→List HProp)(k:G c K E (big f []::L)):G c K E L:=fun a w hE hS=>k a w hE (Sat.big_mk (by simpa using hS))
theorem zkk (l:List α)(i:Nat){e:α}(he:l[i]? =some e)(Pre:List HProp)(hf:f e=Pre)[R:Rem L (big f l) F](k:G c K E (Pre++big f (l.eraseIdx i)::F)):G c K E L:=fun a w hE hS=>by
  subst hf;exact k a w hE (Sat.big_out (Sat.big_perm (zdD he) (R.sat hS)))
theorem zac (l:List α)(i:Nat)(e:α)(Pre:List HProp)(hf:f e=Pre)(hi:i<l.length)[S:Split L Pre F][R:Rem F (big f (l.eraseIdx i)) F'](k:G c K E (big f (l.set i e)::F')):G c K E L:=fun a w hE hS=>by
  subst hf;have h1:=S.sat hS;have h2:Sat c.w0 w (f e++big f (l.eraseIdx i)::F'):=by
    obtain ⟨j,hj,rfl⟩:=R.out;have hp:F.Perm (big f (l.eraseIdx i)::F.eraseIdx j):=zdD hj;exact Sat.perm0 (hp.append_left (f e)) h1
  exact k a w hE (Sat.big_perm (znC e hi).symm h2.big_in)
theorem zm8 (l:List α)(e:α)(Pre:List HProp)(hf:f e=Pre)[S:Split L Pre F][R:Rem F (big f l) F'](k:G c K E (big f (l++ [e])::F')):G c K E L:=fun a w hE hS=>by
  subst hf;have h1:=S.sat hS;have h2:Sat c.w0 w (f e++big f l::F'):=by
    obtain ⟨j,hj,rfl⟩:=R.out;have hp:F.Perm (big f l::F.eraseIdx j):=zdD hj;exact Sat.perm0 (hp.append_left (f e)) h1
  exact k a w hE (Sat.big_perm (List.perm_append_comm (l₁:=[e]) (l₂:=l)) h2.big_in)
theorem zje (l l':List α)(h:l'.Sublist l)[R:Rem L (big f l) F](k:G c K E (big f l'::F)):G c K E L:=fun a w hE hS=>by
  obtain ⟨m,hm⟩:=h.exists_perm_append;have h1:=(Sat.big_perm (hm.trans List.perm_append_comm) (R.sat hS)).big;rw[List.flatMap_append,List.append_assoc] at h1;exact k a w hE (Sat.big_mk (Sat.dropAll h1))
end
end Go.Sl
namespace Go.Proofs.YthdjckbjjfiopadGreatDoor
open _root_.Go.Proofs.Tryz
open Go.Sl Go.Proofs
structure DiskM where
  kept:List Bytes
  now:List Bytes
  wait:List (Nat×Bytes)
  fuse:Int
  down:Bool
def wM (l:List (Nat×Bytes)):List (List Value):=l.map fun t=>[I t.1,Str t.2]
theorem zku (l:List (Nat×Bytes)):(wM l).length=l.length:=by simp[wM]
def ziP (T TT b:Nat)(D:DiskM)(z:(Option Addr×Nat)×(Option Addr×Nat)×(Option Addr×Nat)):List HProp:=
  [pt b (.cells #[sl z.1.1 D.kept.length z.1.2,sl z.2.1.1 D.now.length z.2.1.2,sl z.2.2.1 D.wait.length z.2.2.2,I D.fuse,Bo D.down] T (0,0)),owL 9 1 z.1.1 z.1.2 (yN D.kept),owL 9 1 z.2.1.1 z.2.1.2 (yN D.now),owL TT 2 z.2.2.1 z.2.2.2 (wM D.wait)]
def dsk (T TT b:Nat)(D:DiskM):HProp:=hx (ziP T TT b D)
def yV (D:DiskM):Int:=if D.down=true∨D.fuse=0 then 9 else 0
def yZ (D:DiskM):DiskM:=if D.down=true then D else if D.fuse=0 then ⟨D.kept,D.now,D.wait, -1,true⟩ else ⟨D.kept,D.now,D.wait,if D.fuse - 1< -1 then -1 else D.fuse - 1,D.down⟩
def zgR (D:DiskM)(n:Int):Bytes×Int:=if D.down=true then ([],9) else if n<0∨(D.now.length:Int)≤n then ([],1) else ((D.now[n.toNat]?).getD [],0)
theorem zn7 {D:DiskM}{n:Int}(h:D.down=true):zgR D n=([],9):=by unfold zgR;rw[if_pos h]
theorem zpu {D:DiskM}{n:Int}(h:D.down=false)(hn:n<0∨(D.now.length:Int)≤n):zgR D n=([],1):=by unfold zgR;rw[if_neg (by simp[h]),if_pos hn]
theorem zgq {D:DiskM}{n:Int}{x:Bytes}(h:D.down=false)(hn:¬(n<0∨(D.now.length:Int)≤n))(hx:D.now[n.toNat]? =some x):zgR D n=(x,0):=by unfold zgR;rw[if_neg (by simp[h]),if_neg hn,hx];rfl
theorem zi8 {l:List Bytes}{k:Nat}{x:Bytes}(h:l[k]? =some x):(yN l)[k]? =some [Str x]:=by simp[yN,h]
def zh5 (D:DiskM)(n:Int)(s:Bytes):Prop:=n<0∨(D.now.length:Int)≤n∨80<s.length
instance (D:DiskM)(n:Int)(s:Bytes):Decidable (zh5 D n s):=by unfold zh5;infer_instance
def yO (D:DiskM)(n:Int)(s:Bytes):Int:=if zh5 D n s then 1 else yV D
def ww (D:DiskM)(n:Int)(s:Bytes):DiskM:=⟨D.kept,D.now.set n.toNat (yi s),D.wait++ [(n.toNat,yi s)],D.fuse,D.down⟩
def yy (D:DiskM)(n:Int)(s:Bytes):DiskM:=if zh5 D n s then D else if yV D=0 then ww (yZ D) n s else yZ D
theorem wB (D:DiskM):(yZ D).now=D.now:=by unfold yZ;split;rfl;split <;> rfl
theorem wb (D:DiskM):(yZ D).kept=D.kept:=by unfold yZ;split;rfl;split <;> rfl
theorem ws (D:DiskM):(yZ D).wait=D.wait:=by unfold yZ;split;rfl;split <;> rfl
theorem znx (l:List Bytes)(j:Nat)(x y:Bytes):(yN l).set j ([Str x].set 0 (Str y))=yN (l.set j y):=by simp[yN,List.map_set]
theorem zoY (l:List (Nat×Bytes)){n:Int}(h:0≤n)(x:Bytes):wM l++ [[I n,Str x]]=wM (l++ [(n.toNat,x)]):=by simp[wM,Int.toNat_of_nonneg h]
theorem zfT (b:Nat)(D:DiskM)(hf: -1≤D.fuse∧D.fuse≤9223372036854775807)(F:List HProp):Ct Tryz.prog 184 [ptr b 0] ([dsk 140 142 b (D)]++F) (R1 (yK (yV D)) (dsk 140 142 b (yZ D)::F)):=by
  show Ct Tryz.prog 184 [ptr b 0] (dsk 140 142 b (D)::F) _;refine Ct.of func184 rR 35 ntmps184 (by simp) fun w0=>?_;refine zb1 (dsk 140 142 b (D)) rR ?_;rintro ⟨⟨s1,c1⟩,⟨s2,c2⟩,⟨s3,c3⟩⟩;show G _ _ _ (pt b (.cells #[sl s1 (D.kept).length c1,sl s2 (D.now).length c2,sl s3 (D.wait).length c3,I (D.fuse),Bo (D.down)] 140 (0,0))::owL 9 1 s1 c1 (yN (D.kept))::owL 9 1 s2 c2 (yN (D.now))::owL 142 2 s3 c3 (wM (D.wait))::F);refine gS (gA rR (qb (qf (gS (gM rR (g_v (qc rR) rR (g_v (qa 4 underlying140 rR rR sizeOf4 (by decide) rR) rR (g_v (qe isAgg4 rR rR) rR (g_v (wo rR) rR (gM rR (qK rR rR (fun hg=>qp rR) rR rR (qK rR rR (fun hg=>qc rR) rR rR (qK rR rR (fun hg=>qa 3 underlying140 rR rR sizeOf3 (by decide) rR) rR rR (qK rR rR (fun hg=>qe isAgg3 rR rR) rR rR (qK rR rR (fun hg=>wh rR rR) rR rR (g_v (zas rR rR) rR (qb ?_)))))))))))))))));refine qg rR (fun h14=>?_) (fun h14=>?_)
  · simp at h14;obtain ⟨h14a,h14b⟩:=h14;refine qo (gM rR (gM rR (g_v (qc rR) rR (g_v (qa 4 underlying140 rR rR sizeOf4 (by decide) rR) rR ?_))));refine yp (qH #[sl s1 (D.kept).length c1,sl s2 (D.now).length c2,sl s3 (D.wait).length c3,I (D.fuse),Bo (true)] sizeOf4 rR rR rR (by simp) rR) ?_;rintro _ _ rfl;refine g_v (qc rR) rR (g_v (qa 3 underlying140 rR rR sizeOf3 (by decide) rR) rR ?_);refine yp (qH #[sl s1 (D.kept).length c1,sl s2 (D.now).length c2,sl s3 (D.wait).length c3,I (-1),Bo (true)] sizeOf3 rR rR rR (by simp) rR) ?_;rintro _ _ rfl;refine qb (qf (gS (gM rR (g_v (qc rR) rR (g_v (qa 4 underlying140 rR rR sizeOf4 (by decide) rR) rR (g_v (qe isAgg4 rR rR) rR (qb ?_)))))));refine qg rR (fun h24=>?_) (fun h24=>?_)
    · refine gS (g_v (qB underlying108 rR rR) rR (gA rR (qb ?_)));refine zaY (A:=ziP 140 142 b ⟨D.kept,D.now,D.wait, -1,true⟩) [pt b (.cells #[sl s1 (D.kept).length c1,sl s2 (D.now).length c2,sl s3 (D.wait).length c3,I (-1),Bo (true)] 140 (0,0)),owL 9 1 s1 c1 (yN (D.kept)),owL 9 1 s2 c2 (yN (D.now)),owL 142 2 s3 c3 (wM (D.wait))] (dsk 140 142 b (⟨D.kept,D.now,D.wait, -1,true⟩)) ((s1,c1),(s2,c2),(s3,c3)) rR rR ?_;rw[show (⟨D.kept,D.now,D.wait, -1,true⟩:DiskM)=yZ D by simp[yZ,h14a,h14b]];exact qn rfl rfl (by rw[show yV D=9 by simp[yV,h14b]];rfl)
    · cases h24
  · simp at h14;refine qh (qf (gS (gM rR (g_v (qc rR) rR (g_v (qa 4 underlying140 rR rR sizeOf4 (by decide) rR) rR (g_v (qe isAgg4 rR rR) rR (qb ?_)))))));refine qg rR (fun h24=>?_) (fun h24=>?_)
    · refine gS (g_v (qB underlying108 rR rR) rR (gA rR (qb ?_)));refine zaY (A:=ziP 140 142 b ⟨D.kept,D.now,D.wait,D.fuse,D.down⟩) [pt b (.cells #[sl s1 (D.kept).length c1,sl s2 (D.now).length c2,sl s3 (D.wait).length c3,I (D.fuse),Bo (D.down)] 140 (0,0)),owL 9 1 s1 c1 (yN (D.kept)),owL 9 1 s2 c2 (yN (D.now)),owL 142 2 s3 c3 (wM (D.wait))] (dsk 140 142 b (⟨D.kept,D.now,D.wait,D.fuse,D.down⟩)) ((s1,c1),(s2,c2),(s3,c3)) rR rR ?_;rw[show (⟨D.kept,D.now,D.wait,D.fuse,D.down⟩:DiskM)=yZ D by unfold yZ;rw[if_pos h24]];exact qn rfl rfl (by rw[show yV D=9 by simp[yV,h24]];rfl)
    · refine qh (gS (gM rR (gM rR (g_v (qc rR) rR (g_v (qa 3 underlying140 rR rR sizeOf3 (by decide) rR) rR (g_v (qe isAgg3 rR rR) rR (g_v (zce rR rR (w64 (by omega))) rR (g_v (zp2 rR rR) rR (g_v (qc rR) rR (g_v (qa 3 underlying140 rR rR sizeOf3 (by decide) rR) rR ?_))))))))));refine yp (qH #[sl s1 (D.kept).length c1,sl s2 (D.now).length c2,sl s3 (D.wait).length c3,I (if D.fuse - 1< -1 then -1 else D.fuse - 1),Bo (D.down)] sizeOf3 rR rR rR (by simp) rR) ?_;rintro _ _ rfl;refine qb (gS (gA rR (qb ?_)));refine zaY (A:=ziP 140 142 b ⟨D.kept,D.now,D.wait,if D.fuse - 1< -1 then -1 else D.fuse - 1,D.down⟩) [pt b (.cells #[sl s1 (D.kept).length c1,sl s2 (D.now).length c2,sl s3 (D.wait).length c3,I (if D.fuse - 1< -1 then -1 else D.fuse - 1),Bo (D.down)] 140 (0,0)),owL 9 1 s1 c1 (yN (D.kept)),owL 9 1 s2 c2 (yN (D.now)),owL 142 2 s3 c3 (wM (D.wait))] (dsk 140 142 b (⟨D.kept,D.now,D.wait,if D.fuse - 1< -1 then -1 else D.fuse - 1,D.down⟩)) ((s1,c1),(s2,c2),(s3,c3)) rR rR ?_;rw[show (⟨D.kept,D.now,D.wait,if D.fuse - 1< -1 then -1 else D.fuse - 1,D.down⟩:DiskM)=yZ D by simp[yZ,h24,h14 h24]];exact qn rfl rfl (by rw[show yV D=0 by simp[yV,h24,h14 h24]];rfl)
theorem yX (b:Nat)(D:DiskM)(F:List HProp):Ct Tryz.prog 102 [ptr b 0] ([dsk 140 142 b (D)]++F) (R1 (I D.now.length) (dsk 140 142 b (D)::F)):=by
  show Ct Tryz.prog 102 [ptr b 0] (dsk 140 142 b (D)::F) _;refine Ct.of func102 rR 8 ntmps102 (by simp) fun w0=>?_;refine zb1 (dsk 140 142 b (D)) rR ?_;rintro ⟨⟨s1,c1⟩,⟨s2,c2⟩,⟨s3,c3⟩⟩;show G _ _ _ (pt b (.cells #[sl s1 (D.kept).length c1,sl s2 (D.now).length c2,sl s3 (D.wait).length c3,I (D.fuse),Bo (D.down)] 140 (0,0))::owL 9 1 s1 c1 (yN (D.kept))::owL 9 1 s2 c2 (yN (D.now))::owL 142 2 s3 c3 (wM (D.wait))::F);refine gS (gA rR (qb (gS (gM rR (g_v (qc rR) rR (g_v (qa 1 underlying140 rR rR sizeOf31 (by decide) rR) rR (g_v (qe isAgg31 rR rR) rR (g_v (yo underlying31 rR) rR (gA rR (qb ?_))))))))));refine zaY (A:=ziP 140 142 b ⟨D.kept,D.now,D.wait,D.fuse,D.down⟩) [pt b (.cells #[sl s1 (D.kept).length c1,sl s2 (D.now).length c2,sl s3 (D.wait).length c3,I (D.fuse),Bo (D.down)] 140 (0,0)),owL 9 1 s1 c1 (yN (D.kept)),owL 9 1 s2 c2 (yN (D.now)),owL 142 2 s3 c3 (wM (D.wait))] (dsk 140 142 b (⟨D.kept,D.now,D.wait,D.fuse,D.down⟩)) ((s1,c1),(s2,c2),(s3,c3)) rR rR ?_;show G _ _ _ (dsk 140 142 b (D)::F);exact qn rfl rfl rfl
theorem zb3 (b:Nat)(D:DiskM)(F:List HProp):Ct Tryz.prog 34 [ptr b 0] ([dsk 140 142 b (D)]++F) (R1 (Bo D.down) (dsk 140 142 b (D)::F)):=by
  show Ct Tryz.prog 34 [ptr b 0] (dsk 140 142 b (D)::F) _;refine Ct.of func34 rR 7 ntmps34 (by simp) fun w0=>?_;refine zb1 (dsk 140 142 b (D)) rR ?_;rintro ⟨⟨s1,c1⟩,⟨s2,c2⟩,⟨s3,c3⟩⟩;show G _ _ _ (pt b (.cells #[sl s1 (D.kept).length c1,sl s2 (D.now).length c2,sl s3 (D.wait).length c3,I (D.fuse),Bo (D.down)] 140 (0,0))::owL 9 1 s1 c1 (yN (D.kept))::owL 9 1 s2 c2 (yN (D.now))::owL 142 2 s3 c3 (wM (D.wait))::F);refine gS (gA rR (qb (gS (gM rR (g_v (qc rR) rR (g_v (qa 4 underlying140 rR rR sizeOf4 (by decide) rR) rR (g_v (qe isAgg4 rR rR) rR (gA rR (qb ?_)))))))));refine zaY (A:=ziP 140 142 b ⟨D.kept,D.now,D.wait,D.fuse,D.down⟩) [pt b (.cells #[sl s1 (D.kept).length c1,sl s2 (D.now).length c2,sl s3 (D.wait).length c3,I (D.fuse),Bo (D.down)] 140 (0,0)),owL 9 1 s1 c1 (yN (D.kept)),owL 9 1 s2 c2 (yN (D.now)),owL 142 2 s3 c3 (wM (D.wait))] (dsk 140 142 b (⟨D.kept,D.now,D.wait,D.fuse,D.down⟩)) ((s1,c1),(s2,c2),(s3,c3)) rR rR ?_;show G _ _ _ (dsk 140 142 b (D)::F);exact qn rfl rfl rfl
theorem zmo (b:Nat)(D:DiskM)(n:Int)(F:List HProp):Ct Tryz.prog 31 [ptr b 0,I n] ([dsk 140 142 b (D)]++F) (R1 (.tuple #[]) (dsk 140 142 b (⟨D.kept,D.now,D.wait,if n< -1 then -1 else n,D.down⟩)::F)):=by
  show Ct Tryz.prog 31 [ptr b 0,I n] (dsk 140 142 b (D)::F) _;refine Ct.of func31 rR 9 ntmps31 (by simp) fun w0=>?_;refine zb1 (dsk 140 142 b (D)) rR ?_;rintro ⟨⟨s1,c1⟩,⟨s2,c2⟩,⟨s3,c3⟩⟩;show G _ _ _ (pt b (.cells #[sl s1 (D.kept).length c1,sl s2 (D.now).length c2,sl s3 (D.wait).length c3,I (D.fuse),Bo (D.down)] 140 (0,0))::owL 9 1 s1 c1 (yN (D.kept))::owL 9 1 s2 c2 (yN (D.now))::owL 142 2 s3 c3 (wM (D.wait))::F);refine qo (gM rR (gM rR (g_v (zp2 rR rR) rR (g_v (qc rR) rR (g_v (qa 3 underlying140 rR rR sizeOf3 (by decide) rR) rR ?_)))));refine yp (qH #[sl s1 (D.kept).length c1,sl s2 (D.now).length c2,sl s3 (D.wait).length c3,I (if n< -1 then -1 else n),Bo (D.down)] sizeOf3 rR rR rR (by simp) rR) ?_;rintro _ _ rfl;refine qb ?_;refine zaY (A:=ziP 140 142 b ⟨D.kept,D.now,D.wait,if n< -1 then -1 else n,D.down⟩) [pt b (.cells #[sl s1 (D.kept).length c1,sl s2 (D.now).length c2,sl s3 (D.wait).length c3,I (if n< -1 then -1 else n),Bo (D.down)] 140 (0,0)),owL 9 1 s1 c1 (yN (D.kept)),owL 9 1 s2 c2 (yN (D.now)),owL 142 2 s3 c3 (wM (D.wait))] (dsk 140 142 b (⟨D.kept,D.now,D.wait,if n< -1 then -1 else n,D.down⟩)) ((s1,c1),(s2,c2),(s3,c3)) rR rR ?_;exact zck rfl rfl rfl
theorem zdn (b:Nat)(D:DiskM)(n:Int)(F:List HProp):Ct Tryz.prog 103 [ptr b 0,I n] ([dsk 140 142 b (D)]++F) (R1 (.tuple #[Str (zgR D n).1,yK (zgR D n).2]) (dsk 140 142 b (D)::F)):=by
  show Ct Tryz.prog 103 [ptr b 0,I n] (dsk 140 142 b (D)::F) _;refine Ct.of func103 rR 30 ntmps103 (by simp) fun w0=>?_;refine zb1 (dsk 140 142 b (D)) rR ?_;rintro ⟨⟨s1,c1⟩,⟨s2,c2⟩,⟨s3,c3⟩⟩;show G _ _ _ (pt b (.cells #[sl s1 (D.kept).length c1,sl s2 (D.now).length c2,sl s3 (D.wait).length c3,I (D.fuse),Bo (D.down)] 140 (0,0))::owL 9 1 s1 c1 (yN (D.kept))::owL 9 1 s2 c2 (yN (D.now))::owL 142 2 s3 c3 (wM (D.wait))::F);refine gS (gA rR (gA rR (qb (qf (gS (gM rR (g_v (qc rR) rR (g_v (qa 4 underlying140 rR rR sizeOf4 (by decide) rR) rR (g_v (qe isAgg4 rR rR) rR (qb ?_))))))))));refine qg rR (fun h9=>?_) (fun h9=>?_)
  · refine gS (g_v (qB underlying108 rR rR) rR (gA rR (gA rR (qb ?_))));refine zaY (A:=ziP 140 142 b ⟨D.kept,D.now,D.wait,D.fuse,D.down⟩) [pt b (.cells #[sl s1 (D.kept).length c1,sl s2 (D.now).length c2,sl s3 (D.wait).length c3,I (D.fuse),Bo (D.down)] 140 (0,0)),owL 9 1 s1 c1 (yN (D.kept)),owL 9 1 s2 c2 (yN (D.now)),owL 142 2 s3 c3 (wM (D.wait))] (dsk 140 142 b (⟨D.kept,D.now,D.wait,D.fuse,D.down⟩)) ((s1,c1),(s2,c2),(s3,c3)) rR rR ?_;show G _ _ _ (dsk 140 142 b (D)::F);exact qn rfl rfl (by rw[zn7 h9];rfl)
  · refine qh (qf (gS (gM rR (g_v (qJ rR rR) rR (gM rR (qK rR rR (fun hg=>qp rR) rR rR (qK rR rR (fun hg=>qp rR) rR rR (qK rR rR (fun hg=>qc rR) rR rR (qK rR rR (fun hg=>qa 1 underlying140 rR rR sizeOf31 (by decide) rR) rR rR (qK rR rR (fun hg=>qe isAgg31 rR rR) rR rR (qK rR rR (fun hg=>yo underlying31 rR) rR rR (qK rR rR (fun hg=>zig rR rR) rR rR (g_v (zaH rR rR) rR (qb ?_))))))))))))));refine qg rR (fun h21=>?_) (fun h21=>?_)
    · simp at h21;refine gS (g_v (qB underlying108 rR rR) rR (gA rR (gA rR (qb ?_))));refine zaY (A:=ziP 140 142 b ⟨D.kept,D.now,D.wait,D.fuse,D.down⟩) [pt b (.cells #[sl s1 (D.kept).length c1,sl s2 (D.now).length c2,sl s3 (D.wait).length c3,I (D.fuse),Bo (D.down)] 140 (0,0)),owL 9 1 s1 c1 (yN (D.kept)),owL 9 1 s2 c2 (yN (D.now)),owL 142 2 s3 c3 (wM (D.wait))] (dsk 140 142 b (⟨D.kept,D.now,D.wait,D.fuse,D.down⟩)) ((s1,c1),(s2,c2),(s3,c3)) rR rR ?_;show G _ _ _ (dsk 140 142 b (D)::F);exact qn rfl rfl (by rw[zpu h9 (by omega)];rfl)
    · simp at h21;have hno:¬(n<0∨(D.now.length:Int)≤n):=(by omega);obtain ⟨x,hx⟩:∃x,D.now[n.toNat]? =some x:=⟨_,List.getElem?_eq_getElem (by omega)⟩;have hrow:=zi8 hx;have hlt:n.toNat<D.now.length:=(by omega);have hlt2:n.toNat<(yN D.now).length:=(by rw[zb6];exact hlt);refine qh (gS (gM rR (g_v (qc rR) rR (g_v (qa 1 underlying140 rR rR sizeOf31 (by decide) rR) rR (g_v (qe isAgg31 rR rR) rR (gM rR (g_v (qA n.toNat underlying31 sizeOf9 rR rR (by omega) hlt hlt2) rR (g_v (yd isAgg9 rR hrow rR) rR (gA rR (gA rR (qb ?_)))))))))));refine zaY (A:=ziP 140 142 b ⟨D.kept,D.now,D.wait,D.fuse,D.down⟩) [pt b (.cells #[sl s1 (D.kept).length c1,sl s2 (D.now).length c2,sl s3 (D.wait).length c3,I (D.fuse),Bo (D.down)] 140 (0,0)),owL 9 1 s1 c1 (yN (D.kept)),owL 9 1 s2 c2 (yN (D.now)),owL 142 2 s3 c3 (wM (D.wait))] (dsk 140 142 b (⟨D.kept,D.now,D.wait,D.fuse,D.down⟩)) ((s1,c1),(s2,c2),(s3,c3)) rR rR ?_;show G _ _ _ (dsk 140 142 b (D)::F);exact qn rfl rfl (by rw[zgq h9 hno hx];rfl)
-- (*counterfoil/counterfoilref.Disk).Read is not in this seat
-- (*counterfoil/counterfoilref.Disk).step is not in this seat
theorem wv (b:Nat)(D:DiskM)(n:Int)(s:Bytes)(hf: -1≤D.fuse∧D.fuse≤9223372036854775807)(hw:D.wait.length≤1000000)(F:List HProp):Ct Tryz.prog 136 [ptr b 0,I n,Str s] ([dsk 140 142 b (D)]++F) (R1 (yK (yO D n s)) (dsk 140 142 b (yy D n s)::F)):=by
  show Ct Tryz.prog 136 [ptr b 0,I n,Str s] (dsk 140 142 b (D)::F) _;refine Ct.of func136 rR 56 ntmps136 (by simp) fun w0=>?_;refine zb1 (dsk 140 142 b (D)) rR ?_;rintro ⟨⟨s1,c1⟩,⟨s2,c2⟩,⟨s3,c3⟩⟩;show G _ _ _ (pt b (.cells #[sl s1 (D.kept).length c1,sl s2 (D.now).length c2,sl s3 (D.wait).length c3,I (D.fuse),Bo (D.down)] 140 (0,0))::owL 9 1 s1 c1 (yN (D.kept))::owL 9 1 s2 c2 (yN (D.now))::owL 142 2 s3 c3 (wM (D.wait))::F);refine gS (gA rR (qb (qf (gS (gM rR (g_v (qJ rR rR) rR (gM rR (qK rR rR (fun hg=>qp rR) rR rR (qK rR rR (fun hg=>qp rR) rR rR (qK rR rR (fun hg=>qc rR) rR rR (qK rR rR (fun hg=>qa 1 underlying140 rR rR sizeOf31 (by decide) rR) rR rR (qK rR rR (fun hg=>qe isAgg31 rR rR) rR rR (qK rR rR (fun hg=>yo underlying31 rR) rR rR (qK rR rR (fun hg=>zig rR rR) rR rR (g_v (zaH rR rR) rR (gM rR (qK rR rR (fun hg=>qp rR) rR rR (qK rR rR (fun hg=>wi underlying9 rR) rR rR (qK rR rR (fun hg=>yA rR rR) rR rR (g_v (zaH rR rR) rR (qb ?_)))))))))))))))))))));refine qg rR (fun h23=>?_) (fun h23=>?_)
  · simp at h23;have hbad:zh5 D n s:=(by unfold zh5;omega);refine gS (g_v (qB underlying108 rR rR) rR (gA rR (qb ?_)));refine zaY (A:=ziP 140 142 b ⟨D.kept,D.now,D.wait,D.fuse,D.down⟩) [pt b (.cells #[sl s1 (D.kept).length c1,sl s2 (D.now).length c2,sl s3 (D.wait).length c3,I (D.fuse),Bo (D.down)] 140 (0,0)),owL 9 1 s1 c1 (yN (D.kept)),owL 9 1 s2 c2 (yN (D.now)),owL 142 2 s3 c3 (wM (D.wait))] (dsk 140 142 b (⟨D.kept,D.now,D.wait,D.fuse,D.down⟩)) ((s1,c1),(s2,c2),(s3,c3)) rR rR ?_;show G _ _ _ (dsk 140 142 b (D)::F);have eD:yy D n s=D:=(by unfold yy;rw[if_pos hbad]);rw[show dsk 140 142 b (D)=dsk 140 142 b (yy D n s) by rw[eD]];exact qn rfl rfl (by rw[show yO D n s=1 by unfold yO;rw[if_pos hbad]];rfl)
  · simp at h23;have hbad:¬zh5 D n s:=(by unfold zh5;omega);refine qh (gS (gM rR ?_));refine zaY (A:=ziP 140 142 b ⟨D.kept,D.now,D.wait,D.fuse,D.down⟩) [pt b (.cells #[sl s1 (D.kept).length c1,sl s2 (D.now).length c2,sl s3 (D.wait).length c3,I (D.fuse),Bo (D.down)] 140 (0,0)),owL 9 1 s1 c1 (yN (D.kept)),owL 9 1 s2 c2 (yN (D.now)),owL 142 2 s3 c3 (wM (D.wait))] (dsk 140 142 b (⟨D.kept,D.now,D.wait,D.fuse,D.down⟩)) ((s1,c1),(s2,c2),(s3,c3)) rR rR ?_;show G _ _ _ (dsk 140 142 b (D)::F);refine g_l (qi (Pre:=[dsk 140 142 b (D)]) call184 rR (zfT b D hf)) rR ?_;rintro _ _ ⟨rfl,rfl⟩;have hnow:=wB D;have hwait:=ws D;generalize hD1:yZ D=D1 at*;refine gA rR (qb (qf (gS (gM rR (g_v (zab underlying37 rR) rR (qb ?_))))));refine qg rR (fun h28=>?_) (fun h28=>?_)
    · simp at h28;have he0:yV D=0:=h28;refine zb1 (dsk 140 142 b (D1)) rR ?_;rintro ⟨⟨s1,c1⟩,⟨s2,c2⟩,⟨s3,c3⟩⟩;show G _ _ _ (pt b (.cells #[sl s1 (D1.kept).length c1,sl s2 (D1.now).length c2,sl s3 (D1.wait).length c3,I (D1.fuse),Bo (D1.down)] 140 (0,0))::owL 9 1 s1 c1 (yN (D1.kept))::owL 9 1 s2 c2 (yN (D1.now))::owL 142 2 s3 c3 (wM (D1.wait))::F);rw[←hnow] at h23;rw[←hwait] at hw;obtain ⟨x,hx⟩:∃x,D1.now[n.toNat]? =some x:=⟨_,List.getElem?_eq_getElem (by omega)⟩;have hrow:=zi8 hx;have hlt:n.toNat<D1.now.length:=(by omega);have hlt2:n.toNat<(yN D1.now).length:=(by rw[zb6];exact hlt);have hy:(D1.now.set n.toNat (yi s))[n.toNat]? =some (yi s):=(by simp[hlt]);have hrow2:=zi8 hy;refine qf ?_;refine zcJ (Lf:=pt b (.cells #[sl s1 (D1.kept).length c1,sl s2 (D1.now).length c2,sl s3 (D1.wait).length c3,I (D1.fuse),Bo (D1.down)] 140 (0,0))::owL 9 1 s2 c2 (yN (D1.now))::F) [(0,false),(1,false),(2,false),(3,false),(4,false),(5,false),(6,true),(7,false)] 8 rR (by kernel_rfl) (by kernel_rfl) rR (by kernel_rfl) (by kernel_rfl) ?_;refine dM rR rR rR (d_v rR (qc rR) rR (d_v rR (qa 1 underlying140 rR rR sizeOf31 (by decide) rR) rR (d_v rR (qe isAgg31 rR rR) rR (dM rR rR rR (dM rR rR rR ?_)))));refine d_l rR (qi (Pre:=[]) call84 rR (zfQ s (by omega))) rR ?_;rintro _ _ ⟨rfl,rfl⟩;refine d_v rR (qA n.toNat underlying31 sizeOf9 rR rR (by omega) hlt hlt2) rR ?_;refine yc ?_;refine yp (zk0 (row:=[Str x]) sizeOf9 rR rR rR hrow (by decide)) ?_;rintro _ _ rfl;rw[znx];refine qb ?_;refine zcJ (Lf:=pt b (.cells #[sl s1 (D1.kept).length c1,sl s2 (D1.now).length c2,sl s3 (D1.wait).length c3,I (D1.fuse),Bo (D1.down)] 140 (0,0))::owL 9 1 s2 c2 (yN (D1.now.set n.toNat (yi s)))::F) [(0,false),(1,false),(2,false),(3,false),(4,false),(5,false),(6,false),(7,false),(8,false),(9,false),(10,false),(11,false),(12,false),(13,false),(14,true),(15,true),(16,false),(17,false)] 18 rR (by kernel_rfl) (by kernel_rfl) rR (by kernel_rfl) (by kernel_rfl) ?_;refine dM rR rR rR (dM rR rR rR (d_v rR (qc rR) rR (d_v rR (qa 2 underlying140 rR rR sizeOf138 (by decide) rR) rR (d_v rR (qe isAgg138 rR rR) rR (dM rR rR rR (dM rR rR rR (d_v rR (qc rR) rR (d_v rR (qa 1 underlying140 rR rR sizeOf31 (by decide) rR) rR (d_v rR (qe isAgg31 rR rR) rR (dM rR rR rR (d_v rR (qA n.toNat underlying31 sizeOf9 rR rR (by omega) hlt (by rw[zb6,List.length_set];exact hlt)) rR (d_v rR (yd isAgg9 rR hrow2 rR) rR (d_v rR (qP rR (zot _ rR _ rR)) rR ?_)))))))))))));refine d_l rR (qs [[I n,Str (yi s)]] underlying138 sizeOf142 zeroValue142 rR rR rR (by simp) (by decide) (by decide)) rR ?_;rintro _ _ ⟨b51,rfl,rfl⟩;refine d_l rR (yC underlying138 sizeOf142 zeroValue142 rR Tryz.typeInfo142 (by decide) rR rR (zku _) rR (by simp) (by simp[ones,one]) ⟨by omega,by decide,by decide⟩) rR ?_
      rintro _ _ ⟨s52,c52,rfl,rfl⟩;rw[zoY _ (by omega)];refine d_v rR (qc rR) rR (d_v rR (qa 2 underlying140 rR rR sizeOf138 (by decide) rR) rR ?_);refine yc ?_;refine yp (qH #[sl s1 (D1.kept).length c1,sl s2 (D1.now).length c2,sl s52 (D1.wait.length+1) c52,I (D1.fuse),Bo (D1.down)] sizeOf138 rR rR rR (by simp) rR) ?_;rintro _ _ rfl;refine qb (gS (gM rR (gA rR (qb ?_))));refine zaY (A:=ziP 140 142 b (ww D1 n s)) [pt b (.cells #[sl s1 (D1.kept).length c1,sl s2 (D1.now).length c2,sl s52 (D1.wait.length+1) c52,I (D1.fuse),Bo (D1.down)] 140 (0,0)),owL 9 1 s1 c1 (yN (D1.kept)),owL 9 1 s2 c2 (yN (D1.now.set n.toNat (yi s))),owL 142 2 s52 c52 (wM (D1.wait++ [(n.toNat,yi s)]))] (dsk 140 142 b (ww D1 n s)) ((s1,c1),(s2,c2),(s52,c52)) rR (by simp[ziP,ww]) ?_;rw[show ww D1 n s=yy D n s by unfold yy;rw[if_neg hbad,if_pos he0,hD1]];exact qn rfl rfl (by rw[show yO D n s=yV D by unfold yO;rw[if_neg hbad]];rfl)
    · simp at h28;have he0:¬yV D=0:=h28;refine qh (gS (gM rR (gA rR (qb ?_))));rw[show D1=yy D n s by unfold yy;rw[if_neg hbad,if_neg he0,hD1]];exact qn rfl rfl (by rw[show yO D n s=yV D by unfold yO;rw[if_neg hbad]];rfl)
def zaO (D:DiskM):DiskM:=⟨D.now,D.now,[],D.fuse,D.down⟩
def yx (D:DiskM):DiskM:=if yV D=0 then zaO (yZ D) else yZ D
theorem znc {r1 r2:List Bytes}(h:r1.length=r2.length):(yN r1).take 0++((yN r2).drop 0).take (Nat.min r2.length r1.length)++(yN r1).drop (0+Nat.min r2.length r1.length)=yN r2:=by
  have e:Nat.min r2.length r1.length=r2.length:=Nat.min_eq_left (by omega);rw[e,Nat.zero_add,List.drop_zero,List.take_zero,List.nil_append,List.take_of_length_le (by simp[yN]),List.drop_of_length_le (by simp[yN];omega),List.append_nil]
theorem zlI (D:DiskM):yV D=0∨yV D=9:=by unfold yV;split <;> simp
-- counterfoil/counterfoilref.noughts is not in this seat
-- (*counterfoil/counterfoilref.Disk).Write is not in this seat
theorem zao (b:Nat)(D:DiskM)(hf: -1≤D.fuse∧D.fuse≤9223372036854775807)(hk:D.kept.length=D.now.length)(hn:D.now.length≤1000000)(F:List HProp):Ct Tryz.prog 137 [ptr b 0] ([dsk 140 142 b (D)]++F) (R1 (yK (yV D)) (dsk 140 142 b (yx D)::F)):=by
  show Ct Tryz.prog 137 [ptr b 0] (dsk 140 142 b (D)::F) _;refine Ct.of func137 rR 21 ntmps137 (by simp) fun w0=>?_;refine gS (gA rR (qb (gS (gM rR ?_))));refine g_l (qi (Pre:=[dsk 140 142 b (D)]) call184 rR (zfT b D hf)) rR ?_;rintro _ _ ⟨rfl,rfl⟩;have hnow:=wB D;have hkept:=wb D;have hsc:=zlI D;generalize hD1:yZ D=D1 at*;rw[←hnow,←hkept] at hk;rw[←hnow] at hn;refine gA rR (qb (qf (gS (gM rR (g_v (zab underlying37 rR) rR (qb ?_))))));refine qg rR (fun h7=>?_) (fun h7=>?_)
  · simp at h7;have he0:yV D=0:=h7;refine zb1 (dsk 140 142 b (D1)) rR ?_;rintro ⟨⟨s1,c1⟩,⟨s2,c2⟩,⟨s3,c3⟩⟩;show G _ _ _ (pt b (.cells #[sl s1 (D1.kept).length c1,sl s2 (D1.now).length c2,sl s3 (D1.wait).length c3,I (D1.fuse),Bo (D1.down)] 140 (0,0))::owL 9 1 s1 c1 (yN (D1.kept))::owL 9 1 s2 c2 (yN (D1.now))::owL 142 2 s3 c3 (wM (D1.wait))::F);refine qf ?_;refine yw (Lf:=pt b (.cells #[sl s1 (D1.kept).length c1,sl s2 (D1.now).length c2,sl s3 (D1.wait).length c3,I (D1.fuse),Bo (D1.down)] 140 (0,0))::F) [(0,false),(1,false),(2,false),(3,false),(4,false),(5,false),(6,false),(7,false),(8,true)] (by kernel_rfl) (by kernel_rfl) rR (by kernel_rfl) ?_;refine dM rR rR rR (d_v rR (qc rR) rR (d_v rR (qa 0 underlying140 rR rR sizeOf31 (by decide) rR) rR (d_v rR (qe isAgg31 rR rR) rR (dM rR rR rR (d_v rR (qc rR) rR (d_v rR (qa 1 underlying140 rR rR sizeOf31 (by decide) rR) rR (d_v rR (qe isAgg31 rR rR) rR ?_)))))));refine d_l rR (zg9 (s:=s1) (s2:=s2) (l:=0) (p:=0) underlying31 sizeOf9 (by decide) rR rR (.inl ⟨rfl,rfl⟩) (.inl ⟨rfl,rfl⟩) (by simp[yN]) (by simp[yN]) (by simp[yN]) (by simp[yN,ones,one])) rR ?_;rintro _ _ ⟨rfl,rfl⟩;refine zcX s1 (yN D1.now) (znc hk) ?_;refine yc ?_;refine qo (gM rR (g_v (qc rR) rR (g_v (qa 2 underlying140 rR rR sizeOf138 (by decide) rR) rR ?_)));refine yp (qH #[sl s1 (D1.kept).length c1,sl s2 (D1.now).length c2,sl none 0 0,I (D1.fuse),Bo (D1.down)] sizeOf138 rR rR rR (by simp) rR) ?_;rintro _ _ rfl;refine qb ?_;refine yG 142 2 (wM []) rR ?_;refine qf ?_;skip;refine qo (gM rR (gA rR (qb ?_)));refine zaY (A:=ziP 140 142 b (zaO D1)) [pt b (.cells #[sl s1 (D1.kept).length c1,sl s2 (D1.now).length c2,sl none 0 0,I (D1.fuse),Bo (D1.down)] 140 (0,0)),owL 9 1 s1 c1 (yN D1.now),owL 9 1 s2 c2 (yN D1.now),owL 142 2 none 0 (wM [])] (dsk 140 142 b (zaO D1)) ((s1,c1),(s2,c2),(none,0)) rR (by simp[ziP,zaO,hk]) ?_;rw[show zaO D1=yx D by unfold yx;rw[if_pos he0,hD1]];exact qn rfl rfl (by rw[he0];rfl)
  · simp at h7;have he0:¬yV D=0:=h7;refine qh (qf ?_);skip;refine qo (gM rR (gA rR (qb ?_)));rw[show D1=yx D by unfold yx;rw[if_neg he0,hD1]];exact qn rfl rfl rfl
-- (*counterfoil/counterfoilref.Disk).Flush is not in this seat
def zbt (c:ChangeM):Int:=if c.key=[]∨(c.gone=true∧c.val≠ []) then 3 else if 8<c.key.length∨48<c.val.length then 2 else 0
theorem zrn (c:ChangeM):0≤zbt c:=by unfold zbt;split;simp;split <;> simp
theorem zfD {c:ChangeM}(h:zbt c=0):c.key≠ []∧(c.gone=true→c.val=[])∧c.key.length≤8∧c.val.length≤48:=by
  unfold zbt at h;split at h
  · cases h
  · rename_i h1;split at h
    · cases h
    · exact ⟨fun hh=>h1 (.inl hh),fun hg=>Decidable.byContradiction fun hv=>h1 (.inr ⟨hg,hv⟩),by omega,by omega⟩
def zfz (c:ChangeM):Bytes:=[if c.gone then 1 else 0,UInt8.ofNat c.key.length]
def zkc (c:ChangeM):Bytes:=zfz c++c.key++c.val
def zt8 (c:ChangeM):Bytes×Int:=if zbt c=0 then (zkc c,0) else ([],zbt c)
def noC:ChangeM:=⟨[],[],false⟩
def zln (x0 x1:UInt8)(r:Bytes):ChangeM:=⟨r.take x1.toNat,r.drop x1.toNat,decide ((x0.toNat:Int)=1)⟩
def prS:Bytes→ChangeM×Int
  | x0::x1::r=>if 1<x0.toNat∨r.length<x1.toNat then (noC,4) else if zbt (zln x0 x1 r)=0 then (zln x0 x1 r,0) else (noC,4)
  | _=>(noC,4)
theorem zjW (x0 x1:UInt8)(r:Bytes):prS (x0::x1::r)=if 1<x0.toNat∨r.length<x1.toNat then (noC,4) else if zbt (zln x0 x1 r)=0 then (zln x0 x1 r,0) else (noC,4):=rfl
theorem ziA {c:ChangeM}(h:c.key.length≤8):[[By (if c.gone then 1 else 0)],[By (c.key.length:Int)]]=qr (zfz c):=by
  have e:(UInt8.ofNat c.key.length).toNat=c.key.length:=(by rw[UInt8.toNat_ofNat'];omega);unfold qr zfz;rw[List.map_cons,List.map_cons,List.map_nil,e];cases c.gone <;> rfl
theorem zwp (w:World):(Instr.build 104 #[]).run Tryz.prog w= .ok (.agg (yu noC).toArray) w:=by
  simp[Instr.build,zeroValue104,runUnderlying104,sizeOf4,sizeOf9,Instr.fill,qV,yu,noC]
theorem zpy {s:Bytes}(h:¬s.length<2):∃x0 x1 r,s=x0::x1::r:=by
  match s,h with
  | x0::x1::r,_=>exact ⟨x0,x1,r,rfl⟩
  | [x],h=>simp at h
  | [],h=>simp at h
theorem zbl (c:ChangeM)(F:List HProp):Ct Tryz.prog 127 [.agg (yu c).toArray] ([]++F) (R1 (yK (zbt c)) F):=by
  show Ct Tryz.prog 127 [.agg (yu c).toArray] (F) _;refine Ct.of func127 rR 27 ntmps127 (by simp) fun w0=>?_;refine gS ?_;refine g_l (wR (yu c).toArray rR rR) rR ?_;rintro _ _ ⟨b1,rfl,rfl⟩;refine gA rR (qb (qf (gS (g_v (qa 0 underlying104 rR rR sizeOf9 (by decide) rR) rR (g_v (qe (v:=Str c.key) isAgg9 rR rR) rR (g_v (zaF rR rR) rR (gM rR ?_)))))));by_cases hk:c.key=[]
  · refine yH rR rR (by rw[decide_eq_true hk];rfl) rR (yH rR rR (by rw[decide_eq_true hk];rfl) rR (yH rR rR (by rw[decide_eq_true hk];rfl) rR (yH rR rR rR rR (yH rR rR rR rR (yH rR rR rR rR (yH rR rR (by rw[decide_eq_true hk];rfl) rR (g_v (zbp rR (decide_eq_true hk) rR) rR (qb ?_))))))));refine qg rR (fun h14=>?_) (fun h14=>?_)
    · refine gS (g_v (qB underlying108 rR rR) rR (gA rR (qb ?_)));refine qn rR rR ?_;show _=yK _;rw[show zbt c=3 by unfold zbt;rw[if_pos (.inl hk)]]
      rfl
    · exact absurd h14 (by simp)
  · refine qU rR rR (decide_eq_false hk) (qa 2 underlying104 rR rR sizeOf4 (by decide) rR) rR (qU rR rR (decide_eq_false hk) (qe (v:=Bo c.gone) isAgg4 rR rR) rR (qU rR rR (decide_eq_false hk) (qp rR) rR (qK rR rR (fun hg=>qa 1 underlying104 rR rR sizeOf9 (by decide) rR) rR rR (qK rR rR (fun hg=>qe (v:=Str c.val) isAgg9 rR rR) rR rR (qK rR rR (fun hg=>zhj rR rR) rR rR (qU rR rR (decide_eq_false hk) (zas rR rR) rR (g_v (zaH rR rR) rR (qb ?_))))))));refine qg rR (fun h14=>?_) (fun h14=>?_)
    · simp at h14;have h14':c.gone=true∧c.val≠ []:=(by rcases h14 with h | h;exact absurd h hk;exact h);refine gS (g_v (qB underlying108 rR rR) rR (gA rR (qb ?_)));refine qn rR rR ?_;show _=yK _;rw[show zbt c=3 by unfold zbt;rw[if_pos (.inr h14')]]
      rfl
    · simp at h14;have h14':¬(c.key=[]∨(c.gone=true∧c.val≠ [])):=fun hh=>(by rcases hh with h | h;exact hk h;exact h.2 (h14.2 h.1));refine qh (qf (gS (g_v (qa 0 underlying104 rR rR sizeOf9 (by decide) rR) rR (g_v (qe (v:=Str c.key) isAgg9 rR rR) rR (g_v (wi underlying9 rR) rR (g_v (yA rR rR) rR (gM rR (qK rR rR (fun hg=>qa 1 underlying104 rR rR sizeOf9 (by decide) rR) rR rR (qK rR rR (fun hg=>qe (v:=Str c.val) isAgg9 rR rR) rR rR (qK rR rR (fun hg=>wi underlying9 rR) rR rR (qK rR rR (fun hg=>yA rR rR) rR rR (g_v (zaH rR rR) rR (qb ?_)))))))))))));refine qg rR (fun h25=>?_) (fun h25=>?_)
      · simp at h25;refine gS (g_v (qB underlying108 rR rR) rR (gA rR (qb ?_)));refine qn rR rR ?_;show _=yK _;rw[show zbt c=2 by unfold zbt;rw[if_neg h14',if_pos (by omega)]]
        rfl
      · simp at h25;refine qh (gS (gA rR (qb ?_)));refine qn rR rR ?_;show _=yK _;rw[show zbt c=0 by unfold zbt;rw[if_neg h14',if_neg (by omega)]]
        rfl
-- counterfoil/counterfoilref.ChangeFault is not in this seat
theorem zkH (c:ChangeM)(F:List HProp):Ct Tryz.prog 203 [.agg (yu c).toArray] ([]++F) (R1 (.tuple #[Str (zt8 c).1,yK (zt8 c).2]) F):=by
  show Ct Tryz.prog 203 [.agg (yu c).toArray] (F) _;refine Ct.of func203 rR 26 ntmps203 (by simp) fun w0=>?_;refine gS ?_;refine g_l (wR (yu c).toArray rR rR) rR ?_;rintro _ _ ⟨b1,rfl,rfl⟩;refine gA rR (gA rR (qb (gS (g_v (qI (vs:=yu (c)) isAgg104 sizeOf104 rR rR qR) rR ?_))));refine g_l (qi (Pre:=[]) call127 rR (zbl c)) rR ?_;rintro _ _ ⟨rfl,rfl⟩;refine gA rR (qb (qf (gS (gM rR (g_v (yf underlying37 rR) rR (qb ?_))))));refine qg rR (fun h9=>?_) (fun h9=>?_)
  · simp at h9;have hb:zt8 c=([],zbt c):=(by unfold zt8;rw[if_neg (by omega)]);refine gS (gM rR (gA rR (gA rR (qb ?_))));exact qn rfl rfl (by rw[hb];rfl)
  · simp at h9;have h0:zbt c=0:=(by have:=zrn c;omega);have hb:zt8 c=(zkc c,0):=(by unfold zt8;rw[if_pos h0]);obtain ⟨_,_,hk8,hv48⟩:=zfD h0;refine qh (gS (gA rR (qb (qf (gS (g_v (qa 2 underlying104 rR rR sizeOf4 (by decide) rR) rR (g_v (qe (v:=Bo c.gone) isAgg4 rR rR) rR (qb ?_))))))));refine qg rR (fun h12=>?_) (fun h12=>?_)
    · refine qo (gA rR (qb (gS (gM rR (g_v (qa 0 underlying104 rR rR sizeOf9 (by decide) rR) rR (g_v (qe (v:=Str c.key) isAgg9 rR rR) rR (g_v (wi underlying9 rR) rR (g_v (yU underlying3 underlying5 rR (w8 (by omega))) rR ?_))))))));refine g_l (qs (qr (zfz c)) underlying199 sizeOf5 zeroValue5 rR rR (by have hr:=ziA hk8;rw[h12] at hr;exact hr) (by simp[qr]) (by decide) (by decide)) rR ?_;rintro _ _ ⟨b18,rfl,rfl⟩;refine g_v (yL (l:=zfz c) underlying199 underlying5 underlying9 rR rR rR) rR (g_v (qa 0 underlying104 rR rR sizeOf9 (by decide) rR) rR (g_v (qe (v:=Str c.key) isAgg9 rR rR) rR (g_v (wN rR rR (by simp[zfz];omega)) rR (g_v (qa 1 underlying104 rR rR sizeOf9 (by decide) rR) rR (g_v (qe (v:=Str c.val) isAgg9 rR rR) rR (g_v (wN rR rR (by simp[zfz];omega)) rR (gA rR (gA rR (qb ?_)))))))));exact qn rfl rfl (by rw[hb];rfl)
    · refine qh (gS (gM rR (g_v (qa 0 underlying104 rR rR sizeOf9 (by decide) rR) rR (g_v (qe (v:=Str c.key) isAgg9 rR rR) rR (g_v (wi underlying9 rR) rR (g_v (yU underlying3 underlying5 rR (w8 (by omega))) rR ?_))))));refine g_l (qs (qr (zfz c)) underlying199 sizeOf5 zeroValue5 rR rR (by have hr:=ziA hk8;rw[h12] at hr;exact hr) (by simp[qr]) (by decide) (by decide)) rR ?_;rintro _ _ ⟨b18,rfl,rfl⟩;refine g_v (yL (l:=zfz c) underlying199 underlying5 underlying9 rR rR rR) rR (g_v (qa 0 underlying104 rR rR sizeOf9 (by decide) rR) rR (g_v (qe (v:=Str c.key) isAgg9 rR rR) rR (g_v (wN rR rR (by simp[zfz];omega)) rR (g_v (qa 1 underlying104 rR rR sizeOf9 (by decide) rR) rR (g_v (qe (v:=Str c.val) isAgg9 rR rR) rR (g_v (wN rR rR (by simp[zfz];omega)) rR (gA rR (gA rR (qb ?_)))))))));exact qn rfl rfl (by rw[hb];rfl)
-- counterfoil/counterfoilref.ChangeBytes is not in this seat
theorem zk9 (s:Bytes)(hs:s.length≤4611686018427387904)(F:List HProp):Ct Tryz.prog 147 [Str s] ([]++F) (R1 (.tuple #[.agg (yu (prS s).1).toArray,yK (prS s).2]) F):=by
  show Ct Tryz.prog 147 [Str s] (F) _;refine Ct.of func147 rR 45 ntmps147 (by simp) fun w0=>?_;refine gS ?_;refine g_l (qy #[Str [],Str [],Bo false] zeroValue104) rR ?_;rintro _ _ ⟨b2,rfl,rfl⟩;refine gA rR (qb (qf (gS (gM rR (g_v (wi underlying9 rR) rR (g_v (qJ rR rR) rR (gM rR ?_)))))));by_cases h2:s.length<2
  · have hp:prS s=(noC,4):=(by match s,h2 with | [],_=>rfl | [_],_=>rfl);refine yH rR rR (by rw[decide_eq_true (by omega)];rfl) rR (yH rR rR (by rw[decide_eq_true (by omega)];rfl) rR (yH rR rR (by rw[decide_eq_true (by omega)];rfl) rR (g_v (zbp rR (by simp;omega) rR) rR (gM rR (yH rR rR (by rfl) rR (yH rR rR (by rfl) rR (yH rR rR (by rfl) rR (yH rR rR (by rfl) rR (yH rR rR (by rfl) rR (yH rR rR (by rfl) rR (yH rR rR (by rfl) rR (g_v (zbp rR rR rR) rR (qb ?_)))))))))))));refine qg rR (fun h22=>?_) (fun h22=>?_)
    · refine gS (g_v (qP rR zwp) rR (g_v (qB underlying108 rR rR) rR ?_));refine yp (qq (cs:=#[Str [],Str [],Bo false]) (vs:=yu noC) (yu noC).toArray sizeOf104 rR rR rR rR (by decide) (qC rR)) ?_;rintro _ _ rfl;refine gA rR (qb ?_);exact zfy (yu noC) (by rw[hp] <;> rfl) rfl rfl rfl isAgg104 sizeOf104 rfl qR
    · exact absurd h22 (by simp)
  · obtain ⟨x0,x1,r,rfl⟩:=zpy h2;have hx0:=x0.toNat_lt;have hx1:=x1.toNat_lt;refine qU rR rR (decide_eq_false (by omega)) (qp rR) rR (qU rR rR (decide_eq_false (by omega)) (qW (r:=x0) 0 underlying9 rR rR rR rR) rR (qU rR rR (decide_eq_false (by omega)) (yA rR rR) rR (g_v (zaH rR rR) rR (gM rR (qK rR rR (fun hg=>qp rR) rR rR (qK rR rR (fun hg=>qW (r:=x1) 1 underlying9 rR rR rR rR) rR rR (qK rR rR (fun hg=>yU underlying5 underlying3 rR (w64 (by omega))) rR rR (qK rR rR (fun hg=>qu rR rR (w64 (by simp at hg;omega))) rR rR (qK rR rR (fun hg=>qp rR) rR rR (qK rR rR (fun hg=>wi underlying9 rR) rR rR (qK rR rR (fun hg=>yA rR rR) rR rR (g_v (zaH rR rR) rR (qb ?_)))))))))))));refine qg rR (fun h22=>?_) (fun h22=>?_)
    · simp at h22;have hp:prS (x0::x1::r)=(noC,4):=(by rw[zjW,if_pos (by omega)]);refine gS (g_v (qP rR zwp) rR (g_v (qB underlying108 rR rR) rR ?_));refine yp (qq (cs:=#[Str [],Str [],Bo false]) (vs:=yu noC) (yu noC).toArray sizeOf104 rR rR rR rR (by decide) (qC rR)) ?_;rintro _ _ rfl;refine gA rR (qb ?_);exact zfy (yu noC) (by rw[hp] <;> rfl) rfl rfl rfl isAgg104 sizeOf104 rfl qR
    · simp at h22;have h22':¬(1<x0.toNat∨r.length<x1.toNat):=(by omega);refine qh (gS (gM rR (g_v (qW (r:=x1) 1 underlying9 rR rR rR rR) rR (g_v (yU underlying5 underlying3 rR (w64 (by omega))) rR (g_v (qu rR rR (w64 (by omega))) rR (gA rR (qb (qf ?_))))))));refine wS [(0,false),(1,false),(2,false),(3,false),(4,false),(5,false),(6,false),(7,false),(8,false),(9,false),(10,true),(11,true)] (by kernel_rfl) (by kernel_rfl) rR (by kernel_rfl) ?_;refine dM rR rR rR (dM rR rR rR (d_v rR (zag (l:=2) (h:=x1.toNat+2) underlying9 rR rR rR rR (by omega) (by omega) (by simp;omega)) rR (dM rR rR rR (dM rR rR rR (d_v rR (zjY (l:=x1.toNat+2) underlying9 rR rR (by omega) (by simp;omega)) rR (dM rR rR rR (d_v rR (qW (r:=x0) 0 underlying9 rR rR rR rR) rR (d_v rR (wh rR rR) rR (d_v rR (qP rR (zkv _ rR _ rR _ rR)) rR ?_)))))))));refine d_l rR (qy #[Str [],Str [],Bo false] zeroValue104) rR ?_;rintro _ _ ⟨b5,rfl,rfl⟩;refine zoK rR (qq (cs:=#[Str [],Str [],Bo false]) (vs:=yu (zln x0 x1 r)) (yu (zln x0 x1 r)).toArray sizeOf104 rR rR rR rR (by decide) (qC rR)) ?_;rintro _ _ rfl;refine yc ?_;refine qf (gS (g_v (qI (vs:=yu (zln x0 x1 r)) isAgg104 sizeOf104 rR rR qR) rR ?_));refine g_l (qi (Pre:=[]) call127 rR (zbl (zln x0 x1 r))) rR ?_;rintro _ _ ⟨rfl,rfl⟩;refine g_v (yf underlying37 rR) rR (qb ?_);refine qg rR (fun h41=>?_) (fun h41=>?_)
      · simp at h41;have hp:prS (x0::x1::r)=(noC,4):=(by rw[zjW,if_neg h22',if_neg (by omega)]);refine gS (g_v (qP rR zwp) rR (g_v (qB underlying108 rR rR) rR ?_));refine yp (qq (cs:=#[Str [],Str [],Bo false]) (vs:=yu noC) (yu noC).toArray sizeOf104 rR rR rR rR (by decide) (qC rR)) ?_;rintro _ _ rfl;refine gA rR (qb ?_);exact zfy (yu noC) (by rw[hp] <;> rfl) rfl rfl rfl isAgg104 sizeOf104 rfl qR
      · simp at h41;have hc0:zbt (zln x0 x1 r)=0:=(by have:=zrn (zln x0 x1 r);omega);have hp:prS (x0::x1::r)=(zln x0 x1 r,0):=(by rw[zjW,if_neg h22',if_pos hc0]);refine qh (gS (g_v (qI (vs:=yu (zln x0 x1 r)) isAgg104 sizeOf104 rR rR qR) rR ?_));refine yp (qq (cs:=#[Str [],Str [],Bo false]) (vs:=yu (zln x0 x1 r)) (yu (zln x0 x1 r)).toArray sizeOf104 rR rR rR rR (by decide) (qC rR)) ?_;rintro _ _ rfl;refine gA rR (qb ?_);exact zfy (yu (zln x0 x1 r)) (by rw[hp] <;> rfl) rfl rfl rfl isAgg104 sizeOf104 rfl qR
-- counterfoil/counterfoilref.ChangeOf is not in this seat
open Go Go.Sl Go.Proofs
theorem zrN (a b:ChangeM)(w:World):(Op.equal 104 (.agg (yu a).toArray) (.agg (yu b).toArray)).run Tryz.prog w= .ok (decide (a=b)) w:=by
  have h1:=zpv (P:=Tryz.prog) (w:=w) (a:=a.key) (b:=b.key) 9998 underlying9;have h2:=zpv (P:=Tryz.prog) (w:=w) (a:=a.val) (b:=b.val) 9998 underlying9;have h3:=zuI (P:=Tryz.prog) (w:=w) (a:=a.gone) (b:=b.gone) 9998 underlying4;show (Op.equalIn (9999+1) _ _ _).run _ _=_;unfold Op.equalIn;simp[yu,underlying,program,Sem.run,underlying104,stoodInHeld104,part,isAgg9,isAgg4,h1,h2,h3];cases a;cases b;rename_i a1 a2 a3 b1 b2 b3;by_cases e1:a1=b1 <;> by_cases e2:a2=b2 <;> by_cases e3:a3=b3 <;> simp[e1,e2,e3]
end Go.Proofs.YthdjckbjjfiopadGreatDoor
