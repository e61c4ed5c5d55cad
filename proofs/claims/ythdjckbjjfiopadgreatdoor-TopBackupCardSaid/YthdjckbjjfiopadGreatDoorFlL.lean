/- What an act leaves on a disk that may fail. Plain laws. No condition. -/
import Derived.Test.YthdjckbjjfiopadGreatDoorLrM
import Derived.Test.YthdjckbjjfiopadGreatDoorPartF
set_option linter.unusedSimpArgs false
set_option linter.unusedVariables false
namespace Go.Proofs.YthdjckbjjfiopadGreatDoor
open Go.Sl Go.Proofs
def armD (f:Int)(D:DiskM):DiskM:=⟨D.kept,D.now,D.wait,f,D.down⟩
theorem Rep.arm {t:Nat}{D:DiskM}{z:RpM}(R:Rep t D z){f:Int}(hf: -1≤f∧f≤9223372036854775807):Rep t (armD f D) z:=by
  obtain ⟨r0,ds,C,hc⟩:=R.cal;exact ⟨⟨R.ok.1,R.ok.2.1,hf,R.ok.2.2.2.1,R.ok.2.2.2.2⟩,R.s80,⟨r0,ds,⟨C.1,C.2.1.now rfl,C.2.2⟩,hc⟩,R.ep,R.first,R.rows,R.rok⟩
theorem Rep.calm {t:Nat}{D:DiskM}{z:RpM}(R:Rep t D z):D.down=false:=by
  obtain ⟨r0,ds,C,hc⟩:=R.cal;exact C.1.2.2
theorem Rep.free {t:Nat}{D:DiskM}{z:RpM}(R:Rep t D z)(hn:z.next≤1+t):Up t (armD (-1) D) z:=⟨R.arm (by decide),⟨R.calm,rfl⟩,hn⟩
theorem Rep.sub {t:Nat}{D:DiskM}{z:RpM}(R:Rep t D z)(l:List SeE)(h:∀e∈l,e∈z.ses):Rep t D (z.sess l):=
  R.turn (Nat.le_refl _) l z.mou z.next R.rok.next (fun e he=>⟨R.rok.keyS e (h e he),R.rok.sesS e (h e he)⟩) R.rok.keyM
def Fall (t:Nat)(D:DiskM)(φ:List ChangeM→Prop):Prop:=D.down=true∧Fallen t D φ
theorem Fallen.le {t t':Nat}{D:DiskM}{φ ψ:List ChangeM→Prop}(h:Fallen t D φ)(ht:t≤t')(hp:∀x,φ x→ψ x):Fallen t' D ψ:=⟨h.1,h.2.1,h.2.2.mono (by omega) (by omega) hp⟩
theorem Fall.le {t t':Nat}{D:DiskM}{φ ψ:List ChangeM→Prop}(h:Fall t D φ)(ht:t≤t')(hp:∀x,φ x→ψ x):Fall t' D ψ:=⟨h.1,h.2.le ht hp⟩
end Go.Proofs.YthdjckbjjfiopadGreatDoor
