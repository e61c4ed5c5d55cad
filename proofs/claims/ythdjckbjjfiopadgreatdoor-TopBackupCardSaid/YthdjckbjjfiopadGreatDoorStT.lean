/- Walks through the laws' own stores. No condition. -/
import Derived.Test.YthdjckbjjfiopadGreatDoorPartD
import Derived.Test.YthdjckbjjfiopadGreatDoorPartB
import Derived.Test.YthdjckbjjfiopadGreatDoorPartC
set_option linter.unusedSimpArgs false
set_option linter.unusedVariables false
namespace Go.Proofs.YthdjckbjjfiopadGreatDoor
open Go Go.Sl Go.Proofs
def fD (N:Nat):DiskM:=(ws (zfT N) (fmL N)).2
theorem zgV (N:Nat):(zfT N).now.length=N:=by simp[zfT]
theorem zvr (N:Nat):S80 (zfT N):=⟨fun x hx=>by simp[zfT] at hx;rw[hx.2];simp[zbG],fun x hx=>by simp[zfT] at hx;rw[hx.2];simp[zbG],fun t ht=>by simp[zfT] at ht⟩
theorem zre (N:Nat):upW (zfT N):=⟨rfl,rfl⟩
theorem zuh {N:Nat}(hN:196≤N):ws (zfT N) (fmL N)=(0,fD N):=Prod.ext (zeE _ _ (zre N) (by rw[zgV];exact zlg hN)).1 rfl
theorem zw8 {N:Nat}(hN:196≤N):upW (fD N):=(zeE _ _ (zre N) (by rw[zgV];exact zlg hN)).2.1
theorem zw4 {N:Nat}(hN:196≤N∧N≤260):Inv N (fD N) hd1 [] [] 0:=zo4 hN (zgV N) (zeE _ _ (zre N) (by rw[zgV];exact zlg hN.1)).2.2
theorem znq {N:Nat}(hN:196≤N):S80 (fD N):=zfw _ _ (zvr N) (zlg hN)
theorem zxM {N:Nat}(hN:196≤N∧N≤260):okW N 300 (fD N):=zbN (zbo (fmL N) 0 (zfT N) (zqO N)) (by unfold fmL fmT;rw[List.length_append,zhO];simp only[List.length_cons,List.length_nil];omega)
theorem ztP {N:Nat}{D:DiskM}{h:HdM}{r0:List ChangeM}{ds:Deeds}{used:Nat}(I:Inv N D h r0 ds used):(zfz D.now).ep≠0:=by
  rw[I.good.best];have:=I.good.ep;omega
end Go.Proofs.YthdjckbjjfiopadGreatDoor
