/- Walks through the laws' own stores. No condition. -/
import Derived.Test.YthdjckbjjfiopacGreatDoorPartD
import Derived.Test.YthdjckbjjfiopacGreatDoorPartB
import Derived.Test.YthdjckbjjfiopacGreatDoorPartC
set_option linter.unusedSimpArgs false
set_option linter.unusedVariables false
namespace Go.Proofs.YthdjckbjjfiopacGreatDoor
open Go Go.Sl Go.Proofs
def fD (N:Nat):DiskM:=(we (zfy N) (fmL N)).2
theorem zgB (N:Nat):(zfy N).now.length=N:=by simp[zfy]
theorem ztU (N:Nat):S80 (zfy N):=⟨fun x hx=>by simp[zfy] at hx;rw[hx.2];simp[zbG],fun x hx=>by simp[zfy] at hx;rw[hx.2];simp[zbG],fun t ht=>by simp[zfy] at ht⟩
theorem zqO (N:Nat):upW (zfy N):=⟨rfl,rfl⟩
theorem ztm {N:Nat}(hN:196≤N):we (zfy N) (fmL N)=(0,fD N):=Prod.ext (zez _ _ (zqO N) (by rw[zgB];exact zkh hN)).1 rfl
theorem zvZ {N:Nat}(hN:196≤N):upW (fD N):=(zez _ _ (zqO N) (by rw[zgB];exact zkh hN)).2.1
theorem zwM {N:Nat}(hN:196≤N∧N≤260):Inv N (fD N) hd1 [] [] 0:=zpu hN (zgB N) (zez _ _ (zqO N) (by rw[zgB];exact zkh hN.1)).2.2
theorem zm2 {N:Nat}(hN:196≤N):S80 (fD N):=zd6 _ _ (ztU N) (zkh hN)
theorem zwv {N:Nat}(hN:196≤N∧N≤260):okW N 300 (fD N):=zbm (zaS (fmL N) 0 (zfy N) (zqV N)) (by unfold fmL fmT;rw[List.length_append,zgP];simp only[List.length_cons,List.length_nil];omega)
theorem zts {N:Nat}{D:DiskM}{h:HdM}{r0:List ChangeM}{ds:Deeds}{used:Nat}(I:Inv N D h r0 ds used):(zfq D.now).ep≠0:=by
  rw[I.good.best];have:=I.good.ep;omega
end Go.Proofs.YthdjckbjjfiopacGreatDoor
