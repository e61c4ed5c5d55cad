/- Walks through the laws' own stores. No condition. -/
import Derived.Test.YthdjckbjjfiopacGreatDoorPartD
import Derived.Test.YthdjckbjjfiopacGreatDoorPartB
import Derived.Test.YthdjckbjjfiopacGreatDoorPartC
set_option linter.unusedSimpArgs false
set_option linter.unusedVariables false
namespace Go.Proofs.YthdjckbjjfiopacGreatDoor
open Go Go.Sl Go.Proofs
def fD (N:Nat):DiskM:=(wh (zfE N) (fmL N)).2
theorem zg8 (N:Nat):(zfE N).now.length=N:=by simp[zfE]
theorem zuZ (N:Nat):S80 (zfE N):=⟨fun x hx=>by simp[zfE] at hx;rw[hx.2];simp[zbF],fun x hx=>by simp[zfE] at hx;rw[hx.2];simp[zbF],fun t ht=>by simp[zfE] at ht⟩
theorem zp6 (N:Nat):upW (zfE N):=⟨rfl,rfl⟩
theorem zs0 {N:Nat}(hN:196≤N):wh (zfE N) (fmL N)=(0,fD N):=Prod.ext (zeT _ _ (zp6 N) (by rw[zg8];exact zkU hN)).1 rfl
theorem zvS {N:Nat}(hN:196≤N):upW (fD N):=(zeT _ _ (zp6 N) (by rw[zg8];exact zkU hN)).2.1
theorem zxi {N:Nat}(hN:196≤N∧N≤260):Inv N (fD N) hd1 [] [] 0:=zqs hN (zg8 N) (zeT _ _ (zp6 N) (by rw[zg8];exact zkU hN.1)).2.2
theorem zmx {N:Nat}(hN:196≤N):S80 (fD N):=zee _ _ (zuZ N) (zkU hN)
theorem zwZ {N:Nat}(hN:196≤N∧N≤260):okW N 300 (fD N):=zbn (zaV (fmL N) 0 (zfE N) (zo1 N)) (by unfold fmL fmT;rw[List.length_append,zhu];simp only[List.length_cons,List.length_nil];omega)
theorem ztp {N:Nat}{D:DiskM}{h:HdM}{r0:List ChangeM}{ds:Deeds}{used:Nat}(I:Inv N D h r0 ds used):(zfg D.now).ep≠0:=by
  rw[I.good.best];have:=I.good.ep;omega
end Go.Proofs.YthdjckbjjfiopacGreatDoor
