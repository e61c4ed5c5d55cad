/- Walks through the laws' own stores. No condition. -/
import Derived.Test.YthdjckbjjfiopacGreatDoorPartD
import Derived.Test.YthdjckbjjfiopacGreatDoorPartB
import Derived.Test.YthdjckbjjfiopacGreatDoorPartC
set_option linter.unusedSimpArgs false
set_option linter.unusedVariables false
namespace Go.Proofs.YthdjckbjjfiopacGreatDoor
open Go Go.Sl Go.Proofs
def fD (N:Nat):DiskM:=(we (zfA N) (fmL N)).2
theorem zg3 (N:Nat):(zfA N).now.length=N:=by simp[zfA]
theorem zu5 (N:Nat):S80 (zfA N):=⟨fun x hx=>by simp[zfA] at hx;rw[hx.2];simp[zbE],fun x hx=>by simp[zfA] at hx;rw[hx.2];simp[zbE],fun t ht=>by simp[zfA] at ht⟩
theorem zpb (N:Nat):upW (zfA N):=⟨rfl,rfl⟩
theorem zti {N:Nat}(hN:196≤N):we (zfA N) (fmL N)=(0,fD N):=Prod.ext (zeK _ _ (zpb N) (by rw[zg3];exact zkP hN)).1 rfl
theorem zxm {N:Nat}(hN:196≤N):upW (fD N):=(zeK _ _ (zpb N) (by rw[zg3];exact zkP hN)).2.1
theorem zxs {N:Nat}(hN:196≤N∧N≤260):Inv N (fD N) hd1 [] [] 0:=zq0 hN (zg3 N) (zeK _ _ (zpb N) (by rw[zg3];exact zkP hN.1)).2.2
theorem zmz {N:Nat}(hN:196≤N):S80 (fD N):=zd5 _ _ (zu5 N) (zkP hN)
theorem zv4 {N:Nat}(hN:196≤N∧N≤260):okW N 300 (fD N):=zbl (zaT (fmL N) 0 (zfA N) (zqm N)) (by unfold fmL fmT;rw[List.length_append,zhp];simp only[List.length_cons,List.length_nil];omega)
theorem ztg {N:Nat}{D:DiskM}{h:HdM}{r0:List ChangeM}{ds:Deeds}{used:Nat}(I:Inv N D h r0 ds used):(zfe D.now).ep≠0:=by
  rw[I.good.best];have:=I.good.ep;omega
end Go.Proofs.YthdjckbjjfiopacGreatDoor
