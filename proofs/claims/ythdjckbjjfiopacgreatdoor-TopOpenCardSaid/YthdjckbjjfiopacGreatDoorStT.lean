/- Walks through the laws' own stores. No condition. -/
import Derived.Test.YthdjckbjjfiopacGreatDoorPartD
import Derived.Test.YthdjckbjjfiopacGreatDoorPartB
import Derived.Test.YthdjckbjjfiopacGreatDoorPartC
set_option linter.unusedSimpArgs false
set_option linter.unusedVariables false
namespace Go.Proofs.YthdjckbjjfiopacGreatDoor
open Go Go.Sl Go.Proofs
def fD (N:Nat):DiskM:=(we (zfz N) (fmL N)).2
theorem zgt (N:Nat):(zfz N).now.length=N:=by simp[zfz]
theorem zu9 (N:Nat):S80 (zfz N):=⟨fun x hx=>by simp[zfz] at hx;rw[hx.2];simp[zbG],fun x hx=>by simp[zfz] at hx;rw[hx.2];simp[zbG],fun t ht=>by simp[zfz] at ht⟩
theorem zqJ (N:Nat):upW (zfz N):=⟨rfl,rfl⟩
theorem zsS {N:Nat}(hN:196≤N):we (zfz N) (fmL N)=(0,fD N):=Prod.ext (zeO _ _ (zqJ N) (by rw[zgt];exact zj1 hN)).1 rfl
theorem zxd {N:Nat}(hN:196≤N):upW (fD N):=(zeO _ _ (zqJ N) (by rw[zgt];exact zj1 hN)).2.1
theorem zwk {N:Nat}(hN:196≤N∧N≤260):Inv N (fD N) hd1 [] [] 0:=zpo hN (zgt N) (zeO _ _ (zqJ N) (by rw[zgt];exact zj1 hN.1)).2.2
theorem zm7 {N:Nat}(hN:196≤N):S80 (fD N):=zdZ _ _ (zu9 N) (zj1 hN)
theorem zwZ {N:Nat}(hN:196≤N∧N≤260):okW N 300 (fD N):=zbp (zaX (fmL N) 0 (zfz N) (zpF N)) (by unfold fmL fmT;rw[List.length_append,zgy];simp only[List.length_cons,List.length_nil];omega)
theorem ztd {N:Nat}{D:DiskM}{h:HdM}{r0:List ChangeM}{ds:Deeds}{used:Nat}(I:Inv N D h r0 ds used):(zfa D.now).ep≠0:=by
  rw[I.good.best];have:=I.good.ep;omega
end Go.Proofs.YthdjckbjjfiopacGreatDoor
