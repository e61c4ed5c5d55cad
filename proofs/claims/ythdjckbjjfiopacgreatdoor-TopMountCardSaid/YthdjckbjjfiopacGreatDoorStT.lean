/- Walks through the laws' own stores. No condition. -/
import Derived.Test.YthdjckbjjfiopacGreatDoorPartD
import Derived.Test.YthdjckbjjfiopacGreatDoorPartB
import Derived.Test.YthdjckbjjfiopacGreatDoorPartC
set_option linter.unusedSimpArgs false
set_option linter.unusedVariables false
namespace Go.Proofs.YthdjckbjjfiopacGreatDoor
open Go Go.Sl Go.Proofs
def fD (N:Nat):DiskM:=(wd (zfz N) (fmL N)).2
theorem zhc (N:Nat):(zfz N).now.length=N:=by simp[zfz]
theorem zu7 (N:Nat):S80 (zfz N):=⟨fun x hx=>by simp[zfz] at hx;rw[hx.2];simp[zbQ],fun x hx=>by simp[zfz] at hx;rw[hx.2];simp[zbQ],fun t ht=>by simp[zfz] at ht⟩
theorem zo6 (N:Nat):upW (zfz N):=⟨rfl,rfl⟩
theorem ztb {N:Nat}(hN:196≤N):wd (zfz N) (fmL N)=(0,fD N):=Prod.ext (zeN _ _ (zo6 N) (by rw[zhc];exact zkF hN)).1 rfl
theorem zwa {N:Nat}(hN:196≤N):upW (fD N):=(zeN _ _ (zo6 N) (by rw[zhc];exact zkF hN)).2.1
theorem zwN {N:Nat}(hN:196≤N∧N≤260):Inv N (fD N) hd1 [] [] 0:=zqq hN (zhc N) (zeN _ _ (zo6 N) (by rw[zhc];exact zkF hN.1)).2.2
theorem zmw {N:Nat}(hN:196≤N):S80 (fD N):=zef _ _ (zu7 N) (zkF hN)
theorem zv8 {N:Nat}(hN:196≤N∧N≤260):okW N 300 (fD N):=zbp (za2 (fmL N) 0 (zfz N) (zoX N)) (by unfold fmL fmT;rw[List.length_append,zg0];simp only[List.length_cons,List.length_nil];omega)
theorem ztf {N:Nat}{D:DiskM}{h:HdM}{r0:List ChangeM}{ds:Deeds}{used:Nat}(I:Inv N D h r0 ds used):(ze4 D.now).ep≠0:=by
  rw[I.good.best];have:=I.good.ep;omega
end Go.Proofs.YthdjckbjjfiopacGreatDoor
