/- Walks through the laws' own stores. No condition. -/
import Derived.Test.YthdjckbjjfiopadGreatDoorPartD
import Derived.Test.YthdjckbjjfiopadGreatDoorPartB
import Derived.Test.YthdjckbjjfiopadGreatDoorPartC
set_option linter.unusedSimpArgs false
set_option linter.unusedVariables false
namespace Go.Proofs.YthdjckbjjfiopadGreatDoor
open Go Go.Sl Go.Proofs
def fD (N:Nat):DiskM:=(wi (zfC N) (fmL N)).2
theorem zgm (N:Nat):(zfC N).now.length=N:=by simp[zfC]
theorem zvE (N:Nat):S80 (zfC N):=⟨fun x hx=>by simp[zfC] at hx;rw[hx.2];simp[zbR],fun x hx=>by simp[zfC] at hx;rw[hx.2];simp[zbR],fun t ht=>by simp[zfC] at ht⟩
theorem zpZ (N:Nat):upW (zfC N):=⟨rfl,rfl⟩
theorem ztN {N:Nat}(hN:196≤N):wi (zfC N) (fmL N)=(0,fD N):=Prod.ext (zes _ _ (zpZ N) (by rw[zgm];exact zkI hN)).1 rfl
theorem zxH {N:Nat}(hN:196≤N):upW (fD N):=(zes _ _ (zpZ N) (by rw[zgm];exact zkI hN)).2.1
theorem zxE {N:Nat}(hN:196≤N∧N≤260):Inv N (fD N) hd1 [] [] 0:=zpL hN (zgm N) (zes _ _ (zpZ N) (by rw[zgm];exact zkI hN.1)).2.2
theorem znu {N:Nat}(hN:196≤N):S80 (fD N):=zel _ _ (zvE N) (zkI hN)
theorem zwH {N:Nat}(hN:196≤N∧N≤260):okW N 300 (fD N):=zbv (za3 (fmL N) 0 (zfC N) (zrb N)) (by unfold fmL fmT;rw[List.length_append,zhE];simp only[List.length_cons,List.length_nil];omega)
theorem ztc {N:Nat}{D:DiskM}{h:HdM}{r0:List ChangeM}{ds:Deeds}{used:Nat}(I:Inv N D h r0 ds used):(zfg D.now).ep≠0:=by
  rw[I.good.best];have:=I.good.ep;omega
end Go.Proofs.YthdjckbjjfiopadGreatDoor
