import Derived.Shelf.SlicesQ.Reverse
import Derived.Shelf.SlSortCmp.InsertionK
import Derived.Shelf.Small.Strs
import Derived.Shelf.SlGeneric
import Derived.Ground.SlgnProg
import Derived.Ground.SlsfProg
import Derived.Ground.NamesProg
import Derived.Test.YtbaecdcfefmcgaaGreatProg
namespace Go.Proofs
open Go.Shelf
def Tryz.revWrite_ren:Go.Shelf.Ren:=⟨fun|35=>90|n=>n,fun|22=>32|23=>72|3=>3|4=>4|0=>0|n=>n,fun|n=>n⟩
theorem Tryz.revWrite:Go.Proofs.SlLaysE0.n35 Tryz.prog Tryz.revWrite_ren:={
 mixed:=by kernel_rfl
 f35:=⟨Tryz.f90.name,by decide,Tryz.func90.trans (congrArg some (by kernel_rfl))⟩
 t0:=Tryz.underlying0
 a0:=Tryz.isAgg0
 z0:=Tryz.sizeOf0
 v0:=Tryz.zeroValue0
 t3:=Tryz.underlying3
 a3:=Tryz.isAgg3
 z3:=Tryz.sizeOf3
 v3:=Tryz.zeroValue3
 t4:=Tryz.underlying4
 a4:=Tryz.isAgg4
 z4:=Tryz.sizeOf4
 v4:=Tryz.zeroValue4
 t22:=Tryz.underlying32
 a22:=Tryz.isAgg32
 z22:=Tryz.sizeOf32
 v22:=Tryz.zeroValue32 }
def Tryz.insWrite_ren:Go.Shelf.Ren:=⟨fun|20=>115|n=>n,fun|24=>72|22=>32|3=>3|25=>123|4=>4|0=>0|n=>n,fun|n=>n⟩
theorem Tryz.insWrite:Go.Proofs.SlLaysF0.n20 Tryz.prog Tryz.insWrite_ren:={
 mixed:=by kernel_rfl
 f20:=⟨Tryz.f115.name,by decide,Tryz.func115.trans (congrArg some (by kernel_rfl))⟩
 t0:=Tryz.underlying0
 a0:=Tryz.isAgg0
 z0:=Tryz.sizeOf0
 v0:=Tryz.zeroValue0
 t3:=Tryz.underlying3
 a3:=Tryz.isAgg3
 z3:=Tryz.sizeOf3
 v3:=Tryz.zeroValue3
 t4:=Tryz.underlying4
 a4:=Tryz.isAgg4
 z4:=Tryz.sizeOf4
 v4:=Tryz.zeroValue4
 t22:=Tryz.underlying32
 a22:=Tryz.isAgg32
 z22:=Tryz.sizeOf32
 v22:=Tryz.zeroValue32
 t25:=Tryz.underlying123
 a25:=Tryz.isAgg123
 z25:=Tryz.sizeOf123
 v25:=Tryz.zeroValue123 }
def Tryz.strCmp_ren:Go.Shelf.Ren:=⟨fun|106=>72|213=>95|265=>110|n=>n,fun|9=>9|3=>3|n=>n,fun|n=>n⟩
theorem Tryz.strCmp:Go.Proofs.Lays.n106 Tryz.prog Tryz.strCmp_ren:={
 mixed:=by kernel_rfl
 f106:=Tryz.func72.trans (congrArg some (by kernel_rfl))
 f213:=Tryz.func95.trans (congrArg some (by kernel_rfl))
 f265:=Tryz.func110.trans (congrArg some (by kernel_rfl))
 t3:=Tryz.underlying3
 a3:=Tryz.isAgg3
 z3:=Tryz.sizeOf3
 v3:=Tryz.zeroValue3
 t9:=Tryz.underlying9
 a9:=Tryz.isAgg9
 z9:=Tryz.sizeOf9
 v9:=Tryz.zeroValue9 }
end Go.Proofs
