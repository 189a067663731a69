import Derived.Test.YtchddhcajpagjaaGreatQPc
import Derived.Test.YtchddhcajpagjaaGreatPwX
set_option linter.all false
set_option maxRecDepth 100000
namespace Go.PW
def Zarg:Zb:=⟨[],⟨0,0,⟨0,0,0,0,0⟩⟩,0,⟨0,0,[]⟩,0,0,0,[],0⟩
def atV(all:List Zb)(i:Nat):Zb:=(all[i]?).getD Zarg
def mat(all:List Zb)(you src:Int)(f:Zc)(i:Nat)(o:Zf):Bool:=matV o (atV all i) you src f
end Go.PW
