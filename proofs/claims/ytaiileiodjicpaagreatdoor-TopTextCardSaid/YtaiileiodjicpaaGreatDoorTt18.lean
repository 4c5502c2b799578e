import Derived.Test.YtaiileiodjicpaaGreatDoorTt05
set_option linter.unusedVariables false
set_option linter.unusedSimpArgs false
namespace Go.Proofs.YtaiileiodjicpaaGreatDoor
def u8 (a:Int):UInt8:=UInt8.ofNat (a % 256).toNat
theorem vk (a:Int):UInt8.ofNat (IntKind.u8.wrap a).toNat=u8 a:=by rw [IntKind.wrap_u8];rfl
theorem mQ (a:Int):((u8 a).toNat:Int)=a % 256:=by
 unfold u8
 have h:(a % 256).toNat<256:=by omega
 rw [UInt8.toNat_ofNat',Nat.mod_eq_of_lt h]
 omega
end Go.Proofs.YtaiileiodjicpaaGreatDoor
