/- The symbolic heap: a loop whose first round begins otherwise than the others. Own work of this claim. -/
import Derived.Test.YtbobhbhgomkgpaaGreatDoorSw
namespace Go.Proofs.YtbobhbhgomkgpaaGreatDoor.S
set_option linter.all false
open Go Go.Proofs
variable {D : Cx}
section
variable {nt : Nat} {ks : List It} {env env' : Env} {H H' : Heap} {R : Env → Heap → Prop} {id : Nat} {ops : Array Oper}
end
end Go.Proofs.YtbobhbhgomkgpaaGreatDoor.S
