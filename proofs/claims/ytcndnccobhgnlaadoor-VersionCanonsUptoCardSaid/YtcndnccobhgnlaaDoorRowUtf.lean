/-
  A world in which the two tables of unicode/utf8 lie as their initialisers lay them.
-/
import Derived.Test.YtcndnccobhgnlaaDoorCards
import Derived.Test.YtcndnccobhgnlaaDoorTie
import Derived.WalkKit
import Derived.ProofKit
import Derived.OpenShut
import Derived.ChangeSame
import Derived.Deep.DeepHandedRow
import Derived.Lib.LaidTab
import Derived.Lib.LaidIn
import Derived.KernelRfl
namespace Go.Proofs.YtcndnccobhgnlaaDoor
open Go Go.RowKit Go.ChangeShapes
def firstCells : Array Value := (Pinned.utf8FirstZ.map fun n : Nat => Value.int .u8 (n : Int)).toArray
def acceptCells : Array Value := (([128, 191, 160, 191, 128, 159, 144, 191, 128, 143] ++ List.replicate 22 0).map fun n : Nat => Value.int .u8 (n : Int)).toArray
noncomputable def utfWorld (os : Os) : World :=
  let w0 := World.holding Tryd.prog os ⟨#[], #[], []⟩
  let put (h : Array Obj) (g : Nat) (cs : Array Value) : Array Obj := h.modify g fun
    | .cells _ t frozen => .cells cs t frozen
    | o => o
  { w0 with heap := put (put w0.heap 1 firstCells) 2 acceptCells }
end Go.Proofs.YtcndnccobhgnlaaDoor
