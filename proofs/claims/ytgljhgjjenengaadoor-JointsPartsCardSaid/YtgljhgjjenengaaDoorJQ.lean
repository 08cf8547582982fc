/- girderlaw18.JointsParts answers true for any list. -/
import Derived.Test.YtgljhgjjenengaaDoorJq
import Derived.Test.YtgljhgjjenengaaDoorRJ
namespace Go.Proofs.YtgljhgjjenengaaDoor
open Go Go.RowKit
open Go.Proofs.YtgljhgjjenengaaDoorW.PrintWords (Kd)
open XJt (S33 k33 okJb)
theorem jointsParts_c {W : World} (A : Option Addr) (c : Nat) (l : List S33) (x y : Int) (hl : l.length ≤ c) (hC : Kd.C k33 W A l.length l) (ho : l.all okJb = true) (_ : -9223372036854775808 ≤ x) (_ : x ≤ 9223372036854775807) (_ : -9223372036854775808 ≤ y) (_ : y ≤ 9223372036854775807) :
    Calls Tryd.prog 5 #[.slice A l.length c, .int .i64 x, .int .i64 y] W fun e w' => e = .returned (.bool true) ∧ Below W.heap.size W w' :=
  XJt.girderlaw18_JointsParts.calls 100 A c l x y true W hC hl (XJt.jointsParts_pure l x y ho)
end Go.Proofs.YtgljhgjjenengaaDoor
