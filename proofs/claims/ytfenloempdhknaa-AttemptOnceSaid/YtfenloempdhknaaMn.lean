/- The least and the greatest of three, of four. -/
import Derived.Test.YtfenloempdhknaaT1
namespace Go.Proofs.Ytfenloempdhknaa
open Go.RowKit

/-- The least and the greatest of three, of four: words of their own, so that no walk parts at them. -/
def mn3 (x y z : Int) : Int := min (min x y) z
def mx3 (x y z : Int) : Int := max (max x y) z
def mn4 (x y z u : Int) : Int := min (min (min x y) z) u
def mx4 (x y z u : Int) : Int := max (max (max x y) z) u
section
variable {P : Program} (w : World) (ts : Array TypeId) (t : TypeId) (k k' k'' k4 : IntKind) (x y z u : Int)
theorem run_mn3 : (Builtin.min_ ts t #[.int k x, .int k' y, .int k'' z]).run P w = .ok (.int k (mn3 x y z)) w := by
  rw [run_min_int3]
  congr 2
  unfold mn3
  repeat' split
  all_goals omega
theorem run_mx3 : (Builtin.max_ ts t #[.int k x, .int k' y, .int k'' z]).run P w = .ok (.int k (mx3 x y z)) w := by
  rw [run_max_int3]
  congr 2
  unfold mx3
  repeat' split
  all_goals omega
theorem run_mn4 : (Builtin.min_ ts t #[.int k x, .int k' y, .int k'' z, .int k4 u]).run P w = .ok (.int k (mn4 x y z u)) w := by
  have : (Builtin.min_ ts t #[.int k x, .int k' y, .int k'' z, .int k4 u]).run P w = .ok (.int k (if u < (if z < (if y < x then y else x) then z else (if y < x then y else x)) then u else (if z < (if y < x then y else x) then z else (if y < x then y else x)))) w := by
    simp [Builtin.min_, Builtin.min2]
  rw [this]
  congr 2
  unfold mn4
  repeat' split
  all_goals omega
theorem run_mx4 : (Builtin.max_ ts t #[.int k x, .int k' y, .int k'' z, .int k4 u]).run P w = .ok (.int k (mx4 x y z u)) w := by
  have : (Builtin.max_ ts t #[.int k x, .int k' y, .int k'' z, .int k4 u]).run P w = .ok (.int k (if (if (if x < y then y else x) < z then z else (if x < y then y else x)) < u then u else (if (if x < y then y else x) < z then z else (if x < y then y else x)))) w := by
    simp [Builtin.max_, Builtin.max2]
  rw [this]
  congr 2
  unfold mx4
  repeat' split
  all_goals omega
end
end Go.Proofs.Ytfenloempdhknaa
