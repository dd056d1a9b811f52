/- BounGrows: the plain law. -/
import Derived.Test.YtogckbgcldmaeaaBg
namespace Go.Aug.Bn
open Go Go.Aug

/-- How many there may be, of the closure's programs. -/
def conf4 (a b c m : Nat) : Nat :=
  let s := 2 ^ a
  let k := m + 2
  let ways := times (times 8 (power s 2)) (times (b + 1) (power k 2))
  let out := times (power s (4 + c)) (times (power k 7) 45)
  times out (power (min ways (far - 1) + 1) b)

def good (x y : Nat) : Bool := Nat.ble 1 x && (Nat.ble x y && (Nat.ble y far && (Nat.beq x y == Nat.beq x far)))
def law4 (a b c m : Nat) : Bool :=
  let x := conf4 a b c m
  good x (conf4 (a + 1) b c m) && good x (conf4 a (b + 1) c m) && good x (conf4 a b (c + 1) m) && good x (conf4 a b c (m + 1))
def allLaw : Bool := (List.range 15).all fun a => (List.range 5).all fun b => (List.range 8).all fun c => (List.range 16).all fun m => law4 (a + 1) (b + 1) c (m + 1)
theorem allLaw_true : allLaw = true := by decide +kernel
end Go.Aug.Bn
