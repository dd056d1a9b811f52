/- The machine that guesses, in plain Lean. -/
import Derived.Test.YtogckbgcldmaeaaEvTy
namespace Go.Aug.Md
open Go Go.Aug

/-! Words. -/
def okW (w : Int) : Bool := decide (1 ≤ w) && decide (w ≤ 16)
def size (w : Int) : Int := bif okW w then 2 ^ w.toNat else 0
def mask (w n : Int) : Int := bif okW w then n % 2 ^ w.toNat else 0
def truth (b : Bool) : Int := bif b then 1 else 0
def iand (a b : Int) : Int := IntKind.i64.wrap (BitVec.ofInt 64 a &&& BitVec.ofInt 64 b).toNat
def ior (a b : Int) : Int := IntKind.i64.wrap (BitVec.ofInt 64 a ||| BitVec.ofInt 64 b).toNat
def ixor (a b : Int) : Int := IntKind.i64.wrap (BitVec.ofInt 64 a ^^^ BitVec.ofInt 64 b).toNat
def shl (w a b : Int) : Int := if b ≥ w then 0 else mask w (a * 2 ^ b.toNat)
def shr (w a b : Int) : Int := if b ≥ w then 0 else a.fdiv (2 ^ b.toNat)
/-- An op of two masked words. -/
def opOf (w op a b : Int) : Option Int :=
  if op = 1 then some (mask w (a + b)) else if op = 2 then some (mask w (a - b)) else if op = 3 then some (iand a b) else if op = 4 then some (ior a b) else if op = 5 then some (ixor a b)
  else if op = 6 then some (shl w a b) else if op = 7 then some (shr w a b) else if op = 8 then some (mask w (a * b)) else if op = 9 then some (truth (decide (a < b))) else if op = 10 then some (truth (a == b)) else none
def wdo (w op a b : Int) : Int := bif okW w then (opOf w op (mask w a) (mask w b)).getD 0 else 0
def wdoK (w op a b : Int) : Bool := okW w && (opOf w op (mask w a) (mask w b)).isSome

/-! What is under way. -/
def w64 (n : Int) : Int := IntKind.i64.wrap n
def faultI : Ins := ⟨12, 0, 0, ⟨false, 0⟩, ⟨false, 0⟩, ⟨#[]⟩, 0⟩
def at_ (p : Prog) (pc : Int) : Ins := if 0 ≤ pc then (p.ins[pc.toNat]?).getD faultI else faultI
def cut (l : List Ent) (n : Int) : List Ent := l.take n.toNat
def getR (r : Regs) (i : Int) : Int := if i = 0 then r.r0 else if i = 1 then r.r1 else if i = 2 then r.r2 else r.r3
def setR (r : Regs) (i n : Int) : Regs := if i = 0 then { r with r0 := n } else if i = 1 then { r with r1 := n } else if i = 2 then { r with r2 := n } else if i = 3 then { r with r3 := n } else r
def destK (i : Ins) : Bool := i.kind == 1 || i.kind == 2 || i.kind == 4
def dest (i : Ins) : Int := bif destK i then i.d else 0
/-- From behind. -/
def regGo (p : Prog) (r d : Int) : List Ent → Int × Bool
  | [] => (d, true)
  | e :: l => bif destK (at_ p e.pc) && (at_ p e.pc).d == r then (bif e.done then (e.val, true) else (0, false)) else regGo p r d l
def reg (p : Prog) (of : Regs) (l : List Ent) (i r : Int) : Int × Bool :=
  if r < 0 ∨ 4 ≤ r then (0, false) else regGo p r (getR of r) (cut l i).reverse
def val (p : Prog) (of : Regs) (l : List Ent) (i : Int) (v : Val) : Int × Bool := bif v.reg then reg p of l i v.n else (mask p.w v.n, true)
def isFence (p : Prog) (e : Ent) : Bool := (at_ p e.pc).kind == 10
def blocked (p : Prog) (l : List Ent) (i : Int) : Bool := (cut l i).any (isFence p)
def hitS (p : Prog) (addr : Int) (e : Ent) : Bool := (at_ p e.pc).kind == 3 && e.known && e.addr == addr
def loadGo (p : Prog) (mem : List Int) (addr : Int) : List Ent → Int × Int × Bool
  | [] => if addr < 0 ∨ (mem.length : Int) ≤ addr then (0, -1, true) else ((mem[addr.toNat]?).getD 0, -1, true)
  | e :: l => bif hitS p addr e then (bif e.done then (e.val, (l.length : Int), true) else (0, 0, false)) else loadGo p mem addr l
def load (p : Prog) (mem : List Int) (l : List Ent) (i addr : Int) : Int × Int × Bool := loadGo p mem addr (cut l i).reverse
def hitL (p : Prog) (i addr : Int) (e : Ent) : Bool := (at_ p e.pc).kind == 2 && e.known && e.addr == addr && decide (e.frm < i)
def hazGo (p : Prog) (i addr : Int) : Nat → List Ent → Int × Bool
  | _, [] => (0, false)
  | k, e :: l => bif hitL p i addr e then ((k : Int), true) else hazGo p i addr (k + 1) l
def hazAt (l : List Ent) (i : Int) : Nat := (min i l.length + 1).toNat
def hazard (p : Prog) (l : List Ent) (i addr : Int) : Int × Bool := hazGo p i addr (hazAt l i) (l.drop (hazAt l i))
def realGo (p : Prog) : List Ent → List Int → Option (List Int)
  | [], out => some out
  | e :: l, out =>
    if (at_ p e.pc).kind = 8 then (if 4 ≤ out.length then none else realGo p l (out ++ [w64 (e.pc + 1)]))
    else if (at_ p e.pc).kind = 9 then (if out.length = 0 then none else realGo p l out.dropLast)
    else realGo p l out
def real (p : Prog) (st : List Int) (l : List Ent) (i : Int) : Option (List Int) := realGo p (cut l i) st
def push (l : List Int) (pc : Int) : List Int := (l ++ [pc]).drop (l.length - 1)
end Go.Aug.Md
