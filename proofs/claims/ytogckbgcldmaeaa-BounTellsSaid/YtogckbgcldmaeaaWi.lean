/- Programs, states and walks of numbers: what they are, in plain Lean. -/
import Derived.Test.YtogckbgcldmaeaaMd2
namespace Go.Aug.Md
open Go Go.Aug

/-- The lowest bits. -/
theorem iand_low (a : Int) (k : Nat) (hk : k ≤ 62) : ∃ r : Nat, r < 2 ^ k ∧ iand a ((2 ^ k - 1 : Nat) : Int) = r := by
  obtain ⟨r, h1, h2⟩ := mask_of a k hk
  refine ⟨r, h1, ?_⟩
  have : evInt .and .i64 a ((2 ^ k - 1 : Nat) : Int) = some (.int .i64 (iand a ((2 ^ k - 1 : Nat) : Int))) := rfl
  rw [this] at h2
  simpa using h2
theorem iand1 (a : Int) : ∃ r : Nat, r < 2 ∧ iand a 1 = r := iand_low a 1 (by decide)
theorem iand3 (a : Int) : ∃ r : Nat, r < 4 ∧ iand a 3 = r := iand_low a 2 (by decide)
theorem iand255 (a : Int) : ∃ r : Nat, r < 256 ∧ iand a 255 = r := iand_low a 8 (by decide)
/-- A row's number, or where it would stand. -/
def kM (l : List Int) (i : Int) : Int := (l[i.toNat]?).getD i
def shi (x : Int) (n : Nat) : Int := x.fdiv (2 ^ n)
def lowmod (x : Int) (n : Nat) : Nat := (iand x 255).toNat % n
theorem lowmod_eq (x : Int) (n : Nat) : (iand x 255).tmod (n : Int) = (lowmod x n : Nat) := by
  obtain ⟨r, _, h⟩ := iand255 x
  rw [lowmod, h, Int.toNat_natCast, ← Int.ofNat_tmod]
theorem lowmod_lt (x : Int) {n : Nat} (h : 0 < n) : lowmod x n < n := Nat.mod_lt _ h
def v0 : Val := ⟨false, 0⟩
def valN (n : Int) : Val := if iand n 4 = 0 then ⟨false, iand n 3⟩ else ⟨true, iand n 3⟩
def k18 : List Int := [1, 1, 2, 2, 2, 3, 3, 4, 5, 5, 5, 6, 7, 8, 9, 10, 11, 1]
def o4 : List Int := [9, 10, 3, 2]
/-- An instruction of a number, in a program of so many. -/
def insN (x : Int) (n : Nat) : Ins :=
  let k := k18.getD (lowmod x 18) 0
  let a := valN (shi x 8)
  let b := valN (shi x 11)
  let d := iand (shi x 14) 3
  let t : Int := lowmod (shi x 18) (n + 1)
  if k = 1 then ⟨1, lowmod (shi x 16) 10 + 1, d, a, b, ⟨#[]⟩, 0⟩
  else if k = 2 ∨ k = 3 ∨ k = 4 then ⟨k, 0, d, a, b, ⟨#[]⟩, 0⟩
  else if k = 5 then ⟨5, o4.getD (iand (shi x 16) 3).toNat 0, 0, a, b, ⟨#[]⟩, t⟩
  else if k = 6 ∨ k = 8 then ⟨k, 0, 0, v0, v0, ⟨#[]⟩, t⟩
  else if k = 7 then ⟨7, 0, 0, a, v0, ⟨#[]⟩, 0⟩
  else ⟨k, 0, 0, v0, v0, ⟨#[]⟩, 0⟩
def r4 : List Int := [0, 0, 1, 2]
/-- What is told of a register, before it is seen whether there is room. -/
def rawR (l : List Int) (n : Nat) : Int := r4.getD (iand (shi (kM l 1) n) 3).toNat 0
abbrev w64' (x : Int) : Int := IntKind.i64.wrap x
/-- A register: what is told of it, and how much is public and secret then. -/
def regStep (W pub sec r : Int) : Int × Int × Int :=
  if r = 1 ∧ w64' (pub + W) ≤ 2 then (r, w64' (pub + W), sec) else if r = 2 ∧ w64' (sec + W) ≤ 2 then (r, pub, w64' (sec + W)) else (0, pub, sec)
def reg0 (l : List Int) (W : Int) := regStep W 0 0 (rawR l 0)
def reg1 (l : List Int) (W : Int) := regStep W (reg0 l W).2.1 (reg0 l W).2.2 (rawR l 2)
def reg2 (l : List Int) (W : Int) := regStep W (reg1 l W).2.1 (reg1 l W).2.2 (rawR l 4)
def reg3 (l : List Int) (W : Int) := regStep W (reg2 l W).2.1 (reg2 l W).2.2 (rawR l 6)
def mem1 (l : List Int) (W : Int) : List MemT := if 0 < iand (shi (kM l 1) 8) 3 then [⟨⟨#[109]⟩, false, if W = 1 ∧ iand (shi (kM l 1) 10) 3 = 0 then 2 else 1⟩] else []
def memsM (l : List Int) (W : Int) : List MemT :=
  if 0 < iand (shi (kM l 1) 12) 3 ∧ w64' ((reg3 l W).2.2 + W) ≤ 3 ∧ (mem1 l W = [] ∨ (mem1 l W).map MemT.n = [1]) then mem1 l W ++ [⟨⟨#[115]⟩, true, 1⟩] else mem1 l W
def dig (n : Nat) : ByteArray := ⟨#[(48 + n).toUInt8]⟩
def labM (n : Nat) : Label := ⟨⟨#[108, (48 + n).toUInt8]⟩, n⟩
def nM (l : List Int) : Nat := (iand (shi (kM l 0) 12) 3).toNat + 2
def widM (l : List Int) : Int := iand (kM l 0) 1 + 1
/-- A program of numbers. -/
def make (l : List Int) : Prog :=
  ⟨widM l, lowmod (shi (kM l 0) 1) 3 + 1, 6, ⟨(reg0 l (widM l)).1, (reg1 l (widM l)).1, (reg2 l (widM l)).1, (reg3 l (widM l)).1⟩,
    memsM l (widM l), (List.range (nM l + 1)).map labM, (List.range (nM l)).map fun i : Nat => insN (kM l (i + 2)) (nM l)⟩
end Go.Aug.Md

/- How many machines there may be, in plain Lean. -/
namespace Go.Aug.Bo
open Go Go.Aug

def far : Nat := 4611686018427387904
def sat (n : Nat) : Nat := min n far
theorem sat_mul (a b : Nat) : sat (sat a * b) = sat (a * b) := by
  unfold sat
  rcases Nat.le_total a far with h | h
  · rw [Nat.min_eq_left h]
  · rw [Nat.min_eq_right h]
    rcases Nat.eq_zero_or_pos b with rfl | hb
    · simp
    · have h1 : far ≤ far * b := Nat.le_mul_of_pos_right far hb
      have h2 : a ≤ a * b := Nat.le_mul_of_pos_right a hb
      omega
theorem sat_mul' (a b : Nat) : sat (a * sat b) = sat (a * b) := by rw [Nat.mul_comm, sat_mul, Nat.mul_comm]
theorem sat_le (a : Nat) : sat a ≤ far := Nat.min_le_right _ _
/-- The program's product. -/
theorem sat_if {a b : Nat} (h : 0 < a) : sat (a * b) = if far / a < b then far else a * b := by
  unfold sat
  split
  · rename_i hb
    have := Nat.mul_le_mul_left a (show far / a + 1 ≤ b from hb)
    have h2 := Nat.lt_mul_div_succ far h
    omega
  · rename_i hb
    have h1 : b ≤ far / a := by omega
    have := Nat.mul_le_mul_left a h1
    have := Nat.mul_div_le far a
    omega
def powS (a : Nat) : Nat → Nat → Nat
  | out, 0 => out
  | out, n + 1 => powS a (sat (out * a)) n
theorem powS_eq (a : Nat) : ∀ n out, out ≤ far → powS a out n = sat (out * a ^ n)
  | 0, out, h => by simp [powS, sat, Nat.min_eq_left h]
  | n + 1, out, h => by rw [powS, powS_eq a n _ (sat_le _), sat_mul, Nat.pow_succ', Nat.mul_assoc]
/-- A power, up to the bound. -/
def pw (a n : Nat) : Nat := powS a 1 n
theorem pw_eq (a n : Nat) : pw a n = sat (a ^ n) := by rw [pw, powS_eq _ _ _ (by unfold far; omega), Nat.one_mul]
/-- As the program counts. -/
def confs (s k w1 w c : Nat) : Nat := sat (sat (pw s c * sat (pw k 7 * 45)) * pw (min (sat (sat (8 * pw s 2) * sat (w1 * pw k 2))) (far - 1) + 1) w)
/-- As the reference counts. -/
def confsR (s k w1 w c : Nat) : Nat := sat (sat (sat (pw s c * pw k 7) * 45) * pw (min (1 + sat (sat (sat (8 * pw s 2) * w1) * pw k 2)) far) w)
theorem confs_eq (s k w1 w c : Nat) : confs s k w1 w c = confsR s k w1 w c := by
  unfold confs confsR
  simp only [pw_eq, sat_mul, sat_mul']
  have e1 : s ^ c * (k ^ 7 * 45) = s ^ c * k ^ 7 * 45 := by rw [Nat.mul_assoc]
  have e2 : 8 * s ^ 2 * (w1 * k ^ 2) = 8 * s ^ 2 * w1 * k ^ 2 := by rw [Nat.mul_assoc (8 * s ^ 2)]
  rw [e1, e2]
  have e3 : ∀ x, min (sat x) (far - 1) + 1 = min (1 + sat x) far := by intro x; unfold sat far; omega
  rw [e3]
theorem sat_pos {n : Nat} (h : 0 < n) : 0 < sat n := by unfold sat far; omega
theorem pw_pos {a : Nat} (h : 0 < a) (n : Nat) : 0 < pw a n := by rw [pw_eq]; exact sat_pos (Nat.pow_pos h)
theorem confsR_pos {s k w1 w c : Nat} (hs : 0 < s) (hk : 0 < k) : 0 < confsR s k w1 w c := by
  unfold confsR
  refine sat_pos (Nat.mul_pos (sat_pos (Nat.mul_pos (sat_pos (Nat.mul_pos (pw_pos hs _) (pw_pos hk _))) (by decide))) (pw_pos ?_ _))
  unfold far; omega
theorem confsR_le (s k w1 w c : Nat) : confsR s k w1 w c ≤ far := sat_le _
end Go.Aug.Bo

/- Wide programs of numbers. -/
namespace Go.Aug.Md
open Go Go.Aug
def lim1 (W : Int) : Int := IntKind.i64.wrap (1 * 2 ^ min W.toNat 64)
def wideW (w : Int) : Int := iand w 15 + 1
def wideR (r : Int) (n : Nat) : Int := (iand (shi r n) 3).tmod 3
def wide1 (W c : Int) : List MemT := if 0 < iand (shi c 0) 7 ∧ iand (shi c 0) 7 ≤ lim1 W then [⟨⟨#[109]⟩, false, iand (shi c 0) 7⟩] else []
def wideN (W c : Int) : Int := if 0 < iand (shi c 0) 7 ∧ iand (shi c 0) 7 ≤ lim1 W then iand (shi c 0) 7 else 0
def wide2 (W c : Int) : List MemT := if 0 < iand (shi c 3) 7 ∧ w64' (wideN W c + iand (shi c 3) 7) ≤ lim1 W then wide1 W c ++ [⟨⟨#[115]⟩, true, iand (shi c 3) 7⟩] else wide1 W c
def wide (l : List Int) (w r c : Int) : Prog :=
  { make l with w := wideW w, regs := ⟨wideR r 0, wideR r 2, wideR r 4, wideR r 6⟩, mems := wide2 (wideW w) c }
end Go.Aug.Md

