import Derived.Test.YtogckbgcldmaeaaEvTy
namespace Go.Aug.Md
open Go Go.Aug
def okW (w : Int) : Bool := decide (1 <= w) && decide (w <= 16)
def size (w : Int) : Int := bif okW w then 2 ^ w.toNat else 0
def mask (w n : Int) : Int := bif okW w then n % 2 ^ w.toNat else 0
def truth (b : Bool) : Int := bif b then 1 else 0
def iand (a b : Int) : Int := IntKind.i64.wrap (BitVec.ofInt 64 a &&& BitVec.ofInt 64 b).toNat
def ior (a b : Int) : Int := IntKind.i64.wrap (BitVec.ofInt 64 a ||| BitVec.ofInt 64 b).toNat
def ixor (a b : Int) : Int := IntKind.i64.wrap (BitVec.ofInt 64 a ^^^ BitVec.ofInt 64 b).toNat
def shl (w a b : Int) : Int := if b >= w then 0 else mask w (a * 2 ^ b.toNat)
def shr (w a b : Int) : Int := if b >= w then 0 else a.fdiv (2 ^ b.toNat)
def opOf (w op a b : Int) : Option Int :=
 if op = 1 then some (mask w (a + b)) else if op = 2 then some (mask w (a - b)) else if op = 3 then some (iand a b) else if op = 4 then some (ior a b) else if op = 5 then some (ixor a b)
 else if op = 6 then some (shl w a b) else if op = 7 then some (shr w a b) else if op = 8 then some (mask w (a * b)) else if op = 9 then some (truth (decide (a < b))) else if op = 10 then some (truth (a == b)) else none
def wdo (w op a b : Int) : Int := bif okW w then (opOf w op (mask w a) (mask w b)).getD 0 else 0
def wdoK (w op a b : Int) : Bool := okW w && (opOf w op (mask w a) (mask w b)).isSome
def w64 (n : Int) : Int := IntKind.i64.wrap n
def faultI : Ins := ⟨12, 0, 0, ⟨false, 0⟩, ⟨false, 0⟩, ⟨#[]⟩, 0⟩
def at_ (p : Prog) (pc : Int) : Ins := if 0 <= pc then (p.ins[pc.toNat]?).getD faultI else faultI
def cut (l : List Ent) (n : Int) : List Ent := l.take n.toNat
def getR (r : Regs) (i : Int) : Int := if i = 0 then r.r0 else if i = 1 then r.r1 else if i = 2 then r.r2 else r.r3
def setR (r : Regs) (i n : Int) : Regs := if i = 0 then { r with r0 := n } else if i = 1 then { r with r1 := n } else if i = 2 then { r with r2 := n } else if i = 3 then { r with r3 := n } else r
def destK (i : Ins) : Bool := i.kind == 1 || i.kind == 2 || i.kind == 4
def dest (i : Ins) : Int := bif destK i then i.d else 0
def regGo (p : Prog) (r d : Int) : List Ent -> Int × Bool
 | [] => (d, true)
 | e :: l => bif destK (at_ p e.pc) && (at_ p e.pc).d == r then (bif e.done then (e.val, true) else (0, false)) else regGo p r d l
def reg (p : Prog) (of : Regs) (l : List Ent) (i r : Int) : Int × Bool :=
 if r < 0 ∨ 4 <= r then (0, false) else regGo p r (getR of r) (cut l i).reverse
def val (p : Prog) (of : Regs) (l : List Ent) (i : Int) (v : Val) : Int × Bool := bif v.reg then reg p of l i v.n else (mask p.w v.n, true)
def isFence (p : Prog) (e : Ent) : Bool := (at_ p e.pc).kind == 10
def blocked (p : Prog) (l : List Ent) (i : Int) : Bool := (cut l i).any (isFence p)
def hitS (p : Prog) (addr : Int) (e : Ent) : Bool := (at_ p e.pc).kind == 3 && e.known && e.addr == addr
def loadGo (p : Prog) (mem : List Int) (addr : Int) : List Ent -> Int × Int × Bool
 | [] => if addr < 0 ∨ (mem.length : Int) <= addr then (0, -1, true) else ((mem[addr.toNat]?).getD 0, -1, true)
 | e :: l => bif hitS p addr e then (bif e.done then (e.val, (l.length : Int), true) else (0, 0, false)) else loadGo p mem addr l
def load (p : Prog) (mem : List Int) (l : List Ent) (i addr : Int) : Int × Int × Bool := loadGo p mem addr (cut l i).reverse
def hitL (p : Prog) (i addr : Int) (e : Ent) : Bool := (at_ p e.pc).kind == 2 && e.known && e.addr == addr && decide (e.frm < i)
def hazGo (p : Prog) (i addr : Int) : Nat -> List Ent -> Int × Bool
 | _, [] => (0, false)
 | k, e :: l => bif hitL p i addr e then ((k : Int), true) else hazGo p i addr (k + 1) l
def hazAt (l : List Ent) (i : Int) : Nat := (min i l.length + 1).toNat
def hazard (p : Prog) (l : List Ent) (i addr : Int) : Int × Bool := hazGo p i addr (hazAt l i) (l.drop (hazAt l i))
def realGo (p : Prog) : List Ent -> List Int -> Option (List Int)
 | [], out => some out
 | e :: l, out =>
  if (at_ p e.pc).kind = 8 then (if 4 <= out.length then none else realGo p l (out ++ [w64 (e.pc + 1)]))
  else if (at_ p e.pc).kind = 9 then (if out.length = 0 then none else realGo p l out.dropLast)
  else realGo p l out
def real (p : Prog) (st : List Int) (l : List Ent) (i : Int) : Option (List Int) := realGo p (cut l i) st
def push (l : List Int) (pc : Int) : List Int := (l ++ [pc]).drop (l.length - 1)
end Go.Aug.Md
namespace Go.Aug.Md
open Go Go.Aug
theorem okW_iff {w : Int} : okW w = true ↔ 1 <= w /\ w <= 16 := by simp [okW]
theorem okW_nat {w : Int} (h : okW w = true) : ∃ k : Nat, w = k /\ 1 <= k /\ k <= 16 := by
 obtain ⟨h1, h2⟩ := okW_iff.1 h
 exact ⟨w.toNat, by omega, by omega, by omega⟩
theorem pow_le16 {k : Nat} (h : k <= 16) : (2 : Int) ^ k <= 65536 := by
 have : (2 : Nat) ^ k <= 2 ^ 16 := Nat.pow_le_pow_right (by omega) h
 have e : (2 : Int) ^ k = ((2 ^ k : Nat) : Int) := by simp
 rw [e]; omega
theorem pow_pos' (k : Nat) : (0 : Int) < 2 ^ k := by
 have := Nat.two_pow_pos k
 have e : (2 : Int) ^ k = ((2 ^ k : Nat) : Int) := by simp
 rw [e]; omega
theorem pow_dvd {k : Nat} (h : k <= 16) : (2 : Int) ^ k ∣ 18446744073709551616 := by
 have : (2 : Nat) ^ k ∣ 2 ^ 64 := Nat.pow_dvd_pow 2 (by omega)
 have e : (2 : Int) ^ k = ((2 ^ k : Nat) : Int) := by simp
 rw [e]
 exact Int.natCast_dvd_natCast.2 this
theorem mask_nn (w n : Int) : 0 <= mask w n := by
 unfold mask
 cases h : okW w with
 | true => exact Int.emod_nonneg _ (by have := pow_pos' w.toNat; omega)
 | false => exact Int.le_refl _
theorem mask_lt {w : Int} (n : Int) (h : okW w = true) : mask w n < 2 ^ w.toNat := by
 unfold mask; rw [h]
 exact Int.emod_lt_of_pos _ (pow_pos' _)
theorem mask_le (w n : Int) : mask w n <= 65535 := by
 cases h : okW w with
 | true =>
  have h1 := mask_lt n h
  obtain ⟨k, rfl, h2, h3⟩ := okW_nat h
  have := pow_le16 h3
  rw [Int.toNat_natCast] at h1
  omega
 | false => unfold mask; rw [h]; show (0 : Int) <= 65535; omega
theorem mask_small {w n : Int} (h : okW w = true) (h0 : 0 <= n) (h1 : n < 2 ^ w.toNat) : mask w n = n := by
 unfold mask; rw [h]
 exact Int.emod_eq_of_lt h0 h1
theorem wrap64_mod (n : Int) : (IntKind.i64.wrap n) % 18446744073709551616 = n % 18446744073709551616 := by
 simp [IntKind.wrap, IntKind.bits, IntKind.signed]; omega
theorem mask_wrap (w n : Int) : mask w (IntKind.i64.wrap n) = mask w n := by
 unfold mask
 cases h : okW w with
 | true =>
  obtain ⟨k, rfl, _, h3⟩ := okW_nat h
  have hd := pow_dvd h3
  rw [Int.toNat_natCast]
  show IntKind.i64.wrap n % 2 ^ k = n % 2 ^ k
  rw [<- Int.emod_emod_of_dvd _ hd, wrap64_mod, Int.emod_emod_of_dvd _ hd]
 | false => rfl
theorem and_mask {k : Nat} (n : Int) (h : k <= 16) : evInt .and .i64 n ((2 ^ k : Int) - 1) = some (.int .i64 (n % 2 ^ k)) := by
 have e1 : ((2 ^ k : Int) - 1) = ((2 ^ k - 1 : Nat) : Int) := by
  have := Nat.two_pow_pos k
  have e : (2 : Int) ^ k = ((2 ^ k : Nat) : Int) := by simp
  rw [e]; omega
 obtain ⟨r, hr, he⟩ := mask_of n k (by omega)
 rw [e1, he]
 have h2 : (BitVec.ofInt 64 n &&& BitVec.ofInt 64 ((2 ^ k - 1 : Nat) : Int)).toNat = (n % 2 ^ k).toNat := by
  have hp : 2 ^ k <= 2 ^ 62 := Nat.pow_le_pow_right (by omega) (by omega)
  rw [BitVec.toNat_and]
  have : (BitVec.ofInt 64 ((2 ^ k - 1 : Nat) : Int)).toNat = 2 ^ k - 1 := by
   rw [BitVec.ofInt_natCast, BitVec.toNat_ofNat]
   exact Nat.mod_eq_of_lt (by omega)
  rw [this, Nat.and_two_pow_sub_one_eq_mod, BitVec.toNat_ofInt]
  have hd := pow_dvd h
  have e3 : ((n % (2 ^ 64 : Nat)).toNat % 2 ^ k : Nat) = ((n % (2 ^ 64 : Nat)) % (2 ^ k : Int)).toNat := by
   have h0 : 0 <= n % (2 ^ 64 : Nat) := Int.emod_nonneg _ (by omega)
   obtain ⟨m, hm⟩ := Int.eq_ofNat_of_zero_le h0
   rw [hm]
   have e : (2 : Int) ^ k = ((2 ^ k : Nat) : Int) := by simp
   rw [e, Int.toNat_natCast, <- Int.natCast_emod, Int.toNat_natCast]
  rw [e3]
  congr 1
  exact Int.emod_emod_of_dvd _ hd
 have h3 : evInt .and .i64 n ((2 ^ k - 1 : Nat) : Int) = some (.int .i64 (IntKind.i64.wrap ((BitVec.ofInt 64 n &&& BitVec.ofInt 64 ((2 ^ k - 1 : Nat) : Int)).toNat : Nat))) := rfl
 rw [he] at h3
 rw [h3, h2]
 have h4 : 0 <= n % 2 ^ k := Int.emod_nonneg _ (by have := pow_pos' k; omega)
 have h5 : n % 2 ^ k < 2 ^ k := Int.emod_lt_of_pos _ (pow_pos' k)
 have h6 := pow_le16 h
 rw [Int.toNat_of_nonneg h4, wrap_i64 (by omega) (by omega)]
theorem rem_mask (n : Int) {s : Int} (h : 0 < s) : ((n.tmod s) + s).tmod s = n % s := by
 have e := Int.tmod_eq_emod (a := n) (b := s)
 have h0 : 0 <= n % s := Int.emod_nonneg _ (by omega)
 have hs : (s.natAbs : Int) = s := by omega
 have h2 : 0 <= n.tmod s + s := by
  rw [e]; split <;> omega
 rw [Int.tmod_eq_emod_of_nonneg h2, Int.add_emod_right, e]
 split
 ·simp
 ·rw [hs, Int.sub_emod, Int.emod_self, Int.sub_zero, Int.emod_emod, Int.emod_emod]
theorem nat_of {n : Int} {k : Nat} (h0 : 0 <= n) (h1 : n < 2 ^ k) : ∃ m : Nat, n = m /\ m < 2 ^ k := by
 obtain ⟨m, rfl⟩ := Int.eq_ofNat_of_zero_le h0
 refine ⟨m, rfl, ?_⟩
 have e : (2 : Int) ^ k = ((2 ^ k : Nat) : Int) := by simp
 rw [e] at h1; omega
theorem bv_of {m : Nat} (h : m < 65536) : (BitVec.ofInt 64 (m : Int)).toNat = m := by
 rw [BitVec.ofInt_natCast, BitVec.toNat_ofNat]
 exact Nat.mod_eq_of_lt (by omega)
theorem iand_nat {a b : Nat} (ha : a < 65536) (hb : b < 65536) : iand a b = ((a &&& b : Nat) : Int) := by
 unfold iand
 rw [BitVec.toNat_and, bv_of ha, bv_of hb]
 have : a &&& b <= a := Nat.and_le_left
 exact wrap_i64 (by omega) (by omega)
theorem ior_nat {a b : Nat} (ha : a < 65536) (hb : b < 65536) : ior a b = ((a ||| b : Nat) : Int) := by
 unfold ior
 rw [BitVec.toNat_or, bv_of ha, bv_of hb]
 have : a ||| b < 2 ^ 16 := Nat.or_lt_two_pow ha hb
 exact wrap_i64 (by omega) (by omega)
theorem ixor_nat {a b : Nat} (ha : a < 65536) (hb : b < 65536) : ixor a b = ((a ^^^ b : Nat) : Int) := by
 unfold ixor
 rw [BitVec.toNat_xor, bv_of ha, bv_of hb]
 have : a ^^^ b < 2 ^ 16 := Nat.xor_lt_two_pow ha hb
 exact wrap_i64 (by omega) (by omega)
theorem cast_lt {m k : Nat} (h : m < 2 ^ k) : (m : Int) < 2 ^ k := by
 have e : (2 : Int) ^ k = ((2 ^ k : Nat) : Int) := by simp
 rw [e]; omega
section
variable {w : Int} (h : okW w = true) (a b : Int)
include h
theorem lt16 : ∃ x : Nat, mask w a = x /\ x < 2 ^ w.toNat /\ x < 65536 := by
 obtain ⟨x, h1, h2⟩ := nat_of (mask_nn w a) (mask_lt a h)
 have := mask_le w a
 exact ⟨x, h1, h2, by omega⟩
theorem mask_iand : mask w (iand (mask w a) (mask w b)) = iand (mask w a) (mask w b) := by
 obtain ⟨x, hx, x1, x2⟩ := lt16 h a
 obtain ⟨y, hy, y1, y2⟩ := lt16 h b
 rw [hx, hy, iand_nat x2 y2]
 exact mask_small h (by omega) (cast_lt (Nat.and_lt_two_pow _ y1))
theorem mask_ior : mask w (ior (mask w a) (mask w b)) = ior (mask w a) (mask w b) := by
 obtain ⟨x, hx, x1, x2⟩ := lt16 h a
 obtain ⟨y, hy, y1, y2⟩ := lt16 h b
 rw [hx, hy, ior_nat x2 y2]
 exact mask_small h (by omega) (cast_lt (Nat.or_lt_two_pow x1 y1))
theorem mask_ixor : mask w (ixor (mask w a) (mask w b)) = ixor (mask w a) (mask w b) := by
 obtain ⟨x, hx, x1, x2⟩ := lt16 h a
 obtain ⟨y, hy, y1, y2⟩ := lt16 h b
 rw [hx, hy, ixor_nat x2 y2]
 exact mask_small h (by omega) (cast_lt (Nat.xor_lt_two_pow x1 y1))
theorem mask_zero : mask w 0 = 0 := mask_small h (by omega) (pow_pos' _)
theorem mask_shr (n : Nat) : mask w ((mask w a).fdiv (2 ^ n)) = (mask w a).fdiv (2 ^ n) := by
 obtain ⟨x, hx, x1, x2⟩ := lt16 h a
 have e : (2 : Int) ^ n = ((2 ^ n : Nat) : Int) := by simp
 have : (mask w a).fdiv (2 ^ n) = ((x / 2 ^ n : Nat) : Int) := by
  rw [hx, e, Int.fdiv_eq_ediv_of_nonneg _ (Int.natCast_nonneg _)]; rfl
 rw [this]
 exact mask_small h (Int.natCast_nonneg _) (cast_lt (Nat.lt_of_le_of_lt (Nat.div_le_self _ _) x1))
theorem mask_truth (c : Bool) : mask w (truth c) = truth c := by
 obtain ⟨h1, h2⟩ := okW_iff.1 h
 have h3 : (1 : Int) < 2 ^ w.toNat := by
  have : 2 ^ 1 <= 2 ^ w.toNat := Nat.pow_le_pow_right (by omega) (by omega)
  have e : (2 : Int) ^ w.toNat = ((2 ^ w.toNat : Nat) : Int) := by simp
  rw [e]; omega
 cases c
 ·exact mask_zero h
 ·exact mask_small h (by decide) h3
end
end Go.Aug.Md
namespace Go.Aug.Md
open Go Go.Aug
def ent0 : Ent := ⟨0, 0, 0, 0, 0, false, false, false⟩
def entAt (l : List Ent) (i : Int) : Ent := (l[i.toNat]?).getD ent0
def openM (p : Prog) (c : Conf) (i : Int) : Bool := c.end_ == 0 && decide (0 <= i) && decide (i < c.buf.length) && !blocked p c.buf i
def insM (p : Prog) (c : Conf) (i : Int) : Ins := at_ p (entAt c.buf i).pc
def valM (p : Prog) (c : Conf) (i : Int) (v : Val) : Int × Bool := val p c.state.regs c.buf i v
def regM (p : Prog) (c : Conf) (i r : Int) : Int × Bool := reg p c.state.regs c.buf i r
def loadM (p : Prog) (c : Conf) (i addr : Int) : Int × Int × Bool := load p c.state.mem c.buf i addr
def ready (N : Int) (p : Prog) (c : Conf) (i : Int) (x : Ins) (a b d : Int × Bool) : Bool :=
 if x.kind = 1 ∨ x.kind = 5 then a.2 && b.2
 else if x.kind = 4 then a.2 && b.2 && d.2
 else if x.kind = 2 then a.2 && b.2 && (decide (mask p.w (a.1 + b.1) >= N) || (loadM p c i (mask p.w (a.1 + b.1))).2.2)
 else if x.kind = 3 then d.2
 else if x.kind = 7 then a.2
 else decide (x.kind = 9)
def can (N : Int) (p : Prog) (c : Conf) (i : Int) : Bool :=
 openM p c i && !(entAt c.buf i).done && ready N p c i (insM p c i) (valM p c i (insM p c i).a) (valM p c i (insM p c i).b) (regM p c i (insM p c i).d)
def put (c : Conf) (i : Int) (e : Ent) : Conf := { c with buf := c.buf.set i.toNat e }
def goesM (c : Conf) (i : Int) (e : Ent) (to : Int) : Conf × List Obs :=
 (if e.next = to then put c i { e with done := true }
  else { c with buf := (c.buf.set i.toNat { e with done := true, next := to }).take (i.toNat + 1), state := { c.state with pc := to } }, [⟨3, to⟩])
def conf0 : Conf := ⟨⟨⟨0, 0, 0, 0⟩, [], [], 0⟩, [], [], 0⟩
def lastI (l : List Int) : Int := l.getLast?.getD 0
def doK (N : Int) (p : Prog) (c : Conf) (i : Int) (e : Ent) (x : Ins) (a b d : Int) : Conf × List Obs :=
 if x.kind = 1 then (put c i { e with val := wdo p.w x.op a b, done := true }, [])
 else if x.kind = 4 then (put c i { e with val := if a = 0 then d else b, done := true }, [])
 else if x.kind = 3 then (put c i { e with val := d, done := true }, [])
 else if x.kind = 2 then
  (if mask p.w (a + b) >= N then (put c i ⟨e.pc, 0, mask p.w (a + b), -1, e.next, true, true, true⟩, [])
   else (put c i ⟨e.pc, (loadM p c i (mask p.w (a + b))).1, mask p.w (a + b), (loadM p c i (mask p.w (a + b))).2.1, e.next, true, true, e.fault⟩, [⟨1, mask p.w (a + b)⟩]))
 else if x.kind = 5 then goesM c i e (if wdo p.w x.op a b = 0 then w64 (e.pc + 1) else x.target)
 else if x.kind = 7 then goesM c i e (min a p.ins.length)
 else if x.kind = 9 then
  (match real p c.state.stack c.buf i with
   | none => (put c i { e with done := true, fault := true }, [])
   | some l => if l.length = 0 then (put c i { e with done := true, fault := true }, []) else goesM c i e (lastI l))
 else (put c i { e with done := true }, [])
def doM (N : Int) (p : Prog) (c : Conf) (i : Int) : Conf × List Obs :=
 doK N p c i (entAt c.buf i) (insM p c i) (valM p c i (insM p c i).a).1 (valM p c i (insM p c i).b).1 (regM p c i (insM p c i).d).1
def canAddr (p : Prog) (c : Conf) (i : Int) : Bool :=
 openM p c i && !(entAt c.buf i).known && decide ((insM p c i).kind = 3) && (valM p c i (insM p c i).a).2 && (valM p c i (insM p c i).b).2
def addrOf (p : Prog) (c : Conf) (i : Int) : Int := mask p.w ((valM p c i (insM p c i).a).1 + (valM p c i (insM p c i).b).1)
def drop1 (p : Prog) (c : Conf) (i addr : Int) (l : List Ent) : Conf :=
 bif (hazard p l i addr).2 then { c with buf := l.take (hazard p l i addr).1.toNat, state := { c.state with pc := (entAt l (hazard p l i addr).1).pc } } else { c with buf := l }
def addrK (N : Int) (p : Prog) (c : Conf) (i : Int) (e : Ent) (addr : Int) : Conf × List Obs :=
 if addr >= N then (put c i { e with addr := addr, known := true, fault := true }, [])
 else (drop1 p c i addr (c.buf.set i.toNat { e with addr := addr, known := true, fault := false }), [⟨2, addr⟩])
def addrM (N : Int) (p : Prog) (c : Conf) (i : Int) : Conf × List Obs := addrK N p c i (entAt c.buf i) (addrOf p c i)
def guesses (p : Prog) (c : Conf) : Int :=
 if c.end_ ≠ 0 ∨ c.state.pc = -1 ∨ (c.buf.length : Int) >= p.window then 0
 else if (at_ p c.state.pc).kind = 5 then 2
 else if (at_ p c.state.pc).kind = 7 ∨ (at_ p c.state.pc).kind = 9 /\ c.rsb.length = 0 then p.ins.length + 1
 else 1
def entry (p : Prog) (c : Conf) (g : Int) : Ent × List Int :=
 let pc := c.state.pc
 let x := at_ p pc
 let e : Ent := ⟨pc, 0, 0, -1, w64 (pc + 1), false, false, false⟩
 if x.kind = 5 then ({ e with next := if g = 1 then x.target else w64 (pc + 1) }, c.rsb)
 else if x.kind = 6 then ({ e with next := x.target, done := true }, c.rsb)
 else if x.kind = 7 then ({ e with next := g }, c.rsb)
 else if x.kind = 8 then ({ e with next := x.target, done := true, fault := match real p c.state.stack c.buf c.buf.length with | none => true | some l => decide (4 <= l.length) }, push c.rsb (w64 (pc + 1)))
 else if x.kind = 9 then (if c.rsb.length = 0 then ({ e with next := g }, c.rsb) else ({ e with next := lastI c.rsb }, c.rsb.dropLast))
 else if x.kind = 11 ∨ x.kind = 12 then ({ e with next := -1, done := true }, c.rsb)
 else (e, c.rsb)
def canFetch (p : Prog) (c : Conf) (g : Int) : Bool := decide (0 <= g) && decide (g < guesses p c)
def fetch (p : Prog) (c : Conf) (g : Int) : Conf :=
 {c with buf := c.buf ++ [(entry p c g).1], rsb := (entry p c g).2, state := { c.state with pc := (entry p c g).1.next } }
def canRetire (p : Prog) (c : Conf) : Bool :=
 c.end_ == 0 && decide (c.buf.length ≠ 0) && ((entAt c.buf 0).done || decide ((at_ p (entAt c.buf 0).pc).kind = 10)) && (decide ((at_ p (entAt c.buf 0).pc).kind ≠ 3) || (entAt c.buf 0).known)
def popE (e : Ent) : Ent := if 0 <= e.frm then { e with frm := w64 (e.frm - 1) } else e
def popL (l : List Ent) : List Ent := (l.drop 1).map popE
def endedM (e : Ent) (x : Ins) : Int := bif e.fault || decide (x.kind = 12) then 2 else if x.kind = 11 then 1 else 0
def commitM (s : State) (e : Ent) (x : Ins) : State :=
 if x.kind = 1 ∨ x.kind = 2 ∨ x.kind = 4 then { s with regs := setR s.regs x.d e.val }
 else if x.kind = 3 then (if 0 <= e.addr /\ e.addr < s.mem.length then { s with mem := s.mem.set e.addr.toNat e.val } else s)
 else if x.kind = 8 then { s with stack := s.stack ++ [w64 (e.pc + 1)] }
 else if x.kind = 9 then { s with stack := s.stack.dropLast }
 else s
def retire (p : Prog) (c : Conf) : Conf :=
 let e := entAt c.buf 0
 let x := at_ p e.pc
 if endedM e x = 0 then { c with buf := popL c.buf, state := commitM c.state e x }
 else { c with buf := [], rsb := [], end_ := endedM e x, state := { c.state with pc := e.pc } }
def all (N : Int) (p : Prog) (c : Conf) : List Dir :=
 ((List.range (guesses p c).toNat).map fun n : Nat => (⟨1, (n : Int)⟩ : Dir)) ++
 (((List.range c.buf.length).filter fun n : Nat => can N p c (n : Int)).map fun n : Nat => (⟨2, (n : Int)⟩ : Dir)) ++
 (((List.range c.buf.length).filter fun n : Nat => canAddr p c (n : Int)).map fun n : Nat => (⟨3, (n : Int)⟩ : Dir)) ++
 (bif canRetire p c then [⟨4, 0⟩] else [])
def canSay (N : Int) (p : Prog) (c : Conf) (d : Dir) : Bool :=
 if d.kind = 1 then canFetch p c d.n else if d.kind = 2 then can N p c d.n else if d.kind = 3 then canAddr p c d.n
 else decide (d.kind = 4) && decide (d.n = 0) && canRetire p c
def say (N : Int) (p : Prog) (c : Conf) (d : Dir) : Conf × List Obs :=
 if d.kind = 1 then (fetch p c d.n, []) else if d.kind = 2 then doM N p c d.n else if d.kind = 3 then addrM N p c d.n else (retire p c, [])
end Go.Aug.Md
