/- Words: plain laws of masks and bits. -/
import Derived.Test.YtogckbgcldmaeaaMd
namespace Go.Aug.Md
open Go Go.Aug

theorem okW_iff {w : Int} : okW w = true ↔ 1 ≤ w ∧ w ≤ 16 := by simp [okW]
/-- A width that is one is one of sixteen. -/
theorem okW_nat {w : Int} (h : okW w = true) : ∃ k : Nat, w = k ∧ 1 ≤ k ∧ k ≤ 16 := by
  obtain ⟨h1, h2⟩ := okW_iff.1 h
  exact ⟨w.toNat, by omega, by omega, by omega⟩
theorem pow_le16 {k : Nat} (h : k ≤ 16) : (2 : Int) ^ k ≤ 65536 := by
  have : (2 : Nat) ^ k ≤ 2 ^ 16 := Nat.pow_le_pow_right (by omega) h
  have e : (2 : Int) ^ k = ((2 ^ k : Nat) : Int) := by simp
  rw [e]; omega
theorem pow_pos' (k : Nat) : (0 : Int) < 2 ^ k := by
  have := Nat.two_pow_pos k
  have e : (2 : Int) ^ k = ((2 ^ k : Nat) : Int) := by simp
  rw [e]; omega
theorem pow_dvd {k : Nat} (h : k ≤ 16) : (2 : Int) ^ k ∣ 18446744073709551616 := by
  have : (2 : Nat) ^ k ∣ 2 ^ 64 := Nat.pow_dvd_pow 2 (by omega)
  have e : (2 : Int) ^ k = ((2 ^ k : Nat) : Int) := by simp
  rw [e]
  exact Int.natCast_dvd_natCast.2 this
theorem mask_nn (w n : Int) : 0 ≤ mask w n := by
  unfold mask
  cases h : okW w with
  | true => exact Int.emod_nonneg _ (by have := pow_pos' w.toNat; omega)
  | false => exact Int.le_refl _
theorem mask_lt {w : Int} (n : Int) (h : okW w = true) : mask w n < 2 ^ w.toNat := by
  unfold mask; rw [h]
  exact Int.emod_lt_of_pos _ (pow_pos' _)
theorem mask_le (w n : Int) : mask w n ≤ 65535 := by
  cases h : okW w with
  | true =>
    have h1 := mask_lt n h
    obtain ⟨k, rfl, h2, h3⟩ := okW_nat h
    have := pow_le16 h3
    rw [Int.toNat_natCast] at h1
    omega
  | false => unfold mask; rw [h]; show (0 : Int) ≤ 65535; omega
theorem mask_small {w n : Int} (h : okW w = true) (h0 : 0 ≤ n) (h1 : n < 2 ^ w.toNat) : mask w n = n := by
  unfold mask; rw [h]
  exact Int.emod_eq_of_lt h0 h1
theorem mask_mask (w n : Int) : mask w (mask w n) = mask w n := by
  cases h : okW w with
  | true => exact mask_small h (mask_nn _ _) (mask_lt _ h)
  | false => simp [mask, h]
theorem wrap64_mod (n : Int) : (IntKind.i64.wrap n) % 18446744073709551616 = n % 18446744073709551616 := by
  simp [IntKind.wrap, IntKind.bits, IntKind.signed]; omega
theorem mask_wrap (w n : Int) : mask w (IntKind.i64.wrap n) = mask w n := by
  unfold mask
  cases h : okW w with
  | true =>
    obtain ⟨k, rfl, _, h3⟩ := okW_nat h
    have hd := pow_dvd h3
    rw [Int.toNat_natCast]
    show IntKind.i64.wrap n % 2 ^ k = n % 2 ^ k
    rw [← Int.emod_emod_of_dvd _ hd, wrap64_mod, Int.emod_emod_of_dvd _ hd]
  | false => rfl
theorem and_mask {k : Nat} (n : Int) (h : k ≤ 16) : evInt .and .i64 n ((2 ^ k : Int) - 1) = some (.int .i64 (n % 2 ^ k)) := by
  have e1 : ((2 ^ k : Int) - 1) = ((2 ^ k - 1 : Nat) : Int) := by
    have := Nat.two_pow_pos k
    have e : (2 : Int) ^ k = ((2 ^ k : Nat) : Int) := by simp
    rw [e]; omega
  obtain ⟨r, hr, he⟩ := mask_of n k (by omega)
  rw [e1, he]
  have h2 : (BitVec.ofInt 64 n &&& BitVec.ofInt 64 ((2 ^ k - 1 : Nat) : Int)).toNat = (n % 2 ^ k).toNat := by
    have hp : 2 ^ k ≤ 2 ^ 62 := Nat.pow_le_pow_right (by omega) (by omega)
    rw [BitVec.toNat_and]
    have : (BitVec.ofInt 64 ((2 ^ k - 1 : Nat) : Int)).toNat = 2 ^ k - 1 := by
      rw [BitVec.ofInt_natCast, BitVec.toNat_ofNat]
      exact Nat.mod_eq_of_lt (by omega)
    rw [this, Nat.and_two_pow_sub_one_eq_mod, BitVec.toNat_ofInt]
    have hd := pow_dvd h
    have e3 : ((n % (2 ^ 64 : Nat)).toNat % 2 ^ k : Nat) = ((n % (2 ^ 64 : Nat)) % (2 ^ k : Int)).toNat := by
      have h0 : 0 ≤ n % (2 ^ 64 : Nat) := Int.emod_nonneg _ (by omega)
      obtain ⟨m, hm⟩ := Int.eq_ofNat_of_zero_le h0
      rw [hm]
      have e : (2 : Int) ^ k = ((2 ^ k : Nat) : Int) := by simp
      rw [e, Int.toNat_natCast, ← Int.natCast_emod, Int.toNat_natCast]
    rw [e3]
    congr 1
    exact Int.emod_emod_of_dvd _ hd
  have h3 : evInt .and .i64 n ((2 ^ k - 1 : Nat) : Int) = some (.int .i64 (IntKind.i64.wrap ((BitVec.ofInt 64 n &&& BitVec.ofInt 64 ((2 ^ k - 1 : Nat) : Int)).toNat : Nat))) := rfl
  rw [he] at h3
  rw [h3, h2]
  have h4 : 0 ≤ n % 2 ^ k := Int.emod_nonneg _ (by have := pow_pos' k; omega)
  have h5 : n % 2 ^ k < 2 ^ k := Int.emod_lt_of_pos _ (pow_pos' k)
  have h6 := pow_le16 h
  rw [Int.toNat_of_nonneg h4, wrap_i64 (by omega) (by omega)]
/-- The other way to mask: what is left of a division, twice. -/
theorem rem_mask (n : Int) {s : Int} (h : 0 < s) : ((n.tmod s) + s).tmod s = n % s := by
  have e := Int.tmod_eq_emod (a := n) (b := s)
  have h0 : 0 ≤ n % s := Int.emod_nonneg _ (by omega)
  have hs : (s.natAbs : Int) = s := by omega
  have h2 : 0 ≤ n.tmod s + s := by
    rw [e]; split <;> omega
  rw [Int.tmod_eq_emod_of_nonneg h2, Int.add_emod_right, e]
  split
  · simp
  · rw [hs, Int.sub_emod, Int.emod_self, Int.sub_zero, Int.emod_emod, Int.emod_emod]
theorem nat_of {n : Int} {k : Nat} (h0 : 0 ≤ n) (h1 : n < 2 ^ k) : ∃ m : Nat, n = m ∧ m < 2 ^ k := by
  obtain ⟨m, rfl⟩ := Int.eq_ofNat_of_zero_le h0
  refine ⟨m, rfl, ?_⟩
  have e : (2 : Int) ^ k = ((2 ^ k : Nat) : Int) := by simp
  rw [e] at h1; omega
theorem bv_of {m : Nat} (h : m < 65536) : (BitVec.ofInt 64 (m : Int)).toNat = m := by
  rw [BitVec.ofInt_natCast, BitVec.toNat_ofNat]
  exact Nat.mod_eq_of_lt (by omega)
theorem iand_nat {a b : Nat} (ha : a < 65536) (hb : b < 65536) : iand a b = ((a &&& b : Nat) : Int) := by
  unfold iand
  rw [BitVec.toNat_and, bv_of ha, bv_of hb]
  have : a &&& b ≤ a := Nat.and_le_left
  exact wrap_i64 (by omega) (by omega)
theorem ior_nat {a b : Nat} (ha : a < 65536) (hb : b < 65536) : ior a b = ((a ||| b : Nat) : Int) := by
  unfold ior
  rw [BitVec.toNat_or, bv_of ha, bv_of hb]
  have : a ||| b < 2 ^ 16 := Nat.or_lt_two_pow ha hb
  exact wrap_i64 (by omega) (by omega)
theorem ixor_nat {a b : Nat} (ha : a < 65536) (hb : b < 65536) : ixor a b = ((a ^^^ b : Nat) : Int) := by
  unfold ixor
  rw [BitVec.toNat_xor, bv_of ha, bv_of hb]
  have : a ^^^ b < 2 ^ 16 := Nat.xor_lt_two_pow ha hb
  exact wrap_i64 (by omega) (by omega)
theorem cast_lt {m k : Nat} (h : m < 2 ^ k) : (m : Int) < 2 ^ k := by
  have e : (2 : Int) ^ k = ((2 ^ k : Nat) : Int) := by simp
  rw [e]; omega
section
variable {w : Int} (h : okW w = true) (a b : Int)
include h
theorem lt16 : ∃ x : Nat, mask w a = x ∧ x < 2 ^ w.toNat ∧ x < 65536 := by
  obtain ⟨x, h1, h2⟩ := nat_of (mask_nn w a) (mask_lt a h)
  have := mask_le w a
  exact ⟨x, h1, h2, by omega⟩
theorem mask_iand : mask w (iand (mask w a) (mask w b)) = iand (mask w a) (mask w b) := by
  obtain ⟨x, hx, x1, x2⟩ := lt16 h a
  obtain ⟨y, hy, y1, y2⟩ := lt16 h b
  rw [hx, hy, iand_nat x2 y2]
  exact mask_small h (by omega) (cast_lt (Nat.and_lt_two_pow _ y1))
theorem mask_ior : mask w (ior (mask w a) (mask w b)) = ior (mask w a) (mask w b) := by
  obtain ⟨x, hx, x1, x2⟩ := lt16 h a
  obtain ⟨y, hy, y1, y2⟩ := lt16 h b
  rw [hx, hy, ior_nat x2 y2]
  exact mask_small h (by omega) (cast_lt (Nat.or_lt_two_pow x1 y1))
theorem mask_ixor : mask w (ixor (mask w a) (mask w b)) = ixor (mask w a) (mask w b) := by
  obtain ⟨x, hx, x1, x2⟩ := lt16 h a
  obtain ⟨y, hy, y1, y2⟩ := lt16 h b
  rw [hx, hy, ixor_nat x2 y2]
  exact mask_small h (by omega) (cast_lt (Nat.xor_lt_two_pow x1 y1))
theorem mask_zero : mask w 0 = 0 := mask_small h (by omega) (pow_pos' _)
theorem mask_shr (n : Nat) : mask w ((mask w a).fdiv (2 ^ n)) = (mask w a).fdiv (2 ^ n) := by
  obtain ⟨x, hx, x1, x2⟩ := lt16 h a
  have e : (2 : Int) ^ n = ((2 ^ n : Nat) : Int) := by simp
  have : (mask w a).fdiv (2 ^ n) = ((x / 2 ^ n : Nat) : Int) := by
    rw [hx, e, Int.fdiv_eq_ediv_of_nonneg _ (Int.natCast_nonneg _)]; rfl
  rw [this]
  exact mask_small h (Int.natCast_nonneg _) (cast_lt (Nat.lt_of_le_of_lt (Nat.div_le_self _ _) x1))
theorem mask_truth (c : Bool) : mask w (truth c) = truth c := by
  obtain ⟨h1, h2⟩ := okW_iff.1 h
  have h3 : (1 : Int) < 2 ^ w.toNat := by
    have : 2 ^ 1 ≤ 2 ^ w.toNat := Nat.pow_le_pow_right (by omega) (by omega)
    have e : (2 : Int) ^ w.toNat = ((2 ^ w.toNat : Nat) : Int) := by simp
    rw [e]; omega
  cases c
  · exact mask_zero h
  · exact mask_small h (by decide) h3
end
end Go.Aug.Md
