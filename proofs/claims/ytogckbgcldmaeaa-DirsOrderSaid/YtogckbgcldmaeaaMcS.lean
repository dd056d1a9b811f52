/- What is held of a run's surroundings. -/
import Derived.Test.YtogckbgcldmaeaaMcP
import Derived.Test.YtogckbgcldmaeaaEvP
import Derived.Test.YtogckbgcldmaeaaEvPc
import Derived.Test.YtogckbgcldmaeaaMdW
namespace Go.Aug.Mc
open Go Go.Aug

/-- Functions that work on the caller's blocks. -/
def BR : List Nat := [120, 121, 134, 135]
/-- Who calls (times 1000), and whom: where the answer is the caller's own. -/
def TH : List Nat := []
/-- Functions that are told. -/
def PR : List Nat := [108, 124, 16, 25, 38, 99999, 99999, 99999, 99999, 99999, 99999]
/-- What a law's own test answers. -/
def trueG : List DV → Option (AV × List Blk)
  | [] => some (.d (.v (.bool true)), [])
  | _ => none

structure Sur (E : Env) (fn : FuncId → Option (Env → CallT → CallT)) : Prop extends Fns fn where
  lv : ∀ f k, k < 1000000 → E.lives f k = tbl f k
  br : ∀ g, memN g E.br = memN g [120, 121, 134, 135]
  tq : ∀ f g, (memN g E.th || isSomeL (E.lives f (thKey g))) = memN (f * 1000 + g) TH
  pn : ∀ g, memN g PR = false → E.prim g = none
  pe : E.prim 108 = some (cloneG 8 48)
  pi : E.prim 124 = some (cloneG 1 8)

variable {E : Env} {fn : FuncId → Option (Env → CallT → CallT)}
theorem nbr (S : Sur E fn) (g : Nat) : memN g E.br = memN g [120, 121, 134, 135] := S.br g
theorem thq (S : Sur E fn) (f g : Nat) : (memN g E.th || isSomeL (E.lives f (thKey g))) = memN (f * 1000 + g) TH := S.tq f g
theorem off (S : Sur E fn) (f k : Nat) (hk : k < 1000000) (h : tbl f k = none) : E.lives f k = none := by rw [S.lv f k hk]; exact h
theorem on (S : Sur E fn) (f k : Nat) (l : List Nat) (hk : k < 1000000) (h : tbl f k = some l) : E.lives f k = some l := by rw [S.lv f k hk]; exact h
theorem np (S : Sur E fn) (g : Nat) (h : memN g PR = false) : E.prim g = none := S.pn g h
theorem c_cloneE (S : Sur E fn) {l : List Ent} (h : l.length < 1073741824) (call : CallT) (A : List Blk) (nb : Nat) : evOwnK false E call 108 A nb (some ([rowD l], [])) = some (.made (.d (rowD l)) []) :=
  clone_deep S.pe rfl l (by unfold limA; omega) A nb
theorem c_cloneI (S : Sur E fn) {l : List Int} (h : l.length < 1073741824) (call : CallT) (A : List Blk) (nb : Nat) : evOwnK false E call 124 A nb (some ([rowD l], [])) = some (.made (.d (rowD l)) []) :=
  clone_deep S.pi rfl l (by unfold limA; omega) A nb
theorem o_cloneE (S : Sur E fn) {l : List Ent} (h : l.length < 1073741824) (call : CallT) (A : List Blk) (nb : Nat) : evOwnK true E call 108 A nb (some ([rowD l], [])) = some (.made (ownA nb l) (ownB l)) :=
  clone_own S.pe rfl l (by unfold limA; omega) A nb
theorem o_cloneI (S : Sur E fn) {l : List Int} (h : l.length < 1073741824) (call : CallT) (A : List Blk) (nb : Nat) : evOwnK true E call 124 A nb (some ([rowD l], [])) = some (.made (ownA nb l) (ownB l)) :=
  clone_own S.pi rfl l (by unfold limA; omega) A nb
theorem take_get {α : Type} {l : List α} {k : Nat} {e : α} (h : l[k]? = some e) : l.take (k + 1) = l.take k ++ [e] := by rw [List.take_add_one, h]; rfl
theorem take_rev {α : Type} {l : List α} {k : Nat} {e : α} (h : l[k]? = some e) : (l.take (k + 1)).reverse = e :: (l.take k).reverse := by rw [take_get h, List.reverse_append]; rfl
theorem drop_get {α : Type} {l : List α} {k : Nat} {e : α} (h : l[k]? = some e) : l.drop k = e :: l.drop (k + 1) := by
  obtain ⟨hi, rfl⟩ := List.getElem?_eq_some_iff.1 h
  exact List.drop_eq_getElem_cons hi
theorem get_of {α : Type} {l : List α} {k : Nat} (h : k < l.length) : ∃ e, l[k]? = some e := ⟨l[k], List.getElem?_eq_getElem h⟩
theorem wi (k : Nat) (h : k < 4611686018427387904) : IntKind.i64.wrap ((k : Int) + 1) = ((k + 1 : Nat) : Int) := by rw [wrap_i64 (by omega) (by omega)]; omega
theorem wd (k : Nat) (h : k < 4611686018427387904) : IntKind.i64.wrap ((k : Int) - 1) = (k : Int) - 1 := by rw [wrap_i64 (by omega) (by omega)]
theorem min0 (i : Int) (n : Nat) : min (max i 0) (n : Int) = ((min i.toNat n : Nat) : Int) := by omega
theorem cut_min (l : List Ent) (i : Int) : Md.cut l i = l.take (min i.toNat l.length) := by
  unfold Md.cut
  by_cases h : i.toNat ≤ l.length
  · rw [Nat.min_eq_left h]
  · rw [List.take_of_length_le (by omega), List.take_of_length_le (by omega)]
theorem rep1' {α : Type} (l : List α) : rep l 1 = l := by simp [rep]
theorem rep0' {α : Type} (l : List α) : rep l 0 = [] := rfl
/-- A test that is told. -/
theorem c_told {g : FuncId} (h : E.prim g = some trueG) (call : CallT) (A : List Blk) (nb : Nat) : evOwnK false E call g A nb (some ([], [])) = some (.made (abool true) []) := by
  simp only [evOwnK, evRaw, h, trueG]; rfl
theorem cut_len (l : List Ent) (n : Int) : (Md.cut l n).length ≤ l.length := by unfold Md.cut; simp; omega
end Go.Aug.Mc

