import Derived.Test.YtogckbgcldmaeaaMc32
import Derived.Test.YtogckbgcldmaeaaMc33
import Derived.Test.YtogckbgcldmaeaaMc34
import Derived.Test.YtogckbgcldmaeaaMl5
namespace Go.Aug.Mc
open Go Go.Aug
open Nat renaming reduceLT -> zN0, reduceEqDiff -> zN1, reduceAdd -> zN2, reduceMul -> zN3, reduceLeDiff -> zN4
open Int renaming reduceEq -> zI0, reduceLT -> zI1, reduceLE -> zI2, reduceNeg -> zI3
set_option linter.unusedSimpArgs false
set_option linter.unusedVariables false
set_option maxHeartbeats 40000000
set_option maxRecDepth 200000
def sayC (N : Int) (p : Prog) (c : Conf) (d : Dir) : Conf × List Obs := bif Md.canSay N p c d then Md.say N p c d else (Md.conf0, [])
variable {E : Env} {fn : FuncId -> Option (Env -> CallT -> CallT)}
section
variable (S : Sur E fn)
include S
theorem o75_35 : E.lives 75 7 = none /\ E.lives 75 13 = none /\ E.lives 75 17 = none /\ E.lives 75 21 = none := ⟨off S 75 7 (by decide) rfl, off S 75 13 (by decide) rfl, off S 75 17 (by decide) rfl, off S 75 21 (by decide) rfl⟩
theorem raw_r9_Say (dp : Nat) (p : Prog) (c : Conf) (d : Dir) (hi : p.ins.length < 1073741824) (hl : c.buf.length < 1073741823) (hm : c.state.mem.length < 1073741824) (hs : c.state.stack.length < 1073741823) (hr : c.rsb.length < 1073741823) (hg : (getO (Md.real p c.state.stack c.buf d.n)).length < 1073741824) (hz : Md.can (c.state.mem.length : Int) p c d.n = true -> (Md.insM p c d.n).kind = 2 -> (Md.entAt c.buf d.n).val = 0 /\ (Md.entAt c.buf d.n).frm = -1) (hz2 : Md.canAddr p c d.n = true -> (Md.entAt c.buf d.n).fault = false) (hd : 0 <= (Md.at_ p (Md.entAt c.buf 0).pc).d /\ (Md.at_ p (Md.entAt c.buf 0).pc).d <= 3) (hx : Md.canRetire p c = true -> (Md.at_ p (Md.entAt c.buf 0).pc).kind = 3 -> (Md.entAt c.buf 0).fault = false -> 0 <= (Md.entAt c.buf 0).addr /\ (Md.entAt c.buf 0).addr < c.state.mem.length) (hy : Md.canRetire p c = true -> (Md.at_ p (Md.entAt c.buf 0).pc).kind = 9 -> (Md.entAt c.buf 0).fault = false -> c.state.stack ≠ []) : Says E fn (dp + 7) 75 [progD p, confD c, .agg (Cl.cells d)] (.tup [confD (sayC (c.state.mem.length : Int) p c d).1, rowD (sayC (c.state.mem.length : Int) p c d).2, vb (Md.canSay (c.state.mem.length : Int) p c d)]) := by
 unfold Says
 show ansOf (evC E fn (dp + 6 + 1) 75 [.d (progD p), .d (confD c), .d (.agg (Cl.cells d))] []) = _
 rw [evC_succ, S.f_r9_Say, apF_some, F_r9_Say, mkF_run _ _ _ _ _ _ _ _ rfl]
 have hl' : c.buf.length < 1073741824 := by omega
 have hs' : c.state.stack.length < 1073741824 := by omega
 have hr' : c.rsb.length < 1073741824 := by omega
 have cF := fun (A : List Blk) (nb : Nat) => Says.deep (raw_r9_Fetch S (dp + 3) p c d.n hi hl hs' hr) (np S 22 (by decide)) A nb
 have cD := fun (A : List Blk) (nb : Nat) => Says.deep (raw_r9_Do S dp p c d.n hl' hs' hg hz) (np S 31 (by decide)) A nb
 have cA := fun (A : List Blk) (nb : Nat) => Says.deep (raw_r9_Addr S dp p c d.n hl' hz2) (np S 32 (by decide)) A nb
 have cR := fun (A : List Blk) (nb : Nat) => Says.deep (raw_r9_Retire S (dp + 2) p c hl' hm hs hd hx hy) (np S 110 (by decide)) A nb
 simp only [progD, progC, confD, confC] at cF cD cA cR
 by_cases k1 : d.kind = 1
 ·simp only [eG, go_sem, thq S, nbr S, zN0, zN1, zN2, zN3, zN4, zI0, zI1, zI2, zI3, reduceCtorEq, o75_35 S, k1, cF, sayC, Md.canSay, Md.say, fetchC]
  cases hc : Md.canFetch p c d.n <;> simp only [cond_true, cond_false] <;> rfl
 by_cases k2 : d.kind = 2
 ·simp only [eG, go_sem, thq S, nbr S, zN0, zN1, zN2, zN3, zN4, zI0, zI1, zI2, zI3, reduceCtorEq, o75_35 S, k1, k2, cD, sayC, doC, Md.canSay, Md.say]
 by_cases k3 : d.kind = 3
 ·simp only [eG, go_sem, thq S, nbr S, zN0, zN1, zN2, zN3, zN4, zI0, zI1, zI2, zI3, reduceCtorEq, o75_35 S, k1, k2, k3, cA, sayC, addrC, Md.canSay, Md.say]
 by_cases k4 : d.kind = 4
 ·by_cases n0 : d.n = 0
  ·simp only [eG, go_sem, thq S, nbr S, zN0, zN1, zN2, zN3, zN4, zI0, zI1, zI2, zI3, reduceCtorEq, o75_35 S, k1, k2, k3, k4, n0, cR, sayC, retC, Md.canSay, Md.say]
   cases hc : Md.canRetire p c <;> simp only [cond_true, cond_false] <;> rfl
  ·simp only [eG, go_sem, thq S, nbr S, zN0, zN1, zN2, zN3, zN4, zI0, zI1, zI2, zI3, reduceCtorEq, o75_35 S, k1, k2, k3, k4, n0, sayC, Md.canSay, Md.conf0]
 ·simp only [eG, go_sem, thq S, nbr S, zN0, zN1, zN2, zN3, zN4, zI0, zI1, zI2, zI3, reduceCtorEq, o75_35 S, k1, k2, k3, k4, sayC, Md.canSay, Md.conf0]
theorem c_r9_Say (dp : Nat) (p_w p_wn p_fu p_r0 p_r1 p_r2 p_r3 : Int) (p_ms : List MemT) (p_ls : List Label) (p_is : List Ins) (c_r0 c_r1 c_r2 c_r3 : Int) (c_mm c_st : List Int) (c_pc : Int) (c_bf : List Ent) (c_rb : List Int) (c_en d_k d_n : Int) (hi : (⟨p_w, p_wn, p_fu, ⟨p_r0, p_r1, p_r2, p_r3⟩, p_ms, p_ls, p_is⟩ : Prog).ins.length < 1073741824) (hl : (⟨⟨⟨c_r0, c_r1, c_r2, c_r3⟩, c_mm, c_st, c_pc⟩, c_bf, c_rb, c_en⟩ : Conf).buf.length < 1073741823) (hm : (⟨⟨⟨c_r0, c_r1, c_r2, c_r3⟩, c_mm, c_st, c_pc⟩, c_bf, c_rb, c_en⟩ : Conf).state.mem.length < 1073741824) (hs : (⟨⟨⟨c_r0, c_r1, c_r2, c_r3⟩, c_mm, c_st, c_pc⟩, c_bf, c_rb, c_en⟩ : Conf).state.stack.length < 1073741823) (hr : (⟨⟨⟨c_r0, c_r1, c_r2, c_r3⟩, c_mm, c_st, c_pc⟩, c_bf, c_rb, c_en⟩ : Conf).rsb.length < 1073741823) (hg : (getO (Md.real (⟨p_w, p_wn, p_fu, ⟨p_r0, p_r1, p_r2, p_r3⟩, p_ms, p_ls, p_is⟩ : Prog) (⟨⟨⟨c_r0, c_r1, c_r2, c_r3⟩, c_mm, c_st, c_pc⟩, c_bf, c_rb, c_en⟩ : Conf).state.stack (⟨⟨⟨c_r0, c_r1, c_r2, c_r3⟩, c_mm, c_st, c_pc⟩, c_bf, c_rb, c_en⟩ : Conf).buf (⟨d_k, d_n⟩ : Dir).n)).length < 1073741824) (hz : Md.can ((⟨⟨⟨c_r0, c_r1, c_r2, c_r3⟩, c_mm, c_st, c_pc⟩, c_bf, c_rb, c_en⟩ : Conf).state.mem.length : Int) (⟨p_w, p_wn, p_fu, ⟨p_r0, p_r1, p_r2, p_r3⟩, p_ms, p_ls, p_is⟩ : Prog) (⟨⟨⟨c_r0, c_r1, c_r2, c_r3⟩, c_mm, c_st, c_pc⟩, c_bf, c_rb, c_en⟩ : Conf) (⟨d_k, d_n⟩ : Dir).n = true -> (Md.insM (⟨p_w, p_wn, p_fu, ⟨p_r0, p_r1, p_r2, p_r3⟩, p_ms, p_ls, p_is⟩ : Prog) (⟨⟨⟨c_r0, c_r1, c_r2, c_r3⟩, c_mm, c_st, c_pc⟩, c_bf, c_rb, c_en⟩ : Conf) (⟨d_k, d_n⟩ : Dir).n).kind = 2 -> (Md.entAt (⟨⟨⟨c_r0, c_r1, c_r2, c_r3⟩, c_mm, c_st, c_pc⟩, c_bf, c_rb, c_en⟩ : Conf).buf (⟨d_k, d_n⟩ : Dir).n).val = 0 /\ (Md.entAt (⟨⟨⟨c_r0, c_r1, c_r2, c_r3⟩, c_mm, c_st, c_pc⟩, c_bf, c_rb, c_en⟩ : Conf).buf (⟨d_k, d_n⟩ : Dir).n).frm = -1) (hz2 : Md.canAddr (⟨p_w, p_wn, p_fu, ⟨p_r0, p_r1, p_r2, p_r3⟩, p_ms, p_ls, p_is⟩ : Prog) (⟨⟨⟨c_r0, c_r1, c_r2, c_r3⟩, c_mm, c_st, c_pc⟩, c_bf, c_rb, c_en⟩ : Conf) (⟨d_k, d_n⟩ : Dir).n = true -> (Md.entAt (⟨⟨⟨c_r0, c_r1, c_r2, c_r3⟩, c_mm, c_st, c_pc⟩, c_bf, c_rb, c_en⟩ : Conf).buf (⟨d_k, d_n⟩ : Dir).n).fault = false) (hd : 0 <= (Md.at_ (⟨p_w, p_wn, p_fu, ⟨p_r0, p_r1, p_r2, p_r3⟩, p_ms, p_ls, p_is⟩ : Prog) (Md.entAt (⟨⟨⟨c_r0, c_r1, c_r2, c_r3⟩, c_mm, c_st, c_pc⟩, c_bf, c_rb, c_en⟩ : Conf).buf 0).pc).d /\ (Md.at_ (⟨p_w, p_wn, p_fu, ⟨p_r0, p_r1, p_r2, p_r3⟩, p_ms, p_ls, p_is⟩ : Prog) (Md.entAt (⟨⟨⟨c_r0, c_r1, c_r2, c_r3⟩, c_mm, c_st, c_pc⟩, c_bf, c_rb, c_en⟩ : Conf).buf 0).pc).d <= 3) (hx : Md.canRetire (⟨p_w, p_wn, p_fu, ⟨p_r0, p_r1, p_r2, p_r3⟩, p_ms, p_ls, p_is⟩ : Prog) (⟨⟨⟨c_r0, c_r1, c_r2, c_r3⟩, c_mm, c_st, c_pc⟩, c_bf, c_rb, c_en⟩ : Conf) = true -> (Md.at_ (⟨p_w, p_wn, p_fu, ⟨p_r0, p_r1, p_r2, p_r3⟩, p_ms, p_ls, p_is⟩ : Prog) (Md.entAt (⟨⟨⟨c_r0, c_r1, c_r2, c_r3⟩, c_mm, c_st, c_pc⟩, c_bf, c_rb, c_en⟩ : Conf).buf 0).pc).kind = 3 -> (Md.entAt (⟨⟨⟨c_r0, c_r1, c_r2, c_r3⟩, c_mm, c_st, c_pc⟩, c_bf, c_rb, c_en⟩ : Conf).buf 0).fault = false -> 0 <= (Md.entAt (⟨⟨⟨c_r0, c_r1, c_r2, c_r3⟩, c_mm, c_st, c_pc⟩, c_bf, c_rb, c_en⟩ : Conf).buf 0).addr /\ (Md.entAt (⟨⟨⟨c_r0, c_r1, c_r2, c_r3⟩, c_mm, c_st, c_pc⟩, c_bf, c_rb, c_en⟩ : Conf).buf 0).addr < (⟨⟨⟨c_r0, c_r1, c_r2, c_r3⟩, c_mm, c_st, c_pc⟩, c_bf, c_rb, c_en⟩ : Conf).state.mem.length) (hy : Md.canRetire (⟨p_w, p_wn, p_fu, ⟨p_r0, p_r1, p_r2, p_r3⟩, p_ms, p_ls, p_is⟩ : Prog) (⟨⟨⟨c_r0, c_r1, c_r2, c_r3⟩, c_mm, c_st, c_pc⟩, c_bf, c_rb, c_en⟩ : Conf) = true -> (Md.at_ (⟨p_w, p_wn, p_fu, ⟨p_r0, p_r1, p_r2, p_r3⟩, p_ms, p_ls, p_is⟩ : Prog) (Md.entAt (⟨⟨⟨c_r0, c_r1, c_r2, c_r3⟩, c_mm, c_st, c_pc⟩, c_bf, c_rb, c_en⟩ : Conf).buf 0).pc).kind = 9 -> (Md.entAt (⟨⟨⟨c_r0, c_r1, c_r2, c_r3⟩, c_mm, c_st, c_pc⟩, c_bf, c_rb, c_en⟩ : Conf).buf 0).fault = false -> (⟨⟨⟨c_r0, c_r1, c_r2, c_r3⟩, c_mm, c_st, c_pc⟩, c_bf, c_rb, c_en⟩ : Conf).state.stack ≠ []) (A : List Blk) (nb : Nat) : evOwnK false E (evC E fn (dp + 7)) 75 A nb (some ([.agg [vi p_w, vi p_wn, vi p_fu, vi p_r0, vi p_r1, vi p_r2, vi p_r3, rowD p_ms, rowD p_ls, rowD p_is], .agg [vi c_r0, vi c_r1, vi c_r2, vi c_r3, rowD c_mm, rowD c_st, vi c_pc, rowD c_bf, rowD c_rb, vi c_en], .agg [vi d_k, vi d_n]], [])) = some (.made (.d (.tup [confD (sayC ((⟨⟨⟨c_r0, c_r1, c_r2, c_r3⟩, c_mm, c_st, c_pc⟩, c_bf, c_rb, c_en⟩ : Conf).state.mem.length : Int) (⟨p_w, p_wn, p_fu, ⟨p_r0, p_r1, p_r2, p_r3⟩, p_ms, p_ls, p_is⟩ : Prog) (⟨⟨⟨c_r0, c_r1, c_r2, c_r3⟩, c_mm, c_st, c_pc⟩, c_bf, c_rb, c_en⟩ : Conf) (⟨d_k, d_n⟩ : Dir)).1, rowD (sayC ((⟨⟨⟨c_r0, c_r1, c_r2, c_r3⟩, c_mm, c_st, c_pc⟩, c_bf, c_rb, c_en⟩ : Conf).state.mem.length : Int) (⟨p_w, p_wn, p_fu, ⟨p_r0, p_r1, p_r2, p_r3⟩, p_ms, p_ls, p_is⟩ : Prog) (⟨⟨⟨c_r0, c_r1, c_r2, c_r3⟩, c_mm, c_st, c_pc⟩, c_bf, c_rb, c_en⟩ : Conf) (⟨d_k, d_n⟩ : Dir)).2, vb (Md.canSay ((⟨⟨⟨c_r0, c_r1, c_r2, c_r3⟩, c_mm, c_st, c_pc⟩, c_bf, c_rb, c_en⟩ : Conf).state.mem.length : Int) (⟨p_w, p_wn, p_fu, ⟨p_r0, p_r1, p_r2, p_r3⟩, p_ms, p_ls, p_is⟩ : Prog) (⟨⟨⟨c_r0, c_r1, c_r2, c_r3⟩, c_mm, c_st, c_pc⟩, c_bf, c_rb, c_en⟩ : Conf) (⟨d_k, d_n⟩ : Dir))])) []) :=
 Says.deep (raw_r9_Say S dp (⟨p_w, p_wn, p_fu, ⟨p_r0, p_r1, p_r2, p_r3⟩, p_ms, p_ls, p_is⟩ : Prog) (⟨⟨⟨c_r0, c_r1, c_r2, c_r3⟩, c_mm, c_st, c_pc⟩, c_bf, c_rb, c_en⟩ : Conf) (⟨d_k, d_n⟩ : Dir) hi hl hm hs hr hg hz hz2 hd hx hy) (np S 75 (by decide)) A nb
end
theorem inv_hyps {N : Int} {p : Prog} {c : Conf} (hp : Md.Fine p) (h : Md.Inv N p c) (hN : N <= 1000) (d : Dir) :
  p.ins.length < 1073741824 /\ c.buf.length < 1000000 /\ c.state.mem.length < 1000000 /\ c.state.stack.length < 1000000 /\ c.rsb.length < 1000000 /\
  (getO (Md.real p c.state.stack c.buf d.n)).length < 1073741824 /\ (Md.can N p c d.n = true -> (Md.insM p c d.n).kind = 2 -> (Md.entAt c.buf d.n).val = 0 /\ (Md.entAt c.buf d.n).frm = -1) /\
  (Md.canAddr p c d.n = true -> (Md.entAt c.buf d.n).fault = false) /\ (0 <= (Md.at_ p (Md.entAt c.buf 0).pc).d /\ (Md.at_ p (Md.entAt c.buf 0).pc).d <= 3) /\
  (Md.canRetire p c = true -> (Md.at_ p (Md.entAt c.buf 0).pc).kind = 3 -> (Md.entAt c.buf 0).fault = false -> 0 <= (Md.entAt c.buf 0).addr /\ (Md.entAt c.buf 0).addr < c.state.mem.length) /\
  (Md.canRetire p c = true -> (Md.at_ p (Md.entAt c.buf 0).pc).kind = 9 -> (Md.entAt c.buf 0).fault = false -> c.state.stack ≠ []) := by
 have hb := h.buf
 have hw := hp.win
 have hn := hp.n
 have hm := h.mem
 have hfa := hp.at_ (Md.entAt c.buf 0).pc
 refine ⟨by omega, by omega, by omega, by have := h.stk; omega, by have := h.rsb; omega, ?_, fun hc k2 => ?_, fun hc => ?_, ⟨hfa.2.2.1, hfa.2.2.2.1⟩, fun hc k3 hf => ?_, fun hc k9 hf => ?_⟩
 ·cases hr : Md.real p c.state.stack c.buf d.n with
  | none => exact (by decide : (0 : Nat) < 1073741824)
  | some l => have := (h.real hp hr).2; show l.length < _; omega
 ·have hc' := hc
  simp only [Md.can, Bool.and_eq_true, Bool.not_eq_true'] at hc'
  obtain ⟨_, k, hk, he⟩ := Md.open_at hc'.1.1
  exact (h.ent k _ he).ld k2 hc'.1.2
 ·have hc' := hc
  simp only [Md.canAddr, Bool.and_eq_true, Bool.not_eq_true', decide_eq_true_eq] at hc'
  obtain ⟨_, k, hk, he⟩ := Md.open_at hc'.1.1.1.1
  exact (h.ent k _ he).st hc'.1.1.2 hc'.1.1.1.2
 ·obtain ⟨e, he, he0, _⟩ := retire_some hc
  rw [he0] at k3 hf ⊢
  simp only [Md.canRetire, Bool.and_eq_true, Bool.or_eq_true, decide_eq_true_eq, he0] at hc
  have hk : e.known = true := by
   rcases hc.2 with h | h
   ·exact absurd k3 h
   ·exact h
  have := (h.ent 0 e he).sk k3 hk hf
  omega
 ·obtain ⟨e, he, he0, _⟩ := retire_some hc
  rw [he0] at k9 hf
  simp only [Md.canRetire, Bool.and_eq_true, Bool.or_eq_true, decide_eq_true_eq, he0] at hc
  have hd : e.done = true := by
   rcases hc.1.2 with h | h
   ·exact h
   ·omega
  obtain ⟨l, hl, hne⟩ := (h.ent 0 e he).rt k9 hd hf
  have : Md.real p c.state.stack c.buf ((0 : Nat) : Int) = some c.state.stack := by
   unfold Md.real Md.cut
   rw [show (((0 : Nat) : Int)).toNat = 0 from rfl, List.take_zero]; rfl
  rw [this] at hl
  simp at hl; subst hl; exact hne
theorem take60 {l : List Int} {k : Nat} {x : Int} (h : (l.take 60)[k]? = some x) : l[k]? = some x /\ k < 60 /\ k < l.length := by
 rw [List.getElem?_take] at h
 split at h
 ·rename_i hk; exact ⟨h, hk, (List.getElem?_eq_some_iff.1 h).1⟩
 ·cases h
variable {E : Env} {fn : FuncId -> Option (Env -> CallT -> CallT)}
section
variable (S : Sur E fn)
include S
theorem o28_36 : E.lives 28 1 = none := off S 28 1 (by decide) rfl
theorem loop_Walk (dp : Nat) (N : Int) (hN : N <= 1000) (p : Prog) (hp : Md.Fine p) (l : List Int) (kx : Nat -> K) (P : Option DV -> Prop)
  (hx : ∀ T c' o', getS .bot T 6 = .ref 1 0 0 -> getS .bot T 8 = .ref 2 0 0 -> getS .bot T 9 = ownA 3 (o' : List Dir) -> Md.Inv N p c' -> P (ansOf (kx 0 (mk .bot 70 T) ([.cells ((progC p).map .d) 0 false, .cells [zi, zi, zi, zi, zn, zn, zi, zn, zn, zi] 0 false, .cells ((confC c').map .d) 0 false] ++ ownB o')))) :
  ∀ (m k f : Nat) (c : Conf) (o : List Dir), Md.Inv N p c -> k + m = (l.take 60).length -> m <= f -> o.length <= k ->
  P (ansOf (B10_w10_Walk (inn E 28) (evC E fn (dp + 7)) (loopK 10 B10_w10_Walk (inn E 28) (evC E fn (dp + 7)) kx (kEnd 0 [.cell 6 true 10, .tmp 7]) f) kx (kEnd 0 [.cell 6 true 10, .tmp 7]) (mk .bot 70 [(2, .d (rowD l)), (3, .ref 0 0 0), (6, .ref 1 0 0), (8, .ref 2 0 0), (9, ownA 3 o), (10, aint k)]) ([.cells ((progC p).map .d) 0 false, .cells [zi, zi, zi, zi, zn, zn, zi, zn, zn, zi] 0 false, .cells ((confC c).map .d) 0 false] ++ ownB o))) := by
 intro m
 have hlen : (l.take 60).length = min 60 l.length := List.length_take
 induction m with
 | zero =>
  intro k f c o hI hk _ ho
  generalize loopK 10 B10_w10_Walk _ _ kx _ f = KK
  first | (conv => lhs; rw [B10_w10_Walk]) | rw [B10_w10_Walk]
  by_cases hkl : (k : Int) < l.length
  ·have h60 : ¬ (k : Int) < 60 := by omega
   by_cases h0 : o.length = 0
   ·have : o = [] := List.length_eq_zero_iff.1 h0
    subst this
    simp only [eG, go_sem, thq S, nbr S, zN0, zN1, zN2, zN3, zN4, zI0, zI1, zI2, zI3, reduceCtorEq, o28_36 S, ownA_nil, ownB_nil, hkl, h60]
    exact hx _ c [] rfl rfl rfl hI
   ·rw [ownA_ne h0, ownB_ne h0]
    simp only [eG, go_sem, thq S, nbr S, zN0, zN1, zN2, zN3, zN4, zI0, zI1, zI2, zI3, reduceCtorEq, o28_36 S, hkl, h60]
    have := fun T a b d => hx T c o a b (by rw [ownA_ne h0]; exact d) hI
    rw [ownB_ne h0] at this
    exact this _ rfl rfl rfl
  ·by_cases h0 : o.length = 0
   ·have : o = [] := List.length_eq_zero_iff.1 h0
    subst this
    simp only [eG, go_sem, thq S, nbr S, zN0, zN1, zN2, zN3, zN4, zI0, zI1, zI2, zI3, reduceCtorEq, o28_36 S, ownA_nil, ownB_nil, hkl]
    exact hx _ c [] rfl rfl rfl hI
   ·rw [ownA_ne h0, ownB_ne h0]
    simp only [eG, go_sem, thq S, nbr S, zN0, zN1, zN2, zN3, zN4, zI0, zI1, zI2, zI3, reduceCtorEq, o28_36 S, hkl]
    have := fun T a b d => hx T c o a b (by rw [ownA_ne h0]; exact d) hI
    rw [ownB_ne h0] at this
    exact this _ rfl rfl rfl
 | succ m ih =>
  intro k f c o hI hk hf ho
  obtain ⟨x, hx0⟩ := get_of (show k < (l.take 60).length by omega)
  obtain ⟨hxk, h60, hkl⟩ := take60 hx0
  have hkl' : (k : Int) < l.length := by omega
  have h60' : (k : Int) < 60 := by omega
  obtain ⟨f, rfl⟩ : ∃ g, f = g + 1 := ⟨f - 1, by omega⟩
  have hmem := hI.mem
  have hall0 := inv_hyps hp hI hN ⟨0, 0⟩
  obtain ⟨q1, q2, q3, q4, q5, _⟩ := hall0
  have q2' : c.buf.length < 1073741824 := by omega
  generalize hK : loopK 10 B10_w10_Walk _ _ kx _ (f + 1) = KK
  first | (conv => lhs; rw [B10_w10_Walk]) | rw [B10_w10_Walk]
  generalize hD : Md.all N p c = d
  by_cases hd : d = []
  ·subst hd
   by_cases h0 : o.length = 0
   ·have : o = [] := List.length_eq_zero_iff.1 h0
    subst this
    simp only [eG, go_sem, thq S, nbr S, zN0, zN1, zN2, zN3, zN4, zI0, zI1, zI2, zI3, reduceCtorEq, o28_36 S, ownA_nil, ownB_nil, hkl', h60', c_r9_All S, q1, q2', hmem, hD, List.length_nil]
    exact hx _ c [] rfl rfl rfl hI
   ·rw [ownA_ne h0, ownB_ne h0]
    simp only [eG, go_sem, thq S, nbr S, zN0, zN1, zN2, zN3, zN4, zI0, zI1, zI2, zI3, reduceCtorEq, o28_36 S, hkl', h60', c_r9_All S, q1, q2', hmem, hD, List.length_nil]
    have := fun T a b d => hx T c o a b (by rw [ownA_ne h0]; exact d) hI
    rw [ownB_ne h0] at this
    exact this _ rfl rfl rfl
  ·have hdl : d.length ≠ 0 := fun h => hd (List.length_eq_zero_iff.1 h)
   have hdl' : ¬ (d.length : Int) = 0 := by omega
   have hix := Md.ixW_lt x (show 0 < d.length by omega)
   obtain ⟨dd, hdd⟩ := get_of hix
   have hpick : Md.pick x d = dd := by unfold Md.pick; rw [hdd]; rfl
   have hmemd : dd ∈ Md.all N p c := by rw [hD]; exact List.mem_of_getElem? hdd
   have hcan := (Md.mem_all dd).1 hmemd
   obtain ⟨_, _, _, _, _, y1, y2, y3, y4, y5, y6⟩ := inv_hyps hp hI hN dd
   have hS : sayC N p c dd = Md.say N p c dd := by unfold sayC; rw [hcan]; rfl
   have hI' := hI.said hp dd hcan
   have g2 : c.buf.length < 1073741823 := by omega
   have g3 : c.state.mem.length < 1073741824 := by omega
   have g4 : c.state.stack.length < 1073741823 := by omega
   have g5 : c.rsb.length < 1073741823 := by omega
   have lim : limA = 1099511627776 := rfl
   have hsay : ∀ (A : List Blk) (nb : Nat), evOwnK false E (evC E fn (dp + 7)) 75 A nb (some ([progD p, confD c, .agg [vi dd.kind, vi dd.n]], [])) = some (.made (.d (.tup [confD (Md.say N p c dd).1, rowD (Md.say N p c dd).2, vb true])) []) := fun A nb => by
    have := c_r9_Say S dp p.w p.window p.fuel p.regs.r0 p.regs.r1 p.regs.r2 p.regs.r3 p.mems p.labels p.ins c.state.regs.r0 c.state.regs.r1 c.state.regs.r2 c.state.regs.r3 c.state.mem c.state.stack c.state.pc c.buf c.rsb c.end_ dd.kind dd.n q1 g2 g3 g4 g5 y1 (by rw [<- hmem] at y2; exact y2) y3 y4 y5 y6 A nb
    have hc2 : Md.canSay (c.state.mem.length : Int) p c dd = true := by rw [hmem]; exact hcan
    have hs2 : sayC (c.state.mem.length : Int) p c dd = Md.say N p c dd := by rw [hmem]; exact hS
    rw [<- hs2, <- hc2]
    exact this
   simp only [progD, progC, confD, confC] at hsay
   have next := ih (k + 1) f (Md.say N p c dd).1 (o ++ [dd]) hI' (by omega) (by omega) (by simp; omega)
   rw [ownA_ne (ne_app _ _), ownB_ne (ne_app _ _)] at next
   have hrem : evBin .rem (aint (Md.iand x 65535)) (aint d.length) = some (aint (Md.ixW x d.length : Nat)) := by
    rw [<- Md.ixW_eq]; exact b_rem _ _ _ hdl'
   by_cases h0 : o.length = 0
   ·have : o = [] := List.length_eq_zero_iff.1 h0
    subst this
    simp only [eG, go_sem, thq S, nbr S, zN0, zN1, zN2, zN3, zN4, zI0, zI1, zI2, zI3, reduceCtorEq, o28_36 S, ownA_nil, ownB_nil, hkl', h60', c_r9_All S, q1, q2', hmem, hD, hdl', w_ix hxk, b_iand, hrem, w_ix hdd, hsay, Bool.not_true, sw_t, sw_s, dl_nil, dl_cons, rep1', nc2, l16, l16', l1n, Option.map_some, Nat.zero_add, Nat.one_mul, Nat.zero_mul, and_self, true_and, wi k (by omega), show (0 : Nat) < 1 by decide]
    rw [<- hK, loop_in (on S _ _ [2, 3, 6, 8, 9, 10] (by decide) rfl) rfl _ _ _ _ _ _ _ _ _ rfl]
    simp only [eG, go_sem, thq S, nbr S, zN0, zN1, zN2, zN3, zN4, zI0, zI1, zI2, zI3, reduceCtorEq, o28_36 S]
    exact next
   ·rw [ownA_ne h0, ownB_ne h0]
    have k1 : (o.length + 1) * 16 <= limA := by omega
    have k2 : o.length + 1 <= limA := by omega
    simp only [eG, go_sem, thq S, nbr S, zN0, zN1, zN2, zN3, zN4, zI0, zI1, zI2, zI3, reduceCtorEq, o28_36 S, hkl', h60', c_r9_All S, q1, q2', hmem, hD, hdl', w_ix hxk, b_iand, hrem, w_ix hdd, hsay, Bool.not_true, sw_t, sw_s, dl_nil, dl_cons, rep1', nc2, app_endD, k1, k2, Option.map_some, wi k (by omega)]
    rw [<- hK, loop_in (on S _ _ [2, 3, 6, 8, 9, 10] (by decide) rfl) rfl _ _ _ _ _ _ _ _ _ rfl]
    simp only [eG, go_sem, thq S, nbr S, zN0, zN1, zN2, zN3, zN4, zI0, zI1, zI2, zI3, reduceCtorEq, o28_36 S]
    rw [List.length_append, List.length_singleton] at next
    exact next
theorem says_Walk (dp : Nat) (p : Prog) (hp : Md.Fine p) (N : Int) (hN : N <= 1000) (s : State) (hI : Md.Inv N p (Md.begin_ s)) (l : List Int) :
  ∃ (c : Conf) (o : List Dir), Says E fn (dp + 8) 28 [progD p, stateD s, rowD l] (.tup [confD c, rowD o]) /\ Md.Inv N p c := by
 obtain ⟨P, hP⟩ : ∃ P : Option DV -> Prop, P = fun r => ∃ (c : Conf) (o : List Dir), r = some (.tup [confD c, rowD o]) /\ Md.Inv N p c := ⟨_, rfl⟩
 have fin : ∀ (c : Conf) (o : List Dir), Md.Inv N p c -> P (some (.tup [confD c, rowD o])) := fun c o h => by rw [hP]; exact ⟨c, o, rfl, h⟩
 have key : P (ansOf (evC E fn (dp + 8) 28 [.d (progD p), .d (stateD s), .d (rowD l)] [])) := by
  clear hP
  show P (ansOf (evC E fn (dp + 7 + 1) 28 [.d (progD p), .d (stateD s), .d (rowD l)] []))
  rw [evC_succ, S.f_w10_Walk, apF_some, F_w10_Walk, mkF_run _ _ _ _ _ _ _ _ rfl]
  simp only [eG, go_sem, thq S, nbr S, zN0, zN1, zN2, zN3, zN4, zI0, zI1, zI2, zI3, reduceCtorEq, o28_36 S, c_r9_Begin S]
  rw [big_eq, loop_in (on S _ _ [2, 3, 6, 8, 9, 10] (by decide) rfl) rfl _ _ _ _ _ _ _ _ _ rfl]
  simp only [eG, go_sem, thq S, nbr S, zN0, zN1, zN2, zN3, zN4, zI0, zI1, zI2, zI3, reduceCtorEq, o28_36 S]
  refine loop_Walk S dp N hN p hp l _ P ?_ (l.take 60).length 0 _ (Md.begin_ s) [] hI (by omega) (by rw [List.length_take]; omega) (by simp)
  intro T c' o' t6 t8 t9 hI'
  simp only [confD, confC] at fin
  by_cases h0 : o'.length = 0
  ·have e : o' = [] := List.length_eq_zero_iff.1 h0
   subst e
   rw [ownA_nil] at t9
   rw [ownB_nil, List.append_nil]
   simp only [eG, go_sem, thq S, nbr S, zN0, zN1, zN2, zN3, zN4, zI0, zI1, zI2, zI3, reduceCtorEq, o28_36 S, t6, t8, t9]
   exact fin c' [] hI'
  ·rw [ownA_ne h0] at t9
   rw [ownB_ne h0]
   have hne : o' ≠ [] := fun e => h0 (by rw [e]; rfl)
   have hd : deep [.cells ((rowC o').map .d) 0 false] 7 (.sref 0 0 0 o'.length 2 none) = some (.lst (rowC o') o'.length none, [0]) := deep_alone o' hne _ rfl 5 2 none rfl
   simp only [eG, go_sem, thq S, nbr S, zN0, zN1, zN2, zN3, zN4, zI0, zI1, zI2, zI3, reduceCtorEq, o28_36 S, t6, t8, t9, hd]
   exact fin c' o' hI'
 rw [hP] at key
 obtain ⟨c, o, h1, h2⟩ := key
 exact ⟨c, o, h1, h2⟩
end
end Go.Aug.Mc
