import Derived.Test.YtogckbgcldmaeaaMk
namespace Go.Aug.Md
open Go Go.Aug
set_option linter.unusedSimpArgs false
set_option linter.unusedVariables false
structure Fine (p : Prog) : Prop where
 w : okW p.w = true
 win : 1 <= p.window /\ p.window <= 3
 n : p.ins.length <= 1000
 ins : ∀ x ∈ p.ins, 1 <= x.kind /\ x.kind <= 12 /\ 0 <= x.d /\ x.d <= 3 /\ 0 <= x.target /\ x.target <= p.ins.length /\ (x.a.reg = true -> 0 <= x.a.n /\ x.a.n <= 3) /\ (x.b.reg = true -> 0 <= x.b.n /\ x.b.n <= 3)
theorem at_mem {p : Prog} (pc : Int) : (at_ p pc ∈ p.ins /\ 0 <= pc /\ pc < p.ins.length) ∨ at_ p pc = faultI := by
 unfold at_
 by_cases h : 0 <= pc
 ·rw [if_pos h]
  cases hx : p.ins[pc.toNat]? with
  | none => exact .inr rfl
  | some x =>
   have := (List.getElem?_eq_some_iff.1 hx).1
   exact .inl ⟨List.mem_of_getElem? hx, h, by omega⟩
 ·rw [if_neg h]; exact .inr rfl
theorem at_lt {p : Prog} {pc : Int} (h : (at_ p pc).kind ≠ 12) : 0 <= pc /\ pc < p.ins.length := by
 rcases at_mem (p := p) pc with ⟨_, h1⟩ | h1
 ·exact h1
 ·exact absurd (by rw [h1]; rfl) h
theorem Fine.at_ {p : Prog} (hp : Fine p) (pc : Int) : 1 <= (Md.at_ p pc).kind /\ (Md.at_ p pc).kind <= 12 /\ 0 <= (Md.at_ p pc).d /\ (Md.at_ p pc).d <= 3 /\ 0 <= (Md.at_ p pc).target /\ (Md.at_ p pc).target <= p.ins.length /\ ((Md.at_ p pc).a.reg = true -> 0 <= (Md.at_ p pc).a.n /\ (Md.at_ p pc).a.n <= 3) /\ ((Md.at_ p pc).b.reg = true -> 0 <= (Md.at_ p pc).b.n /\ (Md.at_ p pc).b.n <= 3) := by
 rcases at_mem (p := p) pc with ⟨h, _⟩ | h
 ·exact hp.ins _ h
 ·rw [h]; simp [faultI]
theorem w64_id {n : Int} (h1 : -9223372036854775808 <= n) (h2 : n <= 9223372036854775807) : w64 n = n := wrap_i64 h1 h2
theorem truth_nn (b : Bool) : 0 <= truth b := by cases b <;> decide
theorem wdo_nn (w op a b : Int) : 0 <= wdo w op a b := by
 unfold wdo
 cases hw : okW w with
 | false => exact Int.le_refl _
 | true =>
  simp only [cond_true]
  have m : ∀ n, 0 <= mask w n := fun n => mask_nn w n
  unfold opOf
  split
  ·exact m _
  split
  ·exact m _
  split
  ·show 0 <= iand _ _; rw [<- mask_iand hw]; exact m _
  split
  ·show 0 <= ior _ _; rw [<- mask_ior hw]; exact m _
  split
  ·show 0 <= ixor _ _; rw [<- mask_ixor hw]; exact m _
  split
  ·show 0 <= shl _ _ _
   unfold shl; split
   ·exact Int.le_refl _
   ·exact m _
  split
  ·show 0 <= shr _ _ _
   unfold shr; split
   ·exact Int.le_refl _
   ·rw [<- mask_shr hw]; exact m _
  split
  ·exact m _
  split
  ·exact truth_nn _
  split
  ·exact truth_nn _
  ·exact Int.le_refl _
theorem realGo_pcs (p : Prog) : ∀ (l l' : List Ent) (st : List Int), l.map Ent.pc = l'.map Ent.pc -> realGo p l st = realGo p l' st
 | [], [], _, _ => rfl
 | [], _ :: _, _, h => by simp at h
 | _ :: _, [], _, h => by simp at h
 | e :: l, e' :: l', st, h => by
  simp only [List.map_cons, List.cons.injEq] at h
  unfold realGo
  rw [h.1]
  split
  ·split
   ·rfl
   ·exact realGo_pcs p l l' _ h.2
  ·split
   ·split
    ·rfl
    ·exact realGo_pcs p l l' _ h.2
   ·exact realGo_pcs p l l' _ h.2
theorem real_pcs (p : Prog) (st : List Int) {l l' : List Ent} {i : Int} (h : (cut l i).map Ent.pc = (cut l' i).map Ent.pc) : real p st l i = real p st l' i := realGo_pcs p _ _ _ h
theorem cut_map (l : List Ent) (i : Int) : (cut l i).map Ent.pc = (l.map Ent.pc).take i.toNat := by unfold cut; rw [List.map_take]
theorem set_pcs {l : List Ent} {i : Nat} {e e' : Ent} (h : l[i]? = some e) (hp : e'.pc = e.pc) : (l.set i e').map Ent.pc = l.map Ent.pc := by
 apply List.ext_getElem?
 intro k
 rw [List.getElem?_map, List.getElem?_map]
 by_cases hk : i = k
 ·subst hk
  have hl := (List.getElem?_eq_some_iff.1 h).1
  rw [List.getElem?_set_self hl, h]; simp [hp]
 ·rw [List.getElem?_set_ne hk]
theorem real_set_pc (p : Prog) (st : List Int) {l : List Ent} {i : Nat} {e e' : Ent} (h : l[i]? = some e) (hp : e'.pc = e.pc) (k : Int) : real p st (l.set i e') k = real p st l k :=
 real_pcs p st (by rw [cut_map, cut_map, set_pcs h hp])
theorem real_take (p : Prog) (st : List Int) (l : List Ent) {m : Nat} {k : Int} (h : k.toNat <= m) : real p st (l.take m) k = real p st l k :=
 real_pcs p st (by rw [cut_map, cut_map, List.map_take, List.take_take, Nat.min_eq_left h])
theorem real_app (p : Prog) (st : List Int) (l r : List Ent) {k : Int} (h : k.toNat <= l.length) : real p st (l ++ r) k = real p st l k :=
 real_pcs p st (by rw [cut_map, cut_map, List.map_append, List.take_append_of_le_length (by rw [List.length_map]; exact h)])
theorem realGo_all (p : Prog) (hp : Fine p) (Q : Int -> Prop) (hQ : ∀ pc : Int, 0 <= pc -> pc < (p.ins.length : Int) -> Q (pc + 1)) : ∀ (l : List Ent) (st : List Int), (∀ x ∈ st, Q x) -> ∀ r, realGo p l st = some r -> ∀ x ∈ r, Q x
 | [], st, h, r, hr => by simp [realGo] at hr; subst hr; exact h
 | e :: l, st, h, r, hr => by
  unfold realGo at hr
  split at hr
  ·rename_i k8
   split at hr
   ·cases hr
   ·refine realGo_all p hp Q hQ l _ ?_ r hr
    obtain ⟨a, b⟩ := at_lt (p := p) (pc := e.pc) (by rw [k8]; decide)
    have := hp.n
    intro x hx
    rcases List.mem_append.1 hx with hx | hx
    ·exact h x hx
    ·simp at hx; subst hx
     rw [w64_id (by omega) (by omega)]; exact hQ _ a b
  ·split at hr
   ·split at hr
    ·cases hr
    ·exact realGo_all p hp Q hQ l _ (fun x hx => h x ((List.dropLast_sublist st).subset hx)) r hr
   ·exact realGo_all p hp Q hQ l _ h r hr
theorem realGo_len (p : Prog) : ∀ (l : List Ent) (st : List Int) r, realGo p l st = some r -> r.length <= st.length + l.length
 | [], st, r, hr => by simp [realGo] at hr; subst hr; simp
 | e :: l, st, r, hr => by
  unfold realGo at hr
  split at hr
  ·split at hr
   ·cases hr
   ·have := realGo_len p l _ r hr; simp at this ⊢; omega
  ·split at hr
   ·split at hr
    ·cases hr
    ·have := realGo_len p l _ r hr; simp at this ⊢; omega
   ·have := realGo_len p l _ r hr; simp at this ⊢; omega
structure EntOk (N : Int) (p : Prog) (k : Nat) (r : Option (List Int)) (e : Ent) : Prop where
 pc : 0 <= e.pc /\ e.pc <= p.ins.length
 nx : -1 <= e.next /\ e.next <= p.ins.length
 fr : -1 <= e.frm /\ e.frm < k
 vl : 0 <= e.val
 ld : (at_ p e.pc).kind = 2 -> e.done = false -> e.val = 0 /\ e.frm = -1
 st : (at_ p e.pc).kind = 3 -> e.known = false -> e.fault = false
 sk : (at_ p e.pc).kind = 3 -> e.known = true -> e.fault = false -> 0 <= e.addr /\ e.addr < N
 rt : (at_ p e.pc).kind = 9 -> e.done = true -> e.fault = false -> ∃ l, r = some l /\ l ≠ []
 cl : (at_ p e.pc).kind = 8 -> e.fault = false -> ∃ l, r = some l /\ l.length < 4
 dn : (at_ p e.pc).kind = 6 ∨ (at_ p e.pc).kind = 8 ∨ (at_ p e.pc).kind = 11 ∨ (at_ p e.pc).kind = 12 -> e.done = true
def stops (p : Prog) (e : Ent) : Prop := (at_ p e.pc).kind = 11 ∨ (at_ p e.pc).kind = 12
structure Inv (N : Int) (p : Prog) (c : Conf) : Prop where
 mem : (c.state.mem.length : Int) = N
 mv : ∀ x ∈ c.state.mem, 0 <= x
 rg : 0 <= c.state.regs.r0 /\ 0 <= c.state.regs.r1 /\ 0 <= c.state.regs.r2 /\ 0 <= c.state.regs.r3
 buf : (c.buf.length : Int) <= p.window
 rsb : c.rsb.length <= 2
 rv : ∀ x ∈ c.rsb, 0 <= x /\ x <= p.ins.length
 stk : c.state.stack.length <= 4
 sv : ∀ x ∈ c.state.stack, 0 <= x /\ x <= p.ins.length
 pc : -1 <= c.state.pc /\ c.state.pc <= p.ins.length
 last : c.end_ = 0 -> c.state.pc = -1 -> ∃ l e, c.buf = l ++ [e] /\ stops p e
 ent : ∀ (k : Nat) e, c.buf[k]? = some e -> EntOk N p k (real p c.state.stack c.buf (k : Int)) e
section
variable {N : Int} {p : Prog} {c : Conf}
theorem getR_nn (h : 0 <= c.state.regs.r0 /\ 0 <= c.state.regs.r1 /\ 0 <= c.state.regs.r2 /\ 0 <= c.state.regs.r3) (r : Int) : 0 <= getR c.state.regs r := by
 unfold getR; split
 ·exact h.1
 ·split
  ·exact h.2.1
  ·split
   ·exact h.2.2.1
   ·exact h.2.2.2
theorem regGo_nn (p : Prog) (r d : Int) (hd : 0 <= d) : ∀ l : List Ent, (∀ e ∈ l, 0 <= e.val) -> 0 <= (regGo p r d l).1
 | [], _ => hd
 | e :: l, h => by
  unfold regGo
  cases destK (at_ p e.pc) && (at_ p e.pc).d == r with
  | true =>
   cases e.done with
   | true => exact h e (by simp)
   | false => exact Int.le_refl _
  | false => exact regGo_nn p r d hd l fun x hx => h x (by simp [hx])
theorem mem_cut {l : List Ent} {i : Int} {e : Ent} (h : e ∈ cut l i) : e ∈ l := List.mem_of_mem_take h
theorem Inv.vals (h : Inv N p c) {e : Ent} (he : e ∈ c.buf) : 0 <= e.val := by
 obtain ⟨k, hk⟩ := List.getElem?_of_mem he
 exact (h.ent k e hk).vl
theorem Inv.reg (h : Inv N p c) (i r : Int) : 0 <= (regM p c i r).1 := by
 unfold regM Md.reg
 split
 ·exact Int.le_refl _
 ·exact regGo_nn p r _ (getR_nn h.rg r) _ fun e he => h.vals (mem_cut (List.mem_reverse.1 he))
theorem Inv.val (h : Inv N p c) (i : Int) (v : Val) : 0 <= (valM p c i v).1 := by
 unfold valM Md.val
 cases v.reg with
 | true => exact h.reg i v.n
 | false => exact mask_nn _ _
theorem loadGo_ok (p : Prog) (mem : List Int) (a : Int) (hm : ∀ x ∈ mem, 0 <= x) : ∀ l : List Ent, (∀ e ∈ l, 0 <= e.val) -> 0 <= (loadGo p mem a l).1 /\ ((loadGo p mem a l).2.2 = true -> -1 <= (loadGo p mem a l).2.1 /\ (loadGo p mem a l).2.1 < l.length)
 | [], _ => by
  unfold loadGo
  split
  ·exact ⟨Int.le_refl _, fun _ => ⟨Int.le_refl _, by simp⟩⟩
  ·refine ⟨?_, fun _ => ⟨Int.le_refl _, by simp⟩⟩
   cases hx : mem[a.toNat]? with
   | none => exact Int.le_refl _
   | some x => exact hm x (List.mem_of_getElem? hx)
 | e :: l, h => by
  unfold loadGo
  have ih := loadGo_ok p mem a hm l fun x hx => h x (by simp [hx])
  cases hitS p a e with
  | true =>
   cases e.done with
   | true => exact ⟨h e (by simp), fun _ => ⟨by simp <;> omega, by simp <;> omega⟩⟩
   | false => exact ⟨Int.le_refl _, fun h => by simp at h⟩
  | false => exact ⟨ih.1, fun h => ⟨(ih.2 h).1, by have := (ih.2 h).2; simp; omega⟩⟩
theorem Inv.load (h : Inv N p c) {i a : Int} (h0 : 0 <= i) : 0 <= (loadM p c i a).1 /\ ((loadM p c i a).2.2 = true -> -1 <= (loadM p c i a).2.1 /\ (loadM p c i a).2.1 < i) := by
 have := loadGo_ok p c.state.mem a h.mv (cut c.buf i).reverse fun e he => h.vals (mem_cut (List.mem_reverse.1 he))
 refine ⟨this.1, fun hk => ?_⟩
 obtain ⟨a1, a2⟩ := this.2 hk
 refine ⟨a1, Int.lt_of_lt_of_le a2 ?_⟩
 rw [List.length_reverse]
 unfold cut
 rw [List.length_take]; omega
theorem Inv.real (hp : Fine p) (h : Inv N p c) {i : Int} {l : List Int} (hr : real p c.state.stack c.buf i = some l) : (∀ x ∈ l, 0 <= x /\ x <= p.ins.length) /\ l.length <= 7 := by
 refine ⟨realGo_all p hp (fun x => 0 <= x /\ x <= p.ins.length) (fun pc h1 h2 => ⟨by omega, by omega⟩) _ _ h.sv _ hr, ?_⟩
 have h1 := realGo_len p _ _ _ hr
 have h2 := h.stk
 have h3 := h.buf
 have h4 := hp.win
 have : (cut c.buf i).length <= c.buf.length := by unfold cut; rw [List.length_take]; omega
 omega
theorem lastI_mem {l : List Int} (h : l ≠ []) : lastI l ∈ l := by
 unfold lastI
 rw [List.getLast?_eq_some_getLast h]
 exact List.getLast_mem h
theorem Inv.put (h : Inv N p c) {i : Nat} {e e' : Ent} (he : c.buf[i]? = some e) (hpc : e'.pc = e.pc) (ho : EntOk N p i (Md.real p c.state.stack c.buf (i : Int)) e') : Inv N p { c with buf := c.buf.set i e' } := by
 refine { h with buf := by simpa using h.buf, last := fun h1 h2 => ?_, ent := fun k x hx => ?_ }
 ·obtain ⟨l, x, hl, hs⟩ := h.last h1 h2
  have hil := (List.getElem?_eq_some_iff.1 he).1
  rw [hl] at he hil ⊢
  rw [List.length_append, List.length_singleton] at hil
  by_cases hi : i = l.length
  ·subst hi
   rw [List.getElem?_append_right (Nat.le_refl _), Nat.sub_self] at he
   simp at he
   subst he
   refine ⟨l, e', ?_, ?_⟩
   ·rw [List.set_append_right _ _ (Nat.le_refl _), Nat.sub_self]; rfl
   ·unfold stops at hs ⊢; rw [hpc]; exact hs
  ·refine ⟨l.set i e', x, ?_, hs⟩
   rw [List.set_append_left _ _ (by omega)]
 ·show EntOk N p k (Md.real p c.state.stack (c.buf.set i e') k) x
  rw [real_set_pc p _ he hpc]
  by_cases hk : i = k
  ·subst hk
   have hx' : (c.buf.set i e')[i]? = some x := hx
   rw [List.getElem?_set_self (List.getElem?_eq_some_iff.1 he).1] at hx'
   simp at hx'
   subst hx'
   exact ho
  ·have hx' : (c.buf.set i e')[k]? = some x := hx
   rw [List.getElem?_set_ne hk] at hx'
   exact h.ent k x hx'
theorem Inv.cut (h : Inv N p c) (m : Nat) {pc : Int} (h0 : 0 <= pc) (h1 : pc <= p.ins.length) : Inv N p { c with buf := c.buf.take m, state := { c.state with pc := pc } } := by
 refine { h with buf := ?_, pc := ⟨by show -1 <= pc; omega, h1⟩, last := fun _ h2 => ?_, ent := fun k x hx => ?_ }
 ·have := h.buf
  show ((c.buf.take m).length : Int) <= _
  rw [List.length_take]; omega
 ·have : pc = -1 := h2
  omega
 ·have hx' : (c.buf.take m)[k]? = some x := hx
  rw [List.getElem?_take] at hx'
  split at hx'
  ·show EntOk N p k (Md.real p c.state.stack (c.buf.take m) k) x
   rw [real_take p _ _ (by simp; omega)]
   exact h.ent k x hx'
  ·cases hx'
theorem Inv.goes (h : Inv N p c) {i : Nat} {e : Ent} (he : c.buf[i]? = some e) {to : Int} (h0 : 0 <= to) (h1 : to <= p.ins.length) (ho : ∀ nx, -1 <= nx -> nx <= (p.ins.length : Int) -> EntOk N p i (Md.real p c.state.stack c.buf (i : Int)) { e with done := true, next := nx }) : Inv N p (goesM c i e to).1 := by
 unfold goesM
 split
 ·exact h.put he rfl (by
   have hn := (h.ent i e he).nx
   exact ho e.next hn.1 hn.2)
 ·exact (h.put (e' := { e with done := true, next := to }) he rfl (ho to (by omega) h1)).cut (i + 1) h0 h1
end
end Go.Aug.Md
namespace Go.Aug.Md
open Go Go.Aug
set_option linter.unusedSimpArgs false
set_option linter.unusedVariables false
section
variable {N : Int} {p : Prog} {c : Conf}
theorem open_at {i : Int} (h : openM p c i = true) : c.end_ = 0 /\ ∃ k : Nat, i = k /\ c.buf[k]? = some (entAt c.buf i) := by
 simp only [openM, Bool.and_eq_true, beq_iff_eq, decide_eq_true_eq] at h
 obtain ⟨⟨⟨h1, h2⟩, h3⟩, _⟩ := h
 refine ⟨h1, i.toNat, by omega, ?_⟩
 unfold entAt
 obtain ⟨e, he⟩ : ∃ e, c.buf[i.toNat]? = some e := ⟨_, List.getElem?_eq_getElem (by omega)⟩
 rw [he]; rfl
theorem Inv.done {i : Int} (hp : Fine p) (h : Inv N p c) (hc : can N p c i = true) : Inv N p (doM N p c i).1 := by
 have hc' := hc
 simp only [can, Bool.and_eq_true, Bool.not_eq_true'] at hc'
 obtain ⟨⟨ho, hd⟩, hr⟩ := hc'
 obtain ⟨hend, k, hik, he⟩ := open_at ho
 have hE := h.ent k _ he
 have hx : at_ p (entAt c.buf i).pc = insM p c i := rfl
 have ha := h.val i (insM p c i).a
 have hb := h.val i (insM p c i).b
 have hD := h.reg i (insM p c i).d
 have hfa := hp.at_ (entAt c.buf i).pc
 rw [hx] at hfa
 have hn := hp.n
 unfold doM
 generalize insM p c i = x at *
 generalize entAt c.buf i = e at *
 unfold doK
 have hki : i.toNat = k := by omega
 have e0 := hE
 obtain ⟨q1, q2, q3, q4, q5, q6, q7, q8, q9, q10⟩ := hE
 rw [hx] at q5 q6 q7 q8 q9 q10
 split
 ·rename_i k1
  show Inv N p { c with buf := c.buf.set i.toNat _ }
  rw [hki]
  refine h.put he rfl ⟨q1, q2, q3, wdo_nn _ _ _ _, ?_, ?_, ?_, ?_, ?_, ?_⟩ <;> simp only [hx, k1, Int.reduceEq, false_imp_iff, or_self, or_false, false_or]
 split
 ·rename_i _ k4
  show Inv N p { c with buf := c.buf.set i.toNat _ }
  rw [hki]
  refine h.put he rfl ⟨q1, q2, q3, ?_, ?_, ?_, ?_, ?_, ?_, ?_⟩
  ·show 0 <= (if _ then _ else _ : Int)
   split
   ·exact hD
   ·exact hb
  all_goals simp only [hx, k4, Int.reduceEq, false_imp_iff, or_self, or_false, false_or]
 split
 ·rename_i _ _ k3
  show Inv N p { c with buf := c.buf.set i.toNat _ }
  rw [hki]
  refine h.put he rfl ⟨q1, q2, q3, hD, ?_, fun _ => q6 k3, fun _ => q7 k3, ?_, ?_, ?_⟩ <;> simp only [hx, k3, Int.reduceEq, false_imp_iff, or_self, or_false, false_or]
 split
 ·rename_i _ _ _ k2
  split
  ·show Inv N p { c with buf := c.buf.set i.toNat _ }
   rw [hki]
   refine h.put he rfl ⟨q1, q2, ⟨Int.le_refl (-1), by show (-1 : Int) < k; omega⟩, Int.le_refl _, ?_, ?_, ?_, ?_, ?_, ?_⟩
   ·intro _ h; cases h
   all_goals simp only [hx, k2, Int.reduceEq, false_imp_iff, or_self, or_false, false_or]
  ·rename_i hlt
   have hl := h.load (i := i) (a := mask p.w ((valM p c i x.a).1 + (valM p c i x.b).1)) (by omega)
   have hok : (loadM p c i (mask p.w ((valM p c i x.a).1 + (valM p c i x.b).1))).2.2 = true := by
    simp only [ready, k2, Int.reduceEq, or_self, if_false, if_true, Bool.and_eq_true, Bool.or_eq_true, decide_eq_true_eq] at hr
    rcases hr.2 with h | h
    ·exact absurd h hlt
    ·exact h
   have hl2 := hl.2 hok
   show Inv N p { c with buf := c.buf.set i.toNat _ }
   rw [hki]
   refine h.put he rfl ⟨q1, q2, ⟨hl2.1, hik ▸ hl2.2⟩, hl.1, ?_, ?_, ?_, ?_, ?_, ?_⟩
   ·intro _ h; cases h
   all_goals simp only [hx, k2, Int.reduceEq, false_imp_iff, or_self, or_false, false_or]
 have goal9 : ∀ {to : Int}, 0 <= to -> to <= p.ins.length -> x.kind ≠ 2 -> x.kind ≠ 3 -> (x.kind = 9 -> ∃ l, Md.real p c.state.stack c.buf (k : Int) = some l /\ l ≠ []) -> Inv N p (goesM c i e to).1 := by
  intro to h0 h1 n2 n3 h9
  rw [hik]
  refine h.goes he h0 h1 fun nx n0 n1 => ⟨q1, ⟨n0, n1⟩, q3, q4, ?_, ?_, ?_, ?_, ?_, ?_⟩
  ·intro h; rw [hx] at h; exact absurd h n2
  ·intro h; rw [hx] at h; exact absurd h n3
  ·intro h; rw [hx] at h; exact absurd h n3
  ·intro h; rw [hx] at h; intro _ _; exact h9 h
  ·intro h; rw [hx] at h; exact q9 h
  ·intro _; rfl
 split
 ·rename_i _ _ _ _ k5
  refine goal9 ?_ ?_ (by omega) (by omega) (by omega)
  ·split
   ·rw [w64_id (by omega) (by omega)]; omega
   ·exact hfa.2.2.2.2.1
  ·split
   ·obtain ⟨a1, a2⟩ := at_lt (p := p) (pc := e.pc) (by rw [hx]; omega)
    rw [w64_id (by omega) (by omega)]; omega
   ·exact hfa.2.2.2.2.2.1
 split
 ·rename_i _ _ _ _ _ k7
  exact goal9 (by omega) (by omega) (by omega) (by omega) (by omega)
 split
 ·rename_i _ _ _ _ _ _ k9
  have fl : Inv N p (Md.put c i { e with done := true, fault := true }) := by
   show Inv N p { c with buf := c.buf.set i.toNat _ }
   rw [hki]
   refine h.put he rfl ⟨q1, q2, q3, q4, ?_, ?_, ?_, ?_, ?_, ?_⟩
   ·intro h; rw [hx, k9] at h; simp at h
   ·intro h; rw [hx, k9] at h; simp at h
   ·intro h; rw [hx, k9] at h; simp at h
   ·intro _ _ h; cases h
   ·intro h; rw [hx, k9] at h; simp at h
   ·intro _; rfl
  split
  ·exact fl
  ·rename_i l hl
   split
   ·exact fl
   ·rename_i hne
    have hne' : l ≠ [] := fun e => hne (by rw [e]; rfl)
    obtain ⟨b1, b2⟩ := (h.real hp hl).1 _ (lastI_mem hne')
    exact goal9 b1 b2 (by omega) (by omega) (fun _ => ⟨l, by rw [hik] at hl; exact hl, hne'⟩)
 ·rename_i n1 n4 n3 n2 n5 n7 n9
  have : x.kind = 9 := by
   simp only [ready, n1, n4, n3, n2, n5, n7, or_self, if_false, decide_eq_true_eq] at hr
   exact hr
  exact absurd this n9
theorem hazGo_ge (p : Prog) (i addr : Int) : ∀ (l : List Ent) (k : Nat), (hazGo p i addr k l).2 = true -> (k : Int) <= (hazGo p i addr k l).1 /\ (hazGo p i addr k l).1 < k + l.length
 | [], _, h => by cases h
 | e :: l, k, h => by
  unfold hazGo at h ⊢
  cases hh : hitL p i addr e with
  | true => simp; omega
  | false =>
   rw [hh] at h
   simp only [cond_false] at h ⊢
   have := hazGo_ge p i addr l (k + 1) h
   simp only [List.length_cons]
   omega
theorem hazard_ge {l : List Ent} {i addr : Int} (h : (hazard p l i addr).2 = true) (h0 : 0 <= i) (h1 : i < l.length) : i + 1 <= (hazard p l i addr).1 /\ (hazard p l i addr).1 < l.length := by
 have := hazGo_ge p i addr _ _ h
 unfold hazard
 rw [List.length_drop] at this
 have e : hazAt l i = i.toNat + 1 := by unfold hazAt; omega
 rw [e] at this ⊢
 omega
theorem Inv.addr {i : Int} (hp : Fine p) (h : Inv N p c) (hc : canAddr p c i = true) : Inv N p (addrM N p c i).1 := by
 have hc' := hc
 simp only [canAddr, Bool.and_eq_true, Bool.not_eq_true', decide_eq_true_eq] at hc'
 obtain ⟨⟨⟨⟨ho, hkn⟩, k3⟩, ha⟩, hb⟩ := hc'
 obtain ⟨hend, k, hik, he⟩ := open_at ho
 have hE := h.ent k _ he
 have hx : (at_ p (entAt c.buf i).pc).kind = 3 := k3
 have hki : i.toNat = k := by omega
 have had : 0 <= addrOf p c i := mask_nn _ _
 unfold addrM
 generalize addrOf p c i = ad at *
 generalize entAt c.buf i = e at *
 obtain ⟨q1, q2, q3, q4, q5, q6, q7, q8, q9, q10⟩ := hE
 unfold addrK
 split
 ·show Inv N p { c with buf := c.buf.set i.toNat _ }
  rw [hki]
  refine h.put he rfl ⟨q1, q2, q3, q4, ?_, ?_, ?_, ?_, ?_, ?_⟩
  ·intro h; have h : (at_ p e.pc).kind = _ := h; omega
  ·intro _ h; cases h
  ·intro _ _ h; cases h
  ·intro h; have h : (at_ p e.pc).kind = _ := h; omega
  ·intro h; have h : (at_ p e.pc).kind = _ := h; omega
  ·intro h; exact q10 h
 ·rename_i hlt
  have h1 : Inv N p { c with buf := c.buf.set i.toNat { e with addr := ad, known := true, fault := false } } := by
   rw [hki]
   refine h.put he rfl ⟨q1, q2, q3, q4, ?_, ?_, ?_, ?_, ?_, ?_⟩
   ·intro h; have h : (at_ p e.pc).kind = _ := h; omega
   ·intro _ h; cases h
   ·intro _ _ _; exact ⟨had, Int.not_le.1 hlt⟩
   ·intro h; have h : (at_ p e.pc).kind = _ := h; omega
   ·intro h; have h : (at_ p e.pc).kind = _ := h; omega
   ·intro h; exact q10 h
  show Inv N p (drop1 p c i ad _)
  generalize hL : c.buf.set i.toNat { e with addr := ad, known := true, fault := false } = L at h1 ⊢
  unfold drop1
  cases hz : (hazard p L i ad).2 with
  | false => exact h1
  | true =>
   simp only [cond_true]
   have hk := (List.getElem?_eq_some_iff.1 he).1
   have hLl : L.length = c.buf.length := by rw [<- hL]; exact List.length_set
   obtain ⟨z1, z2⟩ := hazard_ge hz (by omega) (by omega)
   generalize (hazard p L i ad).1 = z at *
   obtain ⟨e2, he2⟩ : ∃ e, L[z.toNat]? = some e := ⟨_, List.getElem?_eq_getElem (by omega)⟩
   have he3 : entAt L z = e2 := by unfold entAt; rw [he2]; rfl
   rw [he3]
   have hp2 := (h1.ent z.toNat e2 he2).pc
   exact h1.cut z.toNat hp2.1 hp2.2
theorem push_mem {l : List Int} {x y : Int} (h : y ∈ push l x) : y ∈ l ∨ y = x := by
 unfold push at h
 have := List.mem_of_mem_drop h
 simpa using this
theorem Inv.fetched {g : Int} (hp : Fine p) (h : Inv N p c) (hc : canFetch p c g = true) : Inv N p (fetch p c g) := by
 simp only [canFetch, Bool.and_eq_true, decide_eq_true_eq] at hc
 obtain ⟨g0, g1⟩ := hc
 have hg : c.end_ = 0 /\ c.state.pc ≠ -1 /\ (c.buf.length : Int) < p.window := by
  unfold guesses at g1
  split at g1
  ·omega
  ·rename_i hh
   simp only [not_or, ne_eq, Decidable.not_not] at hh
   exact ⟨hh.1, hh.2.1, by omega⟩
 obtain ⟨he0, hpc, hlen⟩ := hg
 have hpc2 := h.pc
 have hn := hp.n
 have hfa := hp.at_ c.state.pc
 have key : EntOk N p c.buf.length (Md.real p c.state.stack c.buf (c.buf.length : Int)) (entry p c g).1 /\ (entry p c g).1.pc = c.state.pc /\ ((entry p c g).1.next = -1 -> stops p (entry p c g).1) /\ (entry p c g).2.length <= 2 /\ ∀ x ∈ (entry p c g).2, 0 <= x /\ x <= p.ins.length := by
  have hlt : ∀ q : Int, q ≠ 12 -> (Md.at_ p c.state.pc).kind = q -> 0 <= c.state.pc /\ c.state.pc < p.ins.length := fun q hq hk => at_lt (by rw [hk]; exact hq)
  have w1 : w64 (c.state.pc + 1) = c.state.pc + 1 := w64_id (by omega) (by omega)
  unfold entry
  simp only [w1]
  split
  ·rename_i k5
   obtain ⟨p0, p1⟩ := hlt 5 (by decide) k5
   refine ⟨⟨⟨by show 0 <= c.state.pc; omega, by show c.state.pc <= _; omega⟩, ?_, ⟨Int.le_refl (-1), by show (-1 : Int) < _; omega⟩, Int.le_refl _, ?_, ?_, ?_, ?_, ?_, ?_⟩, rfl, ?_, h.rsb, h.rv⟩
   ·show -1 <= (if g = 1 then (Md.at_ p c.state.pc).target else c.state.pc + 1) /\ (if g = 1 then (Md.at_ p c.state.pc).target else c.state.pc + 1) <= (p.ins.length : Int)
    split
    ·omega
    ·omega
   all_goals first
    | (intro h; simp only [k5] at h; omega)
    | skip
   all_goals (intro h; have h : (if g = 1 then (Md.at_ p c.state.pc).target else c.state.pc + 1) = -1 := h; split at h <;> omega)
  split
  ·rename_i _ k6
   obtain ⟨p0, p1⟩ := hlt 6 (by decide) k6
   refine ⟨⟨⟨by show 0 <= c.state.pc; omega, by show c.state.pc <= _; omega⟩, ⟨by show -1 <= (Md.at_ p c.state.pc).target; omega, by show (Md.at_ p c.state.pc).target <= _; omega⟩, ⟨Int.le_refl (-1), by show (-1 : Int) < _; omega⟩, Int.le_refl _, ?_, ?_, ?_, ?_, ?_, fun _ => rfl⟩, rfl, ?_, h.rsb, h.rv⟩
   all_goals first
    | (intro h; simp only [k6] at h; omega)
    | skip
   all_goals (intro h; have h : (Md.at_ p c.state.pc).target = -1 := h; omega)
  split
  ·rename_i _ _ k7
   obtain ⟨p0, p1⟩ := hlt 7 (by decide) k7
   have hg2 : guesses p c = p.ins.length + 1 := by
    unfold guesses
    rw [if_neg (by simp only [not_or]; exact ⟨by omega, hpc, by omega⟩), if_neg (by omega), if_pos (.inl k7)]
   refine ⟨⟨⟨by show 0 <= c.state.pc; omega, by show c.state.pc <= _; omega⟩, ⟨by show -1 <= g; omega, by show g <= _; omega⟩, ⟨Int.le_refl (-1), by show (-1 : Int) < _; omega⟩, Int.le_refl _, ?_, ?_, ?_, ?_, ?_, ?_⟩, rfl, ?_, h.rsb, h.rv⟩
   all_goals first
    | (intro h; simp only [k7] at h; omega)
    | skip
   all_goals (intro h; have h : g = -1 := h; omega)
  split
  ·rename_i _ _ _ k8
   obtain ⟨p0, p1⟩ := hlt 8 (by decide) k8
   refine ⟨⟨⟨by show 0 <= c.state.pc; omega, by show c.state.pc <= _; omega⟩, ⟨by show -1 <= (Md.at_ p c.state.pc).target; omega, by show (Md.at_ p c.state.pc).target <= _; omega⟩, ⟨Int.le_refl (-1), by show (-1 : Int) < _; omega⟩, Int.le_refl _, ?_, ?_, ?_, ?_, ?_, fun _ => rfl⟩, rfl, ?_, ?_, ?_⟩
   ·intro h; simp only [k8] at h; omega
   ·intro h; simp only [k8] at h; omega
   ·intro h; simp only [k8] at h; omega
   ·intro h; simp only [k8] at h; omega
   ·intro _ hf
    have hf : (match Md.real p c.state.stack c.buf c.buf.length with | none => true | some l => decide (4 <= l.length)) = false := hf
    cases hr : Md.real p c.state.stack c.buf c.buf.length with
    | none => rw [hr] at hf; cases hf
    | some l =>
     rw [hr] at hf
     exact ⟨l, rfl, by simpa using hf⟩
   ·intro h
    have h : (Md.at_ p c.state.pc).target = -1 := h
    omega
   ·show (push c.rsb (c.state.pc + 1)).length <= 2
    unfold push
    rw [List.length_drop, List.length_append, List.length_singleton]; omega
   ·intro x hx
    rcases push_mem hx with hx | rfl
    ·exact h.rv x hx
    ·omega
  split
  ·rename_i _ _ _ _ k9
   obtain ⟨p0, p1⟩ := hlt 9 (by decide) k9
   have ok : ∀ nx : Int, 0 <= nx -> nx <= p.ins.length -> EntOk N p c.buf.length (Md.real p c.state.stack c.buf (c.buf.length : Int)) ⟨c.state.pc, 0, 0, -1, nx, false, false, false⟩ := by
    intro nx n0 n1
    refine ⟨⟨by show 0 <= c.state.pc; omega, by show c.state.pc <= _; omega⟩, ⟨by show -1 <= nx; omega, n1⟩, ⟨Int.le_refl (-1), by show (-1 : Int) < _; omega⟩, Int.le_refl _, ?_, ?_, ?_, ?_, ?_, ?_⟩
    ·intro h; simp only [k9] at h; omega
    ·intro h; simp only [k9] at h; omega
    ·intro h; simp only [k9] at h; omega
    ·intro _ h; cases h
    ·intro h; simp only [k9] at h; omega
    ·intro h; simp only [k9] at h; omega
   split
   ·rename_i hr0
    have hg2 : guesses p c = p.ins.length + 1 := by
     unfold guesses
     rw [if_neg (by simp only [not_or]; exact ⟨by omega, hpc, by omega⟩), if_neg (by omega), if_pos (.inr ⟨k9, hr0⟩)]
    exact ⟨ok g g0 (by omega), rfl, fun h => by have h : g = -1 := h; omega, h.rsb, h.rv⟩
   ·rename_i hr0
    have hne : c.rsb ≠ [] := fun e => hr0 (by rw [e]; rfl)
    obtain ⟨b1, b2⟩ := h.rv _ (lastI_mem hne)
    refine ⟨ok _ b1 b2, rfl, fun h => by have h : lastI c.rsb = -1 := h; omega, ?_, fun x hx => h.rv x ((List.dropLast_sublist _).subset hx)⟩
    show c.rsb.dropLast.length <= 2
    have := h.rsb
    rw [List.length_dropLast]; omega
  split
  ·rename_i _ _ _ _ _ k11
   refine ⟨⟨⟨by show 0 <= c.state.pc; omega, by show c.state.pc <= _; omega⟩, ⟨by show (-1 : Int) <= -1; omega, by show (-1 : Int) <= _; omega⟩, ⟨Int.le_refl (-1), by show (-1 : Int) < _; omega⟩, Int.le_refl _, ?_, ?_, ?_, ?_, ?_, fun _ => rfl⟩, rfl, fun _ => k11, h.rsb, h.rv⟩
   all_goals (intro h; have h : (Md.at_ p c.state.pc).kind = _ := h; omega)
  ·rename_i n5 n6 n7 n8 n9 n11
   obtain ⟨p0, p1⟩ := at_lt (p := p) (pc := c.state.pc) (by omega)
   refine ⟨⟨⟨by show 0 <= c.state.pc; omega, by show c.state.pc <= _; omega⟩, ⟨by show -1 <= c.state.pc + 1; omega, by show c.state.pc + 1 <= _; omega⟩, ⟨Int.le_refl (-1), by show (-1 : Int) < _; omega⟩, Int.le_refl _, fun _ _ => ⟨rfl, rfl⟩, fun _ _ => rfl, ?_, ?_, ?_, ?_⟩, rfl, fun h => by have h : c.state.pc + 1 = -1 := h; omega, h.rsb, h.rv⟩
   ·intro _ h; cases h
   ·intro _ h; cases h
   ·intro h; have h : (Md.at_ p c.state.pc).kind = _ := h; omega
   ·intro h
    have h : (Md.at_ p c.state.pc).kind = 6 ∨ (Md.at_ p c.state.pc).kind = 8 ∨ (Md.at_ p c.state.pc).kind = 11 ∨ (Md.at_ p c.state.pc).kind = 12 := h
    omega
 obtain ⟨k1, k2, k3, k4, k5⟩ := key
 refine ⟨h.mem, h.mv, h.rg, ?_, k4, k5, h.stk, h.sv, k1.nx, ?_, ?_⟩
 ·show ((c.buf ++ [(entry p c g).1]).length : Int) <= _
  rw [List.length_append, List.length_singleton]; omega
 ·intro _ hn
  exact ⟨c.buf, _, rfl, k3 hn⟩
 ·intro k e he
  have he : (c.buf ++ [(entry p c g).1])[k]? = some e := he
  show EntOk N p k (Md.real p c.state.stack (c.buf ++ [(entry p c g).1]) k) e
  by_cases hk : k < c.buf.length
  ·rw [real_app p _ _ _ (by simp; omega)]
   rw [List.getElem?_append_left hk] at he
   exact h.ent k e he
  ·have hk2 : k = c.buf.length := by
    have := (List.getElem?_eq_some_iff.1 he).1
    rw [List.length_append, List.length_singleton] at this; omega
   subst hk2
   rw [real_app p _ _ _ (by simp)]
   rw [List.getElem?_append_right (Nat.le_refl _), Nat.sub_self] at he
   simp at he
   subst he
   exact k1
end
end Go.Aug.Md
namespace Go.Aug.Md
open Go Go.Aug
set_option linter.unusedSimpArgs false
set_option linter.unusedVariables false
section
variable {N : Int} {p : Prog} {c : Conf}
theorem setR_nn {r : Regs} (h : 0 <= r.r0 /\ 0 <= r.r1 /\ 0 <= r.r2 /\ 0 <= r.r3) (i : Int) {n : Int} (hn : 0 <= n) : 0 <= (setR r i n).r0 /\ 0 <= (setR r i n).r1 /\ 0 <= (setR r i n).r2 /\ 0 <= (setR r i n).r3 := by
 unfold setR
 split
 ·exact ⟨hn, h.2.1, h.2.2.1, h.2.2.2⟩
 split
 ·exact ⟨h.1, hn, h.2.2.1, h.2.2.2⟩
 split
 ·exact ⟨h.1, h.2.1, hn, h.2.2.2⟩
 split
 ·exact ⟨h.1, h.2.1, h.2.2.1, hn⟩
 ·exact h
theorem popE_pc (e : Ent) : (popE e).pc = e.pc := by unfold popE; split <;> rfl
theorem popE_ok {k : Nat} (hk : k <= 1000) {r r' : Option (List Int)} (hr : r' = r) {e : Ent} (h : EntOk N p (k + 1) r e) : EntOk N p k r' (popE e) := by
 subst hr
 have hf := h.fr
 unfold popE
 split
 ·rename_i h0
  have hw : w64 (e.frm - 1) = e.frm - 1 := w64_id (by omega) (by omega)
  refine ⟨h.pc, h.nx, ?_, h.vl, ?_, h.st, h.sk, h.rt, h.cl, h.dn⟩
  ·show -1 <= w64 (e.frm - 1) /\ w64 (e.frm - 1) < (k : Int)
   rw [hw]; omega
  ·intro h1 h2
   have := (h.ld h1 h2).2
   omega
 ·rename_i h0
  exact ⟨h.pc, h.nx, ⟨hf.1, by omega⟩, h.vl, h.ld, h.st, h.sk, h.rt, h.cl, h.dn⟩
theorem popL_get {l : List Ent} {k : Nat} {e : Ent} (h : (popL l)[k]? = some e) : ∃ e', l[k + 1]? = some e' /\ e = popE e' := by
 unfold popL at h
 rw [List.getElem?_map, List.getElem?_drop, Nat.add_comm] at h
 cases hx : l[k + 1]? with
 | none => rw [hx] at h; cases h
 | some e' => rw [hx] at h; simp at h; exact ⟨e', rfl, h.symm⟩
theorem popL_pcs (l : List Ent) : (popL l).map Ent.pc = (l.map Ent.pc).drop 1 := by
 unfold popL
 rw [List.map_map, List.map_drop]
 congr 1
 exact List.map_congr_left fun e _ => popE_pc e
theorem realGo_cons (p : Prog) (e : Ent) (l : List Ent) (st : List Int) : realGo p (e :: l) st = if (at_ p e.pc).kind = 8 then (if 4 <= st.length then none else realGo p l (st ++ [w64 (e.pc + 1)])) else if (at_ p e.pc).kind = 9 then (if st.length = 0 then none else realGo p l st.dropLast) else realGo p l st := rfl
theorem real_pop (st : List Int) (e : Ent) (l : List Ent) (k : Nat) {st' : List Int}
  (h8 : (at_ p e.pc).kind = 8 -> st.length < 4 /\ st' = st ++ [w64 (e.pc + 1)]) (h9 : (at_ p e.pc).kind = 9 -> st ≠ [] /\ st' = st.dropLast) (h0 : (at_ p e.pc).kind ≠ 8 -> (at_ p e.pc).kind ≠ 9 -> st' = st) :
  real p st' (popL (e :: l)) (k : Int) = real p st (e :: l) ((k + 1 : Nat) : Int) := by
 have e1 : real p st (e :: l) ((k + 1 : Nat) : Int) = realGo p (e :: cut l (k : Int)) st := by
  unfold real cut
  rw [show (((k + 1 : Nat) : Int)).toNat = k + 1 by omega, show ((k : Int)).toNat = k by omega, List.take_succ_cons]
 have e2 : real p st' (popL (e :: l)) (k : Int) = realGo p (cut l (k : Int)) st' := by
  unfold real
  exact realGo_pcs p _ _ _ (by rw [cut_map, cut_map, popL_pcs]; rfl)
 rw [e1, e2, realGo_cons]
 by_cases k8 : (at_ p e.pc).kind = 8
 ·obtain ⟨a, rfl⟩ := h8 k8
  rw [if_pos k8, if_neg (by omega)]
 ·rw [if_neg k8]
  by_cases k9 : (at_ p e.pc).kind = 9
  ·obtain ⟨a, rfl⟩ := h9 k9
   rw [if_pos k9, if_neg (fun h => a (List.length_eq_zero_iff.1 h))]
  ·rw [if_neg k9, h0 k8 k9]
theorem Inv.retired (hp : Fine p) (h : Inv N p c) (hc : canRetire p c = true) : Inv N p (retire p c) := by
 have hc' := hc
 simp only [canRetire, Bool.and_eq_true, beq_iff_eq, decide_eq_true_eq, Bool.or_eq_true] at hc'
 obtain ⟨⟨⟨hend, hlen⟩, hdone⟩, hknown⟩ := hc'
 obtain ⟨e, l, hb⟩ : ∃ e l, c.buf = e :: l := by
  cases hq : c.buf with
  | nil => exact absurd (by rw [hq]; rfl) hlen
  | cons e l => exact ⟨e, l, rfl⟩
 have he0 : entAt c.buf 0 = e := by rw [hb]; rfl
 have hE := h.ent 0 e (by rw [hb]; rfl)
 have hn := hp.n
 have hw := hp.win
 have hbl := h.buf
 have hreal0 : Md.real p c.state.stack c.buf ((0 : Nat) : Int) = some c.state.stack := by
  unfold Md.real Md.cut
  rw [show (((0 : Nat) : Int)).toNat = 0 from rfl, List.take_zero]; rfl
 rw [he0] at hdone hknown
 unfold retire
 rw [he0]
 simp only
 split
 ·rename_i hgo
  have hnf : e.fault = false /\ (at_ p e.pc).kind ≠ 12 /\ (at_ p e.pc).kind ≠ 11 := by
   unfold endedM at hgo
   cases hf : e.fault with
   | true => rw [hf] at hgo; simp at hgo
   | false =>
    rw [hf] at hgo
    by_cases k12 : (at_ p e.pc).kind = 12
    ·simp [k12] at hgo
    ·by_cases k11 : (at_ p e.pc).kind = 11
     ·simp [k11] at hgo
     ·exact ⟨rfl, k12, k11⟩
  obtain ⟨hf, k12, k11⟩ := hnf
  have dn : (at_ p e.pc).kind ≠ 10 -> e.done = true := fun h => by
   rcases hdone with h1 | h1
   ·exact h1
   ·exact absurd h1 h
  obtain ⟨st, hst, hmem, hmv, hrg, hstk, hsv, hpc, h8, h9, h0⟩ : ∃ st, commitM c.state e (at_ p e.pc) = st /\ (st.mem.length : Int) = N /\ (∀ x ∈ st.mem, 0 <= x) /\ (0 <= st.regs.r0 /\ 0 <= st.regs.r1 /\ 0 <= st.regs.r2 /\ 0 <= st.regs.r3) /\ st.stack.length <= 4 /\ (∀ x ∈ st.stack, 0 <= x /\ x <= p.ins.length) /\ st.pc = c.state.pc /\
    ((at_ p e.pc).kind = 8 -> c.state.stack.length < 4 /\ st.stack = c.state.stack ++ [w64 (e.pc + 1)]) /\ ((at_ p e.pc).kind = 9 -> c.state.stack ≠ [] /\ st.stack = c.state.stack.dropLast) /\ ((at_ p e.pc).kind ≠ 8 -> (at_ p e.pc).kind ≠ 9 -> st.stack = c.state.stack) := by
   refine ⟨_, rfl, ?_⟩
   have hs4 := h.stk
   unfold commitM
   split
   ·rename_i kk
    exact ⟨h.mem, h.mv, setR_nn h.rg _ hE.vl, h.stk, h.sv, rfl, fun h => by omega, fun h => by omega, fun _ _ => rfl⟩
   split
   ·rename_i _ k3
    split
    ·refine ⟨by simpa using h.mem, fun x hx => ?_, h.rg, h.stk, h.sv, rfl, fun h => by omega, fun h => by omega, fun _ _ => rfl⟩
     rcases List.mem_or_eq_of_mem_set hx with hx | rfl
     ·exact h.mv x hx
     ·exact hE.vl
    ·exact ⟨h.mem, h.mv, h.rg, h.stk, h.sv, rfl, fun h => by omega, fun h => by omega, fun _ _ => rfl⟩
   split
   ·rename_i _ _ k8
    obtain ⟨l', hl', hlt⟩ := hE.cl k8 hf
    rw [hreal0] at hl'
    simp at hl'; subst hl'
    obtain ⟨p0, p1⟩ := at_lt (p := p) (pc := e.pc) k12
    refine ⟨h.mem, h.mv, h.rg, ?_, fun x hx => ?_, rfl, fun _ => ⟨hlt, rfl⟩, fun h => by omega, fun h => absurd k8 h⟩
    ·show (c.state.stack ++ [w64 (e.pc + 1)]).length <= 4
     rw [List.length_append, List.length_singleton]; omega
    ·rcases List.mem_append.1 hx with hx | hx
     ·exact h.sv x hx
     ·simp at hx; subst hx
      rw [w64_id (by omega) (by omega)]; omega
   split
   ·rename_i _ _ _ k9
    obtain ⟨l', hl', hne⟩ := hE.rt k9 (dn (by omega)) hf
    rw [hreal0] at hl'
    simp at hl'; subst hl'
    refine ⟨h.mem, h.mv, h.rg, ?_, fun x hx => h.sv x ((List.dropLast_sublist _).subset hx), rfl, fun h => by omega, fun _ => ⟨hne, rfl⟩, fun _ h => absurd k9 h⟩
    show c.state.stack.dropLast.length <= 4
    rw [List.length_dropLast]; omega
   ·rename_i _ _ k8 k9
    exact ⟨h.mem, h.mv, h.rg, h.stk, h.sv, rfl, fun h => absurd h k8, fun h => absurd h k9, fun _ _ => rfl⟩
  rw [hst]
  refine ⟨hmem, hmv, hrg, ?_, h.rsb, h.rv, hstk, hsv, by show -1 <= st.pc /\ st.pc <= _; rw [hpc]; exact h.pc, ?_, ?_⟩
  ·show ((popL c.buf).length : Int) <= _
   unfold popL
   rw [List.length_map, List.length_drop]; omega
  ·intro _ h2
   have h2 : st.pc = -1 := h2
   rw [hpc] at h2
   obtain ⟨r, x, hr, hs⟩ := h.last hend h2
   rw [hb] at hr
   cases r with
   | nil =>
    simp at hr
    obtain ⟨rfl, _⟩ := hr
    rcases hs with hs | hs
    ·exact absurd hs k11
    ·exact absurd hs k12
   | cons y r =>
    simp at hr
    obtain ⟨rfl, hr⟩ := hr
    refine ⟨r.map popE, popE x, ?_, ?_⟩
    ·show popL c.buf = _
     unfold popL
     rw [hb, hr]; simp
    ·unfold stops at hs ⊢; rw [popE_pc]; exact hs
  ·intro k x hx
   have hx : (popL c.buf)[k]? = some x := hx
   obtain ⟨x', h1, rfl⟩ := popL_get hx
   have hk : k + 1 < c.buf.length := (List.getElem?_eq_some_iff.1 h1).1
   refine popE_ok (by omega) ?_ (h.ent (k + 1) x' h1)
   show Md.real p st.stack (popL c.buf) k = _
   rw [hb]
   exact real_pop c.state.stack e l k h8 h9 h0
 ·rename_i hend2
  refine ⟨h.mem, h.mv, h.rg, ?_, by simp, (fun x hx => by cases hx), h.stk, h.sv, ⟨by show -1 <= e.pc; have := hE.pc; omega, hE.pc.2⟩, fun h1 => absurd h1 hend2, fun k x hx => by simp at hx⟩
  show ((0 : Nat) : Int) <= _
  omega
theorem Inv.said (hp : Fine p) (h : Inv N p c) (d : Dir) (hc : canSay N p c d = true) : Inv N p (say N p c d).1 := by
 unfold canSay at hc
 unfold say
 split at hc
 ·rename_i h1; rw [if_pos h1]; exact h.fetched hp hc
 ·rename_i h1; rw [if_neg h1]
  split at hc
  ·rename_i h2; rw [if_pos h2]; exact h.done hp hc
  ·rename_i h2; rw [if_neg h2]
   split at hc
   ·rename_i h3; rw [if_pos h3]; exact h.addr hp hc
   ·rename_i h3; rw [if_neg h3]
    simp only [Bool.and_eq_true] at hc
    exact h.retired hp hc.2
theorem mem_all (d : Dir) : d ∈ all N p c ↔ canSay N p c d = true := by
 unfold all canSay
 simp only [List.mem_append, List.mem_map, List.mem_range, List.mem_filter]
 constructor
 ·rintro (((⟨n, h, rfl⟩ | ⟨n, ⟨_, h⟩, rfl⟩) | ⟨n, ⟨_, h⟩, rfl⟩) | h)
  ·rw [if_pos rfl]
   simp [canFetch]; omega
  ·rw [if_neg (by simp), if_pos rfl]; exact h
  ·rw [if_neg (by simp), if_neg (by simp), if_pos rfl]; exact h
  ·cases hr : canRetire p c with
   | false => rw [hr] at h; cases h
   | true =>
    rw [hr] at h
    simp at h
    subst h
    simp
 ·intro h
  split at h
  ·rename_i h1
   simp only [canFetch, Bool.and_eq_true, decide_eq_true_eq] at h
   refine .inl (.inl (.inl ⟨d.n.toNat, by omega, ?_⟩))
   cases d with
   | mk k n =>
    simp at h1 h ⊢
    exact ⟨h1.symm, by omega⟩
  split at h
  ·rename_i _ h2
   have ho : openM p c d.n = true := by
    have h := h
    simp only [can, Bool.and_eq_true] at h; exact h.1.1
   obtain ⟨_, k, hk, hg⟩ := open_at ho
   refine .inl (.inl (.inr ⟨k, ⟨(List.getElem?_eq_some_iff.1 hg).1, by rw [<- hk]; exact h⟩, ?_⟩))
   cases d with
   | mk kd n =>
    simp at h2 hk ⊢
    exact ⟨h2.symm, hk.symm⟩
  split at h
  ·rename_i _ _ h3
   have ho : openM p c d.n = true := by
    have h := h
    simp only [canAddr, Bool.and_eq_true] at h; exact h.1.1.1.1
   obtain ⟨_, k, hk, hg⟩ := open_at ho
   refine .inl (.inr ⟨k, ⟨(List.getElem?_eq_some_iff.1 hg).1, by rw [<- hk]; exact h⟩, ?_⟩)
   cases d with
   | mk kd n =>
    simp at h3 hk ⊢
    exact ⟨h3.symm, hk.symm⟩
  ·simp only [Bool.and_eq_true, decide_eq_true_eq] at h
   refine .inr ?_
   rw [h.2]
   cases d with
   | mk kd n =>
    simp at h ⊢
    exact h.1
end
def ixW (x : Int) (n : Nat) : Nat := (iand x 65535).toNat % n
theorem ixW_eq (x : Int) (n : Nat) : (iand x 65535).tmod (n : Int) = (ixW x n : Nat) := by
 obtain ⟨r, _, h⟩ := iand_low x 16 (by decide)
 have h : iand x 65535 = r := h
 rw [ixW, h, Int.toNat_natCast, <- Int.ofNat_tmod]
theorem ixW_lt (x : Int) {n : Nat} (h : 0 < n) : ixW x n < n := Nat.mod_lt _ h
def pick (x : Int) (d : List Dir) : Dir := (d[ixW x d.length]?).getD ⟨0, 0⟩
theorem pick_mem (x : Int) {d : List Dir} (h : d ≠ []) : pick x d ∈ d := by
 have hl : 0 < d.length := List.length_pos_iff.2 h
 have := ixW_lt x hl
 unfold pick
 rw [List.getElem?_eq_getElem this]
 exact List.getElem_mem this
def walkGo (N : Int) (p : Prog) : List Int -> Conf -> Conf
 | [], c => c
 | x :: l, c => if all N p c = [] then c else walkGo N p l (say N p c (pick x (all N p c))).1
def begin_ (s : State) : Conf := ⟨s, [], [], 0⟩
theorem Inv.walk {N : Int} {p : Prog} (hp : Fine p) : ∀ (l : List Int) {c : Conf}, Inv N p c -> Inv N p (walkGo N p l c)
 | [], _, h => h
 | x :: l, c, h => by
  unfold walkGo
  split
  ·exact h
  ·rename_i hne
   exact Inv.walk hp l (h.said hp _ ((mem_all _).1 (pick_mem x hne)))
theorem Inv.begin {N : Int} {p : Prog} (hp : Fine p) {s : State} (h1 : (s.mem.length : Int) = N) (h2 : ∀ x ∈ s.mem, 0 <= x) (h3 : 0 <= s.regs.r0 /\ 0 <= s.regs.r1 /\ 0 <= s.regs.r2 /\ 0 <= s.regs.r3) (h4 : s.stack = []) (h5 : s.pc = 0) : Inv N p (begin_ s) := by
 have hw := hp.win
 refine ⟨h1, h2, h3, ?_, by simp [begin_], (fun x hx => by cases hx), (by rw [begin_, h4]; simp), fun x hx => ?_, ?_, fun _ h => ?_, fun k e h => by simp [begin_] at h⟩
 ·show ((0 : Nat) : Int) <= _; omega
 ·have hx : x ∈ s.stack := hx
  rw [h4] at hx; cases hx
 ·show -1 <= s.pc /\ s.pc <= _
  rw [h5]; omega
 ·have h : s.pc = -1 := h
  rw [h5] at h; cases h
end Go.Aug.Md
namespace Go.Aug.Md
open Go Go.Aug
end Go.Aug.Md
namespace Go.Aug.Md
open Go Go.Aug
set_option linter.unusedSimpArgs false
set_option linter.unusedVariables false
def Kept (c : Conf) (k : Nat) (R : Conf × List Obs) : Prop :=
 ∃ (px : Int) (bx : List Ent) (o : List Obs), R = (⟨⟨c.state.regs, c.state.mem, c.state.stack, px⟩, bx, c.rsb, 0⟩, o) /\ k < bx.length /\ bx.length <= c.buf.length /\ o.length <= 1 /\ bx.take k = c.buf.take k /\
  (bx.length = c.buf.length -> k + 1 < c.buf.length -> px = c.state.pc) /\ (bx.length < c.buf.length -> k + 1 < bx.length -> ∃ e, c.buf[bx.length]? = some e /\ px = e.pc)
section
variable {N : Int} {p : Prog} {c : Conf} {k : Nat}
theorem take_set_lt {l : List Ent} {k : Nat} {e : Ent} : (l.set k e).take k = l.take k := List.take_set_of_le (Nat.le_refl _)
theorem kept_put (hend : c.end_ = 0) (hk : k < c.buf.length) (e : Ent) (o : List Obs) (ho : o.length <= 1) : Kept c k (put c (k : Int) e, o) := by
 refine ⟨c.state.pc, c.buf.set k e, o, ?_, by simpa using hk, by simp, ho, take_set_lt, fun _ _ => rfl, fun h => by simp at h⟩
 unfold put
 rw [Int.toNat_natCast, <- hend]
theorem kept_goes (hend : c.end_ = 0) (hk : k < c.buf.length) (e : Ent) (to : Int) : Kept c k (goesM c (k : Int) e to) := by
 unfold goesM
 split
 ·exact kept_put hend hk _ _ (by simp)
 ·refine ⟨to, (c.buf.set k { e with done := true, next := to }).take (k + 1), [⟨3, to⟩], ?_, by rw [List.length_take, List.length_set]; omega, by rw [List.length_take, List.length_set]; omega, Nat.le_refl 1, ?_, fun h1 h2 => ?_, fun h1 h2 => ?_⟩
  ·rw [Int.toNat_natCast, <- hend]
  ·rw [List.take_take, Nat.min_eq_left (by omega)]; exact take_set_lt
  ·rw [List.length_take, List.length_set] at h1; omega
  ·rw [List.length_take, List.length_set] at h2; omega
theorem kept_do (hk : k < c.buf.length) (hc : can N p c (k : Int) = true) : Kept c k (doM N p c (k : Int)) := by
 have hend : c.end_ = 0 := by
  simp only [can, Bool.and_eq_true] at hc
  exact (open_at hc.1.1).1
 unfold doM
 generalize entAt c.buf (k : Int) = e
 generalize insM p c (k : Int) = x
 unfold doK
 split
 ·exact kept_put hend hk _ _ (by simp)
 split
 ·exact kept_put hend hk _ _ (by simp)
 split
 ·exact kept_put hend hk _ _ (by simp)
 split
 ·split
  ·exact kept_put hend hk _ _ (by simp)
  ·exact kept_put hend hk _ _ (by simp)
 split
 ·exact kept_goes hend hk _ _
 split
 ·exact kept_goes hend hk _ _
 split
 ·split
  ·exact kept_put hend hk _ _ (by simp)
  ·split
   ·exact kept_put hend hk _ _ (by simp)
   ·exact kept_goes hend hk _ _
 ·exact kept_put hend hk _ _ (by simp)
theorem kept_addr (hk : k < c.buf.length) (hc : canAddr p c (k : Int) = true) : Kept c k (addrM N p c (k : Int)) := by
 have hend : c.end_ = 0 := by
  simp only [canAddr, Bool.and_eq_true] at hc
  exact (open_at hc.1.1.1.1).1
 unfold addrM
 generalize entAt c.buf (k : Int) = e
 generalize addrOf p c (k : Int) = ad
 unfold addrK
 split
 ·exact kept_put hend hk _ _ (by simp)
 ·rw [Int.toNat_natCast]
  generalize hL : c.buf.set k { e with addr := ad, known := true, fault := false } = L
  have hLl : L.length = c.buf.length := by rw [<- hL]; exact List.length_set
  have hLt : L.take k = c.buf.take k := by rw [<- hL]; exact take_set_lt
  unfold drop1
  cases hz : (hazard p L (k : Int) ad).2 with
  | false =>
   refine ⟨c.state.pc, L, [⟨2, ad⟩], ?_, by omega, by omega, Nat.le_refl 1, hLt, fun _ _ => rfl, fun h => by omega⟩
   simp only [cond_false]
   rw [<- hend]
  | true =>
   obtain ⟨z1, z2⟩ := hazard_ge hz (by omega) (by omega)
   simp only [cond_true]
   generalize (hazard p L (k : Int) ad).1 = z at *
   obtain ⟨e2, he2⟩ : ∃ e, L[z.toNat]? = some e := ⟨_, List.getElem?_eq_getElem (by omega)⟩
   have he3 : entAt L z = e2 := by unfold entAt; rw [he2]; rfl
   have he4 : c.buf[z.toNat]? = some e2 := by
    rw [<- hL, List.getElem?_set_ne (by omega)] at he2; exact he2
   have hlen : (L.take z.toNat).length = z.toNat := by rw [List.length_take]; omega
   refine ⟨e2.pc, L.take z.toNat, [⟨2, ad⟩], ?_, by omega, by omega, Nat.le_refl 1, ?_, fun h1 h2 => by omega, fun h1 h2 => ⟨e2, by rw [hlen]; exact he4, rfl⟩⟩
   ·rw [he3, <- hend]
   ·rw [List.take_take, Nat.min_eq_left (by omega)]; exact hLt
end
end Go.Aug.Md
namespace Go.Aug.Md
open Go Go.Aug
set_option linter.unusedSimpArgs false
set_option linter.unusedVariables false
def doE (N : Int) (p : Prog) (e : Ent) (x : Ins) (a b d : Int) (ld : Int -> Int × Int × Bool) (rl : Option (List Int)) : Ent × Option Int :=
 let go := fun to : Int => if e.next = to then ({ e with done := true }, none) else (({ e with done := true, next := to } : Ent), some to)
 if x.kind = 1 then ({ e with val := wdo p.w x.op a b, done := true }, none)
 else if x.kind = 4 then ({ e with val := if a = 0 then d else b, done := true }, none)
 else if x.kind = 3 then ({ e with val := d, done := true }, none)
 else if x.kind = 2 then
  (if mask p.w (a + b) >= N then (⟨e.pc, 0, mask p.w (a + b), -1, e.next, true, true, true⟩, none)
   else (⟨e.pc, (ld (mask p.w (a + b))).1, mask p.w (a + b), (ld (mask p.w (a + b))).2.1, e.next, true, true, e.fault⟩, none))
 else if x.kind = 5 then go (if wdo p.w x.op a b = 0 then w64 (e.pc + 1) else x.target)
 else if x.kind = 7 then go (min a p.ins.length)
 else if x.kind = 9 then
  (match rl with
   | none => ({ e with done := true, fault := true }, none)
   | some l => if l.length = 0 then ({ e with done := true, fault := true }, none) else go (lastI l))
 else ({ e with done := true }, none)
def fin (c : Conf) (i : Int) (r : Ent × Option Int) : Conf :=
 match r.2 with
 | none => put c i r.1
 | some to => { c with buf := (c.buf.set i.toNat r.1).take (i.toNat + 1), state := { c.state with pc := to } }
section
variable {N : Int} {p : Prog} {c : Conf}
theorem goes_fin (c : Conf) (i : Int) (e : Ent) (to : Int) : (goesM c i e to).1 = fin c i (if e.next = to then ({ e with done := true }, none) else (({ e with done := true, next := to } : Ent), some to)) := by
 unfold goesM fin
 split <;> rfl
theorem doM_fin (i : Int) : (doM N p c i).1 = fin c i (doE N p (entAt c.buf i) (insM p c i) (valM p c i (insM p c i).a).1 (valM p c i (insM p c i).b).1 (regM p c i (insM p c i).d).1 (loadM p c i) (real p c.state.stack c.buf i)) := by
 unfold doM doK doE
 split
 ·rfl
 split
 ·rfl
 split
 ·rfl
 split
 ·split <;> rfl
 split
 ·exact goes_fin _ _ _ _
 split
 ·exact goes_fin _ _ _ _
 split
 ·cases real p c.state.stack c.buf i with
  | none => rfl
  | some l =>
   simp only
   split
   ·rfl
   ·exact goes_fin _ _ _ _
 ·rfl
def Rr (p : Prog) (x y : Ent) : Prop := x = y ∨ (x.done = false /\ y.pc = x.pc /\ ((at_ p x.pc).kind = 3 -> y.known = x.known /\ y.addr = x.addr))
def Up (p : Prog) : List Ent -> List Ent -> Prop
 | [], [] => True
 | x :: t, y :: u => Rr p x y /\ Up p t u
 | _, _ => False
theorem Up.refl (p : Prog) : ∀ l, Up p l l
 | [] => trivial
 | _ :: t => ⟨.inl rfl, Up.refl p t⟩
theorem Up.set {x y : Ent} (h : Rr p x y) : ∀ (l : List Ent) (k : Nat), l[k]? = some x -> Up p l (l.set k y)
 | [], _, e => by simp at e
 | z :: t, 0, e => by simp at e; subst e; exact ⟨h, Up.refl p t⟩
 | z :: t, k + 1, e => ⟨.inl rfl, Up.set h t k (by simpa using e)⟩
theorem Up.app : ∀ {a b u v : List Ent}, Up p a b -> Up p u v -> Up p (a ++ u) (b ++ v)
 | [], [], _, _, _, h => h
 | _ :: _, _ :: _, _, _, h, g => ⟨h.1, Up.app h.2 g⟩
theorem Up.rev : ∀ {a b : List Ent}, Up p a b -> Up p a.reverse b.reverse
 | [], [], _ => trivial
 | _ :: _, _ :: _, h => by
  rw [List.reverse_cons, List.reverse_cons]
  exact Up.app (Up.rev h.2) ⟨h.1, trivial⟩
theorem Up.take : ∀ {a b : List Ent} (n : Nat), Up p a b -> Up p (a.take n) (b.take n)
 | _, _, 0, _ => by rw [List.take_zero, List.take_zero]; trivial
 | [], [], n + 1, _ => trivial
 | _ :: _, _ :: _, n + 1, h => ⟨h.1, Up.take n h.2⟩
theorem Up.len : ∀ {a b : List Ent}, Up p a b -> a.length = b.length
 | [], [], _ => rfl
 | _ :: _, _ :: _, h => by rw [List.length_cons, List.length_cons, Up.len h.2]
theorem Rr.pc {x y : Ent} (h : Rr p x y) : y.pc = x.pc := by
 rcases h with rfl | h
 ·rfl
 ·exact h.2.1
theorem Up.pcs : ∀ {a b : List Ent}, Up p a b -> a.map Ent.pc = b.map Ent.pc
 | [], [], _ => rfl
 | _ :: _, _ :: _, h => by rw [List.map_cons, List.map_cons, Up.pcs h.2, h.1.pc]
theorem Up.any : ∀ {a b : List Ent}, Up p a b -> a.any (isFence p) = b.any (isFence p)
 | [], [], _ => rfl
 | _ :: _, _ :: _, h => by rw [List.any_cons, List.any_cons, Up.any h.2]; unfold isFence; rw [h.1.pc]
theorem Up.regGo (r d : Int) : ∀ {a b : List Ent}, Up p a b -> (regGo p r d a).2 = true -> Md.regGo p r d b = Md.regGo p r d a
 | [], [], _, _ => rfl
 | x :: t, y :: u, h, g => by
  unfold Md.regGo at g ⊢
  rw [h.1.pc]
  cases hk : destK (at_ p x.pc) && (at_ p x.pc).d == r with
  | false =>
   rw [hk] at g
   exact Up.regGo r d h.2 g
  | true =>
   rw [hk] at g
   rcases h.1 with rfl | ⟨hd, _⟩
   ·rfl
   ·rw [hd] at g; cases g
theorem Up.loadGo (mem : List Int) (ad : Int) : ∀ {a b : List Ent}, Up p a b -> (loadGo p mem ad a).2.2 = true -> Md.loadGo p mem ad b = Md.loadGo p mem ad a
 | [], [], _, _ => rfl
 | x :: t, y :: u, h, g => by
  unfold Md.loadGo at g ⊢
  rw [<- h.2.len]
  rcases h.1 with rfl | ⟨hd, hpc, h3⟩
  ·cases hk : hitS p ad x with
   | true => rfl
   | false => rw [hk] at g; exact Up.loadGo mem ad h.2 g
  ·cases hk : hitS p ad x with
   | true => rw [hk, hd] at g; cases g
   | false =>
    have : hitS p ad y = false := by
     unfold hitS at hk ⊢
     rw [hpc]
     by_cases k3 : (at_ p x.pc).kind = 3
     ·rw [(h3 k3).1, (h3 k3).2]; exact hk
     ·simp [k3]
    rw [this]
    rw [hk] at g
    exact Up.loadGo mem ad h.2 g
theorem up_reg {of : Regs} {l l' : List Ent} (h : Up p l l') (i r : Int) (g : (reg p of l i r).2 = true) : reg p of l' i r = reg p of l i r := by
 unfold reg at g ⊢
 split
 ·rfl
 ·rename_i hr
  rw [if_neg hr] at g
  exact Up.regGo r _ (Up.take _ h).rev g
theorem up_val {of : Regs} {l l' : List Ent} (h : Up p l l') (i : Int) (v : Val) (g : (val p of l i v).2 = true) : val p of l' i v = val p of l i v := by
 unfold val at g ⊢
 cases hv : v.reg with
 | false => rfl
 | true => rw [hv] at g; exact up_reg h i _ g
theorem up_load {mem : List Int} {l l' : List Ent} (h : Up p l l') (i ad : Int) (g : (load p mem l i ad).2.2 = true) : load p mem l' i ad = load p mem l i ad := Up.loadGo mem ad (Up.take _ h).rev g
theorem up_real {st : List Int} {l l' : List Ent} (h : Up p l l') (i : Int) : real p st l' i = real p st l i := real_pcs p st (Up.take _ h).pcs.symm
theorem up_blocked {l l' : List Ent} (h : Up p l l') (i : Int) : blocked p l' i = blocked p l i := (Up.any (Up.take _ h)).symm
theorem doE_fits (e : Ent) (x : Ins) {a b d a' b' d' : Int × Bool} {ld ld' : Int -> Int × Int × Bool} (rl : Option (List Int)) (i : Int) (hl : loadM p c i = ld)
  (h : ready N p c i x a b d = true) (ha : a.2 = true -> a' = a) (hb : b.2 = true -> b' = b) (hd : d.2 = true -> d' = d) (hld : ∀ ad, (ld ad).2.2 = true -> ld' ad = ld ad) :
  doE N p e x a'.1 b'.1 d'.1 ld' rl = doE N p e x a.1 b.1 d.1 ld rl /\ ∀ c', loadM p c' i = ld' -> ready N p c' i x a' b' d' = true := by
 subst hl
 unfold ready at h
 refine ⟨?_, fun c' hl' => ?_⟩
 ·unfold doE
  split
  ·rename_i k1
   simp only [k1, Int.reduceEq, or_false, if_true, Bool.and_eq_true] at h
   rw [ha h.1, hb h.2]
  split
  ·rename_i k1 k4
   simp only [k4, Int.reduceEq, or_false, if_true, if_false, Bool.and_eq_true] at h
   rw [ha h.1.1, hb h.1.2, hd h.2]
  split
  ·rename_i k1 k4 k3
   simp only [k3, Int.reduceEq, or_false, if_true, if_false, Bool.and_eq_true] at h
   rw [hd h]
  split
  ·rename_i k1 k4 k3 k2
   simp only [k2, Int.reduceEq, or_false, if_true, if_false, Bool.and_eq_true, Bool.or_eq_true, decide_eq_true_eq] at h
   rw [ha h.1.1, hb h.1.2]
   split
   ·rfl
   ·rename_i hn
    rw [hld _ (h.2.resolve_left hn)]
  split
  ·rename_i k5
   simp only [k5, Int.reduceEq, or_true, false_or, if_true, Bool.and_eq_true] at h
   rw [ha h.1, hb h.2]
  split
  ·rename_i k7
   simp only [k7, Int.reduceEq, or_false, if_true, if_false, Bool.and_eq_true] at h
   rw [ha h]
  ·rfl
 ·unfold ready
  split
  ·rename_i k1
   rw [if_pos k1, Bool.and_eq_true] at h
   rw [ha h.1, hb h.2, h.1, h.2]; rfl
  rename_i k1
  rw [if_neg k1] at h
  split
  ·rename_i k4
   rw [if_pos k4, Bool.and_eq_true, Bool.and_eq_true] at h
   rw [ha h.1.1, hb h.1.2, hd h.2, h.1.1, h.1.2, h.2]; rfl
  rename_i k4
  rw [if_neg k4] at h
  split
  ·rename_i k2
   rw [if_pos k2, Bool.and_eq_true, Bool.and_eq_true, Bool.or_eq_true, decide_eq_true_eq] at h
   rw [ha h.1.1, hb h.1.2, h.1.1, h.1.2, hl']
   rcases h.2 with g | g
   ·rw [decide_eq_true g]; rfl
   ·rw [hld _ g, g]; simp
  rename_i k2
  rw [if_neg k2] at h
  split
  ·rename_i k3
   rw [if_pos k3] at h
   rw [hd h, h]
  rename_i k3
  rw [if_neg k3] at h
  split
  ·rename_i k7
   rw [if_pos k7] at h
   rw [ha h, h]
  ·rename_i k7
   rw [if_neg k7] at h
   exact h
theorem again {c' : Conf} {i : Int} (hu : Up p c.buf c'.buf) (hr : c'.state.regs = c.state.regs) (hm : c'.state.mem = c.state.mem) (hs : c'.state.stack = c.state.stack) (he : c'.end_ = c.end_) (hi : entAt c'.buf i = entAt c.buf i) (hc : can N p c i = true) :
  can N p c' i = true /\ (doM N p c' i).1 = fin c' i (doE N p (entAt c.buf i) (insM p c i) (valM p c i (insM p c i).a).1 (valM p c i (insM p c i).b).1 (regM p c i (insM p c i).d).1 (loadM p c i) (real p c.state.stack c.buf i)) := by
 have hx : insM p c' i = insM p c i := by unfold insM; rw [hi]
 have hc' := hc
 simp only [can, Bool.and_eq_true, Bool.not_eq_true'] at hc'
 obtain ⟨⟨ho, hd⟩, hrd⟩ := hc'
 obtain ⟨g1, g2⟩ := doE_fits (c := c) (ld' := loadM p c' i) (entAt c.buf i) (insM p c i) (a' := valM p c' i (insM p c i).a) (b' := valM p c' i (insM p c i).b) (d' := regM p c' i (insM p c i).d) (real p c.state.stack c.buf i) i rfl hrd
  (fun h => by unfold valM at h ⊢; rw [hr]; exact up_val hu i _ h) (fun h => by unfold valM at h ⊢; rw [hr]; exact up_val hu i _ h) (fun h => by unfold regM at h ⊢; rw [hr]; exact up_reg hu i _ h) (fun ad h => by unfold loadM at h ⊢; rw [hm]; exact up_load hu i ad h)
 refine ⟨?_, ?_⟩
 ·unfold can
  rw [hx, hi, hd, g2 c' rfl]
  have : openM p c' i = openM p c i := by
   unfold openM
   rw [he, up_blocked hu, hu.len]
  rw [this, ho]; rfl
 ·rw [doM_fin, hx, hi, hs, up_real hu, g1]
theorem same_ahead {c' : Conf} {k : Nat} (ht : c'.buf.take (k + 1) = c.buf.take (k + 1)) (hr : c'.state.regs = c.state.regs) (hm : c'.state.mem = c.state.mem) (hs : c'.state.stack = c.state.stack) (he : c'.end_ = c.end_) (hk : k < c.buf.length) (hk' : k < c'.buf.length) (hc : can N p c (k : Int) = true) :
  can N p c' (k : Int) = true /\ (doM N p c' (k : Int)).1 = fin c' (k : Int) (doE N p (entAt c.buf (k : Int)) (insM p c (k : Int)) (valM p c (k : Int) (insM p c (k : Int)).a).1 (valM p c (k : Int) (insM p c (k : Int)).b).1 (regM p c (k : Int) (insM p c (k : Int)).d).1 (loadM p c (k : Int)) (real p c.state.stack c.buf (k : Int))) := by
 have hcut : cut c'.buf (k : Int) = cut c.buf (k : Int) := by
  unfold cut
  have := congrArg (List.take k) ht
  rw [List.take_take, List.take_take, Nat.min_eq_left (Nat.le_succ k)] at this
  exact this
 have hi : entAt c'.buf (k : Int) = entAt c.buf (k : Int) := by
  unfold entAt
  rw [Int.toNat_natCast]
  have := congrArg (fun l => l[k]?) ht
  simp only [List.getElem?_take, Nat.lt_succ_self, if_true] at this
  rw [this]
 have hx : insM p c' (k : Int) = insM p c (k : Int) := by unfold insM; rw [hi]
 have e1 : ∀ r, regM p c' (k : Int) r = regM p c (k : Int) r := fun r => by unfold regM reg; rw [hr, hcut]
 have e2 : ∀ v, valM p c' (k : Int) v = valM p c (k : Int) v := fun v => by
  have := e1 v.n
  unfold valM val; unfold regM at this; rw [this]
 have e3 : loadM p c' (k : Int) = loadM p c (k : Int) := by funext ad; unfold loadM load; rw [hm, hcut]
 have e4 : real p c.state.stack c'.buf (k : Int) = real p c.state.stack c.buf (k : Int) := by unfold real; rw [hcut]
 have e5 : openM p c' (k : Int) = openM p c (k : Int) := by
  unfold openM blocked
  rw [he, hcut, decide_eq_true (show (k : Int) < c'.buf.length by omega), decide_eq_true (show (k : Int) < c.buf.length by omega)]
 have e6 : ∀ x a b d, ready N p c' (k : Int) x a b d = ready N p c (k : Int) x a b d := fun x a b d => by unfold ready; rw [e3]
 refine ⟨?_, ?_⟩
 ·rw [<- hc]; unfold can
  rw [hx, hi, e1, e2, e2, e5, e6]
 ·rw [doM_fin, hx, hi, hs, e1, e2, e2, e3, e4]
theorem doE_Rr (e : Ent) (x : Ins) (a b d : Int) (ld : Int -> Int × Int × Bool) (rl : Option (List Int)) (hx : x = at_ p e.pc) (hd : e.done = false) : Rr p e (doE N p e x a b d ld rl).1 := by
 refine .inr ⟨hd, ?_, fun k3 => ?_⟩
 ·have g : ∀ to : Int, (if e.next = to then (({ e with done := true }, none) : Ent × Option Int) else (({ e with done := true, next := to } : Ent), some to)).1.pc = e.pc := fun to => by split <;> rfl
  unfold doE
  split
  ·rfl
  split
  ·rfl
  split
  ·rfl
  split
  ·split <;> rfl
  split
  ·exact g _
  split
  ·exact g _
  split
  ·split
   ·rfl
   ·split
    ·rfl
    ·exact g _
  ·rfl
 ·rw [<- hx] at k3
  unfold doE
  simp only [k3, Int.reduceEq, if_true, if_false, and_self]
theorem either {k i : Nat} (hki : k < i) (hi : i < c.buf.length) (hci : can N p c (i : Int) = true) (hck : can N p c (k : Int) = true) (hlen : i < (doM N p c (k : Int)).1.buf.length) :
  can N p (doM N p c (i : Int)).1 (k : Int) = true /\ can N p (doM N p c (k : Int)).1 (i : Int) = true /\ (doM N p (doM N p c (i : Int)).1 (k : Int)).1 = (doM N p (doM N p c (k : Int)).1 (i : Int)).1 := by
 have hdk : (entAt c.buf (k : Int)).done = false := by
  simp only [can, Bool.and_eq_true, Bool.not_eq_true'] at hck
  exact hck.1.2
 have hRr := doE_Rr (N := N) (p := p) (entAt c.buf (k : Int)) (insM p c (k : Int)) (valM p c (k : Int) (insM p c (k : Int)).a).1 (valM p c (k : Int) (insM p c (k : Int)).b).1 (regM p c (k : Int) (insM p c (k : Int)).d).1 (loadM p c (k : Int)) (real p c.state.stack c.buf (k : Int)) rfl hdk
 have hA := fun (c' : Conf) h1 h2 h3 h4 h5 h6 => same_ahead (N := N) (p := p) (c := c) (c' := c') (k := k) h1 h2 h3 h4 h5 (by omega) h6 hck
 have hB := fun (c' : Conf) h1 h2 h3 h4 h5 h6 => again (N := N) (p := p) (c := c) (c' := c') (i := (i : Int)) h1 h2 h3 h4 h5 h6 hci
 rw [doM_fin (i := (k : Int))] at hlen ⊢
 rw [doM_fin (c := c) (i := (i : Int))]
 generalize doE N p (entAt c.buf (k : Int)) _ _ _ _ _ _ = K at *
 generalize doE N p (entAt c.buf (i : Int)) _ _ _ _ _ _ = I at *
 obtain ⟨ke, kt⟩ := K
 obtain ⟨ie, it⟩ := I
 cases kt with
 | some to =>
  exfalso
  simp only [fin] at hlen
  rw [List.length_take, List.length_set, Int.toNat_natCast] at hlen
  omega
 | none =>
  have hkx : c.buf[k]? = some (entAt c.buf (k : Int)) := by
   unfold entAt
   rw [Int.toNat_natCast, List.getElem?_eq_getElem (by omega)]; rfl
  have hu : Up p c.buf (c.buf.set k ke) := Up.set hRr c.buf k hkx
  obtain ⟨b1, b2⟩ := hB (fin c (k : Int) (ke, none)) (by simpa only [fin, put, Int.toNat_natCast] using hu) rfl rfl rfl rfl (by
   simp only [fin, put, entAt, Int.toNat_natCast]
   rw [List.getElem?_set_ne (by omega)])
  cases it with
  | none =>
   obtain ⟨a1, a2⟩ := hA (fin c (i : Int) (ie, none)) (by
     simp only [fin, put, Int.toNat_natCast]
     exact List.take_set_of_le (by omega)) rfl rfl rfl rfl (by simp only [fin, put, Int.toNat_natCast, List.length_set]; omega)
   refine ⟨a1, b1, ?_⟩
   rw [a2, b2]
   simp only [fin, put, Int.toNat_natCast]
   rw [List.set_comm _ _ (by omega)]
  | some to =>
   obtain ⟨a1, a2⟩ := hA (fin c (i : Int) (ie, some to)) (by
     simp only [fin, put, Int.toNat_natCast]
     rw [List.take_take, Nat.min_eq_left (by omega)]
     exact List.take_set_of_le (by omega)) rfl rfl rfl rfl (by simp only [fin, put, Int.toNat_natCast, List.length_set, List.length_take]; omega)
   refine ⟨a1, b1, ?_⟩
   rw [a2, b2]
   simp only [fin, put, Int.toNat_natCast]
   rw [<- List.take_set, List.set_comm _ _ (by omega)]
end
end Go.Aug.Md
