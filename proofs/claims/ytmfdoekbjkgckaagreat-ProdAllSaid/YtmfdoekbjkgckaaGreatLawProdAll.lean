import Derived.Test.YtmfdoekbjkgckaaGreatRunProdAll
import Derived.Test.YtmfdoekbjkgckaaGreatEvQ
import Derived.Test.YtmfdoekbjkgckaaGreatRows
import Derived.WalkKit
import Derived.ProofKit
namespace Go.Proofs.YtmfdoekbjkgckaaGreat.prodAll
open Go Go.Aug Go.ChangeShapes Go.WideShapes Go.ChangeAt Go.RowKit
set_option linter.unusedVariables false
theorem own:ownKnob Tryz.prog.godebug=none:=by kernel_rfl
theorem Zjf:laidOutB Tryz.prog=true:=by kernel_rfl
set_option maxRecDepth 100000 in
theorem Zjc (os:Os)(started:os.Started)(H:Type)(enc:TypeId×Value->H):
  ReturnsInHanded {} Tryz.checked os 4 .any (Rows.prodAllSpec.pre6 enc Tryz.prog Tryz.f4 Rows.prodAllRow.domain false) (Rows.prodAllSpec.post enc Tryz.prog Tryz.f4 false true false false):=by
 refine returnsInHanded_of_change_sized (C:=Tryz.checked) own started (by kernel_rfl) Tryz.func4
  (ChangeSpec.witness6 (enc:=enc) (C:=Tryz.checked) false ⟨#[],#[.slice none 0 0,.slice none 0 0,.int .i64 0,.slice none 0 0],[]⟩ 8 (by kernel_rfl) (by kernel_rfl) (by kernel_rfl) (by kernel_rfl)) ?_
 intro W base args ds gs before hval0 hW hcnd hsz0 _
 have hval:∀(j:Nat) t v,Tryz.f4.params[j]? =some t->args[j]? =some v->Value.okWide Tryz.prog W .any base t v:=hval0
 have hW':=hW
 obtain⟨p,q,hA0,hV,rfl,hfz,hnd⟩:=hW
 have hA:DataW.TrodAll enc Tryz.prog W 0 (fun _=>true) true Tryz.f4.params.toList args.toList ds p:=hA0
 have hlt:=Z1x hA
 obtain⟨xs,hx,hw⟩:=Z9t (I:=fun b=>∃ o,MemPlace.cell b o ∈ p) (Ts:=VV) Zcj hA (fun j t v h1 h2=>hval j t v (by simpa using h1) (by simpa using h2)) (fun b o h=>⟨o,h⟩)
 obtain⟨rfl,rfl⟩:=trodVars_none hV
 have hds:=Z1y hA
 have hlen:Tryz.f4.params.toList.length=4:=by kernel_rfl
 rw[hlen] at hds
 obtain⟨d0,d1,d2,d3,rfl⟩:∃ d0 d1 d2 d3,ds=[d0,d1,d2,d3]:=by
  match ds,hds with
  | [d0,d1,d2,d3],_=>exact⟨d0,d1,d2,d3,rfl⟩
 refine(Zkq (E:=FQ) (by kernel_rfl) mc.Z5r Z04 Z05 (run xs hw) (fun b ⟨o,ho⟩=>hlt _ ho) ⟨fun _ _ h=>by simp[XM] at h,fun _ h=>by simp[Z5n] at h⟩ hx).mono fun e W' ⟨he,bel⟩=> ?_
 subst he
 exact⟨_,rfl,_,_,_,[],_,[],hW',trodAll_mk1 (shut_bool Tryz.underlying4 _),Z9s Zjf bel hA (by kernel_rfl),rfl,bel.frame _,fun h=>by cases h⟩
theorem over:Rows.prodAllRow.holds Tryz.pinned (OpenSpec.ofChange Rows.prodAllSpec):=
 OpenClaim.holds_of_wide 4 Tryz.f4 rfl rfl rfl rfl rfl rfl rfl ⟨rfl,rfl,rfl,rfl,rfl⟩ rfl rfl rfl rfl rfl (by kernel_rfl) Tryz.func4 (by kernel_rfl)
  (of_decide_eq_true (by kernel_rfl)) (by unfold Func.isWrapper;first | (rw[if_pos (by decide+kernel)];kernel_rfl) | (rw[if_neg (by decide+kernel)];exact⟨rfl,rfl⟩))
  (fun os started H enc _=>Zjc os started H enc)
theorem proved:Rows.ProdAllSaid:=over
#print axioms proved
end Go.Proofs.YtmfdoekbjkgckaaGreat.prodAll
namespace Go.Proofs.YtmfdoekbjkgckaaGreat
theorem prodAll_holds:Rows.ProdAllSaid:=prodAll.proved
end Go.Proofs.YtmfdoekbjkgckaaGreat
