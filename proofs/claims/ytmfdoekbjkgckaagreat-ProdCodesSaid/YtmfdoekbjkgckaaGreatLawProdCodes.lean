import Derived.Test.YtmfdoekbjkgckaaGreatRunProdCodes
import Derived.Test.YtmfdoekbjkgckaaGreatEvQ
import Derived.Test.YtmfdoekbjkgckaaGreatRows
import Derived.WalkKit
import Derived.ProofKit
namespace Go.Proofs.YtmfdoekbjkgckaaGreat.prodCodes
open Go Go.Aug Go.ChangeShapes Go.WideShapes Go.ChangeAt Go.RowKit
set_option linter.unusedVariables false
theorem own:ownKnob Tryz.prog.godebug=none:=by kernel_rfl
theorem Zf5:laidOutB Tryz.prog=true:=by kernel_rfl
set_option maxRecDepth 100000 in
theorem Zf2 (os:Os)(started:os.Started)(H:Type)(enc:TypeId×Value->H):
  ReturnsInHanded {} Tryz.checked os 5 .any (Rows.prodCodesSpec.pre6 enc Tryz.prog Tryz.f5 Rows.prodCodesRow.domain false) (Rows.prodCodesSpec.post enc Tryz.prog Tryz.f5 false true false false):=by
 refine returnsInHanded_of_change_sized (C:=Tryz.checked) own started (by kernel_rfl) Tryz.func5
  (ChangeSpec.witness6 (enc:=enc) (C:=Tryz.checked) false ⟨#[],#[.slice none 0 0,.slice none 0 0,.int .i64 0,.slice none 0 0,.slice none 0 0,.slice none 0 0],[]⟩ 8 (by kernel_rfl) (by kernel_rfl) (by kernel_rfl) (by kernel_rfl)) ?_
 intro W base args ds gs before hval0 hW hcnd hsz0 _
 have hval:∀(j:Nat) t v,Tryz.f5.params[j]? =some t->args[j]? =some v->Value.okWide Tryz.prog W .any base t v:=hval0
 have hW':=hW
 obtain⟨p,q,hA0,hV,rfl,hfz,hnd⟩:=hW
 have hA:DataW.TrodAll enc Tryz.prog W 0 (fun _=>true) true Tryz.f5.params.toList args.toList ds p:=hA0
 have hlt:=XY hA
 obtain⟨xs,hx,hw⟩:=Z79 (I:=fun b=>∃ o,MemPlace.cell b o ∈ p) (Ts:=Uz) Z9e hA (fun j t v h1 h2=>hval j t v (by simpa using h1) (by simpa using h2)) (fun b o h=>⟨o,h⟩)
 obtain⟨rfl,rfl⟩:=trodVars_none hV
 have hds:=XZ hA
 have hlen:Tryz.f5.params.toList.length=6:=by kernel_rfl
 rw[hlen] at hds
 obtain⟨d0,d1,d2,d3,d4,d5,rfl⟩:∃ d0 d1 d2 d3 d4 d5,ds=[d0,d1,d2,d3,d4,d5]:=by
  match ds,hds with
  | [d0,d1,d2,d3,d4,d5],_=>exact⟨d0,d1,d2,d3,d4,d5,rfl⟩
 refine(Zgk (E:=F4) (by kernel_rfl) mc.Z3u Wx Wz (run xs hw) (fun b ⟨o,ho⟩=>hlt _ ho) ⟨fun _ _ h=>by simp[VY] at h,fun _ h=>by simp[Z3q] at h⟩ hx).mono fun e W' ⟨he,bel⟩=> ?_
 subst he
 exact⟨_,rfl,_,_,_,[],_,[],hW',trodAll_mk1 (shut_bool Tryz.underlying4 _),Z78 Zf5 bel hA (by kernel_rfl),rfl,bel.frame _,fun h=>by cases h⟩
theorem over:Rows.prodCodesRow.holds Tryz.pinned (OpenSpec.ofChange Rows.prodCodesSpec):=
 OpenClaim.holds_of_wide 5 Tryz.f5 rfl rfl rfl rfl rfl rfl rfl ⟨rfl,rfl,rfl,rfl,rfl⟩ rfl rfl rfl rfl rfl (by kernel_rfl) Tryz.func5 (by kernel_rfl)
  (of_decide_eq_true (by kernel_rfl)) (by unfold Func.isWrapper;first | (rw[if_pos (by decide+kernel)];kernel_rfl) | (rw[if_neg (by decide+kernel)];exact⟨rfl,rfl⟩))
  (fun os started H enc _=>Zf2 os started H enc)
theorem proved:Rows.ProdCodesSaid:=over
#print axioms proved
end Go.Proofs.YtmfdoekbjkgckaaGreat.prodCodes
namespace Go.Proofs.YtmfdoekbjkgckaaGreat
theorem prodCodes_holds:Rows.ProdCodesSaid:=prodCodes.proved
end Go.Proofs.YtmfdoekbjkgckaaGreat
