/- The law BathMosts: whatever orders and number of baths are given, the function returns true and leaves what was there as it was. No conditions. -/
import Derived.Test.YtigmfpmabgekoaaGreatV6Bt3x9
import Derived.Test.YtigmfpmabgekoaaGreatV6Bak4x4
set_option linter.unusedVariables false
set_option maxRecDepth 100000
namespace Go.Proofs.YtigmfpmabgekoaaGreat
open Go.ChangeShapes Go.WideShapes Go.ChangeAt Go.RowKit
theorem tv:∀ xs,Eng.yT [Eng.Ho,Eng.Hn] xs→∃ H',Eng.cd 15 (.fn 6) xs [⟨true,[]⟩]=some (.bool true,H'):=by
 intro xs h0
 obtain ⟨a0,ys0,rfl,⟨l,z,rfl⟩,h1⟩:=Eng.tU h0
 obtain ⟨a1,ys1,rfl,⟨q,rfl,_⟩,h2⟩:=Eng.tU h1
 obtain rfl:=Eng.CJ h2
 exact ⟨_,Eng.c6 0 l z q⟩
theorem pg (os:Os) (started:os.Started) (H:Type) (enc:TypeId×Value→H) :
 ReturnsInHanded {} Tryz.checked os 6 .any (Rows.bathMostsSpec.pre6 enc Tryz.prog Tryz.f6 Rows.bathMostsRow.domain false) (Rows.bathMostsSpec.post enc Tryz.prog Tryz.f6 false true false false):=by
 refine returnsInHanded_of_change (C:=Tryz.checked) Eng.own started (by kernel_rfl) Tryz.func6
  (ChangeSpec.witness6 (enc:=enc) (C:=Tryz.checked) false ⟨#[],#[.slice none 0 0,.int .i64 0],[]⟩ 8 (by kernel_rfl) (by kernel_rfl) (by kernel_rfl) (by kernel_rfl)) ?_
 intro W base args ds gs before hval0 hW hcnd _
 have hval:∀ (j:Nat) t v,Tryz.f6.params[j]?=some t→args[j]?=some v→Value.okWide Tryz.prog W .any base t v:=hval0
 have hW':=hW
 obtain ⟨p,q,hA0,hV,rfl,hfz,hnd⟩:=hW
 have hA:DataW.TrodAll enc Tryz.prog W 0 (fun _=>true) true Tryz.f6.params.toList args.toList ds p:=hA0
 rw[Tryz.params6] at hA hval
 have hA':=hA
 obtain ⟨v0,w0,d0,e0,p0,q0,hv0,rfl,rfl,h0,hA0⟩:=trodAll_cons hA
 obtain ⟨v1,w1,d1,e1,p1,q1,hv1,rfl,rfl,h1,hA1⟩:=trodAll_cons hA0
 obtain ⟨_,rfl,rfl⟩:=trodAll_nil hA1
 obtain ⟨rfl,rfl⟩:=trodVars_none hV
 clear hA0 hval0
 simp only[List.append_nil] at hW'
 refine (Eng.B5 (ts:=[22,3]) (As:=[Eng.Ho,Eng.Hn]) ⟨Eng.Hy,Eng.Hx,trivial⟩ tv (fun j t v h1 h2=>hval j t v (by simpa using h1) h2) hA').mono fun e W' ⟨he,hg⟩=>?_
 subst he
 have hA2:DataW.TrodAll enc Tryz.prog W 0 (fun _=>true) true [22,3] args.toList _ _:=hA'
 simp only[List.append_nil] at hA2
 have old:∀ x ∈ p0++(p1),x.block<W.heap.size:=fun x hx=>hW'.lt x hx
 refine ⟨_,rfl,Eng.tO (pa:=p0++(p1)) (pv:=[]) hW' hg (fun _ _ _=>trodAll_mk1 (shut_bool Tryz.underlying4 _)) (fun sp hs=>?_) (fun _ _=>rfl) (by simp)
  (ok_one (by kernel_rfl) rfl (okWide_bool_mk Tryz.underlying4 _))⟩
 rw[Tryz.params6]
 exact Eng.uZ Eng.laidOut [22,3] args.toList _ _ (by decide +kernel) hA2 (fun x hx=>hg.same (old x hx)) hs

theorem mosts_holds:Rows.BathMostsSaid :=
 OpenClaim.holds_of_wide 6 Tryz.f6 rfl rfl rfl rfl rfl rfl rfl ⟨rfl,rfl,rfl,rfl,rfl⟩ rfl rfl rfl rfl rfl (by kernel_rfl) Tryz.func6 (by kernel_rfl)
  (of_decide_eq_true (by kernel_rfl)) (by unfold Func.isWrapper;first | (rw[if_pos (by decide +kernel)];kernel_rfl) | (rw[if_neg (by decide +kernel)];exact ⟨rfl,rfl⟩))
  (fun os started H enc _=>pg os started H enc)
end Go.Proofs.YtigmfpmabgekoaaGreat
