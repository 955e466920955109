/- The law LayBounds: whatever sheet, numbers and plan are given, the function returns true and leaves what was there as it was. No conditions. -/
import Derived.Test.YtoomemfhcbajoaaV6Lb50x4
import Derived.Test.YtoomemfhcbajoaaV6Lak0x14
set_option linter.unusedVariables false
set_option maxRecDepth 100000
namespace Go.Proofs.Ytoomemfhcbajoaa
open Go.ChangeShapes Go.WideShapes Go.ChangeAt Go.RowKit
theorem uX:∀ xs,Eng.AQ [Eng.AP,Eng.LN,Eng.LN,Eng.OB] xs→∃ H',Eng.cd 14 (.fn 11) xs [⟨true,[]⟩]=some (.bool true,H'):=by
 intro xs h0
 obtain ⟨a0,ys0,rfl,⟨l,t,k,d,rfl⟩,h1⟩:=Eng.mT h0
 obtain ⟨a1,ys1,rfl,⟨h,rfl,hh⟩,h2⟩:=Eng.mT h1
 obtain ⟨a2,ys2,rfl,⟨w,rfl,hw⟩,h3⟩:=Eng.mT h2
 obtain ⟨a3,ys3,rfl,⟨m,f,g,rfl,_⟩,h4⟩:=Eng.mT h3
 obtain rfl:=Eng.EM h4
 exact ⟨_,Eng.Sj 0 l k t d _ h w m f g hh hw⟩
theorem qw (os:Os) (started:os.Started) (H:Type) (enc:TypeId×Value→H) :
 ReturnsInHanded {} Try.checked os 11 .any (Rows.layBoundsSpec.pre6 enc Try.prog Try.f11 Rows.layBoundsRow.domain false) (Rows.layBoundsSpec.post enc Try.prog Try.f11 false true false false):=by
 refine returnsInHanded_of_change (C:=Try.checked) Eng.own started (by kernel_rfl) Try.func11
  (ChangeSpec.witness6 (enc:=enc) (C:=Try.checked) false ⟨#[],#[.agg #[.slice none 0 0,.slice none 0 0],.int .u8 0,.int .u8 0,.slice none 0 0],[]⟩ 8 (by kernel_rfl) (by kernel_rfl) (by kernel_rfl) (by kernel_rfl)) ?_
 intro W base args ds gs before hval0 hW hcnd _
 have hval:∀ (j:Nat) t v,Try.f11.params[j]?=some t→args[j]?=some v→Value.okWide Try.prog W .any base t v:=hval0
 have hW':=hW
 obtain ⟨p,q,hA0,hV,rfl,hfz,hnd⟩:=hW
 have hA:DataW.TrodAll enc Try.prog W 0 (fun _=>true) true Try.f11.params.toList args.toList ds p:=hA0
 rw[Try.params11] at hA hval
 have hA':=hA
 obtain ⟨v0,w0,d0,e0,p0,q0,hv0,rfl,rfl,h0,hA0⟩:=trodAll_cons hA
 obtain ⟨v1,w1,d1,e1,p1,q1,hv1,rfl,rfl,h1,hA1⟩:=trodAll_cons hA0
 obtain ⟨v2,w2,d2,e2,p2,q2,hv2,rfl,rfl,h2,hA2⟩:=trodAll_cons hA1
 obtain ⟨v3,w3,d3,e3,p3,q3,hv3,rfl,rfl,h3,hA3⟩:=trodAll_cons hA2
 obtain ⟨_,rfl,rfl⟩:=trodAll_nil hA3
 obtain ⟨rfl,rfl⟩:=trodVars_none hV
 clear hA0 hval0
 simp only[List.append_nil] at hW'
 refine (Eng.D1 (ts:=[24,5,5,32]) (As:=[Eng.AP,Eng.LN,Eng.LN,Eng.OB]) ⟨Eng.EU,Eng.Jd,Eng.Jd,Eng.LP,trivial⟩ uX (fun _=>rfl) (fun j t v h1 h2=>hval j t v (by simpa using h1) h2) hA').mono fun e W' ⟨he,hg⟩=>?_
 subst he
 have hA2:DataW.TrodAll enc Try.prog W 0 (fun _=>true) true [24,5,5,32] args.toList _ _:=hA'
 simp only[List.append_nil] at hA2
 have old:∀ x ∈ p0++(p1++(p2++(p3))),x.block<W.heap.size:=fun x hx=>hW'.lt x hx
 refine ⟨_,rfl,Eng.vj (pa:=p0++(p1++(p2++(p3)))) (pv:=[]) hW' hg (fun _ _ _=>trodAll_mk1 (shut_bool Try.underlying4 _)) (fun sp hs=>?_) (fun _ _=>rfl) (by simp)
  (ok_one (by kernel_rfl) rfl (okWide_bool_mk Try.underlying4 _))⟩
 rw[Try.params11]
 exact Eng.wA Eng.laidOut [24,5,5,32] args.toList _ _ (by decide +kernel) hA2 (fun x hx=>hg.same (old x hx)) hs

theorem bounds_holds:Rows.LayBoundsSaid :=
 OpenClaim.holds_of_wide 11 Try.f11 rfl rfl rfl rfl rfl rfl rfl ⟨rfl,rfl,rfl,rfl,rfl⟩ rfl rfl rfl rfl rfl (by kernel_rfl) Try.func11 (by kernel_rfl)
  (of_decide_eq_true (by kernel_rfl)) (by unfold Func.isWrapper;first | (rw[if_pos (by decide +kernel)];kernel_rfl) | (rw[if_neg (by decide +kernel)];exact ⟨rfl,rfl⟩))
  (fun os started H enc _=>qw os started H enc)
end Go.Proofs.Ytoomemfhcbajoaa
