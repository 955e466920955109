/- The law LayTried: whatever sheet and number are given, the function returns true and leaves what was there as it was. No conditions. -/
import Derived.Test.YtoomemfhcbajoaaV8Lp16x16
set_option linter.unusedVariables false
set_option maxRecDepth 100000
namespace Go.Proofs.Ytoomemfhcbajoaa
open Go.ChangeShapes Go.WideShapes Go.ChangeAt Go.RowKit
theorem vY:∀ xs,Eng.zD [Eng.zC,Eng.Mc] xs→∃ H',Eng.cd 43 (.fn 8) xs [⟨true,[]⟩]=some (.bool true,H'):=by
 intro xs h0
 obtain ⟨a0,ys0,rfl,⟨l,t,k,d,rfl⟩,h1⟩:=Eng.tW h0
 obtain ⟨a1,ys1,rfl,⟨h,rfl,hh⟩,h2⟩:=Eng.tW h1
 obtain rfl:=Eng.DF h2
 exact ⟨_,Eng.c8 0 l k t d _ h hh⟩
theorem qT (os:Os) (started:os.Started) (H:Type) (enc:TypeId×Value→H) :
 ReturnsInHanded {} Try.checked os 8 .any (Rows.layTriedSpec.pre6 enc Try.prog Try.f8 Rows.layTriedRow.domain false) (Rows.layTriedSpec.post enc Try.prog Try.f8 false true false false):=by
 refine returnsInHanded_of_change (C:=Try.checked) Eng.own started (by kernel_rfl) Try.func8
  (ChangeSpec.witness6 (enc:=enc) (C:=Try.checked) false ⟨#[],#[.agg #[.slice none 0 0,.slice none 0 0],.int .u8 0],[]⟩ 8 (by kernel_rfl) (by kernel_rfl) (by kernel_rfl) (by kernel_rfl)) ?_
 intro W base args ds gs before hval0 hW hcnd _
 have hval:∀ (j:Nat) t v,Try.f8.params[j]?=some t→args[j]?=some v→Value.okWide Try.prog W .any base t v:=hval0
 have hW':=hW
 obtain ⟨p,q,hA0,hV,rfl,hfz,hnd⟩:=hW
 have hA:DataW.TrodAll enc Try.prog W 0 (fun _=>true) true Try.f8.params.toList args.toList ds p:=hA0
 rw[Try.params8] at hA hval
 have hA':=hA
 obtain ⟨v0,w0,d0,e0,p0,q0,hv0,rfl,rfl,h0,hA0⟩:=trodAll_cons hA
 obtain ⟨v1,w1,d1,e1,p1,q1,hv1,rfl,rfl,h1,hA1⟩:=trodAll_cons hA0
 obtain ⟨_,rfl,rfl⟩:=trodAll_nil hA1
 obtain ⟨rfl,rfl⟩:=trodVars_none hV
 clear hA0 hval0
 simp only[List.append_nil] at hW'
 refine (Eng.CZ (ts:=[24,5]) (As:=[Eng.zC,Eng.Mc]) ⟨Eng.DM,Eng.Ka,trivial⟩ vY (fun _=>rfl) (fun j t v h1 h2=>hval j t v (by simpa using h1) h2) hA').mono fun e W' ⟨he,hg⟩=>?_
 subst he
 have hA2:DataW.TrodAll enc Try.prog W 0 (fun _=>true) true [24,5] args.toList _ _:=hA'
 simp only[List.append_nil] at hA2
 have old:∀ x ∈ p0++(p1),x.block<W.heap.size:=fun x hx=>hW'.lt x hx
 refine ⟨_,rfl,Eng.tP (pa:=p0++(p1)) (pv:=[]) hW' hg (fun _ _ _=>trodAll_mk1 (shut_bool Try.underlying4 _)) (fun sp hs=>?_) (fun _ _=>rfl) (by simp)
  (ok_one (by kernel_rfl) rfl (okWide_bool_mk Try.underlying4 _))⟩
 rw[Try.params8]
 exact Eng.vk Eng.laidOut [24,5] args.toList _ _ (by decide +kernel) hA2 (fun x hx=>hg.same (old x hx)) hs

theorem tried_holds:Rows.LayTriedSaid :=
 OpenClaim.holds_of_wide 8 Try.f8 rfl rfl rfl rfl rfl rfl rfl ⟨rfl,rfl,rfl,rfl,rfl⟩ rfl rfl rfl rfl rfl (by kernel_rfl) Try.func8 (by kernel_rfl)
  (of_decide_eq_true (by kernel_rfl)) (by unfold Func.isWrapper;first | (rw[if_pos (by decide +kernel)];kernel_rfl) | (rw[if_neg (by decide +kernel)];exact ⟨rfl,rfl⟩))
  (fun os started H enc _=>qT os started H enc)
end Go.Proofs.Ytoomemfhcbajoaa
