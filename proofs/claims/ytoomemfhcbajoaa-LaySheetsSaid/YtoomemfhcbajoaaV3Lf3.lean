/- The law LaySheets: whatever sheet is given, the function returns true and leaves what was there as it was. No conditions. -/
import Derived.Test.YtoomemfhcbajoaaV3Lb12x14
import Derived.Test.YtoomemfhcbajoaaV3LaFr
namespace Go.Proofs.Ytoomemfhcbajoaa
open Go.ChangeShapes Go.WideShapes Go.ChangeAt Go.RowKit
set_option linter.unusedVariables false
set_option maxRecDepth 100000
theorem laySheets_law:∀ xs,Eng.AllA [Eng.ASheet] xs→∃ H',Eng.cd 11 (.fn 3) xs [⟨true,[]⟩]=some (.bool true,H'):=by
 intro xs h0
 obtain ⟨a0,ys0,rfl,⟨l,t,k,d,rfl⟩,h1⟩:=Eng.allA_cons h0
 obtain rfl:=Eng.allA_nil h1
 exact ⟨_,Eng.c3 0 _ l k t d⟩
theorem laySheets_lifted (os:Os) (started:os.Started) (H:Type) (enc:TypeId×Value→H) :
 ReturnsInHanded {} Try.checked os 3 .any (Rows.laySheetsSpec.pre6 enc Try.prog Try.f3 Rows.laySheetsRow.domain false) (Rows.laySheetsSpec.post enc Try.prog Try.f3 false true false false):=by
 refine returnsInHanded_of_change (C:=Try.checked) Eng.own started (by kernel_rfl) Try.func3
  (ChangeSpec.witness6 (enc:=enc) (C:=Try.checked) false ⟨#[],#[.agg #[.slice none 0 0,.slice none 0 0]],[]⟩ 8 (by kernel_rfl) (by kernel_rfl) (by kernel_rfl) (by kernel_rfl)) ?_
 intro W base args ds gs before hval0 hW hcnd _
 have hval:∀ (j:Nat) t v,Try.f3.params[j]?=some t→args[j]?=some v→Value.okWide Try.prog W .any base t v:=hval0
 have hW':=hW
 obtain ⟨p,q,hA0,hV,rfl,hfz,hnd⟩:=hW
 have hA:DataW.TrodAll enc Try.prog W 0 (fun _=>true) true Try.f3.params.toList args.toList ds p:=hA0
 rw[Try.params3] at hA hval
 have hA':=hA
 obtain ⟨v0,w0,d0,e0,p0,q0,hv0,rfl,rfl,h0,hA0⟩:=trodAll_cons hA
 obtain ⟨_,rfl,rfl⟩:=trodAll_nil hA0
 obtain ⟨rfl,rfl⟩:=trodVars_none hV
 clear hA0 hval0
 simp only[List.append_nil] at hW'
 refine (Eng.law_calls (ts:=[24]) (As:=[Eng.ASheet]) ⟨Eng.argSheet,trivial⟩ laySheets_law (fun j t v h1 h2=>hval j t v (by simpa using h1) h2) hA').mono fun e W' ⟨he,hg⟩=>?_
 subst he
 have hA2:DataW.TrodAll enc Try.prog W 0 (fun _=>true) true [24] args.toList _ _:=hA'
 simp only[List.append_nil] at hA2
 have old:∀ x ∈ p0,x.block<W.heap.size:=fun x hx=>hW'.lt x hx
 refine ⟨_,rfl,Eng.post_of_below (pa:=p0) (pv:=[]) hW' hg (fun _ _ _=>trodAll_mk1 (shut_bool Try.underlying4 _)) (fun sp hs=>?_) (fun _ _=>rfl) (by simp)
  (ok_one (by kernel_rfl) rfl (okWide_bool_mk Try.underlying4 _))⟩
 rw[Try.params3]
 exact Eng.stays_all Eng.laidOut [24] args.toList _ _ (by decide +kernel) hA2 (fun x hx=>hg.same (old x hx)) hs

theorem sheets_holds:Rows.LaySheetsSaid :=
 OpenClaim.holds_of_wide 3 Try.f3 rfl rfl rfl rfl rfl rfl rfl ⟨rfl,rfl,rfl,rfl,rfl⟩ rfl rfl rfl rfl rfl (by kernel_rfl) Try.func3 (by kernel_rfl)
  (of_decide_eq_true (by kernel_rfl)) (by unfold Func.isWrapper;first | (rw[if_pos (by decide +kernel)];kernel_rfl) | (rw[if_neg (by decide +kernel)];exact ⟨rfl,rfl⟩))
  (fun os started H enc _=>laySheets_lifted os started H enc)
end Go.Proofs.Ytoomemfhcbajoaa
