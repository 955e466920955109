/- The law GallCounted, as its card says it: whatever list and two numbers are given, the function returns true and leaves what was there as it was; the two listed tables of the library hold what the program's text lays there. No conditions. -/
import Derived.Test.YtgphpjdchnfjlaaDoorV2Gbqx13
import Derived.Test.YtgphpjdchnfjlaaDoorV2Gak12x6
set_option linter.unusedVariables false
set_option maxRecDepth 100000
namespace Go.Proofs.YtgphpjdchnfjlaaDoor
open Go.ChangeShapes Go.WideShapes Go.ChangeAt Go.RowKit
theorem qP:∀ xs,Eng.zL [Eng.N5,Eng.N6] xs→∃ H',Eng.cd 19 (.fn 9) xs [⟨true,[]⟩]=some (.bool true,H'):=by
 intro xs h0
 obtain ⟨a0,ys0,rfl,⟨dr,lc,zc,lb,zb,rfl⟩,h1⟩:=Eng.uy h0
 obtain ⟨a1,ys1,rfl,⟨w0,w1,rfl,hw0,hw1⟩,h2⟩:=Eng.uy h1
 obtain rfl:=Eng.DS h2
 exact ⟨_,Eng.c9 dr lc zc lb zb 0 _ w0 w1 hw0 hw1⟩
theorem np (os:Os) (started:os.Started) (H:Type) (enc:TypeId×Value→H) :
 ReturnsInHanded {} Tryd.checked os 9 .any (fun w args=>(Rows.gallCountedSpec.pre enc Tryd.prog Tryd.f9 [] false w args∧laidMetH Tryd.prog AZ w)∧sizedMet enc Tryd.prog Tryd.f9 (OpenSpec.ofChange Rows.gallCountedSpec) false w args) (Rows.gallCountedSpec.post enc Tryd.prog Tryd.f9 false true false false):=by
 refine returnsInHanded_of_change_and (C:=Tryd.checked) (X:=fun w _=>laidMetH Tryd.prog AZ w) (fun _ _ _ hh h=>h.of_heap hh) Tryd.own started (by kernel_rfl) Tryd.func9
  (ChangeSpec.witness_at (enc:=enc) (C:=Tryd.checked) (os:=os) (X:=fun w _=>laidMetH Tryd.prog AZ w) false (pM os) #[.agg #[.int .i64 0,.slice none 0 0,.slice none 0 0],.agg #[.int .u8 0,.int .u8 0]] 8 rfl (by kernel_rfl) (by kernel_rfl) (by kernel_rfl) (by kernel_rfl) (by kernel_rfl) (ET os _)) ?_
 intro W base args ds gs before hval0 hW _ _ hL _
 have hval:∀ (j:Nat) t v,Tryd.f9.params[j]?=some t→args[j]?=some v→Value.okWide Tryd.prog W .any base t v:=hval0
 have hW':=hW
 obtain ⟨p,q,hA0,hV,rfl,hfz,hnd⟩:=hW
 have hA:DataW.TrodAll enc Tryd.prog W 0 (fun _=>true) true Tryd.f9.params.toList args.toList ds p:=hA0
 rw[Tryd.params9] at hA hval
 have hA':=hA
 obtain ⟨v0,w0,d0,e0,p0,q0,hv0,rfl,rfl,h0,hA0⟩:=trodAll_cons hA
 obtain ⟨v1,w1,d1,e1,p1,q1,hv1,rfl,rfl,h1,hA1⟩:=trodAll_cons hA0
 obtain ⟨_,rfl,rfl⟩:=trodAll_nil hA1
 obtain ⟨rfl,rfl⟩:=trodVars_none hV
 clear hA0 hval0
 simp only[List.append_nil] at hW'
 refine (Eng.Dc (ts:=[25,67]) (As:=[Eng.N5,Eng.N6]) ⟨Eng.LI,Eng.LJ,trivial⟩ qP (EF hL) (fun j t v h1 h2=>hval j t v (by simpa using h1) h2) hA').mono fun e W' ⟨he,hg⟩=>?_
 subst he
 have hA2:DataW.TrodAll enc Tryd.prog W 0 (fun _=>true) true [25,67] args.toList _ _:=hA'
 simp only[List.append_nil] at hA2
 have old:∀ x ∈ p0++(p1),x.block<W.heap.size:=fun x hx=>hW'.lt x hx
 refine ⟨_,rfl,Eng.ur (pa:=p0++(p1)) (pv:=[]) hW' hg (fun _ _ _=>trodAll_mk1 (shut_bool Tryd.underlying4 _)) (fun sp hs=>?_) (fun _ _=>rfl) (by simp)
  (ok_one (by kernel_rfl) rfl (okWide_bool_mk Tryd.underlying4 _))⟩
 rw[Tryd.params9]
 exact Eng.vz Eng.laidOut [25,67] args.toList _ _ (by decide +kernel) hA2 (fun x hx=>hg.same (old x hx)) hs

theorem qQ:Rows.GallCountedSaid :=
 OpenClaim.holds_of_wide 9 Tryd.f9 rfl rfl rfl rfl rfl rfl rfl ⟨rfl,rfl,rfl,rfl,rfl⟩ rfl rfl rfl rfl rfl (by kernel_rfl) Tryd.func9 (by kernel_rfl)
  (of_decide_eq_true (by kernel_rfl)) (by unfold Func.isWrapper;first | (rw[if_pos (by decide +kernel)];kernel_rfl) | (rw[if_neg (by decide +kernel)];exact ⟨rfl,rfl⟩))
  (fun os started H enc _=>np os started H enc)
theorem counted_holds:Rows.GallCountedCardSaid :=
 Claim7.holds_tied_plain_at .later [] [.data,.data] true (true, "5391bc36d3f32e4531338bbca1722ed77a5026a21751ee906f9f2b3c27ddc373") false
  qQ (fun _ h=>by cases h) (by kernel_rfl) (fun _ h=>by cases h) gallCounted_row_tie rfl ⟨rfl,rfl⟩ (by kernel_rfl) rfl
  (fun f fn hf hfn=>by
    obtain rfl:9=f:=Option.some.inj ((show Tryd.prog.funcNamed "oxgall/oxgalllaw05.GallCounted" = some 9 by kernel_rfl).symm.trans hf)
    obtain rfl:Tryd.f9=fn:=Option.some.inj (Tryd.func9.symm.trans hfn)
    exact ⟨by kernel_rfl,fun j t ht=>by
     rw[Tryd.params9] at ht
     have hm:t ∈ [25,67]:=by simpa using Array.mem_of_getElem? ht
     have hall:∀ t ∈ [25,67],Tryd.prog.wantsStandIn t=false:=by
      have h:([25,67].all fun t=>!Tryd.prog.wantsStandIn t)=true:=by kernel_rfl
      intro t ht
      have:=List.all_eq_true.1 h t ht
      simpa using this
     exact hall t hm⟩)
  (by kernel_rfl)
end Go.Proofs.YtgphpjdchnfjlaaDoor
