/- The law GallBlocks, as its card says it: whatever list and block are given, the function returns true and leaves what was there as it was; the two listed tables of the library hold what the program's text lays there. No conditions. -/
import Derived.Test.YtgphpjdchnfjlaaDoorV6Gdux10
import Derived.Test.YtgphpjdchnfjlaaDoorV6Gak4x14
set_option linter.unusedVariables false
set_option maxRecDepth 100000
namespace Go.Proofs.YtgphpjdchnfjlaaDoor
open Go.ChangeShapes Go.WideShapes Go.ChangeAt Go.RowKit
theorem sr:∀ xs,Eng.AD [Eng.P0,Eng.PZ] xs→∃ H',Eng.cd 19 (.fn 4) xs [⟨true,[]⟩]=some (.bool true,H'):=by
 intro xs h0;obtain ⟨a0,ys0,rfl,⟨O,U,Z,V,J,rfl⟩,h1⟩:=Eng.uW h0;obtain ⟨a1,ys1,rfl,⟨f,t,m,z,rfl⟩,h2⟩:=Eng.uW h1;obtain rfl:=Eng.ER h2;exact ⟨_,Eng.c4 O U Z V J 0 _ f t m z⟩
theorem oR (os:Os) (started:os.Started) (H:Type) (enc:TypeId×Value→H) :
 ReturnsInHanded {} Tryd.checked os 4 .any (fun w args=>(Rows.gallBlocksSpec.pre enc Tryd.prog Tryd.f4 [] false w args∧laidMetH Tryd.prog BM w)∧sizedMet enc Tryd.prog Tryd.f4 (OpenSpec.ofChange Rows.gallBlocksSpec) false w args) (Rows.gallBlocksSpec.post enc Tryd.prog Tryd.f4 false true false false):=by
 refine returnsInHanded_of_change_and (C:=Tryd.checked) (X:=fun w _=>laidMetH Tryd.prog BM w) (fun _ _ _ hh h=>h.of_heap hh) Tryd.own started (by kernel_rfl) Tryd.func4
  (ChangeSpec.witness_at (enc:=enc) (C:=Tryd.checked) (os:=os) (X:=fun w _=>laidMetH Tryd.prog BM w) false (pZ os) #[.agg #[.int .i64 0,.slice none 0 0,.slice none 0 0],.agg #[.int .i64 0,.int .i64 0,.slice none 0 0]] 8 rfl (by kernel_rfl) (by kernel_rfl) (by kernel_rfl) (by kernel_rfl) (by kernel_rfl) (F5 os _)) ?_
 intro W base args ds gs before hval0 hW _ _ hL _
 have hval:∀ (j:Nat) t v,Tryd.f4.params[j]?=some t→args[j]?=some v→Value.okWide Tryd.prog W .any base t v:=hval0
 have hW':=hW
 obtain ⟨p,q,hA0,hV,rfl,hfz,hnd⟩:=hW
 have hA:DataW.TrodAll enc Tryd.prog W 0 (fun _=>true) true Tryd.f4.params.toList args.toList ds p:=hA0
 rw[Tryd.params4] at hA hval
 have hA':=hA
 obtain ⟨v0,w0,d0,e0,p0,q0,hv0,rfl,rfl,h0,hA0⟩:=trodAll_cons hA
 obtain ⟨v1,w1,d1,e1,p1,q1,hv1,rfl,rfl,h1,hA1⟩:=trodAll_cons hA0
 obtain ⟨_,rfl,rfl⟩:=trodAll_nil hA1
 obtain ⟨rfl,rfl⟩:=trodVars_none hV
 clear hA0 hval0
 simp only[List.append_nil] at hW'
 refine (Eng.D8 (ts:=[25,38]) (As:=[Eng.P0,Eng.PZ]) ⟨Eng.Nk,Eng.Nj,trivial⟩ sr (FV hL) (fun j t v h1 h2=>hval j t v (by simpa using h1) h2) hA').mono fun e W' ⟨he,hg⟩=>?_
 subst he
 have hA2:DataW.TrodAll enc Tryd.prog W 0 (fun _=>true) true [25,38] args.toList _ _:=hA'
 simp only[List.append_nil] at hA2
 have old:∀ x ∈ p0++(p1),x.block<W.heap.size:=fun x hx=>hW'.lt x hx
 refine ⟨_,rfl,Eng.uQ (pa:=p0++(p1)) (pv:=[]) hW' hg (fun _ _ _=>trodAll_mk1 (shut_bool Tryd.underlying4 _)) (fun sp hs=>?_) (fun _ _=>rfl) (by simp)
  (ok_one (by kernel_rfl) rfl (okWide_bool_mk Tryd.underlying4 _))⟩
 rw[Tryd.params4]
 exact Eng.vU Eng.laidOut [25,38] args.toList _ _ (by decide +kernel) hA2 (fun x hx=>hg.same (old x hx)) hs

theorem ss:Rows.GallBlocksSaid :=
 OpenClaim.holds_of_wide 4 Tryd.f4 rfl rfl rfl rfl rfl rfl rfl ⟨rfl,rfl,rfl,rfl,rfl⟩ rfl rfl rfl rfl rfl (by kernel_rfl) Tryd.func4 (by kernel_rfl)
  (of_decide_eq_true (by kernel_rfl)) (by unfold Func.isWrapper;first | (rw[if_pos (by decide +kernel)];kernel_rfl) | (rw[if_neg (by decide +kernel)];exact ⟨rfl,rfl⟩))
  (fun os started H enc _=>oR os started H enc)
theorem blocks_holds:Rows.GallBlocksCardSaid :=
 Claim7.holds_tied_plain_at .later [] [.data,.data] true (true, "5391bc36d3f32e4531338bbca1722ed77a5026a21751ee906f9f2b3c27ddc373") false
  ss (fun _ h=>by cases h) (by kernel_rfl) (fun _ h=>by cases h) gallBlocks_row_tie rfl ⟨rfl,rfl⟩ (by kernel_rfl) rfl
  (fun f fn hf hfn=>by
    obtain rfl:4=f:=Option.some.inj ((show Tryd.prog.funcNamed "oxgall/oxgalllaw05.GallBlocks" = some 4 by kernel_rfl).symm.trans hf);obtain rfl:Tryd.f4=fn:=Option.some.inj (Tryd.func4.symm.trans hfn);exact ⟨by kernel_rfl,fun j t ht=>by
     rw[Tryd.params4] at ht;have hm:t ∈ [25,38]:=by simpa using Array.mem_of_getElem? ht
     have hall:∀ t ∈ [25,38],Tryd.prog.wantsStandIn t=false:=by
      have h:([25,38].all fun t=>!Tryd.prog.wantsStandIn t)=true:=by kernel_rfl
      intro t ht;have:=List.all_eq_true.1 h t ht;simpa using this
     exact hall t hm⟩)
  (by kernel_rfl)
end Go.Proofs.YtgphpjdchnfjlaaDoor
