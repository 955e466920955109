/- The law GallPlaces, as its card says it: whatever list and two colours are given, the function returns true and leaves what was there as it was; the two listed tables of the library hold what the program's text lays there. No conditions. -/
import Derived.Test.YtgphpjdchnfjlaaDoorV6Gdrx19
set_option linter.unusedVariables false
set_option maxRecDepth 100000
namespace Go.Proofs.YtgphpjdchnfjlaaDoor
open Go.ChangeShapes Go.WideShapes Go.ChangeAt Go.RowKit
theorem su:∀ xs,Eng.Az [Eng.P3,Eng.ER,Eng.ER] xs→∃ H',Eng.cd 19 (.fn 5) xs [⟨true,[]⟩]=some (.bool true,H'):=by
 intro xs h0;obtain ⟨a0,ys0,rfl,⟨O,U,Z,V,J,rfl⟩,h1⟩:=Eng.pE h0;obtain ⟨a1,ys1,rfl,⟨c,rfl,_⟩,h2⟩:=Eng.pE h1;obtain ⟨a2,ys2,rfl,⟨d,rfl,_⟩,h3⟩:=Eng.pE h2;obtain rfl:=Eng.EV h3;exact ⟨_,Eng.c5 O U Z V J 0 _ c d⟩
theorem oS (os:Os) (started:os.Started) (H:Type) (enc:TypeId×Value→H) :
 ReturnsInHanded {} Tryd.checked os 5 .any (fun w args=>(Rows.gallPlacesSpec.pre enc Tryd.prog Tryd.f5 [] false w args∧laidMetH Tryd.prog BP w)∧sizedMet enc Tryd.prog Tryd.f5 (OpenSpec.ofChange Rows.gallPlacesSpec) false w args) (Rows.gallPlacesSpec.post enc Tryd.prog Tryd.f5 false true false false):=by
 refine returnsInHanded_of_change_and (C:=Tryd.checked) (X:=fun w _=>laidMetH Tryd.prog BP w) (fun _ _ _ hh h=>h.of_heap hh) Tryd.own started (by kernel_rfl) Tryd.func5
  (ChangeSpec.witness_at (enc:=enc) (C:=Tryd.checked) (os:=os) (X:=fun w _=>laidMetH Tryd.prog BP w) false (pZ os) #[.agg #[.int .i64 0,.slice none 0 0,.slice none 0 0],.int .i64 0,.int .i64 0] 8 rfl (by kernel_rfl) (by kernel_rfl) (by kernel_rfl) (by kernel_rfl) (by kernel_rfl) (Gf os _)) ?_
 intro W base args ds gs before hval0 hW _ _ hL _
 have hval:∀ (j:Nat) t v,Tryd.f5.params[j]?=some t→args[j]?=some v→Value.okWide Tryd.prog W .any base t v:=hval0
 have hW':=hW
 obtain ⟨p,q,hA0,hV,rfl,hfz,hnd⟩:=hW
 have hA:DataW.TrodAll enc Tryd.prog W 0 (fun _=>true) true Tryd.f5.params.toList args.toList ds p:=hA0
 rw[Tryd.params5] at hA hval
 have hA':=hA
 obtain ⟨v0,w0,d0,e0,p0,q0,hv0,rfl,rfl,h0,hA0⟩:=trodAll_cons hA
 obtain ⟨v1,w1,d1,e1,p1,q1,hv1,rfl,rfl,h1,hA1⟩:=trodAll_cons hA0
 obtain ⟨v2,w2,d2,e2,p2,q2,hv2,rfl,rfl,h2,hA2⟩:=trodAll_cons hA1
 obtain ⟨_,rfl,rfl⟩:=trodAll_nil hA2
 obtain ⟨rfl,rfl⟩:=trodVars_none hV
 clear hA0 hval0
 simp only[List.append_nil] at hW'
 refine (Eng.D8 (ts:=[25,3,3]) (As:=[Eng.P3,Eng.ER,Eng.ER]) ⟨Eng.Nt,Eng.Fa,Eng.Fa,trivial⟩ su (F2 hL) (fun j t v h1 h2=>hval j t v (by simpa using h1) h2) hA').mono fun e W' ⟨he,hg⟩=>?_
 subst he
 have hA2:DataW.TrodAll enc Tryd.prog W 0 (fun _=>true) true [25,3,3] args.toList _ _:=hA'
 simp only[List.append_nil] at hA2
 have old:∀ x ∈ p0++(p1++(p2)),x.block<W.heap.size:=fun x hx=>hW'.lt x hx
 refine ⟨_,rfl,Eng.uR (pa:=p0++(p1++(p2))) (pv:=[]) hW' hg (fun _ _ _=>trodAll_mk1 (shut_bool Tryd.underlying4 _)) (fun sp hs=>?_) (fun _ _=>rfl) (by simp)
  (ok_one (by kernel_rfl) rfl (okWide_bool_mk Tryd.underlying4 _))⟩
 rw[Tryd.params5]
 exact Eng.vQ Eng.laidOut [25,3,3] args.toList _ _ (by decide +kernel) hA2 (fun x hx=>hg.same (old x hx)) hs

theorem sv:Rows.GallPlacesSaid :=
 OpenClaim.holds_of_wide 5 Tryd.f5 rfl rfl rfl rfl rfl rfl rfl ⟨rfl,rfl,rfl,rfl,rfl⟩ rfl rfl rfl rfl rfl (by kernel_rfl) Tryd.func5 (by kernel_rfl)
  (of_decide_eq_true (by kernel_rfl)) (by unfold Func.isWrapper;first | (rw[if_pos (by decide +kernel)];kernel_rfl) | (rw[if_neg (by decide +kernel)];exact ⟨rfl,rfl⟩))
  (fun os started H enc _=>oS os started H enc)
theorem places_holds:Rows.GallPlacesCardSaid :=
 Claim7.holds_tied_plain_at .later [] [.data,.data] true (true, "5391bc36d3f32e4531338bbca1722ed77a5026a21751ee906f9f2b3c27ddc373") false
  sv (fun _ h=>by cases h) (by kernel_rfl) (fun _ h=>by cases h) gallPlaces_row_tie rfl ⟨rfl,rfl⟩ (by kernel_rfl) rfl
  (fun f fn hf hfn=>by
    obtain rfl:5=f:=Option.some.inj ((show Tryd.prog.funcNamed "oxgall/oxgalllaw05.GallPlaces" = some 5 by kernel_rfl).symm.trans hf);obtain rfl:Tryd.f5=fn:=Option.some.inj (Tryd.func5.symm.trans hfn);exact ⟨by kernel_rfl,fun j t ht=>by
     rw[Tryd.params5] at ht;have hm:t ∈ [25,3,3]:=by simpa using Array.mem_of_getElem? ht
     have hall:∀ t ∈ [25,3,3],Tryd.prog.wantsStandIn t=false:=by
      have h:([25,3,3].all fun t=>!Tryd.prog.wantsStandIn t)=true:=by kernel_rfl
      intro t ht;have:=List.all_eq_true.1 h t ht;simpa using this
     exact hall t hm⟩)
  (by kernel_rfl)
end Go.Proofs.YtgphpjdchnfjlaaDoor
