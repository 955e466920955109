/- The law GallStronger, as its card says it: whatever list, numbers and order are given, the function returns true and leaves what was there as it was; the two listed tables of the library hold what the program's text lays there. No conditions. -/
import Derived.Test.YtgphpjdchnfjlaaDoorV4Gcix17
import Derived.Test.YtgphpjdchnfjlaaDoorV4GaFrx2
set_option linter.unusedVariables false
set_option maxRecDepth 100000
namespace Go.Proofs.YtgphpjdchnfjlaaDoor
open Go.ChangeShapes Go.WideShapes Go.ChangeAt Go.RowKit
theorem pQ:∀ xs,Eng.Al [Eng.PG,Eng.KY,Eng.Na,Eng.Na,Eng.BJ] xs→∃ H',Eng.cd 19 (.fn 10) xs [⟨true,[]⟩]=some (.bool true,H'):=by
 intro xs h0;obtain ⟨a0,ys0,rfl,⟨dr,lc,zc,lb,zb,rfl⟩,h1⟩:=Eng.j5 h0;obtain ⟨a1,ys1,rfl,⟨u,rfl,hu⟩,h2⟩:=Eng.j5 h1;obtain ⟨a2,ys2,rfl,⟨tm,rfl,htm⟩,h3⟩:=Eng.j5 h2;obtain ⟨a3,ys3,rfl,⟨wh,rfl,hwh⟩,h4⟩:=Eng.j5 h3;obtain ⟨a4,ys4,rfl,⟨mo,zo,rfl,_⟩,h5⟩:=Eng.j5 h4;obtain rfl:=Eng.EB h5;exact ⟨_,Eng.Ug dr lc zc lb zb 0 _ u tm wh mo zo hu htm hwh⟩
theorem na (os:Os) (started:os.Started) (H:Type) (enc:TypeId×Value→H) :
 ReturnsInHanded {} Tryd.checked os 10 .any (fun w args=>(Rows.gallStrongerSpec.pre enc Tryd.prog Tryd.f10 [] false w args∧laidMetH Tryd.prog Bz w)∧sizedMet enc Tryd.prog Tryd.f10 (OpenSpec.ofChange Rows.gallStrongerSpec) false w args) (Rows.gallStrongerSpec.post enc Tryd.prog Tryd.f10 false true false false):=by
 refine returnsInHanded_of_change_and (C:=Tryd.checked) (X:=fun w _=>laidMetH Tryd.prog Bz w) (fun _ _ _ hh h=>h.of_heap hh) Tryd.own started (by kernel_rfl) Tryd.func10
  (ChangeSpec.witness_at (enc:=enc) (C:=Tryd.checked) (os:=os) (X:=fun w _=>laidMetH Tryd.prog Bz w) false (qb os) #[.agg #[.int .i64 0,.slice none 0 0,.slice none 0 0],.int .u16 0,.int .u8 0,.int .u8 0,.slice none 0 0] 8 rfl (by kernel_rfl) (by kernel_rfl) (by kernel_rfl) (by kernel_rfl) (by kernel_rfl) (FV os _)) ?_
 intro W base args ds gs before hval0 hW _ _ hL _
 have hval:∀ (j:Nat) t v,Tryd.f10.params[j]?=some t→args[j]?=some v→Value.okWide Tryd.prog W .any base t v:=hval0
 have hW':=hW
 obtain ⟨p,q,hA0,hV,rfl,hfz,hnd⟩:=hW
 have hA:DataW.TrodAll enc Tryd.prog W 0 (fun _=>true) true Tryd.f10.params.toList args.toList ds p:=hA0
 rw[Tryd.params10] at hA hval
 have hA':=hA
 obtain ⟨v0,w0,d0,e0,p0,q0,hv0,rfl,rfl,h0,hA0⟩:=trodAll_cons hA
 obtain ⟨v1,w1,d1,e1,p1,q1,hv1,rfl,rfl,h1,hA1⟩:=trodAll_cons hA0
 obtain ⟨v2,w2,d2,e2,p2,q2,hv2,rfl,rfl,h2,hA2⟩:=trodAll_cons hA1
 obtain ⟨v3,w3,d3,e3,p3,q3,hv3,rfl,rfl,h3,hA3⟩:=trodAll_cons hA2
 obtain ⟨v4,w4,d4,e4,p4,q4,hv4,rfl,rfl,h4,hA4⟩:=trodAll_cons hA3
 obtain ⟨_,rfl,rfl⟩:=trodAll_nil hA4
 obtain ⟨rfl,rfl⟩:=trodVars_none hV
 clear hA0 hval0
 simp only[List.append_nil] at hW'
 refine (Eng.DT (ts:=[25,57,5,5,36]) (As:=[Eng.PG,Eng.KY,Eng.Na,Eng.Na,Eng.BJ]) ⟨Eng.Ng,Eng.La,Eng.Jx,Eng.Jx,Eng.Nf,trivial⟩ pQ (FI hL) (fun j t v h1 h2=>hval j t v (by simpa using h1) h2) hA').mono fun e W' ⟨he,hg⟩=>?_
 subst he
 have hA2:DataW.TrodAll enc Tryd.prog W 0 (fun _=>true) true [25,57,5,5,36] args.toList _ _:=hA'
 simp only[List.append_nil] at hA2
 have old:∀ x ∈ p0++(p1++(p2++(p3++(p4)))),x.block<W.heap.size:=fun x hx=>hW'.lt x hx
 refine ⟨_,rfl,Eng.uK (pa:=p0++(p1++(p2++(p3++(p4))))) (pv:=[]) hW' hg (fun _ _ _=>trodAll_mk1 (shut_bool Tryd.underlying4 _)) (fun sp hs=>?_) (fun _ _=>rfl) (by simp)
  (ok_one (by kernel_rfl) rfl (okWide_bool_mk Tryd.underlying4 _))⟩
 rw[Tryd.params10]
 exact Eng.vL Eng.laidOut [25,57,5,5,36] args.toList _ _ (by decide +kernel) hA2 (fun x hx=>hg.same (old x hx)) hs

theorem pR:Rows.GallStrongerSaid :=
 OpenClaim.holds_of_wide 10 Tryd.f10 rfl rfl rfl rfl rfl rfl rfl ⟨rfl,rfl,rfl,rfl,rfl⟩ rfl rfl rfl rfl rfl (by kernel_rfl) Tryd.func10 (by kernel_rfl)
  (of_decide_eq_true (by kernel_rfl)) (by unfold Func.isWrapper;first | (rw[if_pos (by decide +kernel)];kernel_rfl) | (rw[if_neg (by decide +kernel)];exact ⟨rfl,rfl⟩))
  (fun os started H enc _=>na os started H enc)
theorem stronger_holds:Rows.GallStrongerCardSaid :=
 Claim7.holds_tied_plain_at .later [] [.data,.data] true (true, "5391bc36d3f32e4531338bbca1722ed77a5026a21751ee906f9f2b3c27ddc373") false
  pR (fun _ h=>by cases h) (by kernel_rfl) (fun _ h=>by cases h) gallStronger_row_tie rfl ⟨rfl,rfl⟩ (by kernel_rfl) rfl
  (fun f fn hf hfn=>by
    obtain rfl:10=f:=Option.some.inj ((show Tryd.prog.funcNamed "oxgall/oxgalllaw05.GallStronger" = some 10 by kernel_rfl).symm.trans hf);obtain rfl:Tryd.f10=fn:=Option.some.inj (Tryd.func10.symm.trans hfn);exact ⟨by kernel_rfl,fun j t ht=>by
     rw[Tryd.params10] at ht;have hm:t ∈ [25,57,5,5,36]:=by simpa using Array.mem_of_getElem? ht
     have hall:∀ t ∈ [25,57,5,5,36],Tryd.prog.wantsStandIn t=false:=by
      have h:([25,57,5,5,36].all fun t=>!Tryd.prog.wantsStandIn t)=true:=by kernel_rfl
      intro t ht;have:=List.all_eq_true.1 h t ht;simpa using this
     exact hall t hm⟩)
  (by kernel_rfl)
end Go.Proofs.YtgphpjdchnfjlaaDoor
