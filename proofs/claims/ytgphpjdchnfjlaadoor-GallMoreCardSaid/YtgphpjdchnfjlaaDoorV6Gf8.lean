/- The law GallMore, as its card says it: whatever list, pair and numbers are given, the function returns true and leaves what was there as it was; the two listed tables of the library hold what the program's text lays there. No conditions. -/
import Derived.Test.YtgphpjdchnfjlaaDoorV6Gdhx15
import Derived.Test.YtgphpjdchnfjlaaDoorV6Gak13x5
set_option linter.unusedVariables false
set_option maxRecDepth 100000
namespace Go.Proofs.YtgphpjdchnfjlaaDoor
open Go.ChangeShapes Go.WideShapes Go.ChangeAt Go.RowKit
theorem wP:∀ xs,Eng.AF [Eng.P5,Eng.P6,Eng.P7,Eng.Lh] xs→∃ H',Eng.cd 19 (.fn 8) xs [⟨true,[]⟩]=some (.bool true,H'):=by
 intro xs h0;obtain ⟨a0,ys0,rfl,⟨O,U,Z,V,J,rfl⟩,h1⟩:=Eng.mZ h0;obtain ⟨a1,ys1,rfl,⟨p0,p1,rfl⟩,h2⟩:=Eng.mZ h1;obtain ⟨a2,ys2,rfl,⟨wh,rfl,hwh⟩,h3⟩:=Eng.mZ h2;obtain ⟨a3,ys3,rfl,⟨w0,w1,w2,w3,rfl,hw0,hw1,hw2,hw3⟩,h4⟩:=Eng.mZ h3;obtain rfl:=Eng.EZ h4;exact ⟨_,Eng.c8 O U Z V J 0 _ p0 p1 wh w0 w1 w2 w3 hwh hw0 hw1 hw2 hw3⟩
theorem ry (os:Os) (started:os.Started) (H:Type) (enc:TypeId×Value→H) :
 ReturnsInHanded {} Tryd.checked os 8 .any (fun w args=>(Rows.gallMoreSpec.pre enc Tryd.prog Tryd.f8 [] false w args∧laidMetH Tryd.prog BR w)∧sizedMet enc Tryd.prog Tryd.f8 (OpenSpec.ofChange Rows.gallMoreSpec) false w args) (Rows.gallMoreSpec.post enc Tryd.prog Tryd.f8 false true false false):=by
 refine returnsInHanded_of_change_and (C:=Tryd.checked) (X:=fun w _=>laidMetH Tryd.prog BR w) (fun _ _ _ hh h=>h.of_heap hh) Tryd.own started (by kernel_rfl) Tryd.func8
  (ChangeSpec.witness_at (enc:=enc) (C:=Tryd.checked) (os:=os) (X:=fun w _=>laidMetH Tryd.prog BR w) false (qt os) #[.agg #[.int .i64 0,.slice none 0 0,.slice none 0 0],.agg #[.int .i64 0,.int .i64 0],.int .u8 0,.agg #[.int .u16 0,.int .u16 0,.int .u16 0,.int .u16 0]] 8 rfl (by kernel_rfl) (by kernel_rfl) (by kernel_rfl) (by kernel_rfl) (by kernel_rfl) (Gj os _)) ?_
 intro W base args ds gs before hval0 hW _ _ hL _
 have hval:∀ (j:Nat) t v,Tryd.f8.params[j]?=some t→args[j]?=some v→Value.okWide Tryd.prog W .any base t v:=hval0
 have hW':=hW
 obtain ⟨p,q,hA0,hV,rfl,hfz,hnd⟩:=hW
 have hA:DataW.TrodAll enc Tryd.prog W 0 (fun _=>true) true Tryd.f8.params.toList args.toList ds p:=hA0
 rw[Tryd.params8] at hA hval
 have hA':=hA
 obtain ⟨v0,w0,d0,e0,p0,q0,hv0,rfl,rfl,h0,hA0⟩:=trodAll_cons hA
 obtain ⟨v1,w1,d1,e1,p1,q1,hv1,rfl,rfl,h1,hA1⟩:=trodAll_cons hA0
 obtain ⟨v2,w2,d2,e2,p2,q2,hv2,rfl,rfl,h2,hA2⟩:=trodAll_cons hA1
 obtain ⟨v3,w3,d3,e3,p3,q3,hv3,rfl,rfl,h3,hA3⟩:=trodAll_cons hA2
 obtain ⟨_,rfl,rfl⟩:=trodAll_nil hA3
 obtain ⟨rfl,rfl⟩:=trodVars_none hV
 clear hA0 hval0
 simp only[List.append_nil] at hW'
 refine (Eng.Ee (ts:=[25,61,5,62]) (As:=[Eng.P5,Eng.P6,Eng.P7,Eng.Lh]) ⟨Eng.Nx,Eng.Ny,Eng.Nz,Eng.Lt,trivial⟩ wP (F6 hL) (fun j t v h1 h2=>hval j t v (by simpa using h1) h2) hA').mono fun e W' ⟨he,hg⟩=>?_
 subst he
 have hA2:DataW.TrodAll enc Tryd.prog W 0 (fun _=>true) true [25,61,5,62] args.toList _ _:=hA'
 simp only[List.append_nil] at hA2
 have old:∀ x ∈ p0++(p1++(p2++(p3))),x.block<W.heap.size:=fun x hx=>hW'.lt x hx
 refine ⟨_,rfl,Eng.vi (pa:=p0++(p1++(p2++(p3)))) (pv:=[]) hW' hg (fun _ _ _=>trodAll_mk1 (shut_bool Tryd.underlying4 _)) (fun sp hs=>?_) (fun _ _=>rfl) (by simp)
  (ok_one (by kernel_rfl) rfl (okWide_bool_mk Tryd.underlying4 _))⟩
 rw[Tryd.params8]
 exact Eng.wi Eng.laidOut [25,61,5,62] args.toList _ _ (by decide +kernel) hA2 (fun x hx=>hg.same (old x hx)) hs

theorem wQ:Rows.GallMoreSaid :=
 OpenClaim.holds_of_wide 8 Tryd.f8 rfl rfl rfl rfl rfl rfl rfl ⟨rfl,rfl,rfl,rfl,rfl⟩ rfl rfl rfl rfl rfl (by kernel_rfl) Tryd.func8 (by kernel_rfl)
  (of_decide_eq_true (by kernel_rfl)) (by unfold Func.isWrapper;first | (rw[if_pos (by decide +kernel)];kernel_rfl) | (rw[if_neg (by decide +kernel)];exact ⟨rfl,rfl⟩))
  (fun os started H enc _=>ry os started H enc)
theorem more_holds:Rows.GallMoreCardSaid :=
 Claim7.holds_tied_plain_at .later [] [.data,.data] true (true, "5391bc36d3f32e4531338bbca1722ed77a5026a21751ee906f9f2b3c27ddc373") false
  wQ (fun _ h=>by cases h) (by kernel_rfl) (fun _ h=>by cases h) gallMore_row_tie rfl ⟨rfl,rfl⟩ (by kernel_rfl) rfl
  (fun f fn hf hfn=>by
    obtain rfl:8=f:=Option.some.inj ((show Tryd.prog.funcNamed "oxgall/oxgalllaw05.GallMore" = some 8 by kernel_rfl).symm.trans hf);obtain rfl:Tryd.f8=fn:=Option.some.inj (Tryd.func8.symm.trans hfn);exact ⟨by kernel_rfl,fun j t ht=>by
     rw[Tryd.params8] at ht;have hm:t ∈ [25,61,5,62]:=by simpa using Array.mem_of_getElem? ht
     have hall:∀ t ∈ [25,61,5,62],Tryd.prog.wantsStandIn t=false:=by
      have h:([25,61,5,62].all fun t=>!Tryd.prog.wantsStandIn t)=true:=by kernel_rfl
      intro t ht;have:=List.all_eq_true.1 h t ht;simpa using this
     exact hall t hm⟩)
  (by kernel_rfl)
end Go.Proofs.YtgphpjdchnfjlaaDoor
