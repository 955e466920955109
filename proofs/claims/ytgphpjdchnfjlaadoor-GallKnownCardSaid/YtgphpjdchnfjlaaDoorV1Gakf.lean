/- The law GallKnown, as its card says it: the function returns true and leaves what was there as it was; the two listed tables of the library hold what the program's text lays there. No conditions. -/
import Derived.Test.YtgphpjdchnfjlaaDoorV1GaFr0x7
import Derived.Test.YtgphpjdchnfjlaaDoorV1Gak1x15
set_option linter.unusedVariables false
namespace Go.Proofs.YtgphpjdchnfjlaaDoor
open Go.ChangeShapes Go.WideShapes Go.ChangeAt Go.RowKit
set_option maxRecDepth 100000 in
theorem rT (os:Os) (started:os.Started) (H:Type) (enc:TypeId×Value→H) :
 ReturnsInHanded {} Tryd.checked os 13 .any (fun w args=>(Rows.gallKnownSpec.pre enc Tryd.prog Tryd.f13 [] false w args∧laidMetH Tryd.prog wh w)∧sizedMet enc Tryd.prog Tryd.f13 (OpenSpec.ofChange Rows.gallKnownSpec) false w args)
  (Rows.gallKnownSpec.post enc Tryd.prog Tryd.f13 false true false false):=by
 refine returnsInHanded_of_change_and (C:=Tryd.checked) (X:=fun w _=>laidMetH Tryd.prog wh w) (fun _ _ _ hh h=>h.of_heap hh) Tryd.own started (by kernel_rfl) Tryd.func13
  (ChangeSpec.witness_at (enc:=enc) (C:=Tryd.checked) (os:=os) (X:=fun w _=>laidMetH Tryd.prog wh w) false (mC os) #[] 8 rfl (by kernel_rfl) (by kernel_rfl) (by kernel_rfl) (by kernel_rfl) (by kernel_rfl) (zS os _)) ?_
 intro W base args ds gs before hval0 hW _ _ hL _
 have hW':=hW
 obtain ⟨p,q,hA0,hV,rfl,hfz,hnd⟩:=hW
 have hA:DataW.TrodAll enc Tryd.prog W 0 (fun _=>true) true Tryd.f13.params.toList args.toList ds p:=hA0
 rw[Tryd.params13] at hA
 obtain ⟨rfl,rfl,rfl⟩:=trodAll_none hA
 obtain ⟨rfl,rfl⟩:=trodVars_none hV
 clear hA0 hval0
 simp only[List.append_nil] at hW'
 refine (Eng.Gall.tb W (zH hL)).mono fun e W' ⟨he,hg⟩=>?_
 subst he
 exact ⟨_,rfl,Eng.qx (pa:=[]) (pv:=[]) hW' hg (fun _ _ _=>trodAll_mk1 (shut_bool Tryd.underlying4 _)) (fun sp _=>trodAll_mk0) (fun _ _=>rfl) rfl
  (ok_one (by kernel_rfl) rfl (okWide_bool_mk Tryd.underlying4 _))⟩
theorem yf:Rows.GallKnownSaid :=
 OpenClaim.holds_of_wide 13 Tryd.f13 rfl rfl rfl rfl rfl rfl rfl ⟨rfl,rfl,rfl,rfl,rfl⟩ rfl rfl rfl rfl rfl (by kernel_rfl) Tryd.func13 (by kernel_rfl)
  (of_decide_eq_true (by kernel_rfl)) (by unfold Func.isWrapper;first | (rw[if_pos (by decide +kernel)];kernel_rfl) | (rw[if_neg (by decide +kernel)];exact ⟨rfl,rfl⟩))
  (fun os started H enc _=>rT os started H enc)
theorem known_holds:Rows.GallKnownCardSaid :=
 Claim7.holds_tied_plain_at .later [] [.data,.data] true (true, "5391bc36d3f32e4531338bbca1722ed77a5026a21751ee906f9f2b3c27ddc373") false
  yf (fun _ h=>by cases h) (by kernel_rfl) (fun _ h=>by cases h) gallKnown_row_tie rfl ⟨rfl,rfl⟩ (by kernel_rfl) rfl
  (fun f fn hf hfn=>by
    obtain rfl:13=f:=Option.some.inj ((show Tryd.prog.funcNamed "oxgall/oxgalllaw05.GallKnown" = some 13 by kernel_rfl).symm.trans hf)
    obtain rfl:Tryd.f13=fn:=Option.some.inj (Tryd.func13.symm.trans hfn)
    exact ⟨by kernel_rfl,fun j t ht=>by
     rw[Tryd.params13] at ht
     simp at ht⟩)
  (by kernel_rfl)
end Go.Proofs.YtgphpjdchnfjlaaDoor
