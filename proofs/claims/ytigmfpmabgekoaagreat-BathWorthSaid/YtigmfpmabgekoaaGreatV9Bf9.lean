/- The law BathWorth: whatever orders, number of baths, births, number for a bath and prices are given, the function returns true and leaves what was there as it was. No conditions. -/
import Derived.Test.YtigmfpmabgekoaaGreatV9Bw2x9
set_option linter.unusedVariables false
set_option maxRecDepth 100000
namespace Go.Proofs.YtigmfpmabgekoaaGreat
open Go.ChangeShapes Go.WideShapes Go.ChangeAt Go.RowKit
theorem uS:∀ xs,Eng.Az [Eng.Ji,Eng.NO,Eng.vr,Eng.Jh,Eng.vr] xs→∃ H',Eng.cd 17 (.fn 9) xs [⟨true,[]⟩]=some (.bool true,H'):=by
 intro xs h0
 obtain ⟨a0,ys0,rfl,⟨l,z,rfl⟩,h1⟩:=Eng.kj h0
 obtain ⟨a1,ys1,rfl,⟨w,rfl,hw⟩,h2⟩:=Eng.kj h1
 obtain ⟨a2,ys2,rfl,⟨kb,b,rfl,_⟩,h3⟩:=Eng.kj h2
 obtain ⟨a3,ys3,rfl,⟨pr,rfl,_⟩,h4⟩:=Eng.kj h3
 obtain ⟨a4,ys4,rfl,⟨kp,pp,rfl,_⟩,h5⟩:=Eng.kj h4
 obtain rfl:=Eng.Eo h5
 exact ⟨_,Eng.c9 0 l z w kb b pr kp pp hw⟩
theorem qn (os:Os) (started:os.Started) (H:Type) (enc:TypeId×Value→H) :
 ReturnsInHanded {} Tryz.checked os 9 .any (Rows.bathWorthSpec.pre6 enc Tryz.prog Tryz.f9 Rows.bathWorthRow.domain false) (Rows.bathWorthSpec.post enc Tryz.prog Tryz.f9 false true false false):=by
 refine returnsInHanded_of_change (C:=Tryz.checked) Eng.own started (by kernel_rfl) Tryz.func9
  (ChangeSpec.witness6 (enc:=enc) (C:=Tryz.checked) false ⟨#[],#[.slice none 0 0,.int .u8 0,.slice none 0 0,.int .i64 0,.slice none 0 0],[]⟩ 8 (by kernel_rfl) (by kernel_rfl) (by kernel_rfl) (by kernel_rfl)) ?_
 intro W base args ds gs before hval0 hW hcnd _
 have hval:∀ (j:Nat) t v,Tryz.f9.params[j]?=some t→args[j]?=some v→Value.okWide Tryz.prog W .any base t v:=hval0
 have hW':=hW
 obtain ⟨p,q,hA0,hV,rfl,hfz,hnd⟩:=hW
 have hA:DataW.TrodAll enc Tryz.prog W 0 (fun _=>true) true Tryz.f9.params.toList args.toList ds p:=hA0
 rw[Tryz.params9] at hA hval
 have hA':=hA
 obtain ⟨v0,w0,d0,e0,p0,q0,hv0,rfl,rfl,h0,hA0⟩:=trodAll_cons hA
 obtain ⟨v1,w1,d1,e1,p1,q1,hv1,rfl,rfl,h1,hA1⟩:=trodAll_cons hA0
 obtain ⟨v2,w2,d2,e2,p2,q2,hv2,rfl,rfl,h2,hA2⟩:=trodAll_cons hA1
 obtain ⟨v3,w3,d3,e3,p3,q3,hv3,rfl,rfl,h3,hA3⟩:=trodAll_cons hA2
 obtain ⟨v4,w4,d4,e4,p4,q4,hv4,rfl,rfl,h4,hA4⟩:=trodAll_cons hA3
 obtain ⟨_,rfl,rfl⟩:=trodAll_nil hA4
 obtain ⟨rfl,rfl⟩:=trodVars_none hV
 clear hA0 hval0
 simp only[List.append_nil] at hW'
 refine (Eng.DK (ts:=[22,5,36,2,36]) (As:=[Eng.Ji,Eng.NO,Eng.vr,Eng.Jh,Eng.vr]) ⟨Eng.Ju,Eng.Ld,Eng.IK,Eng.Jt,Eng.IK,trivial⟩ uS (fun j t v h1 h2=>hval j t v (by simpa using h1) h2) hA').mono fun e W' ⟨he,hg⟩=>?_
 subst he
 have hA2:DataW.TrodAll enc Tryz.prog W 0 (fun _=>true) true [22,5,36,2,36] args.toList _ _:=hA'
 simp only[List.append_nil] at hA2
 have old:∀ x ∈ p0++(p1++(p2++(p3++(p4)))),x.block<W.heap.size:=fun x hx=>hW'.lt x hx
 refine ⟨_,rfl,Eng.vn (pa:=p0++(p1++(p2++(p3++(p4))))) (pv:=[]) hW' hg (fun _ _ _=>trodAll_mk1 (shut_bool Tryz.underlying4 _)) (fun sp hs=>?_) (fun _ _=>rfl) (by simp)
  (ok_one (by kernel_rfl) rfl (okWide_bool_mk Tryz.underlying4 _))⟩
 rw[Tryz.params9]
 exact Eng.wI Eng.laidOut [22,5,36,2,36] args.toList _ _ (by decide +kernel) hA2 (fun x hx=>hg.same (old x hx)) hs

theorem worth_holds:Rows.BathWorthSaid :=
 OpenClaim.holds_of_wide 9 Tryz.f9 rfl rfl rfl rfl rfl rfl rfl ⟨rfl,rfl,rfl,rfl,rfl⟩ rfl rfl rfl rfl rfl (by kernel_rfl) Tryz.func9 (by kernel_rfl)
  (of_decide_eq_true (by kernel_rfl)) (by unfold Func.isWrapper;first | (rw[if_pos (by decide +kernel)];kernel_rfl) | (rw[if_neg (by decide +kernel)];exact ⟨rfl,rfl⟩))
  (fun os started H enc _=>qn os started H enc)
end Go.Proofs.YtigmfpmabgekoaaGreat
