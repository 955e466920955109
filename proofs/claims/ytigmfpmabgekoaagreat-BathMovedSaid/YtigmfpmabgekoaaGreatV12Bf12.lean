/- The law BathMoved: whatever orders and numbers are given, the function returns true and leaves what was there as it was. No conditions. -/
import Derived.Test.YtigmfpmabgekoaaGreatV12Bs3x8
import Derived.Test.YtigmfpmabgekoaaGreatV12BaFr
set_option linter.unusedVariables false
set_option maxRecDepth 100000
namespace Go.Proofs.YtigmfpmabgekoaaGreat
open Go.ChangeShapes Go.WideShapes Go.ChangeAt Go.RowKit
theorem uN:∀ xs,Eng.AD [Eng.Jz,Eng.JA,Eng.JB,Eng.JB,Eng.JB] xs→∃ H',Eng.cd 15 (.fn 12) xs [⟨true,[]⟩]=some (.bool true,H'):=by
 intro xs h0
 obtain ⟨a0,ys0,rfl,⟨l,z,rfl⟩,h1⟩:=Eng.kB h0
 obtain ⟨a1,ys1,rfl,⟨u,rfl,hu⟩,h2⟩:=Eng.kB h1
 obtain ⟨a2,ys2,rfl,⟨t,rfl,ht⟩,h3⟩:=Eng.kB h2
 obtain ⟨a3,ys3,rfl,⟨r,rfl,hr⟩,h4⟩:=Eng.kB h3
 obtain ⟨a4,ys4,rfl,⟨q,rfl,hq⟩,h5⟩:=Eng.kB h4
 obtain rfl:=Eng.Et h5
 exact ⟨_,Eng.R5 0 l z u t r q hu ht hr hq⟩
theorem qh (os:Os) (started:os.Started) (H:Type) (enc:TypeId×Value→H) :
 ReturnsInHanded {} Tryz.checked os 12 .any (Rows.bathMovedSpec.pre6 enc Tryz.prog Tryz.f12 Rows.bathMovedRow.domain false) (Rows.bathMovedSpec.post enc Tryz.prog Tryz.f12 false true false false):=by
 refine returnsInHanded_of_change (C:=Tryz.checked) Eng.own started (by kernel_rfl) Tryz.func12
  (ChangeSpec.witness6 (enc:=enc) (C:=Tryz.checked) false ⟨#[],#[.slice none 0 0,.int .u16 0,.int .u8 0,.int .u8 0,.int .u8 0],[]⟩ 8 (by kernel_rfl) (by kernel_rfl) (by kernel_rfl) (by kernel_rfl)) ?_
 intro W base args ds gs before hval0 hW hcnd _
 have hval:∀ (j:Nat) t v,Tryz.f12.params[j]?=some t→args[j]?=some v→Value.okWide Tryz.prog W .any base t v:=hval0
 have hW':=hW
 obtain ⟨p,q,hA0,hV,rfl,hfz,hnd⟩:=hW
 have hA:DataW.TrodAll enc Tryz.prog W 0 (fun _=>true) true Tryz.f12.params.toList args.toList ds p:=hA0
 rw[Tryz.params12] at hA hval
 have hA':=hA
 obtain ⟨v0,w0,d0,e0,p0,q0,hv0,rfl,rfl,h0,hA0⟩:=trodAll_cons hA
 obtain ⟨v1,w1,d1,e1,p1,q1,hv1,rfl,rfl,h1,hA1⟩:=trodAll_cons hA0
 obtain ⟨v2,w2,d2,e2,p2,q2,hv2,rfl,rfl,h2,hA2⟩:=trodAll_cons hA1
 obtain ⟨v3,w3,d3,e3,p3,q3,hv3,rfl,rfl,h3,hA3⟩:=trodAll_cons hA2
 obtain ⟨v4,w4,d4,e4,p4,q4,hv4,rfl,rfl,h4,hA4⟩:=trodAll_cons hA3
 obtain ⟨_,rfl,rfl⟩:=trodAll_nil hA4
 obtain ⟨rfl,rfl⟩:=trodVars_none hV
 clear hA0 hval0
 simp only[List.append_nil] at hW'
 refine (Eng.DP (ts:=[22,54,5,5,5]) (As:=[Eng.Jz,Eng.JA,Eng.JB,Eng.JB,Eng.JB]) ⟨Eng.JN,Eng.JO,Eng.EA,Eng.EA,Eng.EA,trivial⟩ uN (fun j t v h1 h2=>hval j t v (by simpa using h1) h2) hA').mono fun e W' ⟨he,hg⟩=>?_
 subst he
 have hA2:DataW.TrodAll enc Tryz.prog W 0 (fun _=>true) true [22,54,5,5,5] args.toList _ _:=hA'
 simp only[List.append_nil] at hA2
 have old:∀ x ∈ p0++(p1++(p2++(p3++(p4)))),x.block<W.heap.size:=fun x hx=>hW'.lt x hx
 refine ⟨_,rfl,Eng.vh (pa:=p0++(p1++(p2++(p3++(p4))))) (pv:=[]) hW' hg (fun _ _ _=>trodAll_mk1 (shut_bool Tryz.underlying4 _)) (fun sp hs=>?_) (fun _ _=>rfl) (by simp)
  (ok_one (by kernel_rfl) rfl (okWide_bool_mk Tryz.underlying4 _))⟩
 rw[Tryz.params12]
 exact Eng.wA Eng.laidOut [22,54,5,5,5] args.toList _ _ (by decide +kernel) hA2 (fun x hx=>hg.same (old x hx)) hs

theorem moved_holds:Rows.BathMovedSaid :=
 OpenClaim.holds_of_wide 12 Tryz.f12 rfl rfl rfl rfl rfl rfl rfl ⟨rfl,rfl,rfl,rfl,rfl⟩ rfl rfl rfl rfl rfl (by kernel_rfl) Tryz.func12 (by kernel_rfl)
  (of_decide_eq_true (by kernel_rfl)) (by unfold Func.isWrapper;first | (rw[if_pos (by decide +kernel)];kernel_rfl) | (rw[if_neg (by decide +kernel)];exact ⟨rfl,rfl⟩))
  (fun os started H enc _=>qh os started H enc)
end Go.Proofs.YtigmfpmabgekoaaGreat
