/- The law BathBests: whatever orders and births are given, the function returns true and leaves what was there as it was. No conditions. -/
import Derived.Test.YtigmfpmabgekoaaGreatV4Be4x9
import Derived.Test.YtigmfpmabgekoaaGreatV4BaFr
namespace Go.Proofs.YtigmfpmabgekoaaGreat
open Go.ChangeShapes Go.WideShapes Go.ChangeAt Go.RowKit
set_option linter.unusedVariables false
set_option maxRecDepth 100000
theorem bathBests_law:∀ xs,Eng.AllA [Eng.AOrd,Eng.AI64s] xs→∃ H',Eng.cd 15 (.fn 4) xs [⟨true,[]⟩]=some (.bool true,H'):=by
 intro xs h0
 obtain ⟨a0,ys0,rfl,⟨l,z,rfl⟩,h1⟩:=Eng.allA_cons h0
 obtain ⟨a1,ys1,rfl,⟨k,b,rfl,_⟩,h2⟩:=Eng.allA_cons h1
 obtain rfl:=Eng.allA_nil h2
 exact ⟨_,Eng.c4 0 l k z b false _⟩
theorem bathBests_lifted (os:Os) (started:os.Started) (H:Type) (enc:TypeId×Value→H) :
 ReturnsInHanded {} Tryz.checked os 4 .any (Rows.bathBestsSpec.pre6 enc Tryz.prog Tryz.f4 Rows.bathBestsRow.domain false) (Rows.bathBestsSpec.post enc Tryz.prog Tryz.f4 false true false false):=by
 refine returnsInHanded_of_change (C:=Tryz.checked) Eng.own started (by kernel_rfl) Tryz.func4
  (ChangeSpec.witness6 (enc:=enc) (C:=Tryz.checked) false ⟨#[],#[.slice none 0 0,.slice none 0 0],[]⟩ 8 (by kernel_rfl) (by kernel_rfl) (by kernel_rfl) (by kernel_rfl)) ?_
 intro W base args ds gs before hval0 hW hcnd _
 have hval:∀ (j:Nat) t v,Tryz.f4.params[j]?=some t→args[j]?=some v→Value.okWide Tryz.prog W .any base t v:=hval0
 have hW':=hW
 obtain ⟨p,q,hA0,hV,rfl,hfz,hnd⟩:=hW
 have hA:DataW.TrodAll enc Tryz.prog W 0 (fun _=>true) true Tryz.f4.params.toList args.toList ds p:=hA0
 rw[Tryz.params4] at hA hval
 have hA':=hA
 obtain ⟨v0,w0,d0,e0,p0,q0,hv0,rfl,rfl,h0,hA0⟩:=trodAll_cons hA
 obtain ⟨v1,w1,d1,e1,p1,q1,hv1,rfl,rfl,h1,hA1⟩:=trodAll_cons hA0
 obtain ⟨_,rfl,rfl⟩:=trodAll_nil hA1
 obtain ⟨rfl,rfl⟩:=trodVars_none hV
 clear hA0 hval0
 simp only[List.append_nil] at hW'
 refine (Eng.law_calls (ts:=[22,36]) (As:=[Eng.AOrd,Eng.AI64s]) ⟨Eng.argOrd,Eng.arg36,trivial⟩ bathBests_law (fun j t v h1 h2=>hval j t v (by simpa using h1) h2) hA').mono fun e W' ⟨he,hg⟩=>?_
 subst he
 have hA2:DataW.TrodAll enc Tryz.prog W 0 (fun _=>true) true [22,36] args.toList _ _:=hA'
 simp only[List.append_nil] at hA2
 have old:∀ x ∈ p0++(p1),x.block<W.heap.size:=fun x hx=>hW'.lt x hx
 refine ⟨_,rfl,Eng.post_of_below (pa:=p0++(p1)) (pv:=[]) hW' hg (fun _ _ _=>trodAll_mk1 (shut_bool Tryz.underlying4 _)) (fun sp hs=>?_) (fun _ _=>rfl) (by simp)
  (ok_one (by kernel_rfl) rfl (okWide_bool_mk Tryz.underlying4 _))⟩
 rw[Tryz.params4]
 exact Eng.stays_all Eng.laidOut [22,36] args.toList _ _ (by decide +kernel) hA2 (fun x hx=>hg.same (old x hx)) hs

theorem bests_holds:Rows.BathBestsSaid :=
 OpenClaim.holds_of_wide 4 Tryz.f4 rfl rfl rfl rfl rfl rfl rfl ⟨rfl,rfl,rfl,rfl,rfl⟩ rfl rfl rfl rfl rfl (by kernel_rfl) Tryz.func4 (by kernel_rfl)
  (of_decide_eq_true (by kernel_rfl)) (by unfold Func.isWrapper;first | (rw[if_pos (by decide +kernel)];kernel_rfl) | (rw[if_neg (by decide +kernel)];exact ⟨rfl,rfl⟩))
  (fun os started H enc _=>bathBests_lifted os started H enc)
end Go.Proofs.YtigmfpmabgekoaaGreat
