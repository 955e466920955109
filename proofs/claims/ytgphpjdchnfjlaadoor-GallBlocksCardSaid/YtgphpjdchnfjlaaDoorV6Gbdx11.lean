/- Gall: a right block: a round of the loop over its ends. -/
import Derived.Test.YtgphpjdchnfjlaaDoorV6Gbax5
set_option linter.unusedVariables false
set_option linter.unusedSimpArgs false
set_option maxRecDepth 100000
section
namespace Go.Eng
open Int (ofNat)
open Go.Proofs Go.Eng.Gall
noncomputable def sR (q:Nat→Int) (U:Nat):Option (Int×Int)→bJ
 | none=>eT q (ofNat 0) (ofNat 0) .nils
 | some (f,t)=>eT q f t (bG (cE q f t U).length (aI (cE q f t U)) false)
theorem tP {q:Nat→Int} {U:Nat} {F T:Int} {b:Option (Int×Int)} (h:pB q U F T=false):EB q U F b T=b:=by unfold EB;rw[h,Bool.and_false,if_neg (by decide)]
theorem MD {q:Nat→Int} {U:Nat} {F T:Int} {b:Option (Int×Int)} (h:M7 b F T=false):EB q U F b T=b:=by unfold EB;rw[h,Bool.false_and,if_neg (by decide)]
theorem xm {q:Nat→Int} {U:Nat} {F T:Int} {b:Option (Int×Int)} (h:M7 b F T=true) (h2:pB q U F T=true):EB q U F b T=some (F,T):=by unfold EB;rw[h,h2];rfl
section
variable (n:Nat) (O:Int) (U:Nat) (Z:Nat→Int) (V:Nat) (J:Nat→Int) (W B:Nat→Int) (H:ab) (q:Nat→Int)
theorem Sz (hl:U≤10) (hq:∀ j,j<2*U→-1000000≤q j∧q j≤1000000) (i k:Nat) (hi:i<U) (hk:k<U) (b:Option (Int×Int)) (hb:EL b (q (2*i))=false) :
 ∃ x,exec (bO n 65 128) (part Tryd.f65 [1,0,1,1,1,1,0,1,0,0,1,1,0,0,1,1,0,0]) (gT (shR O U Z V J W B) b.isSome U i k) (sR q U b::H)=some x∧x.1=.normal∧tidy 3 x.2.1 x.2.2=(gT (shR O U Z V J W B) (EB q U (q (2*i)) b (q (2*k+1))).isSome U i ((k+1:Nat):Int),sR q U (EB q U (q (2*i)) b (q (2*k+1)))::H):=by
 have e1:aQ .i64 (k:Int) (ofNat 1)=((k+1:Nat):Int):=eg wO
 have ei:aq 0 (i:Int) 2=2*i:=by rw[bP];omega
 have ek:aq 0 (k:Int) 2=2*k:=by rw[bP];omega
 have q1:=hq (2*i) wO
 have q2:=hq (2*k+1) wO
 have es:aQ .i64 (bH .i64 (q (2*k+1)) (q (2*i))) (ofNat 1)=q (2*k+1)-q (2*i)+1:=by
  rw[od wO wO];exact xF (by show _≤q (2*k+1)-q (2*i)+1;omega) (by show q (2*k+1)-q (2*i)+1≤_;omega)
 generalize hF:q (2*i)=F at *
 generalize hT:q (2*k+1)=T at *
 cases b with
 | none =>
   have hlp:=Rk n H q (shR O U Z V J W B) false (ofNat 0) (ofNat 0) U i k F T hl
   cases hS:cE q F T U with
   | nil =>
     rw[hS] at hlp
     have ho:pB q U F T=false:=by unfold pB;rw[hS];rfl
     have T0:=Og n O U Z V J W B H q i k (ofNat 0) (ofNat 0) 0 q
     rw[ei,ek,aC,e1,hF,hT] at T0
     rw[tP ho]
     refine av T0 (aw _) (aM (aj _ _) u9 (fun x hx=>c6 hx (by simp only[dY.st,aG];exact hlp))) (ai _ _) ?_
     refine Tr.ae (fun h0=>?_) wJ
     refine Tr.aa wG (Tr.aa wG (Tr.aa wG (Tr.aa wG (Tr.aa wG (Tr.aa wG (Tr.aa wG (Tr.ak ⟨rfl,rfl⟩ (Tr.ae (fun h=>by cases h) (fun _=>Tr.ae (fun _=>Tr.ag ⟨rfl,rfl⟩) (fun h=>by simp[aO] at h))))))))))
   | cons a r =>
     rw[hS] at hlp
     have hg:r.length+1≤U:=by have:=jo q F T U;rw[hS] at this;simpa using this
     have hov:pB q U F T=decide (T-F+1<((r.length+1:Nat):Int)):=by unfold pB;rw[hS];rfl
     have hup:sR q U (some (F,T))=eT q F T (bG (r.length+1) (aI (a::r)) false):=by show eT q F T (bG (cE q F T U).length (aI (cE q F T U)) false)=_;rw[hS];rfl
     have T0:=Oh n O U Z V J W B H q i k (ofNat 0) (ofNat 0) 0 q (r.length+1) (aI (a::r))
     rw[ei,ek,aC,e1,hF,hT,es,fc] at T0
     refine av T0 (aw _) (aM (aj _ _) u9 (fun x hx=>c6 hx (by simp only[dY.st,aG];exact hlp))) (ai _ _) ?_
     refine Tr.ae (fun h0=>?_) wJ
     refine Tr.aa wG (Tr.aa wG (Tr.aa wG (Tr.aa wG (Tr.aa wG (Tr.aa wG (Tr.aa wG (Tr.ak ⟨rfl,rfl⟩ (Tr.ae (fun h=>by cases h) (fun _=>Tr.ae (fun _=>Tr.ae (fun _=>Tr.ae (fun h1=>?_) (fun h1=>Tr.ag ?_)) wJ) (fun h=>by simp[aO] at h))))))))))
     all_goals rw[bn] at h1
     · rw[xm rfl (hov.trans h1),hup]
       exact Tr.aa wG (Tr.aa wG (Tr.aa wG (Tr.aa wG (Tr.ag ⟨rfl,rfl⟩))))
     · rw[tP (hov.trans h1)];exact ⟨rfl,rfl⟩
 | some v =>
   obtain ⟨f,t⟩:=v
   have hb:decide (f<F)=false:=hb
   have hlp:=Oo n H q (shR O U Z V J W B) true f t (cE q f t U).length (aI (cE q f t U)) U i k F T hl
   have hlv:sR q U (some (f,t))=eT q f t (bG (cE q f t U).length (aI (cE q f t U)) false):=rfl
   generalize cE q f t U=L0 at hlp hlv
   cases hS:cE q F T U with
   | nil =>
     rw[hS] at hlp
     have ho:pB q U F T=false:=by unfold pB;rw[hS];rfl
     have T0:=JQ n O U Z V J W B H q i k f t L0.length (aI L0)
     rw[ei,ek,aC,e1,hF,hT] at T0
     rw[tP ho,hlv]
     refine av T0 (aw _) (aM (aj _ _) u9 (fun x hx=>c6 hx (by simp only[dY.st,aG];exact hlp))) (ai _ _) ?_
     refine Tr.ae (fun h0=>?_) wJ
     refine Tr.aa wG (Tr.aa wG (Tr.aa wG (Tr.aa wG (Tr.aa wG (Tr.aa wG (Tr.aa wG (Tr.ak ⟨rfl,rfl⟩ (Tr.ae (fun _=>Tr.ae (fun h=>by rw[bn,hb] at h;cases h) (fun _=>Tr.ae (fun h=>by simp[aO] at h) (fun _=>Tr.ae (fun _=>Tr.ag ⟨rfl,rfl⟩) (fun _=>Tr.ae (fun _=>Tr.ag ⟨rfl,rfl⟩) (fun _=>Tr.ag ⟨rfl,rfl⟩))))) (fun h=>by cases h)))))))))
   | cons a r =>
     rw[hS] at hlp
     have hg:r.length+1≤U:=by have:=jo q F T U;rw[hS] at this;simpa using this
     have hov:pB q U F T=decide (T-F+1<((r.length+1:Nat):Int)):=by unfold pB;rw[hS];rfl
     have hup:sR q U (some (F,T))=eT q F T (bG (r.length+1) (aI (a::r)) false):=by show eT q F T (bG (cE q F T U).length (aI (cE q F T U)) false)=_;rw[hS];rfl
     have T0:=JR n O U Z V J W B H q i k f t L0.length (aI L0) (r.length+1) (aI (a::r))
     rw[ei,ek,aC,e1,hF,hT,es,fc] at T0
     rw[hlv]
     refine av T0 (aw _) (aM (aj _ _) u9 (fun x hx=>c6 hx (by simp only[dY.st,aG];exact hlp))) (ai _ _) ?_
     refine Tr.ae (fun h0=>?_) wJ
     refine Tr.aa wG (Tr.aa wG (Tr.aa wG (Tr.aa wG (Tr.aa wG (Tr.aa wG (Tr.aa wG (Tr.ak ⟨rfl,rfl⟩ (Tr.ae (fun _=>Tr.ae (fun h=>by rw[bn,hb] at h;cases h) (fun _=>Tr.ae (fun h=>by simp[aO] at h) (fun _=>Tr.ae (fun h2=>Tr.ae (fun _=>Tr.ae (fun h1=>?_) (fun h1=>Tr.ag ?_)) wJ) (fun h2=>Tr.ae (fun h3=>Tr.ae (fun _=>Tr.ae (fun h1=>?_) (fun h1=>Tr.ag ?_)) wJ) (fun h3=>Tr.ag ?_))))) (fun h=>by cases h)))))))))
     all_goals rw[bn] at h2
     · rw[bn] at h1
       rw[xm (show M7 (some (f,t)) F T=true by show (decide (F<f) || decide (T<t))=true;rw[h2];rfl) (hov.trans h1),hup]
       exact Tr.aa wG (Tr.aa wG (Tr.aa wG (Tr.aa wG (Tr.ag ⟨rfl,rfl⟩))))
     · rw[bn] at h1
       rw[tP (hov.trans h1),hlv];exact ⟨rfl,rfl⟩
     all_goals rw[bn] at h3
     · rw[bn] at h1
       rw[xm (show M7 (some (f,t)) F T=true by show (decide (F<f) || decide (T<t))=true;rw[h3,Bool.or_true]) (hov.trans h1),hup]
       exact Tr.aa wG (Tr.aa wG (Tr.aa wG (Tr.aa wG (Tr.ag ⟨rfl,rfl⟩))))
     · rw[bn] at h1
       rw[tP (hov.trans h1),hlv];exact ⟨rfl,rfl⟩
     · rw[MD (show M7 (some (f,t)) F T=false by show (decide (F<f) || decide (T<t))=false;rw[h2,h3];rfl),hlv];exact ⟨rfl,rfl⟩
end
end Go.Eng
end
section
namespace Go.Eng
open Int (ofNat)
open Go.Proofs Go.Eng.Gall
noncomputable def A3 (R:Row) (U:Nat) (i k:Int):aA:=[(0,.ptrT none R 0),(2,.ptr 0 0 0 0),(4,.ptr 0 1 0 0),(5,.ptr 0 2 0 0),(6,.bool true),(7,.int .i64 i),(9,.ptr 0 3 0 0),(19,.int .i64 (ofNat U)),(20,.int .i64 i),(28,.int .i64 (ofNat U)),(29,.int .i64 k),(87,.bool true)]
theorem Oi (n:Nat) (O:Int) (U:Nat) (Z:Nat→Int) (V:Nat) (J:Nat→Int) (W B:Nat→Int) (H:ab) (q:Nat→Int) (i k:Int):aH (bO n 65 128) (il aJ n 0) (dC aS 4) aR (part Tryd.f65 [1,0,1,1,1,1,0,1,0,0,1,1,0,0,1,1,0,0]) (hints (gT (shR O U Z V J W B) false U i k)) (eT q (ofNat 0) (ofNat 0) .nils::H) =
 Tr.ite (bw k (ofNat U)) (Tr.req (b8 i 10) (Tr.req (cu 0 0) (Tr.req (bR (aq 0 i 2) 20) (Tr.req (b8 k 10) (Tr.req (cu 0 0) (Tr.req (bR (ar (aq 0 k 2) 1) 20) (Tr.req (bL (dO 0 0) (dO 0 1)) Tr.bad))))))) (Tr.ok (Ex.exit 2,[(0,shV O U Z V J W B,none),(2,AV.ptr 0 0 0 0,none),(4,AV.ptr 0 1 0 0,none),(5,AV.ptr 0 2 0 0,none),(6,AV.bool false,none),(7,AV.int .i64 i,none),(19,iI U,none),(20,AV.int .i64 i,none),(28,iI U,none),(29,AV.int .i64 k,none),(30,AV.bool false,some 1)],(bK [(0,an.row (Row.G [iI 0,iI 0,AV.nils])),(0,an.row (rM q 20)),(0,an.row (Row.G [iI 0,iI 0,AV.nils]))])::H)):=by kernel_rfl
theorem Oj (n:Nat) (O:Int) (U:Nat) (Z:Nat→Int) (V:Nat) (J:Nat→Int) (W B:Nat→Int) (H:ab) (q:Nat→Int) (i k:Int) (f t:Int) (m:Nat) (y:Nat→Int):aH (bO n 65 128) (il aJ n 0) (dC aS 4) aR (part Tryd.f65 [1,0,1,1,1,1,0,1,0,0,1,1,0,0,1,1,0,0]) (hints (gT (shR O U Z V J W B) true U i k)) (eT q f t (bG m y false)::H) =
 Tr.ite (bw k (ofNat U)) (Tr.req (b8 i 10) (Tr.req (cu 0 0) (Tr.req (bR (aq 0 i 2) 20) (Tr.req (b8 k 10) (Tr.req (cu 0 0) (Tr.req (bR (ar (aq 0 k 2) 1) 20) (Tr.req (bL (dO 0 0) (dO 0 1)) Tr.bad))))))) (Tr.ok (Ex.exit 2,[(0,shV O U Z V J W B,none),(2,AV.ptr 0 0 0 0,none),(4,AV.ptr 0 1 0 0,none),(5,AV.ptr 0 2 0 0,none),(6,AV.bool true,none),(7,AV.int .i64 i,none),(19,iI U,none),(20,AV.int .i64 i,none),(28,iI U,none),(29,AV.int .i64 k,none),(30,AV.bool false,some 1)],(bK [(0,an.row (Row.G [iI 0,iI 0,AV.nils])),(0,an.row (rM q 20)),(0,an.row (Row.G [AV.int .i64 f,AV.int .i64 t,bG m y false]))])::H)):=by kernel_rfl
theorem OJ (n:Nat) (O:Int) (U:Nat) (Z:Nat→Int) (V:Nat) (J:Nat→Int) (W B:Nat→Int) (H:ab) (q:Nat→Int) (i:Int):aH (bO n 65 128) (il aJ n 0) (cw aS 2 (gT (shR O U Z V J W B) false U i (ofNat 0)) (eT q (ofNat 0) (ofNat 0) .nils::H) (.ok (.normal,hints (gT (shR O U Z V J W B) false U i (ofNat U)++[(30,.bool false)]),eT q (ofNat 0) (ofNat 0) .nils::H))) aR (part Tryd.f65 [1,0,1,1,1,1,0,1,0,0]) (hints (kA (shR O U Z V J W B) false U i)) (eT q (ofNat 0) (ofNat 0) .nils::H) =
 (fun (Z0:bJ)=>((fun (Z1:aA)=>Tr.ite (bw i (ofNat U)) (Tr.reqP (Z1=Z1∧Z0::H=Z0::H) (Tr.ok (Ex.normal,[(0,shV O U Z V J W B,none),(2,AV.ptr 0 0 0 0,none),(4,AV.ptr 0 1 0 0,none),(5,AV.ptr 0 2 0 0,none),(6,AV.bool false,none),(19,iI U,none),(20,AV.int .i64 (aQ .i64 i (ofNat 1)),none)],Z0::H))) (Tr.ok (Ex.exit 0,[(0,shV O U Z V J W B,none),(2,AV.ptr 0 0 0 0,none),(4,AV.ptr 0 1 0 0,none),(5,AV.ptr 0 2 0 0,none),(6,AV.bool false,none),(19,iI U,none),(20,AV.int .i64 i,none),(21,AV.bool false,some 1)],Z0::H))) [(0,shV O U Z V J W B),(2,AV.ptr 0 0 0 0),(4,AV.ptr 0 1 0 0),(5,AV.ptr 0 2 0 0),(6,AV.bool false),(7,AV.int .i64 i),(19,iI U),(20,AV.int .i64 i),(28,iI U),(29,iI 0)])) (bK [(0,an.row (Row.G [iI 0,iI 0,AV.nils])),(0,an.row (rM q 20)),(0,an.row (Row.G [iI 0,iI 0,AV.nils]))]):=by kernel_rfl
theorem OK (n:Nat) (O:Int) (U:Nat) (Z:Nat→Int) (V:Nat) (J:Nat→Int) (W B:Nat→Int) (H:ab) (q:Nat→Int) (i:Int) (f2 t2:Int) (m2:Nat) (y2:Nat→Int):aH (bO n 65 128) (il aJ n 0) (cw aS 2 (gT (shR O U Z V J W B) false U i (ofNat 0)) (eT q (ofNat 0) (ofNat 0) .nils::H) (.ok (.normal,hints (gT (shR O U Z V J W B) true U i (ofNat U)++[(30,.bool false)]),eT q f2 t2 (bG m2 y2 false)::H))) aR (part Tryd.f65 [1,0,1,1,1,1,0,1,0,0]) (hints (kA (shR O U Z V J W B) false U i)) (eT q (ofNat 0) (ofNat 0) .nils::H) =
 (fun (Z0:bJ)=>((fun (Z1:aA)=>Tr.ite (bw i (ofNat U)) (Tr.reqP (Z1=Z1∧Z0::H=Z0::H) (Tr.ok (Ex.normal,[(0,shV O U Z V J W B,none),(2,AV.ptr 0 0 0 0,none),(4,AV.ptr 0 1 0 0,none),(5,AV.ptr 0 2 0 0,none),(6,AV.bool true,none),(19,iI U,none),(20,AV.int .i64 (aQ .i64 i (ofNat 1)),none)],(bK [(0,an.row (Row.G [iI 0,iI 0,AV.nils])),(0,an.row (rM q 20)),(0,an.row (Row.G [AV.int .i64 f2,AV.int .i64 t2,bG m2 y2 false]))])::H))) (Tr.ok (Ex.exit 0,[(0,shV O U Z V J W B,none),(2,AV.ptr 0 0 0 0,none),(4,AV.ptr 0 1 0 0,none),(5,AV.ptr 0 2 0 0,none),(6,AV.bool false,none),(19,iI U,none),(20,AV.int .i64 i,none),(21,AV.bool false,some 1)],Z0::H))) [(0,shV O U Z V J W B),(2,AV.ptr 0 0 0 0),(4,AV.ptr 0 1 0 0),(5,AV.ptr 0 2 0 0),(6,AV.bool false),(7,AV.int .i64 i),(19,iI U),(20,AV.int .i64 i),(28,iI U),(29,iI 0)])) (bK [(0,an.row (Row.G [iI 0,iI 0,AV.nils])),(0,an.row (rM q 20)),(0,an.row (Row.G [iI 0,iI 0,AV.nils]))]):=by kernel_rfl
theorem OM (n:Nat) (O:Int) (U:Nat) (Z:Nat→Int) (V:Nat) (J:Nat→Int) (W B:Nat→Int) (H:ab) (q:Nat→Int) (i:Int) (f t:Int) (m:Nat) (y:Nat→Int) (f2 t2:Int) (m2:Nat) (y2:Nat→Int):aH (bO n 65 128) (il aJ n 0) (cw aS 2 (gT (shR O U Z V J W B) true U i (ofNat 0)) (eT q f t (bG m y false)::H) (.ok (.normal,hints (gT (shR O U Z V J W B) true U i (ofNat U)++[(30,.bool false)]),eT q f2 t2 (bG m2 y2 false)::H))) aR (part Tryd.f65 [1,0,1,1,1,1,0,1,0,0]) (hints (kA (shR O U Z V J W B) true U i)) (eT q f t (bG m y false)::H) =
 (fun (Z0:bJ)=>((fun (Z1:aA)=>Tr.ite (bw i (ofNat U)) (Tr.reqP (Z1=Z1∧Z0::H=Z0::H) (Tr.ok (Ex.normal,[(0,shV O U Z V J W B,none),(2,AV.ptr 0 0 0 0,none),(4,AV.ptr 0 1 0 0,none),(5,AV.ptr 0 2 0 0,none),(6,AV.bool true,none),(19,iI U,none),(20,AV.int .i64 (aQ .i64 i (ofNat 1)),none)],(bK [(0,an.row (Row.G [iI 0,iI 0,AV.nils])),(0,an.row (rM q 20)),(0,an.row (Row.G [AV.int .i64 f2,AV.int .i64 t2,bG m2 y2 false]))])::H))) (Tr.ok (Ex.exit 0,[(0,shV O U Z V J W B,none),(2,AV.ptr 0 0 0 0,none),(4,AV.ptr 0 1 0 0,none),(5,AV.ptr 0 2 0 0,none),(6,AV.bool true,none),(19,iI U,none),(20,AV.int .i64 i,none),(21,AV.bool false,some 1)],Z0::H))) [(0,shV O U Z V J W B),(2,AV.ptr 0 0 0 0),(4,AV.ptr 0 1 0 0),(5,AV.ptr 0 2 0 0),(6,AV.bool true),(7,AV.int .i64 i),(19,iI U),(20,AV.int .i64 i),(28,iI U),(29,iI 0)])) (bK [(0,an.row (Row.G [iI 0,iI 0,AV.nils])),(0,an.row (rM q 20)),(0,an.row (Row.G [AV.int .i64 f,AV.int .i64 t,bG m y false]))]):=by kernel_rfl
theorem ON (n:Nat) (O:Int) (U:Nat) (Z:Nat→Int) (V:Nat) (J:Nat→Int) (W B:Nat→Int) (H:ab) (q:Nat→Int) (i:Int) (f t:Int) (m:Nat) (y:Nat→Int) (F T:Int):aH (bO n 65 128) (il aJ n 0) (cw aS 2 (gT (shR O U Z V J W B) true U i (ofNat 0)) (eT q f t (bG m y false)::H) (.ok (.exit 1,hints (A3 (shR O U Z V J W B) U i (ofNat 0)),yC q f t (bG m y false) F T::H))) aR (part Tryd.f65 [1,0,1,1,1,1,0,1,0,0]) (hints (kA (shR O U Z V J W B) true U i)) (eT q f t (bG m y false)::H) =
 (fun (Z0:bJ)=>((fun (Z1:aA)=>Tr.ite (bw i (ofNat U)) (Tr.reqP (Z1=Z1∧Z0::H=Z0::H) (Tr.ok (Ex.normal,[(0,shV O U Z V J W B,none),(2,AV.ptr 0 0 0 0,none),(4,AV.ptr 0 1 0 0,none),(5,AV.ptr 0 2 0 0,none),(6,AV.bool true,none),(19,iI U,none),(20,AV.int .i64 (aQ .i64 i (ofNat 1)),none)],(bK [(0,an.row (Row.G [iI 0,iI 0,AV.nils])),(0,an.row (rM q 20)),(0,an.row (Row.G [AV.int .i64 f,AV.int .i64 t,bG m y false])),(0,an.row (Row.G [AV.int .i64 F,AV.int .i64 T,AV.nils]))])::H))) (Tr.ok (Ex.exit 0,[(0,shV O U Z V J W B,none),(2,AV.ptr 0 0 0 0,none),(4,AV.ptr 0 1 0 0,none),(5,AV.ptr 0 2 0 0,none),(6,AV.bool true,none),(19,iI U,none),(20,AV.int .i64 i,none),(21,AV.bool false,some 1)],Z0::H))) [(0,shV O U Z V J W B),(2,AV.ptr 0 0 0 0),(4,AV.ptr 0 1 0 0),(5,AV.ptr 0 2 0 0),(6,AV.bool true),(7,AV.int .i64 i),(19,iI U),(20,AV.int .i64 i),(28,iI U),(29,iI 0)])) (bK [(0,an.row (Row.G [iI 0,iI 0,AV.nils])),(0,an.row (rM q 20)),(0,an.row (Row.G [AV.int .i64 f,AV.int .i64 t,bG m y false]))]):=by kernel_rfl
theorem OO (n:Nat) (O:Int) (U:Nat) (Z:Nat→Int) (V:Nat) (J:Nat→Int) (W B:Nat→Int) (H:ab) (q:Nat→Int) (i:Int) (f t:Int) (m:Nat) (y:Nat→Int) (F T:Int) (g:Nat) (x:Nat→Int):aH (bO n 65 128) (il aJ n 0) (cw aS 2 (gT (shR O U Z V J W B) true U i (ofNat 0)) (eT q f t (bG m y false)::H) (.ok (.exit 1,hints (A3 (shR O U Z V J W B) U i (ofNat 0)),Bn q f t (bG m y false) F T g x::H))) aR (part Tryd.f65 [1,0,1,1,1,1,0,1,0,0]) (hints (kA (shR O U Z V J W B) true U i)) (eT q f t (bG m y false)::H) =
 (fun (Z0:bJ)=>((fun (Z1:aA)=>Tr.ite (bw i (ofNat U)) (Tr.reqP (Z1=Z1∧Z0::H=Z0::H) (Tr.ok (Ex.normal,[(0,shV O U Z V J W B,none),(2,AV.ptr 0 0 0 0,none),(4,AV.ptr 0 1 0 0,none),(5,AV.ptr 0 2 0 0,none),(6,AV.bool true,none),(19,iI U,none),(20,AV.int .i64 (aQ .i64 i (ofNat 1)),none)],(bK [(0,an.row (Row.G [iI 0,iI 0,AV.nils])),(0,an.row (rM q 20)),(0,an.row (Row.G [AV.int .i64 f,AV.int .i64 t,bG m y false])),(0,an.row (Row.G [AV.int .i64 F,AV.int .i64 T,AV.slc 0 4 0 0 1 g none])),(0,an.row (rM x g))])::H))) (Tr.ok (Ex.exit 0,[(0,shV O U Z V J W B,none),(2,AV.ptr 0 0 0 0,none),(4,AV.ptr 0 1 0 0,none),(5,AV.ptr 0 2 0 0,none),(6,AV.bool true,none),(19,iI U,none),(20,AV.int .i64 i,none),(21,AV.bool false,some 1)],Z0::H))) [(0,shV O U Z V J W B),(2,AV.ptr 0 0 0 0),(4,AV.ptr 0 1 0 0),(5,AV.ptr 0 2 0 0),(6,AV.bool true),(7,AV.int .i64 i),(19,iI U),(20,AV.int .i64 i),(28,iI U),(29,iI 0)])) (bK [(0,an.row (Row.G [iI 0,iI 0,AV.nils])),(0,an.row (rM q 20)),(0,an.row (Row.G [AV.int .i64 f,AV.int .i64 t,bG m y false]))]):=by kernel_rfl
theorem OI (n:Nat) (O:Int) (U:Nat) (Z:Nat→Int) (V:Nat) (J:Nat→Int) (W B:Nat→Int) (H:ab) (q:Nat→Int) (i:Int):aH (bO n 65 128) (il aJ n 0) (dC aS 2) aR (part Tryd.f65 [1,0,1,1,1,1,0,1,0,0]) (hints (kA (shR O U Z V J W B) false U i)) (eT q (ofNat 0) (ofNat 0) .nils::H) =
 Tr.ite (bw i (ofNat U)) Tr.bad (Tr.ok (Ex.exit 0,[(0,shV O U Z V J W B,none),(2,AV.ptr 0 0 0 0,none),(4,AV.ptr 0 1 0 0,none),(5,AV.ptr 0 2 0 0,none),(6,AV.bool false,none),(19,iI U,none),(20,AV.int .i64 i,none),(21,AV.bool false,some 1)],(bK [(0,an.row (Row.G [iI 0,iI 0,AV.nils])),(0,an.row (rM q 20)),(0,an.row (Row.G [iI 0,iI 0,AV.nils]))])::H)):=by kernel_rfl
theorem OL (n:Nat) (O:Int) (U:Nat) (Z:Nat→Int) (V:Nat) (J:Nat→Int) (W B:Nat→Int) (H:ab) (q:Nat→Int) (i:Int) (f t:Int) (m:Nat) (y:Nat→Int):aH (bO n 65 128) (il aJ n 0) (dC aS 2) aR (part Tryd.f65 [1,0,1,1,1,1,0,1,0,0]) (hints (kA (shR O U Z V J W B) true U i)) (eT q f t (bG m y false)::H) =
 Tr.ite (bw i (ofNat U)) Tr.bad (Tr.ok (Ex.exit 0,[(0,shV O U Z V J W B,none),(2,AV.ptr 0 0 0 0,none),(4,AV.ptr 0 1 0 0,none),(5,AV.ptr 0 2 0 0,none),(6,AV.bool true,none),(19,iI U,none),(20,AV.int .i64 i,none),(21,AV.bool false,some 1)],(bK [(0,an.row (Row.G [iI 0,iI 0,AV.nils])),(0,an.row (rM q 20)),(0,an.row (Row.G [AV.int .i64 f,AV.int .i64 t,bG m y false]))])::H)):=by kernel_rfl
theorem S5 (n:Nat) (O:Int) (U:Nat) (Z:Nat→Int) (V:Nat) (J:Nat→Int) (W B:Nat→Int) (H:ab) (q:Nat→Int) (r:Nat→Int):bu Tryd.prog (cd n) 100000 65 Tryd.f65 (KtG.kt 65) (il (tX aJ 56 [shV O U Z V J W B] (.agg (.M [.arr .i64 r 20]))) n 0) (cw aS 0 (kA (shR O U Z V J W B) false U (ofNat 0)) (eT (lI (fun x=>ofNat 0) 0 r 20) (ofNat 0) (ofNat 0) .nils::H) (.ok (.normal,hints (kA (shR O U Z V J W B) false U (ofNat U)++[(21,.bool false)]),eT q (ofNat 0) (ofNat 0) .nils::H))) aR [(shV O U Z V J W B,none)] H =
 (fun (Z0:bJ)=>((fun (Z1:aA)=>Tr.reqP ([shV O U Z V J W B]=[shV O U Z V J W B]) (Tr.req (fF 0 20 0 20) (Tr.reqP (Z1=Z1∧Z0::H=Z0::H) (Tr.ok ((AV.tup [AV.agg (Row.G [iI 0,iI 0,AV.nils]),AV.bool false],none),H))))) [(0,shV O U Z V J W B),(2,AV.ptr 0 0 0 0),(4,AV.ptr 0 1 0 0),(5,AV.ptr 0 2 0 0),(6,AV.bool false),(19,iI U),(20,iI 0)])) (bK [(0,an.row (Row.G [iI 0,iI 0,AV.nils])),(0,an.row (rM (lI (fun x=>ofNat 0) 0 r 20) 20)),(0,an.row (Row.G [iI 0,iI 0,AV.nils]))]):=by kernel_rfl
theorem S6 (n:Nat) (O:Int) (U:Nat) (Z:Nat→Int) (V:Nat) (J:Nat→Int) (W B:Nat→Int) (H:ab) (q:Nat→Int) (r:Nat→Int) (f2 t2:Int) (m2:Nat) (y2:Nat→Int):bu Tryd.prog (cd n) 100000 65 Tryd.f65 (KtG.kt 65) (il (tX aJ 56 [shV O U Z V J W B] (.agg (.M [.arr .i64 r 20]))) n 0) (cw aS 0 (kA (shR O U Z V J W B) false U (ofNat 0)) (eT (lI (fun x=>ofNat 0) 0 r 20) (ofNat 0) (ofNat 0) .nils::H) (.ok (.normal,hints (kA (shR O U Z V J W B) true U (ofNat U)++[(21,.bool false)]),eT q f2 t2 (bG m2 y2 false)::H))) aR [(shV O U Z V J W B,none)] H =
 (fun (Z0:bJ)=>((fun (Z1:aA)=>Tr.reqP ([shV O U Z V J W B]=[shV O U Z V J W B]) (Tr.req (fF 0 20 0 20) (Tr.reqP (Z1=Z1∧Z0::H=Z0::H) (Tr.ok ((AV.tup [AV.agg (Row.G [AV.int .i64 f2,AV.int .i64 t2,bG m2 y2 false]),AV.bool true],none),H))))) [(0,shV O U Z V J W B),(2,AV.ptr 0 0 0 0),(4,AV.ptr 0 1 0 0),(5,AV.ptr 0 2 0 0),(6,AV.bool false),(19,iI U),(20,iI 0)])) (bK [(0,an.row (Row.G [iI 0,iI 0,AV.nils])),(0,an.row (rM (lI (fun x=>ofNat 0) 0 r 20) 20)),(0,an.row (Row.G [iI 0,iI 0,AV.nils]))]):=by kernel_rfl
end Go.Eng
end
section
namespace Go.Eng
open Int (ofNat)
open Go.Proofs Go.Eng.Gall
theorem JF:∀ b,(0,b) ∈ aE (bx Tryd.f65)→b=.loop (part Tryd.f65 [1,0,1,1,1,1,0,1,0,0]):=dK (by kernel_rfl)
theorem xJ:∀ b,(2,b) ∈ aE (part Tryd.f65 [1,0,1,1,1,1,0,1,0,0])→b=.loop (part Tryd.f65 [1,0,1,1,1,1,0,1,0,0,1,1,0,0,1,1,0,0]):=dK (by kernel_rfl)
theorem B7 (q:Nat→Int) (U:Nat) (F:Int) (v:Int×Int):∀ k,xz q U F (some v) k≠none
 | 0=>by intro h;cases h
 | k+1=>by
   unfold xz EB;split
   · intro h;cases h
   · exact B7 q U F v k
section
variable (n:Nat) (O:Int) (U:Nat) (Z:Nat→Int) (V:Nat) (J:Nat→Int) (W B:Nat→Int) (H:ab) (q:Nat→Int)
theorem N8 (b:Option (Int×Int)):aZ (sR q U b::H)=3:=by cases b<;>rfl
theorem Rz (hl:U≤10) (hq:∀ j,j<2*U→-1000000≤q j∧q j≤1000000) (i:Nat) (hi:i<U) (b:Option (Int×Int)) (hb:EL b (q (2*i))=false) :
 exec (bO n 65 128) (.block 2 (.loop (part Tryd.f65 [1,0,1,1,1,1,0,1,0,0,1,1,0,0,1,1,0,0]))) (gT (shR O U Z V J W B) b.isSome U i (ofNat 0)) (sR q U b::H)=some (.normal,gT (shR O U Z V J W B) (xz q U (q (2*i)) b U).isSome U i (ofNat U)++[(30,.bool false)],sR q U (xz q U (q (2*i)) b U)::H):=by
 refine fZ (n:=n) (f:=65) (nt:=128) (c:=part Tryd.f65 [1,0,1,1,1,1,0,1,0,0,1,1,0,0,1,1,0,0]) 2 (fun k=>gT (shR O U Z V J W B) (xz q U (q (2*i)) b k).isSome U i (k:Int)) (fun k=>sR q U (xz q U (q (2*i)) b k)::H) U (gT (shR O U Z V J W B) (xz q U (q (2*i)) b U).isSome U i (ofNat U)++[(30,.bool false)],sR q U (xz q U (q (2*i)) b U)::H) wO (fun k hk=>?_) ?_
 · rw[N8]
   exact Sz n O U Z V J W B H q hl hq i k hi hk (xz q U (q (2*i)) b k) (F2 hb k)
 · generalize xz q U (q (2*i)) b U=c
   cases c with
   | none =>
     obtain ⟨x,h1,rfl⟩:=av (Q:=fun x=>x=(.exit 2,gT (shR O U Z V J W B) false U i (ofNat U)++[(30,.bool false)],sR q U none::H)) (Oi n O U Z V J W B H q i (ofNat U)) (aw _) (bN (aj _ _) 4) (ai _ _) (by
      refine Tr.ae wJ (fun h0=>Tr.ag rfl))
     exact h1
   | some v =>
     obtain ⟨f,t⟩:=v
     obtain ⟨x,h1,rfl⟩:=av (Q:=fun x=>x=(.exit 2,gT (shR O U Z V J W B) true U i (ofNat U)++[(30,.bool false)],sR q U (some (f,t))::H)) (Oj n O U Z V J W B H q i (ofNat U) f t (cE q f t U).length (aI (cE q f t U))) (aw _) (bN (aj _ _) 4) (ai _ _) (by
      refine Tr.ae wJ (fun h0=>Tr.ag rfl))
     exact h1
noncomputable def FF (q:Nat→Int) (U:Nat) (f t F T:Int):bJ:=Ei q f t (bG (cE q f t U).length (aI (cE q f t U)) false) F T (cE q F T U)
theorem RD (hl:U≤10) (hq:∀ j,j<2*U→-1000000≤q j∧q j≤1000000) (i:Nat) (hi:i<U) (f t:Int) (hb:f<q (2*i)) :
 exec (bO n 65 128) (.block 2 (.loop (part Tryd.f65 [1,0,1,1,1,1,0,1,0,0,1,1,0,0,1,1,0,0]))) (gT (shR O U Z V J W B) true U i (ofNat 0)) (sR q U (some (f,t))::H)=some (.exit 1,A3 (shR O U Z V J W B) U i (ofNat 0),FF q U f t (q (2*i)) (q 1)::H):=by
 have ei:aq 0 (i:Int) 2=2*i:=by rw[bP];omega
 have ek:aq 0 (ofNat 0) 2=0:=by rw[bP];rfl
 have hb2:decide (f<q (2*i))=true:=decide_eq_true hb
 have hx:exec (bO n 65 128) (part Tryd.f65 [1,0,1,1,1,1,0,1,0,0,1,1,0,0,1,1,0,0]) (gT (shR O U Z V J W B) true U i (ofNat 0)) (sR q U (some (f,t))::H)=some (.exit 1,A3 (shR O U Z V J W B) U i (ofNat 0),FF q U f t (q (2*i)) (q 1)::H):=by
  have hlp:=Oo n H q (shR O U Z V J W B) true f t (cE q f t U).length (aI (cE q f t U)) U i (ofNat 0) (q (2*i)) (q 1) hl;cases hS:cE q (q (2*i)) (q 1) U with
  | nil =>
    rw[hS] at hlp;have e:FF q U f t (q (2*i)) (q 1)=yC q f t (bG (cE q f t U).length (aI (cE q f t U)) false) (q (2*i)) (q 1):=by unfold FF;rw[hS];rfl
    rw[e];have T0:=JQ n O U Z V J W B H q i (ofNat 0) f t (cE q f t U).length (aI (cE q f t U));rw[ei,ek,aC,Nat.zero_add] at T0;obtain ⟨x,h1,rfl⟩:=av (Q:=fun x=>x=(.exit 1,A3 (shR O U Z V J W B) U i (ofNat 0),yC q f t (bG (cE q f t U).length (aI (cE q f t U)) false) (q (2*i)) (q 1)::H)) T0 (aw _) (aM (aj _ _) u9 (fun x hx=>c6 hx (by simp only[dY.st,aG];exact hlp))) (ai _ _) (by
     refine Tr.ae (fun h0=>?_) wJ;exact Tr.aa wG (Tr.aa wG (Tr.aa wG (Tr.aa wG (Tr.aa wG (Tr.aa wG (Tr.aa wG (Tr.ak ⟨rfl,rfl⟩ (Tr.ae (fun _=>Tr.ae (fun _=>Tr.ag rfl) (fun h=>by rw[bn,hb2] at h;cases h)) (fun h=>by cases h))))))))))
    exact h1
  | cons a r =>
    rw[hS] at hlp;have e:FF q U f t (q (2*i)) (q 1)=Bn q f t (bG (cE q f t U).length (aI (cE q f t U)) false) (q (2*i)) (q 1) (r.length+1) (aI (a::r)):=by unfold FF;rw[hS];rfl
    rw[e];have T0:=JR n O U Z V J W B H q i (ofNat 0) f t (cE q f t U).length (aI (cE q f t U)) (r.length+1) (aI (a::r));rw[ei,ek,aC,Nat.zero_add] at T0;obtain ⟨x,h1,rfl⟩:=av (Q:=fun x=>x=(.exit 1,A3 (shR O U Z V J W B) U i (ofNat 0),Bn q f t (bG (cE q f t U).length (aI (cE q f t U)) false) (q (2*i)) (q 1) (r.length+1) (aI (a::r))::H)) T0 (aw _) (aM (aj _ _) u9 (fun x hx=>c6 hx (by simp only[dY.st,aG];exact hlp))) (ai _ _) (by
     refine Tr.ae (fun h0=>?_) wJ;exact Tr.aa wG (Tr.aa wG (Tr.aa wG (Tr.aa wG (Tr.aa wG (Tr.aa wG (Tr.aa wG (Tr.ak ⟨rfl,rfl⟩ (Tr.ae (fun _=>Tr.ae (fun _=>Tr.ag rfl) (fun h=>by rw[bn,hb2] at h;cases h)) (fun h=>by cases h))))))))))
    exact h1
 exact dm (fun id' h=>by cases h;rfl) (iB (body:=exec (bO n 65 128) (part Tryd.f65 [1,0,1,1,1,1,0,1,0,0,1,1,0,0,1,1,0,0])) (n:=aZ (sR q U (some (f,t))::H)) (fun _=>gT (shR O U Z V J W B) true U i (ofNat 0)) (fun _=>sR q U (some (f,t))::H) 0 (fun _=>false) (fun _=>(.exit 1,A3 (shR O U Z V J W B) U i (ofNat 0),FF q U f t (q (2*i)) (q 1)::H)) (fun j h=>absurd h (Nat.not_lt_zero j)) (fun j h=>absurd h (Nat.not_lt_zero j)) ⟨hx,by simp⟩ 0 0 100000 rfl wO)
theorem SA (hl:U≤10) (hq:∀ j,j<2*U→-1000000≤q j∧q j≤1000000) (i:Nat) (hi:i<U) :
 ∃ x,exec (bO n 65 128) (part Tryd.f65 [1,0,1,1,1,1,0,1,0,0]) (kA (shR O U Z V J W B) (lh q U i).isSome U i) (sR q U (lh q U i)::H)=some x∧x.1=.normal∧tidy 3 x.2.1 x.2.2=(kA (shR O U Z V J W B) (lh q U (i+1)).isSome U ((i+1:Nat):Int),sR q U (lh q U (i+1))::H):=by
 have e1:aQ .i64 (i:Int) (ofNat 1)=((i+1:Nat):Int):=eg wO
 have eo:lh q U (i+1)=if EL (lh q U i) (q (2*i))=true then lh q U i else xz q U (q (2*i)) (lh q U i) U:=rfl
 rw[eo]
 by_cases hg:EL (lh q U i) (q (2*i))=true
 · rw[if_pos hg]
   generalize lh q U i=b at *
   cases b with
   | none=>cases hg
   | some v =>
     obtain ⟨f,t⟩:=v
     have hx:=RD n O U Z V J W B H q hl hq i hi f t (of_decide_eq_true hg)
     cases hS:cE q (q (2*i)) (q 1) U with
     | nil =>
       have e:FF q U f t (q (2*i)) (q 1)=yC q f t (bG (cE q f t U).length (aI (cE q f t U)) false) (q (2*i)) (q 1):=by unfold FF;rw[hS];rfl
       rw[e] at hx
       have T0:=ON n O U Z V J W B H q i f t (cE q f t U).length (aI (cE q f t U)) (q (2*i)) (q 1)
       rw[e1] at T0
       refine av T0 (aw _) (aM (aj _ _) xJ (fun x h=>c6 h (by simp only[dY.st,aG];exact hx))) (ai _ _) ?_
       exact Tr.ae (fun h0=>Tr.ak ⟨rfl,rfl⟩ (Tr.ag ⟨rfl,rfl⟩)) wJ
     | cons a r =>
       have e:FF q U f t (q (2*i)) (q 1)=Bn q f t (bG (cE q f t U).length (aI (cE q f t U)) false) (q (2*i)) (q 1) (r.length+1) (aI (a::r)):=by unfold FF;rw[hS];rfl
       rw[e] at hx
       have T0:=OO n O U Z V J W B H q i f t (cE q f t U).length (aI (cE q f t U)) (q (2*i)) (q 1) (r.length+1) (aI (a::r))
       rw[e1] at T0
       refine av T0 (aw _) (aM (aj _ _) xJ (fun x h=>c6 h (by simp only[dY.st,aG];exact hx))) (ai _ _) ?_
       exact Tr.ae (fun h0=>Tr.ak ⟨rfl,rfl⟩ (Tr.ag ⟨rfl,rfl⟩)) wJ
 · rw[if_neg hg]
   have hg:EL (lh q U i) (q (2*i))=false:=by simpa using hg
   have hx:=Rz n O U Z V J W B H q hl hq i hi _ hg
   generalize hc:xz q U (q (2*i)) (lh q U i) U=c at *
   generalize lh q U i=b at *
   cases b with
   | none =>
     cases c with
     | none =>
       have T0:=OJ n O U Z V J W B H q i
       rw[e1] at T0
       refine av T0 (aw _) (aM (aj _ _) xJ (fun x h=>c6 h (by simp only[dY.st,aG];exact hx))) (ai _ _) ?_
       exact Tr.ae (fun h0=>Tr.ak ⟨rfl,rfl⟩ (Tr.ag ⟨rfl,rfl⟩)) wJ
     | some v =>
       obtain ⟨f,t⟩:=v
       have T0:=OK n O U Z V J W B H q i f t (cE q f t U).length (aI (cE q f t U))
       rw[e1] at T0
       refine av T0 (aw _) (aM (aj _ _) xJ (fun x h=>c6 h (by simp only[dY.st,aG];exact hx))) (ai _ _) ?_
       exact Tr.ae (fun h0=>Tr.ak ⟨rfl,rfl⟩ (Tr.ag ⟨rfl,rfl⟩)) wJ
   | some v =>
     obtain ⟨f,t⟩:=v
     cases c with
     | none=>exact absurd hc (B7 _ _ _ _ _)
     | some v2 =>
       obtain ⟨f2,t2⟩:=v2
       have T0:=OM n O U Z V J W B H q i f t (cE q f t U).length (aI (cE q f t U)) f2 t2 (cE q f2 t2 U).length (aI (cE q f2 t2 U))
       rw[e1] at T0
       refine av T0 (aw _) (aM (aj _ _) xJ (fun x h=>c6 h (by simp only[dY.st,aG];exact hx))) (ai _ _) ?_
       exact Tr.ae (fun h0=>Tr.ak ⟨rfl,rfl⟩ (Tr.ag ⟨rfl,rfl⟩)) wJ
end
end Go.Eng
end
section
namespace Go.Eng
open Int (ofNat)
open Go.Proofs Go.Eng.Gall
theorem B4 (n:Nat) (b:Nat→Nat) (w:Nat→Int):Bd n b w n (dN n b w) where
 lo c hc:=by
  have:dN n b w (2*c)=fi n b w n c:=by unfold dN;rw[if_pos wO,if_pos wO,show 2*c / 2=c by omega]
  omega
 hi c hc:=by
  have:dN n b w (2*c+1)=-fh n b w n c:=by unfold dN;rw[if_pos wO,if_neg wO,show (2*c+1) / 2=c by omega]
  omega
 out i hi:=by unfold dN;rw[if_neg wO]
section
variable (n:Nat) (O:Int) (U:Nat) (Z:Nat→Int) (V:Nat) (J:Nat→Int) (W B:Nat→Int) (H:ab) (q:Nat→Int)
theorem RB (hl:U≤10) (hq:∀ j,j<2*U→-1000000≤q j∧q j≤1000000) :
 exec (bO n 65 128) (.block 0 (.loop (part Tryd.f65 [1,0,1,1,1,1,0,1,0,0]))) (kA (shR O U Z V J W B) false U (ofNat 0)) (eT q (ofNat 0) (ofNat 0) .nils::H)=some (.normal,kA (shR O U Z V J W B) (lh q U U).isSome U (ofNat U)++[(21,.bool false)],sR q U (lh q U U)::H):=by
 refine fZ (n:=n) (f:=65) (nt:=128) (c:=part Tryd.f65 [1,0,1,1,1,1,0,1,0,0]) 0 (fun i=>kA (shR O U Z V J W B) (lh q U i).isSome U (i:Int)) (fun i=>sR q U (lh q U i)::H) U (kA (shR O U Z V J W B) (lh q U U).isSome U (ofNat U)++[(21,.bool false)],sR q U (lh q U U)::H) wO (fun i hi=>?_) ?_
 · rw[N8]
   exact SA n O U Z V J W B H q hl hq i hi
 · generalize lh q U U=c
   cases c with
   | none =>
     obtain ⟨x,h1,rfl⟩:=av (Q:=fun x=>x=(.exit 0,kA (shR O U Z V J W B) false U (ofNat U)++[(21,.bool false)],sR q U none::H)) (OI n O U Z V J W B H q (ofNat U)) (aw _) (bN (aj _ _) 2) (ai _ _) (by
      refine Tr.ae wJ (fun h0=>Tr.ag rfl))
     exact h1
   | some v =>
     obtain ⟨f,t⟩:=v
     obtain ⟨x,h1,rfl⟩:=av (Q:=fun x=>x=(.exit 0,kA (shR O U Z V J W B) true U (ofNat U)++[(21,.bool false)],sR q U (some (f,t))::H)) (OL n O U Z V J W B H q (ofNat U) f t (cE q f t U).length (aI (cE q f t U))) (aw _) (bN (aj _ _) 2) (ai _ _) (by
      refine Tr.ae wJ (fun h0=>Tr.ag rfl))
     exact h1
noncomputable def UC (q:Nat→Int) (U:Nat):Option (Int×Int)→AV
 | none=>.tup [.agg (.G [.int .i64 (ofNat 0),.int .i64 (ofNat 0),.nils]),.bool false]
 | some (f,t)=>.tup [.agg (.G [.int .i64 f,.int .i64 t,bG (cE q f t U).length (aI (cE q f t U)) false]),.bool true]
noncomputable def qB (r:Nat→Int):Nat→Int:=lI (fun _=>ofNat 0) 0 r 20
theorem tv (r:Nat→Int) {j:Nat} (hj:j<20):qB r j=r j:=by unfold qB;rw[wc];unfold xO;simp[hj]
theorem UO (b:Nat→Nat) (hS:mX U W b):cd (n+3) (.fn 65) [shV O U Z V J W (bI b)] H=some (UC (qB (dN U b W)) U (lh (qB (dN U b W)) U U),H):=by
 have hq:∀ j,j<2*U→-1000000≤qB (dN U b W) j∧qB (dN U b W) j≤1000000:=fun j hj=>by
  have hl:=hS.len;rw[tv _ wO];have h:=pF (K:=100000) wO hS.win (B4 U b W) (j / 2) wO;rcases Nat.mod_two_eq_zero_or_one j with e | e
  · rw[show 2*(j / 2)=j by omega] at h;omega
  · rw[show 2*(j / 2)+1=j by omega] at h;omega
 have h56:=fun H=>T5 n O U Z V J W b H hS;have hlp:=RB (n+2) O U Z V J W (bI b) H (qB (dN U b W)) hS.len hq;generalize hQ:lh (qB (dN U b W)) U U=c at *;cases c with
 | none =>
   refine rm (n:=n+2) Tryd.func65 rfl (fun _ _=>rfl) rfl (S5 (n+2) O U Z V J W (bI b) H (qB (dN U b W)) (dN U b W)) (bC _ _ (b7 (bh _) h56)) (aM (aj _ _) JF (fun x h=>c6 h (by simp only[dY.st,aG];exact hlp))) (ai _ _) ?_;exact Tr.ak rfl (Tr.aa wG (Tr.ak ⟨rfl,rfl⟩ (Tr.ag ⟨rfl,rfl⟩)))
 | some v =>
   obtain ⟨f,t⟩:=v;refine rm (n:=n+2) Tryd.func65 rfl (fun _ _=>rfl) rfl (S6 (n+2) O U Z V J W (bI b) H (qB (dN U b W)) (dN U b W) f t (cE (qB (dN U b W)) f t U).length (aI (cE (qB (dN U b W)) f t U))) (bC _ _ (b7 (bh _) h56)) (aM (aj _ _) JF (fun x h=>c6 h (by simp only[dY.st,aG];exact hlp))) (ai _ _) ?_;exact Tr.ak rfl (Tr.aa wG (Tr.ak ⟨rfl,rfl⟩ (Tr.ag ⟨rfl,rfl⟩)))
end
end Go.Eng
end
section
namespace Go.Eng
open Go.Proofs Go.Eng.Gall Go.Eng.Q
theorem wT {W:Nat→Int} {b:Nat→Nat} {k X c:Nat} (hb:b c<2 ^ 62) (hX:X<2 ^ 62):okW W (bI b) k X c=true↔(∀ a,(b c).testBit a=true→X.testBit a=true)∧W (2*c)≤(k:Int)∧(k:Int)≤W (2*c+1):=by
 unfold okW;obtain ⟨w,hw,hw2⟩:=TX hb hX;rw[show bI b c=(b c:Int) from rfl,hw,Bool.and_eq_true,Bool.and_eq_true,a7,a7,bf,decide_eq_true_iff,decide_eq_true_iff,beq_iff_eq];have e:(w:Int)=Int.ofNat 0↔∀ a,(b c).testBit a=true→X.testBit a=true:=by
  constructor
  · intro h a ha;have h:w=0:=by
     have h:(w:Int)=0:=h;omega
    have:=hw2 a;rw[h,Nat.zero_testBit,ha,Bool.true_and] at this;cases e:X.testBit a with
    | true=>rfl
    | false=>rw[e] at this;cases this
  · intro h;have:w=0:=by
     apply Nat.eq_of_testBit_eq;intro a;rw[hw2,Nat.zero_testBit];cases e:(b c).testBit a with
     | false=>rfl
     | true=>rw[h a e];rfl
    rw[this];rfl
 rw[e]
theorem zh {n:Nat} {b:Nat→Nat} {W:Nat→Int} {L:List Nat} (hn:n≤10) (hb:∀ c,c<n→b c<2 ^ n):L ∈ ro n (okW W (bI b)) n↔L.length=n∧L.Nodup∧(∀ x ∈ L,x<n)∧∀ i (h:i<L.length),(∀ a,(b L[i]).testBit a=true→a ∈ L.take i)∧W (2*L[i])≤(i:Int)∧(i:Int)≤W (2*L[i]+1):=by
 have p62:2 ^ n≤2 ^ 62:=Nat.pow_le_pow_right wO wO;constructor
 · intro h;obtain ⟨h1,h2,h3⟩:=qg h;refine ⟨h1,h2,h3,fun i hi=>?_⟩;have hl:=h3 _ (List.getElem_mem hi);have hnt:(L.take i).Nodup:=h2.sublist (List.take_sublist i L);have hm:mask (L.take i)<2 ^ n:=wK hnt fun x hx=>h3 x (List.mem_of_mem_take hx);have:=((mg.1 h).2 i hi).2.2;rw[wT (Nat.lt_of_lt_of_le (hb _ hl) p62) (Nat.lt_of_lt_of_le hm p62)] at this;refine ⟨fun a ha=>?_,this.2⟩;have:=this.1 a ha;rw[eF hnt] at this;exact of_decide_eq_true this
 · rintro ⟨h1,h2,h3,h4⟩;refine mg.2 ⟨h1,fun i hi=>?_⟩;have hl:=h3 _ (List.getElem_mem hi);have hnt:(L.take i).Nodup:=h2.sublist (List.take_sublist i L);have hm:mask (L.take i)<2 ^ n:=wK hnt fun x hx=>h3 x (List.mem_of_mem_take hx);refine ⟨hl,?_,(wT (Nat.lt_of_lt_of_le (hb _ hl) p62) (Nat.lt_of_lt_of_le hm p62)).2 ⟨fun a ha=>?_,(h4 i hi).2⟩⟩
   · rw[eF hnt];refine decide_eq_false fun hx=>?_;obtain ⟨j,hj,he⟩:=List.mem_iff_getElem.1 hx;rw[List.length_take] at hj;rw[List.getElem_take] at he;have:=(List.pairwise_iff_getElem.1 h2) j i wO hi wO;exact this he
   · rw[eF hnt];exact decide_eq_true ((h4 i hi).1 a ha)
section
variable {n:Nat} {b:Nat→Nat} {W:Nat→Int} {L:List Nat}
theorem nw {L:List Nat} {c:Nat} (h:c ∈ L):∃ hi:L.idxOf c<L.length,L[L.idxOf c]=c:=⟨List.idxOf_lt_length_iff.2 h,List.getElem_idxOf _⟩
theorem Dx {L:List Nat} {a i:Nat} (h:a ∈ L.take i):L.idxOf a<i:=by
 obtain ⟨j,hj,he⟩:=List.mem_iff_getElem.1 h;rw[List.length_take] at hj;rw[List.getElem_take] at he;have h2:L.idxOf a≤j:=by
  refine Nat.le_of_not_lt fun hlt=>?_;have:=List.not_of_lt_findIdx (p:=(· == a)) (xs:=L) (i:=j) hlt;rw[he] at this;simp at this
 omega
theorem F8 (hL:L.length=n∧L.Nodup∧(∀ x ∈ L,x<n)∧∀ i (h:i<L.length),(∀ a,(b L[i]).testBit a=true→a ∈ L.take i)∧W (2*L[i])≤(i:Int)∧(i:Int)≤W (2*L[i]+1)):∀ t c,c ∈ L→fi n b W t c≤(L.idxOf c:Int)
 | 0,c,hc=>by
   obtain ⟨hi,he⟩:=nw hc;have:=(hL.2.2.2 _ hi).2.1;rw[he] at this;exact this
 | t + 1,c,hc=>by
   rcases iV (fi n b W t c) (fun a=>fi n b W t a+1) (fun a=>(b c).testBit a) n with e | ⟨a,h1,h2,h3⟩
   · have e:fi n b W (t+1) c=fi n b W t c:=e;rw[e];exact F8 hL t c hc
   · have h3:fi n b W (t+1) c=fi n b W t a+1:=h3;obtain ⟨hi,he⟩:=nw hc;have hm:=(hL.2.2.2 _ hi).1 a (by rw[he];exact h2);have:=Dx hm;have:=F8 hL t a (List.mem_of_mem_take hm);omega
theorem FX (hL:L.length=n∧L.Nodup∧(∀ x ∈ L,x<n)∧∀ i (h:i<L.length),(∀ a,(b L[i]).testBit a=true→a ∈ L.take i)∧W (2*L[i])≤(i:Int)∧(i:Int)≤W (2*L[i]+1)):∀ t c,c ∈ L→fh n b W t c≤-(L.idxOf c:Int)
 | 0,c,hc=>by
   obtain ⟨hi,he⟩:=nw hc;have:=(hL.2.2.2 _ hi).2.2;rw[he] at this;show -W (2*c+1)≤_;omega
 | t + 1,c,hc=>by
   rcases iV (fh n b W t c) (fun a=>fh n b W t a+1) (fun a=>(b a).testBit c) n with e | ⟨a,h1,h2,h3⟩
   · have e:fh n b W (t+1) c=fh n b W t c:=e;rw[e];exact FX hL t c hc
   · have h3:fh n b W (t+1) c=fh n b W t a+1:=h3;have ha:a ∈ L:=mF hL.2.1 hL.1 hL.2.2.1 h1;obtain ⟨hi,he⟩:=nw ha;have hm:=(hL.2.2.2 _ hi).1 c (by rw[he];exact h2);have:=Dx hm;have:=FX hL t a ha;omega
theorem Il {M:List Int} (hn:M.Nodup) {F T:Int} (h:∀ x ∈ M,F≤x∧x≤T):M≠[]→(M.length:Int)≤T-F+1:=fun hne=>by
 have h1:(M.map fun x=>(x-F).toNat).Nodup:=by
  rw[List.Nodup,List.pairwise_map,List.pairwise_iff_getElem];intro i j hi hj hij;have a:=(List.pairwise_iff_getElem.1 hn) i j hi hj hij;have b1:=h _ (List.getElem_mem hi);have b2:=h _ (List.getElem_mem hj);have a:M[i]≠M[j]:=a;omega
 have h2:=fT h1 (M:=List.range (T-F+1).toNat) (fun y hy=>by
  obtain ⟨x,hx,rfl⟩:=List.mem_map.1 hy;have:=h x hx;rw[List.mem_range];omega)
 rw[List.length_map,List.length_range] at h2;obtain ⟨x,hx⟩:=List.exists_mem_of_ne_nil M hne;have:=h x hx;omega
theorem Lg (hS:mX n W b) (hW:∀ c,c<n→0≤W (2*c)∧W (2*c+1)<n):lh (qB (dN n b W)) n n=none↔∃ L,L ∈ ro n (okW W (bI b)) n:=by
 have hl:=hS.len;have hqe:∀ c,c<n→qB (dN n b W) (2*c)=fi n b W n c∧qB (dN n b W) (2*c+1)=-fh n b W n c:=fun c hc=>by
  rw[tv _ wO,tv _ wO];unfold dN;rw[if_pos wO,if_pos wO,if_pos wO,if_neg wO,show 2*c / 2=c by omega,show (2*c+1) / 2=c by omega];exact ⟨rfl,rfl⟩
 have hlo:∀ c,W (2*c)≤fi n b W n c:=fun c=>by have:=lo_le (n:=n) (b:=b) (w:=W) 0 n c;rw[Nat.zero_add] at this;exact this
 have hhi:∀ c,-W (2*c+1)≤fh n b W n c:=fun c=>by have:=Cv (n:=n) (b:=b) (w:=W) 0 n c;rw[Nat.zero_add] at this;exact this
 constructor
 · intro h;have hr:=I5 h;obtain ⟨L,hL⟩:=GN (B:=fun a c=>(b c).testBit a=true) hr (fun i hi=>by show 0≤qB _ (2*i);rw[(hqe i hi).1];have:=hlo i;have:=hW i hi;omega) (fun i hi=>by show qB _ (2*i+1) < _;rw[(hqe i hi).2];have:=hhi i;have:=hW i hi;omega) (fun a c ha hc hp=>by
    show qB _ (2*a)<qB _ (2*c)∧qB _ (2*a+1)<qB _ (2*c+1);rw[(hqe a ha).1,(hqe c hc).1,(hqe a ha).2,(hqe c hc).2];have:=CI (w:=W) hS.nob ha hc hp;have:=JN (w:=W) hS.nob ha hc hp;omega)
   refine ⟨L,(zh hl hS.bef).2 ⟨hL.len,hL.nd,hL.lt,fun i hi=>⟨fun a ha=>?_,?_⟩⟩⟩
   · have hc:=hL.lt _ (List.getElem_mem hi);have han:a<n:=by
      refine Nat.lt_of_not_le fun hge=>?_;rw[Nat.testBit_lt_two_pow (Nat.lt_of_lt_of_le (hS.bef _ hc) (Nat.pow_le_pow_right wO hge))] at ha;cases ha
     obtain ⟨hj,he⟩:=nw (mF hL.nd hL.len hL.lt han);rcases Nat.lt_trichotomy (L.idxOf a) i with q | q | q
     · refine List.mem_iff_getElem.2 ⟨L.idxOf a,by rw[List.length_take];omega,?_⟩;rw[List.getElem_take];exact he
     · exfalso;have e:L[i]=a:=by rw[← he];congr 1;exact q.symm
       have:=CI (w:=W) hS.nob (a:=a) (c:=L[i]) han hc ha;rw[e] at this;omega
     · exact absurd (by rw[he];exact ha) (hL.pair i (L.idxOf a) hi hj q)
   · have hc:=hL.lt _ (List.getElem_mem hi);have:=hL.suit i hi;have h1:qB (dN n b W) (2*L[i])≤(i:Int):=this.1;have h2:(i:Int)≤qB (dN n b W) (2*L[i]+1):=this.2;rw[(hqe _ hc).1] at h1;rw[(hqe _ hc).2] at h2;have:=hlo L[i];have:=hhi L[i];omega
 · rintro ⟨L,hL⟩;have hL:=(zh hl hS.bef).1 hL;have hf:dZ (fun x y=>∃ j k,j<n∧k<n∧x=qB (dN n b W) (2*j)∧y=qB (dN n b W) (2*k+1)∧pB (qB (dN n b W)) n x y=true) (lh (qB (dN n b W)) n n):=by
    rcases pd (qB (dN n b W)) n n with h1 | ⟨f,t,h1,h2⟩
    · exact h1
    · rw[h1];exact h2
   cases e:lh (qB (dN n b W)) n n with
   | none=>rfl
   | some v =>
     exfalso;obtain ⟨F,T⟩:=v;rw[e] at hf;obtain ⟨⟨j,k,hj,hk,_,_,hov⟩,_⟩:=hf;unfold pB at hov;rw[Bool.and_eq_true,decide_eq_true_iff,decide_eq_true_iff] at hov;have hm:∀ x ∈ cE (qB (dN n b W)) F T n,∃ c,c<n∧x=(c:Int)∧F≤(L.idxOf c:Int)∧(L.idxOf c:Int)≤T:=fun x hx=>by
      obtain ⟨c,h1,h2,h3⟩:=(mI _ _ _ _ _).1 hx;unfold m9 at h2;rw[Bool.and_eq_true,decide_eq_true_iff,decide_eq_true_iff,(hqe c h1).1,(hqe c h1).2] at h2;have hc:c ∈ L:=mF hL.2.1 hL.1 hL.2.2.1 h1;have:=F8 hL n c hc;have:=FX hL n c hc;exact ⟨c,h1,h3,by omega,by omega⟩
     have hnd:((cE (qB (dN n b W)) F T n).map fun x=>(L.idxOf x.toNat:Int)).Nodup:=by
      rw[List.Nodup,List.pairwise_map];refine (List.Pairwise.and_mem.1 (vv (qB (dN n b W)) F T n)).imp ?_;rintro x y ⟨hx,hy,hne⟩ he;obtain ⟨c,h1,rfl,_⟩:=hm x hx;obtain ⟨d,h2,rfl,_⟩:=hm y hy;rw[Int.toNat_natCast,Int.toNat_natCast] at he;obtain ⟨i1,e1⟩:=nw (mF hL.2.1 hL.1 hL.2.2.1 h1);obtain ⟨i2,e2⟩:=nw (mF hL.2.1 hL.1 hL.2.2.1 h2);have he:L.idxOf c=L.idxOf d:=by omega
      have:c=d:=by
       rw[← e1,← e2];congr 1
      exact hne (by rw[this])
     have:=Il hnd (F:=F) (T:=T) (fun y hy=>by
      obtain ⟨x,hx,rfl⟩:=List.mem_map.1 hy;obtain ⟨c,_,rfl,h3⟩:=hm x hx;rw[Int.toNat_natCast];exact h3) (fun h0=>by
       have:=congrArg List.length h0;rw[List.length_map] at this;simp at this;rw[this] at hov;simp at hov)
     rw[List.length_map] at this;omega
end
end Go.Eng
end
section
namespace Go.Eng
open Go.Proofs Go.Eng.Gall
theorem S1 (n:Nat) (O:Int) (U:Nat) (Z:Nat→Int) (V:Nat) (J:Nat→Int) (G:ab) (e:Int):bu Tryd.prog (cd (n+2)) 100000 49 Tryd.f49 (KtG.kt 49) (il (tN (tX aJ 22 [bk O U Z V J] (.int .i64 e)) 62) n 2) aS aR [(bk O U Z V J,none),(.nils,none)] G =
 Tr.reqP ([bk O U Z V J]=[bk O U Z V J]) (Tr.ite (bU (cK e (Int.ofNat 0))) (Tr.ok ((AV.tup [AV.nilp,AV.int .i64 e],none),G)) Tr.bad):=by kernel_rfl
section
variable (n:Nat) (O:Int) (U:Nat) (Z:Nat→Int) (V:Nat) (J:Nat→Int) (H:ab)
theorem NB (hl:U≤1000) (hb:V≤1000) (h0:¬ c7 O U Z V J=0):cd (n+14) (.fn 49) [bk O U Z V J,.nils] H=some (.tup [.nilp,.int .i64 (c7 O U Z V J)],H):=by
 refine bB (n:=n+13) Tryd.func49 rfl rfl rfl (S1 (n+11) O U Z V J H (c7 O U Z V J)) (lU _ (n+11) 2 (fun q=>ga (b7 (bh _) (fun H=>by
  rw[show n+11+q=n+q+11 by omega];exact T3 (n+q) O U Z V J H hl hb)))) (aj _ _) (ai _ _) ?_
 refine Tr.ak rfl (Tr.ae (fun q=>Tr.ag ⟨rfl,rfl⟩) (fun q=>?_));rw[aO,bf] at q;exact absurd (by simpa using q) h0
end
end Go.Eng
end
section
namespace Go.Eng
open Go.Proofs Go.Eng.Gall
noncomputable def ib (r:Row) (a b:Int):bJ:=⟨false,[(0,.row r),(0,.row (.I .i64 [a,b]))]⟩
end Go.Eng
end
section
namespace Go.Eng
open Go.Proofs Go.Eng.Gall
noncomputable def Ho (O:Int) (U:Nat) (Z:Nat→Int) (V:Nat) (J:Nat→Int):Option (Int×Int):=lh (qB (dN U (fun c=>cZ J c V) (cj O U Z))) U U
section
variable (n:Nat) (O:Int) (U:Nat) (Z:Nat→Int) (V:Nat) (J:Nat→Int) (H:ab) (r r2:Row) (a b:Int)
end
end Go.Eng
end
section
namespace Go.Eng
open Go.Proofs Go.Eng.Gall
end Go.Eng
end
section
namespace Go.Eng
open Go.Proofs Go.Eng.Gall
section
variable (n:Nat) (O:Int) (U:Nat) (Z:Nat→Int) (V:Nat) (J:Nat→Int) (H:ab) (a b:Nat)
end
end Go.Eng
end
section
namespace Go.Eng
open Go.Proofs Go.Eng.Gall Go.Eng.Q
theorem tC (n:Nat) (ok:Nat→Nat→Nat→Bool):∀ k,(ro n ok k).Nodup
 | 0=>by show [[]].Nodup;simp
 | k + 1=>by
   have ih:=tC n ok k;show ((ro n ok k).flatMap fun L=>(nx ok n k (mask L)).map fun c=>L++[c]).Nodup;rw[List.Nodup,List.flatMap,List.pairwise_flatten];refine ⟨fun l hl=>?_,?_⟩
   · obtain ⟨L,hL,rfl⟩:=List.mem_map.1 hl;rw[List.pairwise_map];have hn:(nx ok n k (mask L)).Nodup:=List.Pairwise.filter _ List.nodup_range;exact hn.imp (fun h e=>h (by simpa using e))
   · rw[List.pairwise_map];refine ih.imp (fun h x hx y hy e=>?_);obtain ⟨c,_,rfl⟩:=List.mem_map.1 hx;obtain ⟨d,_,rfl⟩:=List.mem_map.1 hy;have:=congrArg List.dropLast e;simp only[List.dropLast_concat] at this;exact h this
section
variable {n:Nat} {g:Nat→Nat} {W:Nat→Int}
theorem LZ {α:Type} [DecidableEq α] {l m:List α} (h1:l.Nodup) (h2:m.Nodup) (h:∀ x,x ∈ l↔x ∈ m):l.length=m.length :=
 ((List.perm_ext_iff_of_nodup h1 h2).2 h).length_eq
end
end Go.Eng
end
