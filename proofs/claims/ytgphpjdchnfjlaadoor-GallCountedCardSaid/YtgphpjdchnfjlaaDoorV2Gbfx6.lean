/- Gall: a right block. -/
import Derived.Test.YtgphpjdchnfjlaaDoorV2Gp8x4
set_option linter.unusedVariables false
set_option linter.unusedSimpArgs false
set_option maxRecDepth 100000
section
namespace Go.Eng
open Go.Proofs Go.Eng.Gall
theorem Iz:∀ b,(0,b) ∈ aO (bz Tryd.f65)→b=.loop (part Tryd.f65 [1,0,1,1,1,1,0,1,0,0]):=gk (by kernel_rfl)
theorem w9:∀ b,(2,b) ∈ aO (part Tryd.f65 [1,0,1,1,1,1,0,1,0,0])→b=.loop (part Tryd.f65 [1,0,1,1,1,1,0,1,0,0,1,1,0,0,1,1,0,0]):=gk (by kernel_rfl)
theorem Bh (q:Nat→Int) (lc:Nat) (F:Int) (v:Int×Int):∀ k,wV q lc F (some v) k≠none
 | 0=>by intro h;cases h
 | k+1=>by
   unfold wV DE
   split
   · intro h;cases h
   · exact Bh q lc F v k
section
variable (n:Nat) (dr:Int) (lc:Nat) (zc:Nat→Int) (lb:Nat) (zb:Nat→Int) (W B:Nat→Int) (H:aa) (q:Nat→Int)
theorem Ms (b:Option (Int×Int)):aN (sB q lc b::H)=3:=by cases b<;>rfl
theorem Pr (hl:lc≤10) (hq:∀ j,j<2*lc→-1000000≤q j∧q j≤1000000) (i:Nat) (hi:i<lc) (b:Option (Int×Int)) (hb:DM b (q (2*i))=false) :
 exec (cj n 65 128) (.block 2 (.loop (part Tryd.f65 [1,0,1,1,1,1,0,1,0,0,1,1,0,0,1,1,0,0]))) (ie (shR dr lc zc lb zb W B) b.isSome lc i (Int.ofNat 0)) (sB q lc b::H)=some (.normal,ie (shR dr lc zc lb zb W B) (wV q lc (q (2*i)) b lc).isSome lc i (Int.ofNat lc)++[(30,.bool false)],sB q lc (wV q lc (q (2*i)) b lc)::H):=by
 refine kG (n:=n) (f:=65) (nt:=128) (c:=part Tryd.f65 [1,0,1,1,1,1,0,1,0,0,1,1,0,0,1,1,0,0]) 2 (fun k=>ie (shR dr lc zc lb zb W B) (wV q lc (q (2*i)) b k).isSome lc i (k:Int)) (fun k=>sB q lc (wV q lc (q (2*i)) b k)::H) lc (ie (shR dr lc zc lb zb W B) (wV q lc (q (2*i)) b lc).isSome lc i (Int.ofNat lc)++[(30,.bool false)],sB q lc (wV q lc (q (2*i)) b lc)::H) (by omega) (fun k hk=>?_) ?_
 · rw[Ms]
   exact Qo n dr lc zc lb zb W B H q hl hq i k hi hk (wV q lc (q (2*i)) b k) (EO hb k)
 · generalize wV q lc (q (2*i)) b lc=c
   cases c with
   | none =>
     obtain ⟨x,h1,rfl⟩:=aK (Q:=fun x=>x=(.exit 2,ie (shR dr lc zc lb zb W B) false lc i (Int.ofNat lc)++[(30,.bool false)],sB q lc none::H)) (MC n dr lc zc lb zb W B H q i (Int.ofNat lc)) (aJ _) (dJ (ak _ _) 4) (al _ _) (by
      refine Tr.af (fun h0=>by simp (disch:=omega) only[nV,nW] at h0;omega) (fun h0=>Tr.ah rfl))
     exact h1
   | some v =>
     obtain ⟨f,t⟩:=v
     obtain ⟨x,h1,rfl⟩:=aK (Q:=fun x=>x=(.exit 2,ie (shR dr lc zc lb zb W B) true lc i (Int.ofNat lc)++[(30,.bool false)],sB q lc (some (f,t))::H)) (MD n dr lc zc lb zb W B H q i (Int.ofNat lc) f t (dy q f t lc).length (aS (dy q f t lc))) (aJ _) (dJ (ak _ _) 4) (al _ _) (by
      refine Tr.af (fun h0=>by simp (disch:=omega) only[nV,nW] at h0;omega) (fun h0=>Tr.ah rfl))
     exact h1
noncomputable def Et (q:Nat→Int) (lc:Nat) (f t F T:Int):bA:=Dj q f t (gn (dy q f t lc).length (aS (dy q f t lc)) false) F T (dy q F T lc)
theorem Pu (hl:lc≤10) (hq:∀ j,j<2*lc→-1000000≤q j∧q j≤1000000) (i:Nat) (hi:i<lc) (f t:Int) (hb:f<q (2*i)) :
 exec (cj n 65 128) (.block 2 (.loop (part Tryd.f65 [1,0,1,1,1,1,0,1,0,0,1,1,0,0,1,1,0,0]))) (ie (shR dr lc zc lb zb W B) true lc i (Int.ofNat 0)) (sB q lc (some (f,t))::H)=some (.exit 1,Ai (shR dr lc zc lb zb W B) lc i (Int.ofNat 0),Et q lc f t (q (2*i)) (q 1)::H):=by
 have ei:aC 0 (i:Int) 2=2*i:=by rw[bY];omega
 have ek:aC 0 (Int.ofNat 0) 2=0:=by rw[bY];rfl
 have hb2:decide (f<q (2*i))=true:=decide_eq_true hb
 have hx:exec (cj n 65 128) (part Tryd.f65 [1,0,1,1,1,1,0,1,0,0,1,1,0,0,1,1,0,0]) (ie (shR dr lc zc lb zb W B) true lc i (Int.ofNat 0)) (sB q lc (some (f,t))::H)=some (.exit 1,Ai (shR dr lc zc lb zb W B) lc i (Int.ofNat 0),Et q lc f t (q (2*i)) (q 1)::H):=by
  have hlp:=MG n H q (shR dr lc zc lb zb W B) true f t (dy q f t lc).length (aS (dy q f t lc)) lc i (Int.ofNat 0) (q (2*i)) (q 1) hl
  cases hS:dy q (q (2*i)) (q 1) lc with
  | nil =>
    rw[hS] at hlp
    have e:Et q lc f t (q (2*i)) (q 1)=x4 q f t (gn (dy q f t lc).length (aS (dy q f t lc)) false) (q (2*i)) (q 1):=by unfold Et;rw[hS];rfl
    rw[e]
    have T0:=IK n dr lc zc lb zb W B H q i (Int.ofNat 0) f t (dy q f t lc).length (aS (dy q f t lc))
    rw[ei,ek,aH,Nat.zero_add] at T0
    obtain ⟨x,h1,rfl⟩:=aK (Q:=fun x=>x=(.exit 1,Ai (shR dr lc zc lb zb W B) lc i (Int.ofNat 0),x4 q f t (gn (dy q f t lc).length (aS (dy q f t lc)) false) (q (2*i)) (q 1)::H)) T0 (aJ _) (a8 (ak _ _) uD (fun x hx=>fL hx (by simp only[fq.st,aV];exact hlp))) (al _ _) (by
     refine Tr.af (fun h0=>?_) (fun h0=>by simp (disch:=omega) only[nV,nW] at h0;omega)
     exact Tr.ab (by simp (disch:=omega) only[nV,nW];try omega) (Tr.ab (by simp (disch:=omega) only[nV,nW];try omega) (Tr.ab (by simp (disch:=omega) only[nV,nW];try omega) (Tr.ab (by simp (disch:=omega) only[nV,nW];try omega) (Tr.ab (by simp (disch:=omega) only[nV,nW];try omega) (Tr.ab (by simp (disch:=omega) only[nV,nW];try omega) (Tr.ab (by simp (disch:=omega) only[nV,nW];try omega) (Tr.aj ⟨rfl,rfl⟩ (Tr.af (fun _=>Tr.af (fun _=>Tr.ah rfl) (fun h=>by rw[bF,hb2] at h;cases h)) (fun h=>by cases h))))))))))
    exact h1
  | cons a r =>
    rw[hS] at hlp
    have e:Et q lc f t (q (2*i)) (q 1)=Ax q f t (gn (dy q f t lc).length (aS (dy q f t lc)) false) (q (2*i)) (q 1) (r.length+1) (aS (a::r)):=by unfold Et;rw[hS];rfl
    rw[e]
    have T0:=IL n dr lc zc lb zb W B H q i (Int.ofNat 0) f t (dy q f t lc).length (aS (dy q f t lc)) (r.length+1) (aS (a::r))
    rw[ei,ek,aH,Nat.zero_add] at T0
    obtain ⟨x,h1,rfl⟩:=aK (Q:=fun x=>x=(.exit 1,Ai (shR dr lc zc lb zb W B) lc i (Int.ofNat 0),Ax q f t (gn (dy q f t lc).length (aS (dy q f t lc)) false) (q (2*i)) (q 1) (r.length+1) (aS (a::r))::H)) T0 (aJ _) (a8 (ak _ _) uD (fun x hx=>fL hx (by simp only[fq.st,aV];exact hlp))) (al _ _) (by
     refine Tr.af (fun h0=>?_) (fun h0=>by simp (disch:=omega) only[nV,nW] at h0;omega)
     exact Tr.ab (by simp (disch:=omega) only[nV,nW];try omega) (Tr.ab (by simp (disch:=omega) only[nV,nW];try omega) (Tr.ab (by simp (disch:=omega) only[nV,nW];try omega) (Tr.ab (by simp (disch:=omega) only[nV,nW];try omega) (Tr.ab (by simp (disch:=omega) only[nV,nW];try omega) (Tr.ab (by simp (disch:=omega) only[nV,nW];try omega) (Tr.ab (by simp (disch:=omega) only[nV,nW];try omega) (Tr.aj ⟨rfl,rfl⟩ (Tr.af (fun _=>Tr.af (fun _=>Tr.ah rfl) (fun h=>by rw[bF,hb2] at h;cases h)) (fun h=>by cases h))))))))))
    exact h1
 exact cX (fun id' h=>by cases h;rfl) (iM (body:=exec (cj n 65 128) (part Tryd.f65 [1,0,1,1,1,1,0,1,0,0,1,1,0,0,1,1,0,0])) (n:=aN (sB q lc (some (f,t))::H)) (fun _=>ie (shR dr lc zc lb zb W B) true lc i (Int.ofNat 0)) (fun _=>sB q lc (some (f,t))::H) 0 (fun _=>false) (fun _=>(.exit 1,Ai (shR dr lc zc lb zb W B) lc i (Int.ofNat 0),Et q lc f t (q (2*i)) (q 1)::H)) (fun j h=>absurd h (Nat.not_lt_zero j)) (fun j h=>absurd h (Nat.not_lt_zero j)) ⟨hx,by simp⟩ 0 0 100000 rfl (by omega))
theorem Qp (hl:lc≤10) (hq:∀ j,j<2*lc→-1000000≤q j∧q j≤1000000) (i:Nat) (hi:i<lc) :
 ∃ x,exec (cj n 65 128) (part Tryd.f65 [1,0,1,1,1,1,0,1,0,0]) (kH (shR dr lc zc lb zb W B) (jq q lc i).isSome lc i) (sB q lc (jq q lc i)::H)=some x∧x.1=.normal∧tidy 3 x.2.1 x.2.2=(kH (shR dr lc zc lb zb W B) (jq q lc (i+1)).isSome lc ((i+1:Nat):Int),sB q lc (jq q lc (i+1))::H):=by
 have e1:bg .i64 (i:Int) (Int.ofNat 1)=((i+1:Nat):Int):=gr (by omega)
 have eo:jq q lc (i+1)=if DM (jq q lc i) (q (2*i))=true then jq q lc i else wV q lc (q (2*i)) (jq q lc i) lc:=rfl
 rw[eo]
 by_cases hg:DM (jq q lc i) (q (2*i))=true
 · rw[if_pos hg]
   generalize jq q lc i=b at *
   cases b with
   | none=>cases hg
   | some v =>
     obtain ⟨f,t⟩:=v
     have hx:=Pu n dr lc zc lb zb W B H q hl hq i hi f t (of_decide_eq_true hg)
     cases hS:dy q (q (2*i)) (q 1) lc with
     | nil =>
       have e:Et q lc f t (q (2*i)) (q 1)=x4 q f t (gn (dy q f t lc).length (aS (dy q f t lc)) false) (q (2*i)) (q 1):=by unfold Et;rw[hS];rfl
       rw[e] at hx
       have T0:=M9 n dr lc zc lb zb W B H q i f t (dy q f t lc).length (aS (dy q f t lc)) (q (2*i)) (q 1)
       rw[e1] at T0
       refine aK T0 (aJ _) (a8 (ak _ _) w9 (fun x h=>fL h (by simp only[fq.st,aV];exact hx))) (al _ _) ?_
       exact Tr.af (fun h0=>Tr.aj ⟨rfl,rfl⟩ (Tr.ah ⟨rfl,rfl⟩)) (fun h0=>by exfalso;simp (disch:=omega) only[nV,nW] at h0;omega)
     | cons a r =>
       have e:Et q lc f t (q (2*i)) (q 1)=Ax q f t (gn (dy q f t lc).length (aS (dy q f t lc)) false) (q (2*i)) (q 1) (r.length+1) (aS (a::r)):=by unfold Et;rw[hS];rfl
       rw[e] at hx
       have T0:=Na n dr lc zc lb zb W B H q i f t (dy q f t lc).length (aS (dy q f t lc)) (q (2*i)) (q 1) (r.length+1) (aS (a::r))
       rw[e1] at T0
       refine aK T0 (aJ _) (a8 (ak _ _) w9 (fun x h=>fL h (by simp only[fq.st,aV];exact hx))) (al _ _) ?_
       exact Tr.af (fun h0=>Tr.aj ⟨rfl,rfl⟩ (Tr.ah ⟨rfl,rfl⟩)) (fun h0=>by exfalso;simp (disch:=omega) only[nV,nW] at h0;omega)
 · rw[if_neg hg]
   have hg:DM (jq q lc i) (q (2*i))=false:=by simpa using hg
   have hx:=Pr n dr lc zc lb zb W B H q hl hq i hi _ hg
   generalize hc:wV q lc (q (2*i)) (jq q lc i) lc=c at *
   generalize jq q lc i=b at *
   cases b with
   | none =>
     cases c with
     | none =>
       have T0:=MY n dr lc zc lb zb W B H q i
       rw[e1] at T0
       refine aK T0 (aJ _) (a8 (ak _ _) w9 (fun x h=>fL h (by simp only[fq.st,aV];exact hx))) (al _ _) ?_
       exact Tr.af (fun h0=>Tr.aj ⟨rfl,rfl⟩ (Tr.ah ⟨rfl,rfl⟩)) (fun h0=>by exfalso;simp (disch:=omega) only[nV,nW] at h0;omega)
     | some v =>
       obtain ⟨f,t⟩:=v
       have T0:=MZ n dr lc zc lb zb W B H q i f t (dy q f t lc).length (aS (dy q f t lc))
       rw[e1] at T0
       refine aK T0 (aJ _) (a8 (ak _ _) w9 (fun x h=>fL h (by simp only[fq.st,aV];exact hx))) (al _ _) ?_
       exact Tr.af (fun h0=>Tr.aj ⟨rfl,rfl⟩ (Tr.ah ⟨rfl,rfl⟩)) (fun h0=>by exfalso;simp (disch:=omega) only[nV,nW] at h0;omega)
   | some v =>
     obtain ⟨f,t⟩:=v
     cases c with
     | none=>exact absurd hc (Bh _ _ _ _ _)
     | some v2 =>
       obtain ⟨f2,t2⟩:=v2
       have T0:=M8 n dr lc zc lb zb W B H q i f t (dy q f t lc).length (aS (dy q f t lc)) f2 t2 (dy q f2 t2 lc).length (aS (dy q f2 t2 lc))
       rw[e1] at T0
       refine aK T0 (aJ _) (a8 (ak _ _) w9 (fun x h=>fL h (by simp only[fq.st,aV];exact hx))) (al _ _) ?_
       exact Tr.af (fun h0=>Tr.aj ⟨rfl,rfl⟩ (Tr.ah ⟨rfl,rfl⟩)) (fun h0=>by exfalso;simp (disch:=omega) only[nV,nW] at h0;omega)
end
end Go.Eng
end
section
namespace Go.Eng
open Go.Proofs Go.Eng.Gall
theorem GA (n:Nat) (b:Nat→Nat) (w:Nat→Int):Bd n b w n (hJ n b w) where
 lo c hc:=by
  have:hJ n b w (2*c)=fj n b w n c:=by unfold hJ;rw[if_pos (by omega),if_pos (by omega),show 2*c / 2=c by omega]
  omega
 hi c hc:=by
  have:hJ n b w (2*c+1)=-fh n b w n c:=by unfold hJ;rw[if_pos (by omega),if_neg (by omega),show (2*c+1) / 2=c by omega]
  omega
 out i hi:=by unfold hJ;rw[if_neg (by omega)]
section
variable (n:Nat) (dr:Int) (lc:Nat) (zc:Nat→Int) (lb:Nat) (zb:Nat→Int) (W B:Nat→Int) (H:aa) (q:Nat→Int)
theorem Ps (hl:lc≤10) (hq:∀ j,j<2*lc→-1000000≤q j∧q j≤1000000) :
 exec (cj n 65 128) (.block 0 (.loop (part Tryd.f65 [1,0,1,1,1,1,0,1,0,0]))) (kH (shR dr lc zc lb zb W B) false lc (Int.ofNat 0)) (eN q (Int.ofNat 0) (Int.ofNat 0) .nils::H)=some (.normal,kH (shR dr lc zc lb zb W B) (jq q lc lc).isSome lc (Int.ofNat lc)++[(21,.bool false)],sB q lc (jq q lc lc)::H):=by
 refine kG (n:=n) (f:=65) (nt:=128) (c:=part Tryd.f65 [1,0,1,1,1,1,0,1,0,0]) 0 (fun i=>kH (shR dr lc zc lb zb W B) (jq q lc i).isSome lc (i:Int)) (fun i=>sB q lc (jq q lc i)::H) lc (kH (shR dr lc zc lb zb W B) (jq q lc lc).isSome lc (Int.ofNat lc)++[(21,.bool false)],sB q lc (jq q lc lc)::H) (by omega) (fun i hi=>?_) ?_
 · rw[Ms]
   exact Qp n dr lc zc lb zb W B H q hl hq i hi
 · generalize jq q lc lc=c
   cases c with
   | none =>
     obtain ⟨x,h1,rfl⟩:=aK (Q:=fun x=>x=(.exit 0,kH (shR dr lc zc lb zb W B) false lc (Int.ofNat lc)++[(21,.bool false)],sB q lc none::H)) (MX n dr lc zc lb zb W B H q (Int.ofNat lc)) (aJ _) (dJ (ak _ _) 2) (al _ _) (by
      refine Tr.af (fun h0=>by simp (disch:=omega) only[nV,nW] at h0;omega) (fun h0=>Tr.ah rfl))
     exact h1
   | some v =>
     obtain ⟨f,t⟩:=v
     obtain ⟨x,h1,rfl⟩:=aK (Q:=fun x=>x=(.exit 0,kH (shR dr lc zc lb zb W B) true lc (Int.ofNat lc)++[(21,.bool false)],sB q lc (some (f,t))::H)) (M7 n dr lc zc lb zb W B H q (Int.ofNat lc) f t (dy q f t lc).length (aS (dy q f t lc))) (aJ _) (dJ (ak _ _) 2) (al _ _) (by
      refine Tr.af (fun h0=>by simp (disch:=omega) only[nV,nW] at h0;omega) (fun h0=>Tr.ah rfl))
     exact h1
noncomputable def R3 (q:Nat→Int) (lc:Nat):Option (Int×Int)→AV
 | none=>.tup [.agg (.G [.int .i64 (Int.ofNat 0),.int .i64 (Int.ofNat 0),.nils]),.bool false]
 | some (f,t)=>.tup [.agg (.G [.int .i64 f,.int .i64 t,gn (dy q f t lc).length (aS (dy q f t lc)) false]),.bool true]
noncomputable def qB (r:Nat→Int):Nat→Int:=oo (fun _=>Int.ofNat 0) 0 r 20
theorem FE (r:Nat→Int) {j:Nat} (hj:j<20):qB r j=r j:=by unfold qB;rw[vM];unfold xh;simp[hj]
theorem RD (b:Nat→Nat) (hS:lz lc W b):cd (n+3) (.fn 65) [shV dr lc zc lb zb W (bI b)] H=some (R3 (qB (hJ lc b W)) lc (jq (qB (hJ lc b W)) lc lc),H):=by
 have hq:∀ j,j<2*lc→-1000000≤qB (hJ lc b W) j∧qB (hJ lc b W) j≤1000000:=fun j hj=>by
  have hl:=hS.len
  rw[FE _ (by omega)]
  have h:=zP (K:=100000) (by omega) hS.win (GA lc b W) (j / 2) (by omega)
  rcases Nat.mod_two_eq_zero_or_one j with e | e
  · rw[show 2*(j / 2)=j by omega] at h;omega
  · rw[show 2*(j / 2)+1=j by omega] at h;omega
 have h56:=fun H=>R7 n dr lc zc lb zb W b H hS
 have hlp:=Ps (n+2) dr lc zc lb zb W (bI b) H (qB (hJ lc b W)) hS.len hq
 generalize hQ:jq (qB (hJ lc b W)) lc lc=c at *
 cases c with
 | none =>
   refine q9 (n:=n+2) Tryd.func65 rfl (fun _ _=>rfl) rfl (QG (n+2) dr lc zc lb zb W (bI b) H (qB (hJ lc b W)) (hJ lc b W)) (bZ _ _ (iz (bx _) h56)) (a8 (ak _ _) Iz (fun x h=>fL h (by simp only[fq.st,aV];exact hlp))) (al _ _) ?_
   exact Tr.aj rfl (Tr.ab (by simp (disch:=omega) only[nV,nW];try omega) (Tr.aj ⟨rfl,rfl⟩ (Tr.ah ⟨rfl,rfl⟩)))
 | some v =>
   obtain ⟨f,t⟩:=v
   refine q9 (n:=n+2) Tryd.func65 rfl (fun _ _=>rfl) rfl (QH (n+2) dr lc zc lb zb W (bI b) H (qB (hJ lc b W)) (hJ lc b W) f t (dy (qB (hJ lc b W)) f t lc).length (aS (dy (qB (hJ lc b W)) f t lc))) (bZ _ _ (iz (bx _) h56)) (a8 (ak _ _) Iz (fun x h=>fL h (by simp only[fq.st,aV];exact hlp))) (al _ _) ?_
   exact Tr.aj rfl (Tr.ab (by simp (disch:=omega) only[nV,nW];try omega) (Tr.aj ⟨rfl,rfl⟩ (Tr.ah ⟨rfl,rfl⟩)))
end
end Go.Eng
end
section
namespace Go.Eng
open Go.Proofs Go.Eng.Gall Go.Eng.Q
theorem Cb {W:Nat→Int} {b:Nat→Nat} {k X c:Nat} (hb:b c<2 ^ 62) (hX:X<2 ^ 62):okW W (bI b) k X c=true↔(∀ a,(b c).testBit a=true→X.testBit a=true)∧W (2*c)≤(k:Int)∧(k:Int)≤W (2*c+1):=by
 unfold okW
 obtain ⟨w,hw,hw2⟩:=Rz hb hX
 rw[show bI b c=(b c:Int) from rfl,hw,Bool.and_eq_true,Bool.and_eq_true,bt,bt,aT,decide_eq_true_iff,decide_eq_true_iff,beq_iff_eq]
 have e:(w:Int)=Int.ofNat 0↔∀ a,(b c).testBit a=true→X.testBit a=true:=by
  constructor
  · intro h a ha
    have h:w=0:=by
     have h:(w:Int)=0:=h
     omega
    have:=hw2 a
    rw[h,Nat.zero_testBit,ha,Bool.true_and] at this
    cases e:X.testBit a with
    | true=>rfl
    | false=>rw[e] at this;cases this
  · intro h
    have:w=0:=by
     apply Nat.eq_of_testBit_eq
     intro a
     rw[hw2,Nat.zero_testBit]
     cases e:(b c).testBit a with
     | false=>rfl
     | true=>rw[h a e];rfl
    rw[this];rfl
 rw[e]
theorem mi {n:Nat} {b:Nat→Nat} {W:Nat→Int} {L:List Nat} (hn:n≤10) (hb:∀ c,c<n→b c<2 ^ n):L ∈ ro n (okW W (bI b)) n↔L.length=n∧L.Nodup∧(∀ x ∈ L,x<n)∧∀ i (h:i<L.length),(∀ a,(b L[i]).testBit a=true→a ∈ L.take i)∧W (2*L[i])≤(i:Int)∧(i:Int)≤W (2*L[i]+1):=by
 have p62:2 ^ n≤2 ^ 62:=Nat.pow_le_pow_right (by omega) (by omega)
 constructor
 · intro h
   obtain ⟨h1,h2,h3⟩:=pY h
   refine ⟨h1,h2,h3,fun i hi=>?_⟩
   have hl:=h3 _ (List.getElem_mem hi)
   have hnt:(L.take i).Nodup:=h2.sublist (List.take_sublist i L)
   have hm:mask (L.take i)<2 ^ n:=BY hnt fun x hx=>h3 x (List.mem_of_mem_take hx)
   have:=((wD.1 h).2 i hi).2.2
   rw[Cb (Nat.lt_of_lt_of_le (hb _ hl) p62) (Nat.lt_of_lt_of_le hm p62)] at this
   refine ⟨fun a ha=>?_,this.2⟩
   have:=this.1 a ha
   rw[eh hnt] at this
   exact of_decide_eq_true this
 · rintro ⟨h1,h2,h3,h4⟩
   refine wD.2 ⟨h1,fun i hi=>?_⟩
   have hl:=h3 _ (List.getElem_mem hi)
   have hnt:(L.take i).Nodup:=h2.sublist (List.take_sublist i L)
   have hm:mask (L.take i)<2 ^ n:=BY hnt fun x hx=>h3 x (List.mem_of_mem_take hx)
   refine ⟨hl,?_,(Cb (Nat.lt_of_lt_of_le (hb _ hl) p62) (Nat.lt_of_lt_of_le hm p62)).2 ⟨fun a ha=>?_,(h4 i hi).2⟩⟩
   · rw[eh hnt]
     refine decide_eq_false fun hx=>?_
     obtain ⟨j,hj,he⟩:=List.mem_iff_getElem.1 hx
     rw[List.length_take] at hj
     rw[List.getElem_take] at he
     have:=(List.pairwise_iff_getElem.1 h2) j i (by omega) hi (by omega)
     exact this he
   · rw[eh hnt]
     exact decide_eq_true ((h4 i hi).1 a ha)
section
variable {n:Nat} {b:Nat→Nat} {W:Nat→Int} {L:List Nat}
theorem fK {L:List Nat} {c:Nat} (h:c ∈ L):∃ hi:L.idxOf c<L.length,L[L.idxOf c]=c:=⟨List.idxOf_lt_length_iff.2 h,List.getElem_idxOf _⟩
theorem rz {L:List Nat} {a i:Nat} (h:a ∈ L.take i):L.idxOf a<i:=by
 obtain ⟨j,hj,he⟩:=List.mem_iff_getElem.1 h
 rw[List.length_take] at hj
 rw[List.getElem_take] at he
 have h2:L.idxOf a≤j:=by
  refine Nat.le_of_not_lt fun hlt=>?_
  have:=List.not_of_lt_findIdx (p:=(· == a)) (xs:=L) (i:=j) hlt
  rw[he] at this;simp at this
 omega
theorem EZ (hL:L.length=n∧L.Nodup∧(∀ x ∈ L,x<n)∧∀ i (h:i<L.length),(∀ a,(b L[i]).testBit a=true→a ∈ L.take i)∧W (2*L[i])≤(i:Int)∧(i:Int)≤W (2*L[i]+1)):∀ t c,c ∈ L→fj n b W t c≤(L.idxOf c:Int)
 | 0,c,hc=>by
   obtain ⟨hi,he⟩:=fK hc
   have:=(hL.2.2.2 _ hi).2.1
   rw[he] at this;exact this
 | t + 1,c,hc=>by
   rcases jd (fj n b W t c) (fun a=>fj n b W t a+1) (fun a=>(b c).testBit a) n with e | ⟨a,h1,h2,h3⟩
   · have e:fj n b W (t+1) c=fj n b W t c:=e
     rw[e];exact EZ hL t c hc
   · have h3:fj n b W (t+1) c=fj n b W t a+1:=h3
     obtain ⟨hi,he⟩:=fK hc
     have hm:=(hL.2.2.2 _ hi).1 a (by rw[he];exact h2)
     have:=rz hm
     have:=EZ hL t a (List.mem_of_mem_take hm)
     omega
theorem EI (hL:L.length=n∧L.Nodup∧(∀ x ∈ L,x<n)∧∀ i (h:i<L.length),(∀ a,(b L[i]).testBit a=true→a ∈ L.take i)∧W (2*L[i])≤(i:Int)∧(i:Int)≤W (2*L[i]+1)):∀ t c,c ∈ L→fh n b W t c≤-(L.idxOf c:Int)
 | 0,c,hc=>by
   obtain ⟨hi,he⟩:=fK hc
   have:=(hL.2.2.2 _ hi).2.2
   rw[he] at this
   show -W (2*c+1)≤_
   omega
 | t + 1,c,hc=>by
   rcases jd (fh n b W t c) (fun a=>fh n b W t a+1) (fun a=>(b a).testBit c) n with e | ⟨a,h1,h2,h3⟩
   · have e:fh n b W (t+1) c=fh n b W t c:=e
     rw[e];exact EI hL t c hc
   · have h3:fh n b W (t+1) c=fh n b W t a+1:=h3
     have ha:a ∈ L:=fa hL.2.1 hL.1 hL.2.2.1 h1
     obtain ⟨hi,he⟩:=fK ha
     have hm:=(hL.2.2.2 _ hi).1 c (by rw[he];exact h2)
     have:=rz hm
     have:=EI hL t a ha
     omega
theorem G6 {M:List Int} (hn:M.Nodup) {F T:Int} (h:∀ x ∈ M,F≤x∧x≤T):M≠[]→(M.length:Int)≤T-F+1:=fun hne=>by
 have h1:(M.map fun x=>(x-F).toNat).Nodup:=by
  rw[List.Nodup,List.pairwise_map,List.pairwise_iff_getElem]
  intro i j hi hj hij
  have a:=(List.pairwise_iff_getElem.1 hn) i j hi hj hij
  have b1:=h _ (List.getElem_mem hi)
  have b2:=h _ (List.getElem_mem hj)
  have a:M[i]≠M[j]:=a
  omega
 have h2:=fY h1 (M:=List.range (T-F+1).toNat) (fun y hy=>by
  obtain ⟨x,hx,rfl⟩:=List.mem_map.1 hy
  have:=h x hx
  rw[List.mem_range];omega)
 rw[List.length_map,List.length_range] at h2
 obtain ⟨x,hx⟩:=List.exists_mem_of_ne_nil M hne
 have:=h x hx
 omega
theorem D7 (hS:lz n W b) (hW:∀ c,c<n→0≤W (2*c)∧W (2*c+1)<n):jq (qB (hJ n b W)) n n=none↔∃ L,L ∈ ro n (okW W (bI b)) n:=by
 have hl:=hS.len
 have hqe:∀ c,c<n→qB (hJ n b W) (2*c)=fj n b W n c∧qB (hJ n b W) (2*c+1)=-fh n b W n c:=fun c hc=>by
  rw[FE _ (by omega),FE _ (by omega)]
  unfold hJ
  rw[if_pos (by omega),if_pos (by omega),if_pos (by omega),if_neg (by omega),show 2*c / 2=c by omega,show (2*c+1) / 2=c by omega]
  exact ⟨rfl,rfl⟩
 have hlo:∀ c,W (2*c)≤fj n b W n c:=fun c=>by have:=lo_le (n:=n) (b:=b) (w:=W) 0 n c;rw[Nat.zero_add] at this;exact this
 have hhi:∀ c,-W (2*c+1)≤fh n b W n c:=fun c=>by have:=BG (n:=n) (b:=b) (w:=W) 0 n c;rw[Nat.zero_add] at this;exact this
 constructor
 · intro h
   have hr:=HP h
   obtain ⟨L,hL⟩:=FK (B:=fun a c=>(b c).testBit a=true) hr (fun i hi=>by show 0≤qB _ (2*i);rw[(hqe i hi).1];have:=hlo i;have:=hW i hi;omega) (fun i hi=>by show qB _ (2*i+1) < _;rw[(hqe i hi).2];have:=hhi i;have:=hW i hi;omega) (fun a c ha hc hp=>by
    show qB _ (2*a)<qB _ (2*c)∧qB _ (2*a+1)<qB _ (2*c+1)
    rw[(hqe a ha).1,(hqe c hc).1,(hqe a ha).2,(hqe c hc).2]
    have:=EY (w:=W) hS.nob ha hc hp
    have:=IH (w:=W) hS.nob ha hc hp
    omega)
   refine ⟨L,(mi hl hS.bef).2 ⟨hL.len,hL.nd,hL.lt,fun i hi=>⟨fun a ha=>?_,?_⟩⟩⟩
   · have hc:=hL.lt _ (List.getElem_mem hi)
     have han:a<n:=by
      refine Nat.lt_of_not_le fun hge=>?_
      rw[Nat.testBit_lt_two_pow (Nat.lt_of_lt_of_le (hS.bef _ hc) (Nat.pow_le_pow_right (by omega) hge))] at ha
      cases ha
     obtain ⟨hj,he⟩:=fK (fa hL.nd hL.len hL.lt han)
     rcases Nat.lt_trichotomy (L.idxOf a) i with q | q | q
     · refine List.mem_iff_getElem.2 ⟨L.idxOf a,by rw[List.length_take];omega,?_⟩
       rw[List.getElem_take];exact he
     · exfalso
       have e:L[i]=a:=by rw[← he];congr 1;exact q.symm
       have:=EY (w:=W) hS.nob (a:=a) (c:=L[i]) han hc ha
       rw[e] at this;omega
     · exact absurd (by rw[he];exact ha) (hL.pair i (L.idxOf a) hi hj q)
   · have hc:=hL.lt _ (List.getElem_mem hi)
     have:=hL.suit i hi
     have h1:qB (hJ n b W) (2*L[i])≤(i:Int):=this.1
     have h2:(i:Int)≤qB (hJ n b W) (2*L[i]+1):=this.2
     rw[(hqe _ hc).1] at h1
     rw[(hqe _ hc).2] at h2
     have:=hlo L[i]
     have:=hhi L[i]
     omega
 · rintro ⟨L,hL⟩
   have hL:=(mi hl hS.bef).1 hL
   have hf:jI (fun x y=>∃ j k,j<n∧k<n∧x=qB (hJ n b W) (2*j)∧y=qB (hJ n b W) (2*k+1)∧sY (qB (hJ n b W)) n x y=true) (jq (qB (hJ n b W)) n n):=by
    rcases sX (qB (hJ n b W)) n n with h1 | ⟨f,t,h1,h2⟩
    · exact h1
    · rw[h1];exact h2
   cases e:jq (qB (hJ n b W)) n n with
   | none=>rfl
   | some v =>
     exfalso
     obtain ⟨F,T⟩:=v
     rw[e] at hf
     obtain ⟨⟨j,k,hj,hk,_,_,hov⟩,_⟩:=hf
     unfold sY at hov
     rw[Bool.and_eq_true,decide_eq_true_iff,decide_eq_true_iff] at hov
     have hm:∀ x ∈ dy (qB (hJ n b W)) F T n,∃ c,c<n∧x=(c:Int)∧F≤(L.idxOf c:Int)∧(L.idxOf c:Int)≤T:=fun x hx=>by
      obtain ⟨c,h1,h2,h3⟩:=(rb _ _ _ _ _).1 hx
      unfold wW at h2
      rw[Bool.and_eq_true,decide_eq_true_iff,decide_eq_true_iff,(hqe c h1).1,(hqe c h1).2] at h2
      have hc:c ∈ L:=fa hL.2.1 hL.1 hL.2.2.1 h1
      have:=EZ hL n c hc
      have:=EI hL n c hc
      exact ⟨c,h1,h3,by omega,by omega⟩
     have hnd:((dy (qB (hJ n b W)) F T n).map fun x=>(L.idxOf x.toNat:Int)).Nodup:=by
      rw[List.Nodup,List.pairwise_map]
      refine (List.Pairwise.and_mem.1 (uY (qB (hJ n b W)) F T n)).imp ?_
      rintro x y ⟨hx,hy,hne⟩ he
      obtain ⟨c,h1,rfl,_⟩:=hm x hx
      obtain ⟨d,h2,rfl,_⟩:=hm y hy
      rw[Int.toNat_natCast,Int.toNat_natCast] at he
      obtain ⟨i1,e1⟩:=fK (fa hL.2.1 hL.1 hL.2.2.1 h1)
      obtain ⟨i2,e2⟩:=fK (fa hL.2.1 hL.1 hL.2.2.1 h2)
      have he:L.idxOf c=L.idxOf d:=by omega
      have:c=d:=by
       rw[← e1,← e2];congr 1
      exact hne (by rw[this])
     have:=G6 hnd (F:=F) (T:=T) (fun y hy=>by
      obtain ⟨x,hx,rfl⟩:=List.mem_map.1 hy
      obtain ⟨c,_,rfl,h3⟩:=hm x hx
      rw[Int.toNat_natCast];exact h3) (fun h0=>by
       have:=congrArg List.length h0
       rw[List.length_map] at this
       simp at this;rw[this] at hov;simp at hov)
     rw[List.length_map] at this
     omega
end
end Go.Eng
end
section
namespace Go.Eng
open Go.Proofs Go.Eng.Gall
theorem Uq (n:Nat) (dr:Int) (lc:Nat) (zc:Nat→Int) (lb:Nat) (zb:Nat→Int) (W B:Nat→Int) (H:aa) (k:Int):bE Tryd.prog (cd n) 100000 34 Tryd.f34 (KtG.kt 34) (il (tX (tX a6 49 [di dr lc zc lb zb,.nils] (.tup [shV dr lc zc lb zb W B,.int .i64 (Int.ofNat 0)])) 73 [shV dr lc zc lb zb W B] (.int .i64 k)) n 0) bp br [(di dr lc zc lb zb,none)] H =
 (fun (Z0:List AV)=>((fun (Z1:List AV)=>Tr.reqP (Z1=Z1) (Tr.ite (bL (cJ (Int.ofNat 0) (Int.ofNat 0))) (Tr.ok ((AV.tup [AV.int .i64 (Int.ofNat 0),AV.int .i64 (Int.ofNat 0)],none),H)) (Tr.reqP (Z0=Z0) (Tr.ok ((AV.tup [AV.int .i64 k,AV.int .i64 (Int.ofNat 0)],none),H))))) [AV.agg (Row.G [AV.int .i64 dr,AV.slcT none (Row.M [an.arr .i64 zc (ar lc 4)]) 4 lc false,AV.slcT none (Row.M [an.arr .i64 zb (ar lb 2)]) 2 lb false]),AV.nils])) [AV.ptrT none (Row.M [an.one (AV.int .i64 dr),an.one (AV.slcT none (Row.M [an.arr .i64 zc (ar lc 4)]) 4 lc false),an.one (AV.slcT none (Row.M [an.arr .i64 zb (ar lb 2)]) 2 lb false),an.arr .i64 W 20,an.arr IntKind.u64 B 10]) 0]:=by kernel_rfl
theorem QA (n:Nat) (dr:Int) (lc:Nat) (zc:Nat→Int) (lb:Nat) (zb:Nat→Int) (H:aa) (e:Int):bE Tryd.prog (cd n) 100000 34 Tryd.f34 (KtG.kt 34) (il (tN (tX a6 49 [di dr lc zc lb zb,.nils] (.tup [.nilp,.int .i64 e])) 73) n 0) bp br [(di dr lc zc lb zb,none)] H =
 (fun (Z0:List AV)=>Tr.reqP (Z0=Z0) (Tr.ite (bL (cJ e (Int.ofNat 0))) (Tr.ok ((AV.tup [AV.int .i64 (Int.ofNat 0),AV.int .i64 e],none),H)) Tr.bad)) [AV.agg (Row.G [AV.int .i64 dr,AV.slcT none (Row.M [an.arr .i64 zc (ar lc 4)]) 4 lc false,AV.slcT none (Row.M [an.arr .i64 zb (ar lb 2)]) 2 lb false]),AV.nils]:=by kernel_rfl
theorem QB (n:Nat) (dr:Int) (lc:Nat) (zc:Nat→Int) (lb:Nat) (zb:Nat→Int) (G:aa) (e:Int):bE Tryd.prog (cd (n+2)) 100000 49 Tryd.f49 (KtG.kt 49) (il (tN (tX a6 22 [di dr lc zc lb zb] (.int .i64 e)) 62) n 2) bp br [(di dr lc zc lb zb,none),(.nils,none)] G =
 (fun (Z0:List AV)=>Tr.reqP (Z0=Z0) (Tr.ite (bL (cJ e (Int.ofNat 0))) (Tr.ok ((AV.tup [AV.nilp,AV.int .i64 e],none),G)) Tr.bad)) [AV.agg (Row.G [AV.int .i64 dr,AV.slcT none (Row.M [an.arr .i64 zc (ar lc 4)]) 4 lc false,AV.slcT none (Row.M [an.arr .i64 zb (ar lb 2)]) 2 lb false])]:=by kernel_rfl
section
variable (n:Nat) (dr:Int) (lc:Nat) (zc:Nat→Int) (lb:Nat) (zb:Nat→Int) (H:aa)
theorem Oe (hl:lc≤1000) (hb:lb≤1000) (h0:¬ dX dr lc zc lb zb=0):cd (n+14) (.fn 49) [di dr lc zc lb zb,.nils] H=some (.tup [.nilp,.int .i64 (dX dr lc zc lb zb)],H):=by
 refine bV (n:=n+13) Tryd.func49 rfl rfl rfl (QB (n+11) dr lc zc lb zb H (dX dr lc zc lb zb)) (m6 _ (n+11) 2 (fun q=>qI (iz (bx _) (fun H=>by
  rw[show n+11+q=n+q+11 by omega]
  exact Ob (n+q) dr lc zc lb zb H hl hb)))) (ak _ _) (al _ _) ?_
 refine Tr.aj rfl (Tr.af (fun q=>Tr.ah ⟨rfl,rfl⟩) (fun q=>?_))
 rw[aY,aT] at q
 exact absurd (by simpa using q) h0
noncomputable def Ma:AV:=if dX dr lc zc lb zb=0 then .tup [.int .i64 (Q.cntF lc (fc dr lc zc) (jl lb zb)),.int .i64 0] else .tup [.int .i64 0,.int .i64 (dX dr lc zc lb zb)]
theorem Od (hl:lc≤1000) (hb:lb≤1000):cd (n+15) (.fn 34) [di dr lc zc lb zb] H=some (Ma dr lc zc lb zb,H):=by
 unfold Ma
 by_cases h0:dX dr lc zc lb zb=0
 · rw[if_pos h0]
   obtain ⟨h1,_⟩:=qL h0
   refine bV (n:=n+14) Tryd.func34 rfl rfl rfl (Uq (n+14) dr lc zc lb zb (fc dr lc zc) (jl lb zb) H (Q.cntF lc (fc dr lc zc) (jl lb zb))) (bZ _ _ (iz (iz (bx _) (fun H=>Og n dr lc zc lb zb H hb h0)) (fun H=>Ol (n+13) dr lc zc lb zb (fc dr lc zc) (jl lb zb) H h1.2))) (ak _ _) (al _ _) ?_
   refine Tr.aj rfl (Tr.af (fun q=>by simp[aY,aT] at q) (fun q=>Tr.aj rfl (Tr.ah ⟨rfl,rfl⟩)))
 · rw[if_neg h0]
   refine bV (n:=n+14) Tryd.func34 rfl rfl rfl (QA (n+14) dr lc zc lb zb H (dX dr lc zc lb zb)) (bZ _ _ (qI (iz (bx _) (fun H=>Oe n dr lc zc lb zb H hl hb h0)))) (ak _ _) (al _ _) ?_
   refine Tr.aj rfl (Tr.af (fun q=>Tr.ah ⟨rfl,rfl⟩) (fun q=>?_))
   rw[aY,aT] at q
   exact absurd (by simpa using q) h0
end
end Go.Eng
end
section
namespace Go.Eng
open Go.Proofs Go.Eng.Gall
noncomputable def vv (d:Nat):AV:=.slc d 1 0 0 1 2 (some 2)
noncomputable def dF (r:Row) (a b:Int):bA:=⟨false,[(0,.row r),(0,.row (.I .i64 [a,b]))]⟩
noncomputable def qi (j:Int):az:=[(0,vv 4),(1,xn 2),(7,.int .i64 (Int.ofNat 2)),(8,.int .i64 j)]
theorem Ny (n:Nat) (dr:Int) (lc:Nat) (zc:Nat→Int) (lb:Nat) (zb:Nat→Int) (r r2:Row) (H:aa) (a b j:Int):aW (cj (n+1) 89 19) (il a6 n 1) bp br (part Tryd.f89 [1,0,1,0,0]) (hints (qi j)) (aZ::aZ::ik dr lc zc lb zb::⟨false,[(0,.row r2)]⟩::dF r a b::H) =
 (fun (Z0:bA)=>((fun (Z1:bA)=>((fun (Z2:bA)=>Tr.ite (bO j (Int.ofNat 2)) (Tr.req (dj j 2) (Tr.req (cG 0 0) (Tr.req (cZ (aC 0 j 1) (G9 [a,b])) (Tr.ite (bO (aS [a,b] (aC 0 j 1)) (Int.ofNat 0)) (Tr.ok (Ex.ret,[(4,AV.int .i64 j,none)],aZ::aZ::Z0::Z2::Z1::H)) (Tr.ite (dN (Int.ofNat lc) (aS [a,b] (aC 0 j 1))) (Tr.ok (Ex.ret,[(4,AV.int .i64 j,none)],aZ::aZ::Z0::Z2::Z1::H)) (Tr.ok (Ex.normal,[(0,AV.slc 4 1 0 0 1 2 (some 2),none),(1,AV.fn (Fn.func 80) [] [AV.ptr 2 0 0 0],none),(7,AV.int .i64 (Int.ofNat 2),none),(8,AV.int .i64 (bg .i64 j (Int.ofNat 1)),none)],aZ::aZ::Z0::Z2::Z1::H))))))) (Tr.ok (Ex.exit 0,[(0,AV.slc 4 1 0 0 1 2 (some 2),none),(1,AV.fn (Fn.func 80) [] [AV.ptr 2 0 0 0],none),(7,AV.int .i64 (Int.ofNat 2),none),(8,AV.int .i64 j,none),(9,AV.bool false,some 1)],aZ::aZ::Z0::Z2::Z1::H))) { lock:=false,bs:=[(0,aq.row r2)] })) { lock:=false,bs:=[(0,aq.row r),(0,aq.row (Row.I .i64 [a,b]))] })) { lock:=false,bs:=[(0,aq.row (Row.G [AV.int .i64 dr,AV.slcT none (Row.M [an.arr .i64 zc (ar lc 4)]) 4 lc false,AV.slcT none (Row.M [an.arr .i64 zb (ar lb 2)]) 2 lb false]))] }:=by kernel_rfl
theorem QL (n:Nat) (G:aa):bE Tryd.prog (cd n) 100000 89 Tryd.f89 (KtG.kt 89) (il a6 n 0) (dc bp 0 (qi (Int.ofNat 0)) (aZ::G) (.ok (.normal,hints (qi (Int.ofNat 2)++[(9,.bool false)]),aZ::G))) br [(vv 3,none),(xn 1,none)] G =
 (fun (Z0:az)=>Tr.reqP (Z0=Z0∧aZ::G=aZ::G) (Tr.ok ((AV.int .i64 (Int.negSucc 0),some 1),G))) [(0,AV.slc 4 1 0 0 1 2 (some 2)),(1,AV.fn (Fn.func 80) [] [AV.ptr 2 0 0 0]),(7,AV.int .i64 (Int.ofNat 2)),(8,AV.int .i64 (Int.ofNat 0))]:=by kernel_rfl
theorem QI (n:Nat) (i:Int) (G:aa):bE Tryd.prog (cd n) 100000 67 Tryd.f67 (KtG.kt 67) (il (Bq a6 89 [vv 3,xn 1] (aZ::G) (.ok (.int .i64 i,aZ::G))) n 0) bp br [(vv 2,none),(xn 0,none)] G =
 Tr.reqP ([AV.slc 3 1 0 0 1 2 (some 2),AV.fn (Fn.func 80) [] [AV.ptr 1 0 0 0]]=[AV.slc 3 1 0 0 1 2 (some 2),AV.fn (Fn.func 80) [] [AV.ptr 1 0 0 0]]∧aZ::G=aZ::G) (Tr.ok ((AV.bool (dN (Int.ofNat 0) i),none),G)):=by kernel_rfl
theorem QC (n:Nat) (dr:Int) (lc:Nat) (zc:Nat→Int) (lb:Nat) (zb:Nat→Int) (W B:Nat→Int) (G:aa) (q:Bool) (C:List AV→Prop):bE Tryd.prog (cd n) 100000 49 Tryd.f49 (KtG.kt 49) (il (Bq (oa (tX a6 22 [di dr lc zc lb zb] (.int .i64 (Int.ofNat 0))) 62 (fun x=>some (C x,shV dr lc zc lb zb W B))) 67 [vv 2,xn 0] (ik dr lc zc lb zb::G) (.ok (.bool q,ik dr lc zc lb zb::G))) n 0) bp br [(di dr lc zc lb zb,none),(vv 1,none)] G =
 (fun (Z0:Row)=>Tr.reqP ([AV.agg Z0]=[AV.agg Z0]) (Tr.ite (bL (cJ (Int.ofNat 0) (Int.ofNat 0))) (Tr.ok ((AV.tup [AV.nilp,AV.int .i64 (Int.ofNat 0)],none),G)) (Tr.reqP ([AV.slc 2 1 0 0 1 2 (some 2),AV.fn (Fn.func 80) [] [AV.ptr 0 0 0 0]]=[AV.slc 2 1 0 0 1 2 (some 2),AV.fn (Fn.func 80) [] [AV.ptr 0 0 0 0]]∧{ lock:=false,bs:=[(0,aq.row Z0)] } :: G={ lock:=false,bs:=[(0,aq.row Z0)] } :: G) (Tr.ite q (Tr.ok ((AV.tup [AV.nilp,AV.int .i64 (Int.ofNat 2)],none),G)) (Tr.reqP (C [AV.agg Z0]) (Tr.ok ((AV.tup [AV.ptrT none (Row.M [an.one (AV.int .i64 dr),an.one (AV.slcT none (Row.M [an.arr .i64 zc (ar lc 4)]) 4 lc false),an.one (AV.slcT none (Row.M [an.arr .i64 zb (ar lb 2)]) 2 lb false),an.arr .i64 W 20,an.arr IntKind.u64 B 10]) 0,AV.int .i64 (Int.ofNat 0)],none),G))))))) (Row.G [AV.int .i64 dr,AV.slcT none (Row.M [an.arr .i64 zc (ar lc 4)]) 4 lc false,AV.slcT none (Row.M [an.arr .i64 zb (ar lb 2)]) 2 lb false]):=by kernel_rfl
theorem QJ (n:Nat) (dr:Int) (lc:Nat) (zc:Nat→Int) (lb:Nat) (zb:Nat→Int) (W B:Nat→Int) (G:aa) (f t:Int):bE Tryd.prog (cd n) 100000 69 Tryd.f69 (KtG.kt 69) (il (Bq (tX a6 65 [shV dr lc zc lb zb W B] (.tup [.agg (.G [.int .i64 f,.int .i64 t,.nils]),.bool false])) 49 [di dr lc zc lb zb,vv 1] (ik dr lc zc lb zb::G) (.ok (.tup [shV dr lc zc lb zb W B,.int .i64 (Int.ofNat 0)],ik dr lc zc lb zb::G))) n 0) bp br [(di dr lc zc lb zb,none),(vv 0,none)] G =
 (fun (Z0:Row)=>((fun (Z1:Row)=>Tr.reqP ([AV.agg Z1,AV.slc 1 1 0 0 1 2 (some 2)]=[AV.agg Z1,AV.slc 1 1 0 0 1 2 (some 2)]∧{ lock:=false,bs:=[(0,aq.row Z1)] } :: G={ lock:=false,bs:=[(0,aq.row Z1)] } :: G) (Tr.ite (bL (cJ (Int.ofNat 0) (Int.ofNat 0))) (Tr.ok ((AV.tup [AV.nilp,AV.int .i64 (Int.ofNat 0)],none),G)) (Tr.reqP ([AV.ptrT none Z0 0]=[AV.ptrT none Z0 0]) (Tr.ite false (Tr.ok ((AV.tup [AV.nilp,AV.int .i64 (Int.ofNat 13)],none),G)) (Tr.ok ((AV.tup [AV.ptrT none Z0 0,AV.int .i64 (Int.ofNat 0)],none),G)))))) (Row.G [AV.int .i64 dr,AV.slcT none (Row.M [an.arr .i64 zc (ar lc 4)]) 4 lc false,AV.slcT none (Row.M [an.arr .i64 zb (ar lb 2)]) 2 lb false]))) (Row.M [an.one (AV.int .i64 dr),an.one (AV.slcT none (Row.M [an.arr .i64 zc (ar lc 4)]) 4 lc false),an.one (AV.slcT none (Row.M [an.arr .i64 zb (ar lb 2)]) 2 lb false),an.arr .i64 W 20,an.arr IntKind.u64 B 10]):=by kernel_rfl
theorem QK (n:Nat) (dr:Int) (lc:Nat) (zc:Nat→Int) (lb:Nat) (zb:Nat→Int) (W B:Nat→Int) (G:aa) (f t:Int) (m:Nat) (y:Nat→Int):bE Tryd.prog (cd n) 100000 69 Tryd.f69 (KtG.kt 69) (il (Bq (tX a6 65 [shV dr lc zc lb zb W B] (.tup [.agg (.G [.int .i64 f,.int .i64 t,gn m y false]),.bool true])) 49 [di dr lc zc lb zb,vv 1] (ik dr lc zc lb zb::G) (.ok (.tup [shV dr lc zc lb zb W B,.int .i64 (Int.ofNat 0)],ik dr lc zc lb zb::G))) n 0) bp br [(di dr lc zc lb zb,none),(vv 0,none)] G =
 (fun (Z0:Row)=>((fun (Z1:Row)=>Tr.reqP ([AV.agg Z1,AV.slc 1 1 0 0 1 2 (some 2)]=[AV.agg Z1,AV.slc 1 1 0 0 1 2 (some 2)]∧{ lock:=false,bs:=[(0,aq.row Z1)] } :: G={ lock:=false,bs:=[(0,aq.row Z1)] } :: G) (Tr.ite (bL (cJ (Int.ofNat 0) (Int.ofNat 0))) (Tr.ok ((AV.tup [AV.nilp,AV.int .i64 (Int.ofNat 0)],none),G)) (Tr.reqP ([AV.ptrT none Z0 0]=[AV.ptrT none Z0 0]) (Tr.ite true (Tr.ok ((AV.tup [AV.nilp,AV.int .i64 (Int.ofNat 13)],none),G)) (Tr.ok ((AV.tup [AV.ptrT none Z0 0,AV.int .i64 (Int.ofNat 0)],none),G)))))) (Row.G [AV.int .i64 dr,AV.slcT none (Row.M [an.arr .i64 zc (ar lc 4)]) 4 lc false,AV.slcT none (Row.M [an.arr .i64 zb (ar lb 2)]) 2 lb false]))) (Row.M [an.one (AV.int .i64 dr),an.one (AV.slcT none (Row.M [an.arr .i64 zc (ar lc 4)]) 4 lc false),an.one (AV.slcT none (Row.M [an.arr .i64 zb (ar lb 2)]) 2 lb false),an.arr .i64 W 20,an.arr IntKind.u64 B 10]):=by kernel_rfl
end Go.Eng
end
section
namespace Go.Eng
open Go.Proofs Go.Eng.Gall
noncomputable def yi (dr:Int) (lc:Nat) (zc:Nat→Int) (lb:Nat) (zb:Nat→Int):Option (Int×Int):=jq (qB (hJ lc (fun c=>cI zb c lb) (fc dr lc zc))) lc lc
noncomputable def LF (dr:Int) (lc:Nat) (zc:Nat→Int) (lb:Nat) (zb:Nat→Int):AV:=if yi dr lc zc lb zb=none then .tup [H4 dr lc zc lb zb,.int .i64 (Int.ofNat 0)] else .tup [.nilp,.int .i64 (Int.ofNat 13)]
section
variable (n:Nat) (dr:Int) (lc:Nat) (zc:Nat→Int) (lb:Nat) (zb:Nat→Int) (H:aa) (r r2:Row) (a b:Int)
theorem Oi (hl:lc≤1000) (ha:0≤a∧a<lc) (hb:0≤b∧b<lc):cd (n+4) (.fn 67) [vv 2,xn 0] (ik dr lc zc lb zb::⟨false,[(0,.row r2)]⟩::dF r a b::H)=some (.bool false,ik dr lc zc lb zb::⟨false,[(0,.row r2)]⟩::dF r a b::H):=by
 have hlp:exec (cj (n+2) 89 19) (.block 0 (.loop (part Tryd.f89 [1,0,1,0,0]))) (qi (Int.ofNat 0)) (aZ::aZ::ik dr lc zc lb zb::⟨false,[(0,.row r2)]⟩::dF r a b::H)=some (.normal,qi (Int.ofNat 2)++[(9,.bool false)],aZ::aZ::ik dr lc zc lb zb::⟨false,[(0,.row r2)]⟩::dF r a b::H):=by
  refine kG (n:=n+2) (f:=89) (nt:=19) (c:=part Tryd.f89 [1,0,1,0,0]) 0 (fun j=>qi (j:Int)) (fun _=>aZ::aZ::ik dr lc zc lb zb::⟨false,[(0,.row r2)]⟩::dF r a b::H) 2 (qi (Int.ofNat 2)++[(9,.bool false)],aZ::aZ::ik dr lc zc lb zb::⟨false,[(0,.row r2)]⟩::dF r a b::H) (by omega) (fun j hj=>?_) ?_
  · have T:=Ny (n+1) dr lc zc lb zb r r2 H a b (j:Int)
    rw[DN,gr (by omega)] at T
    refine aK T (iv (n+1) 1) (ak _ _) (al _ _) ?_
    have hx:0≤aS [a,b] j∧aS [a,b] j<lc:=by
     rw[we]
     match j,hj with
     | 0,_=>exact ha
     | 1,_=>exact hb
    refine Tr.af (fun h0=>?_) (fun h0=>by simp (disch:=omega) only[nV,nW] at h0;omega)
    refine Tr.ab (by simp (disch:=omega) only[nV,nW];omega) (Tr.ab (by simp (disch:=omega) only[nV,nW]) (Tr.ab (by simp (disch:=omega) only[nV,nW];rw[BS];show j<2;omega) (Tr.af (fun q=>?_) (fun _=>Tr.af (fun q=>?_) (fun _=>Tr.ah ⟨rfl,rfl⟩)))))
    · exfalso
      rw[bF,decide_eq_true_iff] at q
      have q:aS [a,b] j<0:=q
      omega
    · exfalso
      rw[bt,decide_eq_true_iff] at q
      have q:(lc:Int)≤aS [a,b] j:=q
      omega
  · obtain ⟨x,h1,rfl⟩:=aK (Q:=fun x=>x=(.exit 0,qi (Int.ofNat 2)++[(9,.bool false)],aZ::aZ::ik dr lc zc lb zb::⟨false,[(0,.row r2)]⟩::dF r a b::H)) (Ny (n+1) dr lc zc lb zb r r2 H a b (Int.ofNat 2)) (iv (n+1) 1) (ak _ _) (al _ _) (by
     refine Tr.af (fun h0=>by simp (disch:=omega) only[nV,nW] at h0;omega) (fun h0=>Tr.ah rfl))
    exact h1
 have h89:cd (n+3) (.fn 89) [vv 3,xn 1] (aZ::ik dr lc zc lb zb::⟨false,[(0,.row r2)]⟩::dF r a b::H)=some (.int .i64 (Int.negSucc 0),aZ::ik dr lc zc lb zb::⟨false,[(0,.row r2)]⟩::dF r a b::H):=by
  refine bV (n:=n+2) Tryd.func89 rfl rfl rfl (QL (n+2) (aZ::ik dr lc zc lb zb::⟨false,[(0,.row r2)]⟩::dF r a b::H)) (aJ _) (a8 (ak _ _) RZ (fun x h=>fL h (by simp only[fq.st,aV];exact hlp))) (al _ _) ?_
  exact Tr.aj ⟨rfl,rfl⟩ (Tr.ah ⟨rfl,rfl⟩)
 refine bV (n:=n+3) Tryd.func67 rfl rfl rfl (QI (n+3) (Int.negSucc 0) (ik dr lc zc lb zb::⟨false,[(0,.row r2)]⟩::dF r a b::H)) (bZ _ _ (ia (bx _) (fun x hy=>by rw[← Tr.ae hy];exact h89))) (ak _ _) (al _ _) ?_
 refine Tr.aj ⟨rfl,rfl⟩ (Tr.ah ⟨?_,rfl⟩)
 rw[bt];rfl
theorem Of (hlb:lb≤1000) (h0:dX dr lc zc lb zb=0) (ha:0≤a∧a<lc) (hb:0≤b∧b<lc):cd (n+12) (.fn 49) [di dr lc zc lb zb,vv 1] (⟨false,[(0,.row r2)]⟩::dF r a b::H)=some (.tup [H4 dr lc zc lb zb,.int .i64 (Int.ofNat 0)],⟨false,[(0,.row r2)]⟩::dF r a b::H):=by
 obtain ⟨h1,h2,h3,h4,h5,_⟩:=qL h0
 have h22:=fun H=>Ob n dr lc zc lb zb H (by omega) hlb
 rw[h0] at h22
 have h67:cd (n+11) (.fn 67) [vv 2,xn 0] (ik dr lc zc lb zb::⟨false,[(0,.row r2)]⟩::dF r a b::H)=_:=Oi (n+7) dr lc zc lb zb H r r2 a b (by omega) ha hb
 refine bV (n:=n+11) Tryd.func49 rfl rfl rfl (QC (n+11) dr lc zc lb zb (fc dr lc zc) (jl lb zb) (⟨false,[(0,.row r2)]⟩::dF r a b::H) false (fun x=>x=[di dr lc zc lb zb])) (bZ _ _ (ia (qj (iz (bx _) h22) (fun A H hA=>by
  subst hA
  exact Oh (n+4) dr lc zc lb zb H h1.2 hlb h3 h4 h5)) (fun x hy=>by rw[← Tr.ae hy];exact h67))) (ak _ _) (al _ _) ?_
 exact Tr.aj rfl (Tr.af (fun q=>by simp[aY,aT] at q) (fun q=>Tr.aj ⟨rfl,rfl⟩ (Tr.af (fun q=>by cases q) (fun _=>Tr.aj rfl (Tr.ah ⟨rfl,rfl⟩)))))
theorem Oj (hlb:lb≤1000) (h0:dX dr lc zc lb zb=0) (ha:0≤a∧a<lc) (hb:0≤b∧b<lc):cd (n+13) (.fn 69) [di dr lc zc lb zb,vv 0] (dF r a b::H)=some (LF dr lc zc lb zb,dF r a b::H):=by
 obtain ⟨h1,h2,h3,h4,h5,h6⟩:=qL h0
 have hS:=H7 dr lc zc lb zb h1.2 h3 h4 h5 h6
 have h49:cd (n+12) (.fn 49) [di dr lc zc lb zb,vv 1] (ik dr lc zc lb zb::dF r a b::H)=_:=Of n dr lc zc lb zb H r (.G [.int .i64 dr,slA 4 lc zc,slA 2 lb zb]) a b hlb h0 ha hb
 have h65:=fun H=>RD (n+9) dr lc zc lb zb (fc dr lc zc) H (fun c=>cI zb c lb) hS
 unfold LF yi
 generalize qB (hJ lc (fun c=>cI zb c lb) (fc dr lc zc))=q at *
 generalize jq q lc lc=c at *
 cases c with
 | none =>
   rw[if_pos rfl]
   refine bV (n:=n+12) Tryd.func69 rfl rfl rfl (QJ (n+12) dr lc zc lb zb (fc dr lc zc) (jl lb zb) (dF r a b::H) (Int.ofNat 0) (Int.ofNat 0)) (bZ _ _ (ia (iz (bx _) h65) (fun x hy=>by rw[← Tr.ae hy];exact h49))) (ak _ _) (al _ _) ?_
   exact Tr.aj ⟨rfl,rfl⟩ (Tr.af (fun q=>by simp[aY,aT] at q) (fun _=>Tr.aj rfl (Tr.af (fun q=>by cases q) (fun _=>Tr.ah ⟨rfl,rfl⟩))))
 | some v =>
   obtain ⟨f,t⟩:=v
   rw[if_neg (by intro h;cases h)]
   refine bV (n:=n+12) Tryd.func69 rfl rfl rfl (QK (n+12) dr lc zc lb zb (fc dr lc zc) (jl lb zb) (dF r a b::H) f t (dy q f t lc).length (aS (dy q f t lc))) (bZ _ _ (ia (iz (bx _) h65) (fun x hy=>by rw[← Tr.ae hy];exact h49))) (ak _ _) (al _ _) ?_
   exact Tr.aj ⟨rfl,rfl⟩ (Tr.af (fun q=>by simp[aY,aT] at q) (fun _=>Tr.aj rfl (Tr.af (fun _=>Tr.ah ⟨rfl,rfl⟩) (fun q=>by cases q))))
end
end Go.Eng
end
