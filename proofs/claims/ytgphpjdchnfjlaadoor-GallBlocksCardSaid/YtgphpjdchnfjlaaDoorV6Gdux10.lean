/- Gall: the reference's Block: its loops. -/
import Derived.Test.YtgphpjdchnfjlaaDoorV6Gp24x9
import Derived.Test.YtgphpjdchnfjlaaDoorV6Gbdx11
import Derived.Test.YtgphpjdchnfjlaaDoorV6GaKx6
import Derived.Test.YtgphpjdchnfjlaaDoorV6Gp2x6
import Derived.Test.YtgphpjdchnfjlaaDoorRows
import Derived.Test.YtgphpjdchnfjlaaDoorChecked
import Derived.Test.YtgphpjdchnfjlaaDoorTie
import Derived.Test.YtgphpjdchnfjlaaDoorCards
import Derived.ProofKit
import Derived.Lib.LaidIn
import Derived.Lib.LaidTab
import Derived.FnData
import Derived.Handed
import Derived.SevenTiedAt
set_option linter.unusedVariables false
set_option linter.unusedSimpArgs false
set_option maxRecDepth 100000
section
namespace Go.Eng
open Int (ofNat)
open Go.Proofs Go.Eng.Gall
theorem Up:∀ b,(0,b) ∈ aE (bx Tryd.f26)→b=.loop (part Tryd.f26 [1,1,1,1,1,0,1,0,0]):=dK (by kernel_rfl)
theorem P2:∀ b,(2,b) ∈ aE (part Tryd.f26 [1,1,1,1,1,0,1,0,0])→b=.loop (part Tryd.f26 [1,1,1,1,1,0,1,0,0,1,0,0,1,0,0]):=dK (by kernel_rfl)
theorem HF:∀ b,(4,b) ∈ aE (part Tryd.f26 [1,1,1,1,1,0,1,0,0,1,0,0,1,0,0])→b=.loop (part Tryd.f26 [1,1,1,1,1,0,1,0,0,1,0,0,1,0,0,1,0,0,1,0,1,0,0]):=dK (by kernel_rfl)
noncomputable def lr (r:Nat→Int) (U:Nat):Option (Int×Int)→List AV
 | none=>[.int .i64 (ofNat 0),.int .i64 (ofNat 0),.nils]
 | some (f,t)=>[.int .i64 f,.int .i64 t,bG (cE r f t U).length (aI (cE r f t U)) false]
def m7:Option (Int×Int)→Bool
 | none=>false
 | some _=>true
noncomputable def MZ (f t:Int):List Int→List (Nat×an)
 | []=>[(0,.row (.G [.int .i64 f,.int .i64 t,.nils]))]
 | a::s=>[(0,.row (.G [.int .i64 f,.int .i64 t,.slc 0 4 s.length 0 1 (s.length+1) none])),(s.length,.row (.M [.arr .i64 (aI (a::s)) (s.length+1)]))]
noncomputable def Hq (f t:Int):List Int→List (Nat×an)
 | []=>[(0,.row (.G [.int .i64 f,.int .i64 t,.nils]))]
 | a::s=>[(0,.row (.G [.int .i64 f,.int .i64 t,bG (s.length+1) (aI (a::s)) false])),(s.length,.dead)]
noncomputable def PO (f t:Int):List Int→AV
 | []=>.agg (.G [.int .i64 f,.int .i64 t,.nils])
 | a::s=>oF f t (s.length+1) (aI (a::s))
def Bx (x:List AV):Prop:=(∃ f t,x=[.int .i64 f,.int .i64 t,.nils])∨∃ f t m y,x=[.int .i64 f,.int .i64 t,bG m y false]
theorem Fi (r:Nat→Int) (U:Nat) (b:Option (Int×Int)):Bx (lr r U b):=by
 cases b with
 | none=>exact .inl ⟨_,_,rfl⟩
 | some v=>exact .inr ⟨_,_,_,_,rfl⟩
section
variable (n:Nat) (O:Int) (U:Nat) (Z:Nat→Int) (V:Nat) (J:Nat→Int) (H:ab) (r:Nat→Int)
theorem OV (g:Bool) (i k f t:Int) (x:List AV) (hx:Bx x) (c:Nat) (hl:U≤10) (hc:c<U) (L:List Int) (hL:L.length≤1000):∃ z,exec (bO n 26 108) (part Tryd.f26 [1,1,1,1,1,0,1,0,0,1,0,0,1,0,0,1,0,0,1,0,1,0,0]) (je U r g i k (c:Int)) (dh O U Z V J x (MZ f t L)::H)=some z∧z.1=.normal∧tidy 4 z.2.1 z.2.2=(je U r g i k ((c+1:Nat):Int),dh O U Z V J x (MZ f t (if m9 r f t c=true then L++[(c:Int)] else L))::H):=by
 have e1:aQ .i64 (c:Int) (ofNat 1)=((c+1:Nat):Int):=eg wO;have ei:aq 0 (c:Int) 2=2*c:=by rw[bP];omega
 cases L with
 | nil =>
   have T:=J7 n O U Z V J H r g x i k (c:Int) f t;rw[e1,ei,aC] at T;refine av T (aw _) (aj _ _) (ai _ _) ?_;clear T;refine Tr.ae (fun h0=>Tr.aa wG (Tr.aa wG (Tr.ae (fun q1=>Tr.aa wG (Tr.aa wG (Tr.ae (fun q2=>?_) (fun q2=>Tr.ag ?_)))) (fun q1=>Tr.ag ?_)))) wJ;all_goals rw[a7] at q1
   all_goals try rw[a7] at q2
   · rw[if_pos (by unfold m9;rw[q1,q2];rfl)];refine Tr.aa wG (Tr.aa wG (Tr.aa wG (Tr.ag ?_)));rcases hx with ⟨f0,t0,rfl⟩ | ⟨f0,t0,m0,y0,rfl⟩<;>exact ⟨rfl,rfl⟩
   · rw[if_neg (by unfold m9;rw[q1,q2];decide)];rcases hx with ⟨f0,t0,rfl⟩ | ⟨f0,t0,m0,y0,rfl⟩<;>exact ⟨rfl,rfl⟩
   · rw[if_neg (by unfold m9;rw[q1];simp)];rcases hx with ⟨f0,t0,rfl⟩ | ⟨f0,t0,m0,y0,rfl⟩<;>exact ⟨rfl,rfl⟩
 | cons a s =>
   simp only[List.length_cons] at hL;have e2:=o5 (a::s) (c:Int);simp only[List.length_cons] at e2;have e3:ar (s.length+1) 1=s.length+1+1:=by rw[aC]
   have e4:ar (2*c) 1=2*c+1:=by rw[aC]
   have er:(s++[(c:Int)]).length=s.length+1:=by rw[List.length_append,List.length_singleton]
   have eR:MZ f t (a::s++[(c:Int)])=[(0,.row (.G [.int .i64 f,.int .i64 t,.slc 0 4 (s.length+1) 0 1 (s.length+1+1) none])),(s.length+1,.row (.M [.arr .i64 (aI (a::s++[(c:Int)])) (s.length+1+1)]))]:=by
    show [(0,an.row (.G [.int .i64 f,.int .i64 t,.slc 0 4 (s++[(c:Int)]).length 0 1 ((s++[(c:Int)]).length+1) none])),((s++[(c:Int)]).length,an.row (.M [.arr .i64 (aI (a::(s++[(c:Int)]))) ((s++[(c:Int)]).length+1)]))]=_;rw[er];rfl
   rcases hx with ⟨f0,t0,rfl⟩ | ⟨f0,t0,m0,y0,rfl⟩
   · have T:=G6 n O U Z V J H r g f0 t0 i k (c:Int) f t s.length (s.length+1) (aI (a::s));rw[e1,ei,e4,e3,e2] at T;refine av T (aw _) (aj _ _) (ai _ _) ?_;clear T;refine Tr.ae (fun h0=>Tr.aa wG (Tr.aa wG (Tr.ae (fun q1=>Tr.aa wG (Tr.aa wG (Tr.ae (fun q2=>?_) (fun q2=>Tr.ag ?_)))) (fun q1=>Tr.ag ?_)))) wJ;all_goals rw[a7] at q1
     all_goals try rw[a7] at q2
     · rw[if_pos (by unfold m9;rw[q1,q2];rfl),eR];generalize aI (a::s++[(c:Int)])=Y at *;exact Tr.aa wG (Tr.aa wG (Tr.aa wG (Tr.aa wG (Tr.aa wG (Tr.ag ⟨rfl,rfl⟩)))))
     · rw[if_neg (by unfold m9;rw[q1,q2];decide)];exact ⟨rfl,rfl⟩
     · rw[if_neg (by unfold m9;rw[q1];simp)];exact ⟨rfl,rfl⟩
   · have T:=G7 n O U Z V J H r g f0 t0 m0 y0 i k (c:Int) f t s.length (s.length+1) (aI (a::s));rw[e1,ei,e4,e3,e2] at T;refine av T (aw _) (aj _ _) (ai _ _) ?_;clear T;refine Tr.ae (fun h0=>Tr.aa wG (Tr.aa wG (Tr.ae (fun q1=>Tr.aa wG (Tr.aa wG (Tr.ae (fun q2=>?_) (fun q2=>Tr.ag ?_)))) (fun q1=>Tr.ag ?_)))) wJ;all_goals rw[a7] at q1
     all_goals try rw[a7] at q2
     · rw[if_pos (by unfold m9;rw[q1,q2];rfl),eR];generalize aI (a::s++[(c:Int)])=Y at *;exact Tr.aa wG (Tr.aa wG (Tr.aa wG (Tr.aa wG (Tr.aa wG (Tr.ag ⟨rfl,rfl⟩)))))
     · rw[if_neg (by unfold m9;rw[q1,q2];decide)];exact ⟨rfl,rfl⟩
     · rw[if_neg (by unfold m9;rw[q1];simp)];exact ⟨rfl,rfl⟩
theorem NZ (g:Bool) (i k f t:Int) (x:List AV) (hx:Bx x) (L:List Int):exec (bO n 26 108) (part Tryd.f26 [1,1,1,1,1,0,1,0,0,1,0,0,1,0,0,1,0,0,1,0,1,0,0]) (je U r g i k (ofNat U)) (dh O U Z V J x (MZ f t L)::H)=some (.exit 4,je U r g i k (ofNat U)++[(50,.bool false)],dh O U Z V J x (Hq f t L)::H):=by
 cases L with
 | nil =>
   obtain ⟨z,h1,rfl⟩:=av (Q:=fun z=>z=(.exit 4,je U r g i k (ofNat U)++[(50,.bool false)],dh O U Z V J x (Hq f t [])::H)) (J7 n O U Z V J H r g x i k (ofNat U) f t) (aw _) (aj _ _) (ai _ _) (by
    refine Tr.ae wJ (fun h0=>Tr.ag rfl))
   exact h1
 | cons a s =>
   rcases hx with ⟨f0,t0,rfl⟩ | ⟨f0,t0,m0,y0,rfl⟩
   · have T:=G6 n O U Z V J H r g f0 t0 i k (ofNat U) f t s.length (s.length+1) (aI (a::s));rw[fc] at T;obtain ⟨z,h1,rfl⟩:=av (Q:=fun z=>z=(.exit 4,je U r g i k (ofNat U)++[(50,.bool false)],dh O U Z V J [.int .i64 f0,.int .i64 t0,.nils] (Hq f t (a::s))::H)) T (aw _) (aj _ _) (ai _ _) (by
      refine Tr.ae wJ (fun h0=>Tr.aa wG (Tr.aa wG (Tr.ag rfl))))
     exact h1
   · have T:=G7 n O U Z V J H r g f0 t0 m0 y0 i k (ofNat U) f t s.length (s.length+1) (aI (a::s));rw[fc] at T;obtain ⟨z,h1,rfl⟩:=av (Q:=fun z=>z=(.exit 4,je U r g i k (ofNat U)++[(50,.bool false)],dh O U Z V J [.int .i64 f0,.int .i64 t0,bG m0 y0 false] (Hq f t (a::s))::H)) T (aw _) (aj _ _) (ai _ _) (by
      refine Tr.ae wJ (fun h0=>Tr.aa wG (Tr.aa wG (Tr.ag rfl))))
     exact h1
theorem Rg (g:Bool) (i k f t:Int) (x:List AV) (hx:Bx x) (hl:U≤10):exec (bO n 26 108) (.block 4 (.loop (part Tryd.f26 [1,1,1,1,1,0,1,0,0,1,0,0,1,0,0,1,0,0,1,0,1,0,0]))) (je U r g i k (ofNat 0)) (dh O U Z V J x (MZ f t [])::H)=some (.normal,je U r g i k (ofNat U)++[(50,.bool false)],dh O U Z V J x (Hq f t (cE r f t U))::H):=by
 refine fZ (n:=n) (f:=26) (nt:=108) (c:=part Tryd.f26 [1,1,1,1,1,0,1,0,0,1,0,0,1,0,0,1,0,0,1,0,1,0,0]) 4 (fun j=>je U r g i k (j:Int)) (fun j=>dh O U Z V J x (MZ f t (cE r f t j))::H) U (je U r g i k (ofNat U)++[(50,.bool false)],dh O U Z V J x (Hq f t (cE r f t U))::H) wO (fun j hj=>?_) ?_
 · have h:=OV n O U Z V J H r g i k f t x hx j hl hj (cE r f t j) (by have:=jo r f t j;omega);exact h
 · exact NZ n O U Z V J H r g i k f t x hx (cE r f t U)
end
end Go.Eng
end
section
namespace Go.Eng
open Int (ofNat)
open Go.Proofs Go.Eng.Gall
section
variable (n:Nat) (O:Int) (U:Nat) (Z:Nat→Int) (V:Nat) (J:Nat→Int) (H:ab) (r:Nat→Int)
theorem xo {R:Int→Int→Bool} {b:Option (Int×Int)} {f t:Int} (h1:R f t=true) (h2:Nz b f t=true):G3 R b f t=some (f,t):=by
 unfold G3;rw[h1,h2];rfl
theorem xn {R:Int→Int→Bool} {b:Option (Int×Int)} {f t:Int} (h1:R f t=false):G3 R b f t=b:=by
 unfold G3;rw[h1];rfl
theorem Dj {R:Int→Int→Bool} {b:Option (Int×Int)} {f t:Int} (h2:Nz b f t=false):G3 R b f t=b:=by
 unfold G3;rw[h2,Bool.and_false];rfl
theorem OW (hl:U≤10) (sv:∀ f t L,L.length≤1000→∀ H,cd n (.fn 28) [bk O U Z V J,PO f t L] H=some (.int .i64 (uf U r f t L.length (aI L)),H)) (b:Option (Int×Int)) (i k:Nat) (hi:i<U) (hk:k<U):∃ z,exec (bO n 26 108) (part Tryd.f26 [1,1,1,1,1,0,1,0,0,1,0,0,1,0,0]) (lL U r (m7 b) (i:Int) (k:Int)) (dh O U Z V J (lr r U b) []::H)=some z∧z.1=.normal∧tidy 3 z.2.1 z.2.2=(lL U r (m7 (G3 (lx r U) b (r (2*i)) (r (2*k+1)))) (i:Int) ((k+1:Nat):Int),dh O U Z V J (lr r U (G3 (lx r U) b (r (2*i)) (r (2*k+1)))) []::H):=by
 have e1:aQ .i64 (k:Int) (ofNat 1)=((k+1:Nat):Int):=eg wO;have ei:aq 0 (i:Int) 2=2*i:=by rw[bP];omega
 have ek:aq 0 (k:Int) 2=2*k:=by rw[bP];omega
 have ek1:ar (2*k) 1=2*k+1:=aC _ _;obtain ⟨f,hf⟩:∃ f,r (2*i)=f:=⟨_,rfl⟩
 obtain ⟨t,ht⟩:∃ t,r (2*k+1)=t:=⟨_,rfl⟩
 rw[hf,ht];have lp:=Rg n O U Z V J H r (m7 b) (i:Int) (k:Int) f t (lr r U b) (Fi r U b) hl;have hlen:=jo r f t U;have sv:=sv f t (cE r f t U) wO;have hrt:∀ e,uf U r f t (cE r f t U).length (aI (cE r f t U))=e→lx r U f t=decide (e=0):=fun e h=>by unfold lx;rw[h]
 obtain ⟨e,he⟩:∃ e,uf U r f t (cE r f t U).length (aI (cE r f t U))=e:=⟨_,rfl⟩
 replace hrt:=hrt e he;rw[he] at sv;have hxb:lr r U (some (f,t))=[.int .i64 f,.int .i64 t,bG (cE r f t U).length (aI (cE r f t U)) false]:=rfl;generalize cE r f t U=L at *;cases b with
 | none =>
   cases L with
   | nil =>
     have T:=MH n O U Z V J H r false (ofNat 0) (ofNat 0) (i:Int) (k:Int) e f t;rw[e1,ei,ek,ek1,hf,ht] at T;refine av T (bC _ _ (b7 (bh _) sv)) (aM (aj _ _) HF (fun x hx=>c6 hx (by simp only[dY.st,aG];exact lp))) (ai _ _) ?_;clear T lp sv;have he3:e=3:=by
      rw[← he];unfold uf;rw[if_pos (.inr rfl)]
     refine Tr.ae (fun h0=>Tr.aa wG (Tr.aa wG (Tr.aa wG (Tr.aa wG (Tr.aa wG (Tr.ak ⟨rfl,rfl⟩ (Tr.ak rfl (Tr.ae (fun q=>?_) (fun q=>Tr.ag ?_))))))))) wJ;all_goals rw[bf] at q
     · exfalso;have q:e=0:=by simpa using q
       omega
     · have q:¬ e=0:=by simpa using q
       rw[xn (by rw[hrt,decide_eq_false q])];exact ⟨rfl,rfl⟩
   | cons a s =>
     have T:=MI n O U Z V J H r false (ofNat 0) (ofNat 0) (i:Int) (k:Int) e f t s.length (s.length+1) (aI (a::s));rw[e1,ei,ek,ek1,hf,ht] at T;refine av T (bC _ _ (b7 (bh _) sv)) (aM (aj _ _) HF (fun x hx=>c6 hx (by simp only[dY.st,aG];exact lp))) (ai _ _) ?_;clear T lp sv;refine Tr.ae (fun h0=>Tr.aa wG (Tr.aa wG (Tr.aa wG (Tr.aa wG (Tr.aa wG (Tr.ak ⟨rfl,rfl⟩ (Tr.ak rfl (Tr.ae (fun q=>?_) (fun q=>Tr.ag ?_))))))))) wJ;all_goals rw[bf] at q
     · have q:e=0:=by simpa using q
       have hst:=xo (b:=none) (R:=lx r U) (f:=f) (t:=t) (by rw[hrt,q];rfl) rfl;refine Tr.ae (fun _=>Tr.ag ?_) (fun q2=>by rw[aO] at q2;cases q2);rw[hst,hxb];exact ⟨rfl,rfl⟩
     · have q:¬ e=0:=by simpa using q
       rw[xn (by rw[hrt,decide_eq_false q])];exact ⟨rfl,rfl⟩
 | some v =>
   obtain ⟨f0,t0⟩:=v;cases L with
   | nil =>
     have T:=MJ n O U Z V J H r true f0 t0 (cE r f0 t0 U).length (aI (cE r f0 t0 U)) (i:Int) (k:Int) e f t;rw[e1,ei,ek,ek1,hf,ht] at T;refine av T (bC _ _ (b7 (bh _) sv)) (aM (aj _ _) HF (fun x hx=>c6 hx (by simp only[dY.st,aG];exact lp))) (ai _ _) ?_;clear T lp sv;have he3:e=3:=by
      rw[← he];unfold uf;rw[if_pos (.inr rfl)]
     refine Tr.ae (fun h0=>Tr.aa wG (Tr.aa wG (Tr.aa wG (Tr.aa wG (Tr.aa wG (Tr.ak ⟨rfl,rfl⟩ (Tr.ak rfl (Tr.ae (fun q=>?_) (fun q=>Tr.ag ?_))))))))) wJ;all_goals rw[bf] at q
     · exfalso;have q:e=0:=by simpa using q
       omega
     · have q:¬ e=0:=by simpa using q
       rw[xn (by rw[hrt,decide_eq_false q])];exact ⟨rfl,rfl⟩
   | cons a s =>
     have T:=MK n O U Z V J H r true f0 t0 (cE r f0 t0 U).length (aI (cE r f0 t0 U)) (i:Int) (k:Int) e f t s.length (s.length+1) (aI (a::s));rw[e1,ei,ek,ek1,hf,ht] at T;refine av T (bC _ _ (b7 (bh _) sv)) (aM (aj _ _) HF (fun x hx=>c6 hx (by simp only[dY.st,aG];exact lp))) (ai _ _) ?_;clear T lp sv;refine Tr.ae (fun h0=>Tr.aa wG (Tr.aa wG (Tr.aa wG (Tr.aa wG (Tr.aa wG (Tr.ak ⟨rfl,rfl⟩ (Tr.ak rfl (Tr.ae (fun q=>?_) (fun q=>Tr.ag ?_))))))))) wJ;all_goals rw[bf] at q
     · have q:e=0:=by simpa using q
       have hR:lx r U f t=true:=by rw[hrt,q];rfl
       have hbt:Nz (some (f0,t0)) f t=(decide (f<f0) || (decide (f=f0) && decide (t<t0))):=rfl;refine Tr.ae (fun q2=>by rw[aO] at q2;cases q2) (fun _=>Tr.ae (fun q3=>Tr.ag ?_) (fun q3=>Tr.ae (fun q4=>Tr.ae (fun q5=>Tr.ag ?_) (fun q5=>Tr.ag ?_)) (fun q4=>Tr.ag ?_)));all_goals rw[bn] at q3
       · rw[xo hR (by rw[hbt,q3];rfl),hxb];exact ⟨rfl,rfl⟩
       all_goals rw[bf] at q4
       · rw[bn] at q5;have q4:f=f0:=by simpa using q4
         rw[xo hR (by rw[hbt,decide_eq_true q4,q5];simp),hxb];exact ⟨rfl,rfl⟩
       · rw[bn] at q5;rw[Dj (by rw[hbt,q3,q5];simp)];exact ⟨rfl,rfl⟩
       · have q4:¬ f=f0:=by simpa using q4
         rw[Dj (by rw[hbt,q3,decide_eq_false q4];simp)];exact ⟨rfl,rfl⟩
     · have q:¬ e=0:=by simpa using q
       rw[xn (by rw[hrt,decide_eq_false q])];exact ⟨rfl,rfl⟩
theorem Ri (hl:U≤10) (sv:∀ f t L,L.length≤1000→∀ H,cd n (.fn 28) [bk O U Z V J,PO f t L] H=some (.int .i64 (uf U r f t L.length (aI L)),H)) (b:Option (Int×Int)) (i:Nat) (hi:i<U):exec (bO n 26 108) (.block 2 (.loop (part Tryd.f26 [1,1,1,1,1,0,1,0,0,1,0,0,1,0,0]))) (lL U r (m7 b) (i:Int) (ofNat 0)) (dh O U Z V J (lr r U b) []::H)=some (.normal,lL U r (m7 (DJ (lx r U) r (r (2*i)) b U)) (i:Int) (ofNat U)++[(33,.bool false)],dh O U Z V J (lr r U (DJ (lx r U) r (r (2*i)) b U)) []::H):=by
 refine fZ (n:=n) (f:=26) (nt:=108) (c:=part Tryd.f26 [1,1,1,1,1,0,1,0,0,1,0,0,1,0,0]) 2 (fun j=>lL U r (m7 (DJ (lx r U) r (r (2*i)) b j)) (i:Int) (j:Int)) (fun j=>dh O U Z V J (lr r U (DJ (lx r U) r (r (2*i)) b j)) []::H) U (lL U r (m7 (DJ (lx r U) r (r (2*i)) b U)) (i:Int) (ofNat U)++[(33,.bool false)],dh O U Z V J (lr r U (DJ (lx r U) r (r (2*i)) b U)) []::H) wO (fun j hj=>?_) ?_
 · exact OW n O U Z V J H r hl sv (DJ (lx r U) r (r (2*i)) b j) i j hi hj
 · generalize DJ (lx r U) r (r (2*i)) b U=d;cases d with
   | none =>
     obtain ⟨z,h1,rfl⟩:=av (Q:=fun z=>z=(.exit 2,lL U r (m7 none) (i:Int) (ofNat U)++[(33,.bool false)],dh O U Z V J (lr r U none) []::H)) (ML n O U Z V J H r false (ofNat 0) (ofNat 0) (i:Int) (ofNat U)) (aw _) (bN (aj _ _) 4) (ai _ _) (by
      refine Tr.ae wJ (fun h0=>Tr.ag rfl))
     exact h1
   | some v =>
     obtain ⟨f0,t0⟩:=v;obtain ⟨z,h1,rfl⟩:=av (Q:=fun z=>z=(.exit 2,lL U r (m7 (some (f0,t0))) (i:Int) (ofNat U)++[(33,.bool false)],dh O U Z V J (lr r U (some (f0,t0))) []::H)) (MM n O U Z V J H r true f0 t0 (cE r f0 t0 U).length (aI (cE r f0 t0 U)) (i:Int) (ofNat U)) (aw _) (bN (aj _ _) 4) (ai _ _) (by
      refine Tr.ae wJ (fun h0=>Tr.ag rfl))
     exact h1
theorem Rh (hl:U≤10) (sv:∀ f t L,L.length≤1000→∀ H,cd n (.fn 28) [bk O U Z V J,PO f t L] H=some (.int .i64 (uf U r f t L.length (aI L)),H)):exec (bO n 26 108) (.block 0 (.loop (part Tryd.f26 [1,1,1,1,1,0,1,0,0]))) (uA U r false (ofNat 0)) (dh O U Z V J [.int .i64 (ofNat 0),.int .i64 (ofNat 0),.nils] []::H)=some (.normal,uA U r (m7 (xA (lx r U) r U U)) (ofNat U)++[(27,.bool false)],dh O U Z V J (lr r U (xA (lx r U) r U U)) []::H):=by
 refine fZ (n:=n) (f:=26) (nt:=108) (c:=part Tryd.f26 [1,1,1,1,1,0,1,0,0]) 0 (fun j=>uA U r (m7 (xA (lx r U) r U j)) (j:Int)) (fun j=>dh O U Z V J (lr r U (xA (lx r U) r U j)) []::H) U (uA U r (m7 (xA (lx r U) r U U)) (ofNat U)++[(27,.bool false)],dh O U Z V J (lr r U (xA (lx r U) r U U)) []::H) wO (fun j hj=>?_) ?_
 · have lp:=Ri n O U Z V J H r hl sv (xA (lx r U) r U j) j hj;have e1:aQ .i64 (j:Int) (ofNat 1)=((j+1:Nat):Int):=eg wO;have hs:xA (lx r U) r U (j+1)=DJ (lx r U) r (r (2*j)) (xA (lx r U) r U j) U:=rfl;rw[hs];generalize DJ (lx r U) r (r (2*j)) (xA (lx r U) r U j) U=d at *;generalize xA (lx r U) r U j=b at *;have T:=SE n O U Z V J H r (m7 b) (lr r U b) (j:Int) (m7 d) (lr r U d);rw[e1] at T;refine av T (aw _) (aM (aj _ _) P2 (fun x hx=>c6 hx (by simp only[dY.st,aG];exact lp))) (ai _ _) ?_;refine Tr.ae (fun _=>Tr.ak ⟨rfl,rfl⟩ (Tr.ag ?_)) wJ;rcases Fi r U d with ⟨x0,x1,h⟩ | ⟨x0,x1,x2,x3,h⟩<;>rcases Fi r U b with ⟨y0,y1,h2⟩ | ⟨y0,y1,y2,y3,h2⟩<;>rw[h]<;>exact ⟨rfl,rfl⟩
 · obtain ⟨z,h1,rfl⟩:=av (Q:=fun z=>z=(.exit 0,uA U r (m7 (xA (lx r U) r U U)) (ofNat U)++[(27,.bool false)],dh O U Z V J (lr r U (xA (lx r U) r U U)) []::H)) (O9 n O U Z V J H r (m7 (xA (lx r U) r U U)) (lr r U (xA (lx r U) r U U)) (ofNat U)) (aw _) (bN (aj _ _) 2) (ai _ _) (by
    refine Tr.ae wJ (fun h0=>Tr.ag rfl))
   exact h1
end
section
variable (n:Nat) (O:Int) (U:Nat) (Z:Nat→Int) (V:Nat) (J:Nat→Int) (H:ab)
theorem Qh (h0:c7 O U Z V J=0) (hb:V≤1000) (f t:Int):cd (n+5) (.fn 28) [bk O U Z V J,.agg (.G [.int .i64 f,.int .i64 t,.nils])] H=some (.int .i64 3,H):=by
 refine bB (n:=n+4) Tryd.func28 rfl rfl rfl (SY (n+4) O U Z V J H f t) (bC _ _ (ga (b7 (bh _) (sv n O U Z V J hb h0)))) (bN (bN (aj _ _) 0) 2) (ai _ _) ?_;exact Tr.ak rfl (Tr.ae (fun q=>by simp[aO,bf] at q) (fun _=>Tr.ae (fun _=>Tr.ag ⟨rfl,rfl⟩) (fun _=>Tr.ae (fun _=>Tr.ag ⟨rfl,rfl⟩) (fun _=>Tr.ae (fun _=>Tr.ag ⟨rfl,rfl⟩) (fun _=>Tr.ae (fun _=>Tr.ag ⟨rfl,rfl⟩) (fun _=>Tr.ag ⟨rfl,rfl⟩))))))
theorem Qd (h0:c7 O U Z V J=0) (hb:V≤1000) (f t:Int) (L:List Int) (hL:L.length≤1000):cd (n+5) (.fn 28) [bk O U Z V J,PO f t L] H=some (.int .i64 (uf U (dN U (fun c=>cZ J c V) (cj O U Z)) f t L.length (aI L)),H):=by
 cases L with
 | nil =>
   have e:uf U (dN U (fun c=>cZ J c V) (cj O U Z)) f t 0 (aI [])=3:=by unfold uf;rw[if_pos (.inr rfl)]
   have:=Qh n O U Z V J H h0 hb f t;show _=some (AV.int .i64 (uf U (dN U (fun c=>cZ J c V) (cj O U Z)) f t 0 (aI [])),H);rw[e];exact this
 | cons a s=>exact T4 n O U Z V J H f t (s.length+1) (aI (a::s)) hb h0 hL
noncomputable def Le:AV:=if c7 O U Z V J=0 then P8 (qB (dN U (fun c=>cZ J c V) (cj O U Z))) U (Ho O U Z V J) else .tup [.agg (.G [.int .i64 (ofNat 0),.int .i64 (ofNat 0),.nils]),.int .i64 (c7 O U Z V J)]
theorem UF (hl:U≤1000) (hb:V≤1000):cd (n+6) (.fn 26) [bk O U Z V J] H=some (Le O U Z V J,H):=by
 have h23:=fun H=>NA (n+2) O U Z V J H hl hb;unfold Le;by_cases h0:c7 O U Z V J=0
 · rw [if_pos h0];obtain ⟨h1,h2,h3,h4,h5,h6⟩:=pH h0;have h66:=fun H=>UP (n+1) O U Z V J H h0;have hob:=Me h0;have hcn:=Ln (U:=U) h1.2 (cj O U Z) (mZ V J);rw[h0] at h23;cases ho:Ho O U Z V J with
   | none =>
     have hq:=hob.1 ho;generalize Q.cntF U (cj O U Z) (mZ V J)=m at *;refine bB (n:=n+5) Tryd.func26 rfl rfl rfl (SR (n+5) O U Z V J H m) (bC _ _ (ga (b7 (b7 (bh _) h23) h66))) (bN (aj _ _) 0) (ai _ _) ?_;refine Tr.ak rfl (Tr.ae (fun q=>by simp[aO,bf] at q) (fun _=>Tr.ak rfl (Tr.ae (fun q=>Tr.ag ⟨rfl,rfl⟩) (fun q=>?_))));rw[bn] at q;have q:¬ 0<m:=by simpa using q
     omega
   | some v =>
     obtain ⟨f,t⟩:=v;have hq:Q.cntF U (cj O U Z) (mZ V J)=0:=by
      by_cases q:Q.cntF U (cj O U Z) (mZ V J)=0
      · exact q
      · rw[hob.2 q] at ho;cases ho
     rw[hq] at h66;have h57:∀ H,cd (n+5) (.fn 57) [bk O U Z V J] H=some (K8 U (dN U (fun c=>cZ J c V) (cj O U Z)),H):=fun H=>T6 O U Z V J (n+2) H h1.1 h1.2 hb h3 h4 h5 h6;have lp:=Rh (n+5) O U Z V J H (dN U (fun c=>cZ J c V) (cj O U Z)) h1.2 (fun f t L hL H=>Qd n O U Z V J H h0 hb f t L hL);rw[Ny h0,ho] at lp;have hin:cE (qB (dN U (fun c=>cZ J c V) (cj O U Z))) f t U=cE (dN U (fun c=>cZ J c V) (cj O U Z)) f t U:=Bb f t U fun i hi=>tv _ wO;have hbk:P8 (qB (dN U (fun c=>cZ J c V) (cj O U Z))) U (some (f,t))=.tup [oF f t (cE (dN U (fun c=>cZ J c V) (cj O U Z)) f t U).length (aI (cE (dN U (fun c=>cZ J c V) (cj O U Z)) f t U)),.int .i64 0]:=by
      show AV.tup [oF f t (cE (qB _) f t U).length (aI (cE (qB _) f t U)),.int .i64 0]=_;rw[hin]
     rw[hbk];refine bB (n:=n+5) Tryd.func26 rfl rfl rfl (Xb (n+5) O U Z V J H (dN U (fun c=>cZ J c V) (cj O U Z)) f t (cE (dN U (fun c=>cZ J c V) (cj O U Z)) f t U).length (aI (cE (dN U (fun c=>cZ J c V) (cj O U Z)) f t U))) (bC _ _ (b7 (b7 (b7 (bh _) h23) h66) h57)) (aM (aj _ _) Up (fun x hx=>c6 hx (by simp only[dY.st,aG];exact lp))) (ai _ _) ?_;exact Tr.ak rfl (Tr.ae (fun q=>by simp[aO,bf] at q) (fun _=>Tr.ak rfl (Tr.ae (fun q=>by simp[bn] at q) (fun _=>Tr.ak rfl (Tr.ak ⟨rfl,rfl⟩ (Tr.ag ⟨rfl,rfl⟩))))))
 · rw[if_neg h0];refine bB (n:=n+5) Tryd.func26 rfl rfl rfl (SS (n+5) O U Z V J H (c7 O U Z V J)) (bC _ _ (ga (ga (b7 (bh _) h23)))) (bN (aj _ _) 0) (ai _ _) ?_;refine Tr.ak rfl (Tr.ae (fun q=>Tr.ak rfl (Tr.ag ⟨rfl,rfl⟩)) (fun q=>?_));rw[aO,bf] at q;exact absurd (by simpa using q) h0
theorem P9 (hl:U≤1000) (hb:V≤1000):cd (n+15) (.fn 25) [bk O U Z V J] H=some (Le O U Z V J,H):=by
 unfold Le;by_cases h0:c7 O U Z V J=0
 · rw[if_pos h0];exact UE n O U Z V J H hb h0
 · rw[if_neg h0];refine bB (n:=n+14) Tryd.func25 rfl rfl rfl (SQ (n+14) O U Z V J H (c7 O U Z V J)) (bC _ _ (ga (b7 (bh _) (fun H=>NB n O U Z V J H hl hb h0)))) (aj _ _) (ai _ _) ?_;refine Tr.ak rfl (Tr.ae (fun q=>Tr.ag ⟨rfl,rfl⟩) (fun q=>?_));rw[aO,bf] at q;exact absurd (by simpa using q) h0
noncomputable def NQ (f t:Int) (m:Nat) (z:Nat→Int):Int:=if c7 O U Z V J=0 then uf U (dN U (fun c=>cZ J c V) (cj O U Z)) f t m z else c7 O U Z V J
theorem Qc (hl:U≤1000) (hb:V≤1000) (f t:Int) (m:Nat) (z:Nat→Int) (hm:m≤1000):cd (n+15) (.fn 27) [bk O U Z V J,oF f t m z] H=some (.int .i64 (NQ O U Z V J f t m z),H):=by
 unfold NQ;by_cases h0:c7 O U Z V J=0
 · rw[if_pos h0];exact UG n O U Z V J H f t m z hb h0 hm
 · rw[if_neg h0];refine bB (n:=n+14) Tryd.func27 rfl rfl rfl (SU (n+14) O U Z V J H f t (c7 O U Z V J) m z) (bC _ _ (ga (ga (ga (b7 (bh _) (fun H=>NB n O U Z V J H hl hb h0)))))) (bN (aj _ _) 1) (ai _ _) ?_;refine Tr.ak rfl (Tr.ae (fun q=>Tr.ag ⟨rfl,rfl⟩) (fun q=>?_));rw[aO,bf] at q;exact absurd (by simpa using q) h0
theorem Qg (hl:U≤1000) (hb:V≤1000) (f t:Int) (m:Nat) (z:Nat→Int) (hm:m≤1000):cd (n+5) (.fn 28) [bk O U Z V J,oF f t m z] H=some (.int .i64 (NQ O U Z V J f t m z),H):=by
 unfold NQ;by_cases h0:c7 O U Z V J=0
 · rw[if_pos h0];exact T4 n O U Z V J H f t m z hb h0 hm
 · rw[if_neg h0];refine bB (n:=n+4) Tryd.func28 rfl rfl rfl (SW (n+4) O U Z V J H f t (c7 O U Z V J) m z) (bC _ _ (ga (b7 (bh _) (fun H=>NA (n+1) O U Z V J H hl hb)))) (bN (bN (aj _ _) 0) 2) (ai _ _) ?_;refine Tr.ak rfl (Tr.ae (fun q=>Tr.ak rfl (Tr.ag ⟨rfl,rfl⟩)) (fun q=>?_));rw[aO,bf] at q;exact absurd (by simpa using q) h0
end
end Go.Eng
end
section
namespace Go.Eng
open Go.Proofs Go.Eng.Gall
noncomputable def DX (m:Nat) (y:Nat→Int) (k:Nat) (z:Nat→Int) (j:Int):aA:=[(0,bG m y false),(1,bG k z false),(5,.int .i64 j)]
theorem t36 (n m:Nat) (y:Nat→Int) (k:Nat) (z:Nat→Int) (j:Int) (G:ab):aH (bO n 36 26) (il aJ n 0) aS aR (part Tryd.f36 [1,1,0,1,0,0]) (hints (DX m y k z j)) (aV::G) =
 Tr.ite (bw j (Int.ofNat m)) (Tr.req (b8 j m) (Tr.req (bR (aq 0 j 1) m) (Tr.req (b8 j k) (Tr.req (bR (aq 0 j 1) k) (Tr.ite (bU (cK (y (aq 0 j 1)) (z (aq 0 j 1)))) (Tr.ok (Ex.ret,[(4,AV.bool false,some 1)],aV::G)) (Tr.ok (Ex.normal,[(0,bG m y false,none),(1,bG k z false,none),(5,AV.int .i64 (aQ .i64 j (Int.ofNat 1)),none)],aV::G))))))) (Tr.ok (Ex.exit 0,[(0,bG m y false,none),(1,bG k z false,none),(5,AV.int .i64 j,none),(14,AV.bool false,some 1)],aV::G)):=by kernel_rfl
theorem Xe (n m:Nat) (y:Nat→Int) (k:Nat) (z:Nat→Int) (G:ab) (q:Bool):bu Tryd.prog (cd n) 100000 36 Tryd.f36 (KtG.kt 36) (il aJ n 0) (cw aS 0 (DX m y k z (Int.ofNat 0)) (aV::G) (.ite q (.ok (.ret,[(4,.bool false,none)],aV::G)) (.ok (.normal,hints (DX m y k z (Int.ofNat m)++[(14,.bool false)]),aV::G)))) aR [(bG m y false,none),(bG k z false,none)] G =
 Tr.ite (bU (cK (Int.ofNat m) (Int.ofNat k))) (Tr.ok ((AV.bool false,some 1),G)) (Tr.reqP ([(0,bG m y false),(1,bG k z false),(5,iI 0)]=[(0,bG m y false),(1,bG k z false),(5,iI 0)]∧aV::G=aV::G) (Tr.ite q (Tr.ok ((AV.bool false,none),G)) (Tr.ok ((AV.bool true,some 1),G)))):=by kernel_rfl
theorem S0 (n m:Nat) (y:Nat→Int) (k:Nat) (z:Nat→Int) (G:ab):bu Tryd.prog (cd n) 100000 36 Tryd.f36 (KtG.kt 36) (il aJ n 0) (dC aS 0) aR [(bG m y false,none),(bG k z false,none)] G =
 Tr.ite (bU (cK (Int.ofNat m) (Int.ofNat k))) (Tr.ok ((AV.bool false,some 1),G)) Tr.bad:=by kernel_rfl
theorem SZ (n:Nat) (G:ab):bu Tryd.prog (cd n) 100000 36 Tryd.f36 (KtG.kt 36) (il aJ n 0) aS aR [(.nils,none),(.nils,none)] G =
 Tr.ok ((AV.bool true,some 1),G):=by kernel_rfl
end Go.Eng
end
section
namespace Go.Eng
open Go.Proofs Go.Eng.Gall
theorem Uq:∀ b,(0,b) ∈ aE (bx Tryd.f36)→b=.loop (part Tryd.f36 [1,1,0,1,0,0]):=dK (by kernel_rfl)
section
variable (n m:Nat) (y:Nat→Int) (k:Nat) (z:Nat→Int) (H:ab)
theorem UH (hm:m≤1000):cd (n+1) (.fn 36) [bG m y false,bG k z false] H=some (.bool (decide (m=k) && !dz (fun j=>!decide (y j=z j)) m),H):=by
 by_cases hk:m=k
 · subst hk;rw[decide_eq_true rfl,Bool.true_and];have lp:=iH (n:=n) (f:=36) (nt:=26) (c:=part Tryd.f36 [1,1,0,1,0,0]) 0 (fun j=>DX m y m z (j:Int)) (fun _=>aV::H) m (fun j=>!decide (y j=z j)) (fun _=>([(4,.bool false)],aV::H)) (DX m y m z (Int.ofNat m)++[(14,.bool false)],aV::H) wO (fun j hj=>?_) ?_
   · refine bB (n:=n) Tryd.func36 rfl rfl rfl (Xe n m y m z H (dz (fun j=>!decide (y j=z j)) m)) (aw n) (aM (aj _ _) Uq (fun x hx=>dy hx lp)) (ai _ _) ?_;refine Tr.ae (fun q=>by simp[aO,bf] at q) (fun _=>Tr.ak ⟨rfl,rfl⟩ (Tr.ae (fun hc=>Tr.ag ⟨by rw[hc];rfl,rfl⟩) (fun hc=>Tr.ag ⟨by rw[hc];rfl,rfl⟩)))
   · have T:=t36 n m y m z (j:Int) H;rw[vu,eg wO] at T;refine av T (aw n) (aj _ _) (ai _ _) ?_;refine Tr.ae (fun _=>?_) wJ;refine Tr.aa wG (Tr.aa wG (Tr.aa wG (Tr.aa wG (Tr.ae (fun q=>Tr.ag ?_) (fun q=>Tr.ag ?_)))));all_goals rw[aO,bf] at q
     · rw[if_pos (by rw[← q];rfl)];rfl
     · have q:y j=z j:=by simpa using q
       rw[if_neg (by rw[decide_eq_true q];decide)];exact ⟨rfl,rfl⟩
   · obtain ⟨x,h1,rfl⟩:=av (Q:=fun x=>x=(.exit 0,DX m y m z (Int.ofNat m)++[(14,.bool false)],aV::H)) (t36 n m y m z (Int.ofNat m) H) (aw n) (aj _ _) (ai _ _) (by
      refine Tr.ae wJ (fun h0=>Tr.ag rfl))
     exact h1
 · rw[decide_eq_false hk,Bool.false_and];refine bB (n:=n) Tryd.func36 rfl rfl rfl (S0 n m y k z H) (aw n) (bN (aj _ _) 0) (ai _ _) ?_;refine Tr.ae (fun _=>Tr.ag ⟨rfl,rfl⟩) (fun q=>?_);rw[aO,bf] at q;have q:(m:Int)=k:=by simpa using q
   omega
theorem Qj (hm:m≤1000):cd (n+1) (.fn 36) [bG m y false,bG m y false] H=some (.bool true,H):=by
 rw[UH n m y m y H hm,decide_eq_true rfl,FH (fun j _=>by simp)];rfl
theorem Qi:cd (n+1) (.fn 36) [.nils,.nils] H=some (.bool true,H):=by
 refine bB (n:=n) Tryd.func36 rfl rfl rfl (SZ n H) (aw n) (aj _ _) (ai _ _) ?_;exact Tr.ag ⟨rfl,rfl⟩
end
end Go.Eng
end
section
namespace Go.Eng
open Int (ofNat)
open Go.Proofs Go.Eng.Gall
theorem Xf (n:Nat) (O:Int) (U:Nat) (Z:Nat→Int) (V:Nat) (J:Nat→Int) (H:ab) (f t:Int) (m:Nat) (z:Nat→Int) (e w:Int) (f1 t1:Int) (m1:Nat) (y:Nat→Int):bu Tryd.prog (cd (n+2)) 100000 4 Tryd.f4 (KtG.kt 4) (il (tX (tX (tX (tX (tX (tX (ng aJ 15 N5) 23 [bk O U Z V J] (.int .i64 e)) 25 [bk O U Z V J] (.tup [oF f1 t1 m1 y,.int .i64 (ofNat 0)])) 26 [bk O U Z V J] (.tup [oF f1 t1 m1 y,.int .i64 (ofNat 0)])) 27 [bk O U Z V J,oF f t m z] (.int .i64 w)) 28 [bk O U Z V J,oF f t m z] (.int .i64 w)) 36 [bG m1 y false,bG m1 y false] (.bool true)) n 2) aS aR [(bk O U Z V J,none),(oF f t m z,none)] H =
 (fun (Z0:List AV)=>((fun (Z1:List AV)=>Tr.ite (bw (ofNat 15) (ofNat U)) (Tr.reqP True (Tr.ok ((AV.bool true,none),H))) (Tr.ite (bw (ofNat 60) (ofNat V)) (Tr.reqP True (Tr.ok ((AV.bool true,none),H))) (Tr.reqP ([bk O U Z V J]=[bk O U Z V J]) (Tr.ite (cK e (ofNat 0)) (Tr.ite (bw (ofNat 7) (ofNat U)) (Tr.reqP True (Tr.ok ((AV.bool true,none),H))) (Tr.ite (bw (ofNat 20) (ofNat m)) (Tr.reqP True (Tr.ok ((AV.bool true,none),H))) (Tr.reqP ([bk O U Z V J]=[bk O U Z V J]) (Tr.reqP ([bk O U Z V J]=[bk O U Z V J]) (Tr.reqP (Z0=Z0) (Tr.reqP (Z0=Z0) (Tr.ite (cK w w) (Tr.ite (cK f1 f1) (Tr.ite (cK t1 t1) (Tr.reqP (Z1=Z1) (Tr.ite true (Tr.ite (cK (ofNat 0) (ofNat 0)) (Tr.reqP True (Tr.ok ((AV.bool true,none),H))) (Tr.ok ((AV.bool false,some 1),H))) (Tr.ok ((AV.bool false,some 1),H)))) (Tr.ok ((AV.bool false,some 1),H))) (Tr.ok ((AV.bool false,some 1),H))) (Tr.ok ((AV.bool false,some 1),H))))))))) (Tr.ite (bw (ofNat 20) (ofNat m)) (Tr.reqP True (Tr.ok ((AV.bool true,none),H))) (Tr.reqP ([bk O U Z V J]=[bk O U Z V J]) (Tr.reqP ([bk O U Z V J]=[bk O U Z V J]) (Tr.reqP (Z0=Z0) (Tr.reqP (Z0=Z0) (Tr.ite (cK w w) (Tr.ite (cK f1 f1) (Tr.ite (cK t1 t1) (Tr.reqP (Z1=Z1) (Tr.ite true (Tr.ite (cK (ofNat 0) (ofNat 0)) (Tr.reqP True (Tr.ok ((AV.bool true,none),H))) (Tr.ok ((AV.bool false,some 1),H))) (Tr.ok ((AV.bool false,some 1),H)))) (Tr.ok ((AV.bool false,some 1),H))) (Tr.ok ((AV.bool false,some 1),H))) (Tr.ok ((AV.bool false,some 1),H)))))))))))) [bG m1 y false,bG m1 y false])) [bk O U Z V J,AV.agg (Row.G [AV.int .i64 f,AV.int .i64 t,bG m z false])]:=by kernel_rfl
theorem Xg (n:Nat) (O:Int) (U:Nat) (Z:Nat→Int) (V:Nat) (J:Nat→Int) (H:ab) (f t:Int) (m:Nat) (z:Nat→Int) (e w:Int) (e1:Int):bu Tryd.prog (cd (n+2)) 100000 4 Tryd.f4 (KtG.kt 4) (il (tX (tX (tX (tX (tX (tX (ng aJ 15 N5) 23 [bk O U Z V J] (.int .i64 e)) 25 [bk O U Z V J] (.tup [.agg (.G [.int .i64 (ofNat 0),.int .i64 (ofNat 0),.nils]),.int .i64 e1])) 26 [bk O U Z V J] (.tup [.agg (.G [.int .i64 (ofNat 0),.int .i64 (ofNat 0),.nils]),.int .i64 e1])) 27 [bk O U Z V J,oF f t m z] (.int .i64 w)) 28 [bk O U Z V J,oF f t m z] (.int .i64 w)) 36 [.nils,.nils] (.bool true)) n 2) aS aR [(bk O U Z V J,none),(oF f t m z,none)] H =
 (fun (Z0:List AV)=>Tr.ite (bw (ofNat 15) (ofNat U)) (Tr.reqP True (Tr.ok ((AV.bool true,none),H))) (Tr.ite (bw (ofNat 60) (ofNat V)) (Tr.reqP True (Tr.ok ((AV.bool true,none),H))) (Tr.reqP ([bk O U Z V J]=[bk O U Z V J]) (Tr.ite (cK e (ofNat 0)) (Tr.ite (bw (ofNat 7) (ofNat U)) (Tr.reqP True (Tr.ok ((AV.bool true,none),H))) (Tr.ite (bw (ofNat 20) (ofNat m)) (Tr.reqP True (Tr.ok ((AV.bool true,none),H))) (Tr.reqP ([bk O U Z V J]=[bk O U Z V J]) (Tr.reqP ([bk O U Z V J]=[bk O U Z V J]) (Tr.reqP (Z0=Z0) (Tr.reqP (Z0=Z0) (Tr.ite (cK w w) (Tr.ite (cK (ofNat 0) (ofNat 0)) (Tr.ite (cK (ofNat 0) (ofNat 0)) (Tr.reqP ([AV.nils,AV.nils]=[AV.nils,AV.nils]) (Tr.ite true (Tr.ite (cK e1 e1) (Tr.reqP True (Tr.ok ((AV.bool true,none),H))) (Tr.ok ((AV.bool false,some 1),H))) (Tr.ok ((AV.bool false,some 1),H)))) (Tr.ok ((AV.bool false,some 1),H))) (Tr.ok ((AV.bool false,some 1),H))) (Tr.ok ((AV.bool false,some 1),H))))))))) (Tr.ite (bw (ofNat 20) (ofNat m)) (Tr.reqP True (Tr.ok ((AV.bool true,none),H))) (Tr.reqP ([bk O U Z V J]=[bk O U Z V J]) (Tr.reqP ([bk O U Z V J]=[bk O U Z V J]) (Tr.reqP (Z0=Z0) (Tr.reqP (Z0=Z0) (Tr.ite (cK w w) (Tr.ite (cK (ofNat 0) (ofNat 0)) (Tr.ite (cK (ofNat 0) (ofNat 0)) (Tr.reqP ([AV.nils,AV.nils]=[AV.nils,AV.nils]) (Tr.ite true (Tr.ite (cK e1 e1) (Tr.reqP True (Tr.ok ((AV.bool true,none),H))) (Tr.ok ((AV.bool false,some 1),H))) (Tr.ok ((AV.bool false,some 1),H)))) (Tr.ok ((AV.bool false,some 1),H))) (Tr.ok ((AV.bool false,some 1),H))) (Tr.ok ((AV.bool false,some 1),H)))))))))))) [bk O U Z V J,AV.agg (Row.G [AV.int .i64 f,AV.int .i64 t,bG m z false])]:=by kernel_rfl
theorem Xh (n:Nat) (O:Int) (U:Nat) (Z:Nat→Int) (V:Nat) (J:Nat→Int) (H:ab) (f t:Int) (m:Nat) (z:Nat→Int) (e:Int) (C:List AV→Prop):bu Tryd.prog (cd (n+2)) 100000 4 Tryd.f4 (KtG.kt 4) (il (tN (tN (tN (tN (tN (ng (ng aJ 15 N5) 23 (fun x=>some (C x,.int .i64 e))) 25) 26) 27) 28) 36) n 2) aS aR [(bk O U Z V J,none),(oF f t m z,none)] H =
 Tr.ite (bw (ofNat 15) (ofNat U)) (Tr.reqP True (Tr.ok ((AV.bool true,none),H))) (Tr.ite (bw (ofNat 60) (ofNat V)) (Tr.reqP True (Tr.ok ((AV.bool true,none),H))) (Tr.reqP (C [bk O U Z V J]) (Tr.ite (cK e (ofNat 0)) (Tr.ite (bw (ofNat 7) (ofNat U)) (Tr.reqP True (Tr.ok ((AV.bool true,none),H))) (Tr.ite (bw (ofNat 20) (ofNat m)) (Tr.reqP True (Tr.ok ((AV.bool true,none),H))) Tr.bad)) (Tr.ite (bw (ofNat 20) (ofNat m)) (Tr.reqP True (Tr.ok ((AV.bool true,none),H))) Tr.bad)))):=by kernel_rfl
end Go.Eng
end
section
namespace Go.Eng
open Go.Proofs Go.Eng.Gall
section
variable (O:Int) (U:Nat) (Z:Nat→Int) (V:Nat) (J:Nat→Int) (n:Nat) (H:ab) (f t:Int) (m:Nat) (z:Nat→Int)
theorem HK (hl:U≤1000):(∃ f1 t1 m1 y,m1≤1000∧Le O U Z V J=.tup [oF f1 t1 m1 y,.int .i64 (Int.ofNat 0)])∨∃ e,Le O U Z V J=.tup [.agg (.G [.int .i64 (Int.ofNat 0),.int .i64 (Int.ofNat 0),.nils]),.int .i64 e]:=by
 unfold Le;split
 · cases Ho O U Z V J with
   | none=>exact .inr ⟨_,rfl⟩
   | some v =>
     obtain ⟨f,t⟩:=v;refine .inl ⟨_,_,_,_,?_,rfl⟩;exact Nat.le_trans (jo _ _ _ _) hl
 · exact .inr ⟨_,rfl⟩
theorem c4:cd (n+19) (.fn 4) [bk O U Z V J,oF f t m z] H=some (.bool true,H):=by
 by_cases hg:U≤15∧V≤60∧m≤20
 · obtain ⟨g1,g2,g3⟩:=hg;have hl:U≤1000:=by omega
   have hb:V≤1000:=by omega
   have hm:m≤1000:=by omega
   have h23:=fun q H=>NA (n+13+q) O U Z V J H hl hb;have h25:=fun q H=>P9 (n+1+q) O U Z V J H hl hb;have h26:=fun q H=>UF (n+10+q) O U Z V J H hl hb;have h27:=fun q H=>Qc (n+1+q) O U Z V J H hl hb f t m z hm;have sv:=fun q H=>Qg (n+11+q) O U Z V J H hl hb f t m z hm;have a1:∀ q,n+13+q+3=n+16+q:=fun q=>by omega
   have a3:∀ q,n+10+q+6=n+16+q:=fun q=>by omega
   have a4:∀ q,n+1+q+15=n+16+q:=fun q=>by omega
   have a5:∀ q,n+11+q+5=n+16+q:=fun q=>by omega
   have a6:∀ q,n+15+q+1=n+16+q:=fun q=>by omega
   simp only[a1,a3,a4,a5] at h23 h25 h26 h27 sv;generalize NQ O U Z V J f t m z=w at *;rcases HK O U Z V J hl with ⟨f1,t1,m1,y,hm1,hp⟩ | ⟨e1,hp⟩
   · rw[hp] at h25 h26;refine bB (n:=n+18) Tryd.func4 rfl rfl rfl (Xf (n+16) O U Z V J H f t m z (c7 O U Z V J) w f1 t1 m1 y) (lU _ (n+16) 2 (fun q=>b7 (b7 (b7 (b7 (b7 (b7 (Qo wO (bh _)) (h23 q)) (h25 q)) (h26 q)) (h27 q)) (sv q)) (fun H=>by
      have:=Qj (n+15+q) m1 y H hm1;rw[a6] at this;exact this))) (aj _ _) (ai _ _) ?_
     repeat' first
      | (refine Tr.ae (fun hc=>?_) (fun hc=>?_)<;>(try simp (disch:=omega) only[nV,nW] at hc)<;>(try (exfalso;omega)))
      | (refine Tr.aa ?_ ?_;· ((try simp (disch:=omega) only[nV,nW]);try omega))
      | (refine Tr.ak ?_ ?_;· first | exact trivial | rfl | exact ⟨rfl,rfl⟩ | fail)
      | fail
     all_goals first
      | exact Tr.ag ⟨rfl,rfl⟩
      | fail
   · rw[hp] at h25 h26;refine bB (n:=n+18) Tryd.func4 rfl rfl rfl (Xg (n+16) O U Z V J H f t m z (c7 O U Z V J) w e1) (lU _ (n+16) 2 (fun q=>b7 (b7 (b7 (b7 (b7 (b7 (Qo wO (bh _)) (h23 q)) (h25 q)) (h26 q)) (h27 q)) (sv q)) (fun H=>by
      have:=Qi (n+15+q) H;rw[a6] at this;exact this))) (aj _ _) (ai _ _) ?_
     repeat' first
      | (refine Tr.ae (fun hc=>?_) (fun hc=>?_)<;>(try simp (disch:=omega) only[nV,nW] at hc)<;>(try (exfalso;omega)))
      | (refine Tr.aa ?_ ?_;· ((try simp (disch:=omega) only[nV,nW]);try omega))
      | (refine Tr.ak ?_ ?_;· first | exact trivial | rfl | exact ⟨rfl,rfl⟩ | fail)
      | fail
     all_goals first
      | exact Tr.ag ⟨rfl,rfl⟩
      | fail
 · refine bB (n:=n+18) Tryd.func4 rfl rfl rfl (Xh (n+16) O U Z V J H f t m z (c7 O U Z V J) (fun x=>x=[bk O U Z V J]∧U≤1000∧V≤1000)) (lU _ (n+16) 2 (fun q=>ga (ga (ga (ga (ga (Cr (Qo wO (bh _)) (fun A H hA=>by
    obtain ⟨rfl,q1,q2⟩:=hA;rw[show n+16+q=n+13+q+3 by omega];exact NA (n+13+q) O U Z V J H q1 q2)))))))) (aj _ _) (ai _ _) ?_
   refine Tr.ae (fun _=>Tr.ak trivial (Tr.ag ⟨rfl,rfl⟩)) (fun r1=>Tr.ae (fun _=>Tr.ak trivial (Tr.ag ⟨rfl,rfl⟩)) (fun r2=>Tr.ak ⟨rfl,?_⟩ (Tr.ae (fun _=>Tr.ae (fun _=>Tr.ak trivial (Tr.ag ⟨rfl,rfl⟩)) (fun _=>Tr.ae (fun _=>Tr.ak trivial (Tr.ag ⟨rfl,rfl⟩)) (fun r3=>?_))) (fun _=>Tr.ae (fun _=>Tr.ak trivial (Tr.ag ⟨rfl,rfl⟩)) (fun r3=>?_)))));all_goals
    simp (disch:=omega) only[nV,nW] at r1
    simp (disch:=omega) only[nV,nW] at r2
   · omega
   all_goals
    simp (disch:=omega) only[nV,nW] at r3
    omega
end
end Go.Eng
end
section
namespace Go.Proofs.YtgphpjdchnfjlaaDoor
open Go.ChangeShapes Go.WideShapes Go.ChangeAt Go.RowKit
theorem Tryd.own:ownKnob Tryd.prog.godebug=none:=by kernel_rfl
def BM:List (String×DataW Unit):=[("math/bits.deBruijn32tab",Rows.laid_math_bits_deBruijn32tab),("math/bits.deBruijn64tab",Rows.laid_math_bits_deBruijn64tab)]
def t32:List Int:=Go.Lib.deBruijn32tab.map fun n:Nat=>(n:Int)
def t64:List Int:=Go.Lib.deBruijn64tab.map fun n:Nat=>(n:Int)
theorem PB:(Rows.laid_math_bits_deBruijn64tab:DataW Unit)=Lib.tabData .u8 t64:=by kernel_rfl
set_option maxRecDepth 100000 in
theorem FV {W:World} (h:laidMetH Tryd.prog BM W):Eng.ly W:=by
 have h':laidMet Tryd.prog BM W:=h;obtain ⟨ps,hv,_⟩:=h';obtain ⟨_,_,_,_,_,_,_,_,_,_,hv,_⟩:=hv;obtain ⟨g,t,cs,fuel,p,q,h1,h2,h3,h4,_⟩:=hv;obtain rfl:1=g:=Option.some.inj ((show Tryd.prog.globalNamed "math/bits.deBruijn64tab" = some 1 by kernel_rfl).symm.trans h1);obtain rfl:139=t:=Option.some.inj ((show (Tryd.prog.globals[1]?).map (·.type)=some 139 by kernel_rfl).symm.trans h2);rw[PB] at h4;have hcs:=Lib.cells_of_tab Tryd.underlying139 Tryd.underlying5 (by kernel_rfl) (by kernel_rfl) h4;intro b o v hg;unfold Eng.oS at hg;split at hg
 · rename_i hbo;obtain ⟨rfl,ho⟩:=hbo;simp only[Option.some.injEq] at hg;subst hg;rw[World.var?_cell h1 h3 o,← Array.getElem?_toList,hcs,List.getElem?_map];have hl:Go.Lib.deBruijn64tab.length=64:=by decide
   rw[t64,List.getElem?_map,List.getElem?_eq_getElem (by omega)];simp only[Option.map_some,List.getD_eq_getElem?_getD,List.getElem?_eq_getElem (show o<Go.Lib.deBruijn64tab.length by omega),Option.getD_some]
 · cases hg
noncomputable def pZ (os:Os):World :=
 let w0:=World.holding Tryd.prog os ⟨#[],#[],[]⟩
 let put (h:Array Obj) (g:Nat) (cs:Array Value):Array Obj:=h.modify g fun
  | .cells _ t frozen=>.cells cs t frozen
  | o=>o
 { w0 with heap:=put (put w0.heap 0 (t32.map fun z=>Value.int .u8 z).toArray) 1 (t64.map fun z=>Value.int .u8 z).toArray }
theorem Io (os:Os) (args:Array Value):LaidIn Tryd.prog ((pZ os).forCall (fun _ _=>0) ⟨#[],args,[]⟩).memory BM [0,1] :=
 LaidIn.of_run [0,1] 8 (by kernel_rfl) (by kernel_rfl) (by kernel_rfl) (by kernel_rfl)
theorem F5 (os:Os) (args:Array Value):laidMetH Tryd.prog BM ((pZ os).forCall (fun _ _=>0) ⟨#[],args,[]⟩).memory:=(Io os args).met
end Go.Proofs.YtgphpjdchnfjlaaDoor
end
section
namespace Go.Eng.Gall
open Go.Proofs
def Ps:List cD:=[]
theorem Dm:∀ e ∈ Ps,aB Tryd.prog e:=IK
def jE:List Int:=[100,110,60,110,90,95,75,100,120,125,80,110,80,80,70,200]
def EK:List Int:=[100,110,90,110,90,95,75,100,120,125,80,110,80,80,70,200]
def gR (a b w s:List Int):Row:=.G (.int .i64 10::.slcT none (.I .i64 a) 4 4 true::.slcT none (.I .i64 b) 2 1 true::(w.map (AV.int .i64)++s.map (AV.int .u64)))
def gA (a b:List Int):AV:=.agg (.G [.int .i64 10,.slcT none (.I .i64 a) 4 4 true,.slcT none (.I .i64 b) 2 1 true])
noncomputable def E1:cD:=⟨46,[],gA jE [3,1]⟩
theorem WO:aB Tryd.prog E1:=aY Dm (H':=[⟨true,[]⟩]) (by kernel_rfl) (by kernel_rfl)
noncomputable def Pt:List cD:=E1::Ps
theorem Dn:∀ e ∈ Pt,aB Tryd.prog e:=aX WO Dm
noncomputable def E2:cD:=⟨47,[],gA EK [3,1]⟩
theorem WQ:aB Tryd.prog E2:=aY Dn (H':=[⟨true,[]⟩]) (by kernel_rfl) (by kernel_rfl)
noncomputable def Pu:List cD:=E2::Pt
theorem Dp:∀ e ∈ Pu,aB Tryd.prog e:=aX WQ Dn
noncomputable def E3:cD:=⟨22,[gA jE [3,1]],.int .i64 0⟩
theorem WR:aB Tryd.prog E3:=aY Dp (H':=[⟨true,[]⟩]) (by kernel_rfl) (by kernel_rfl)
noncomputable def Pv:List cD:=E3::Pu
theorem Dq:∀ e ∈ Pv,aB Tryd.prog e:=aX WR Dp
noncomputable def E4:cD:=⟨16,[gA jE [3,1],.int .i64 2,.int .i64 2],.tup [.agg (.I .i64 [100,105]),.int .i64 0]⟩
theorem WS:aB Tryd.prog E4:=aY Dq (H':=[⟨true,[]⟩]) (by kernel_rfl) (by kernel_rfl)
noncomputable def Px:List cD:=E4::Pv
theorem Dr:∀ e ∈ Px,aB Tryd.prog e:=aX WS Dq
end Go.Eng.Gall
end
section
namespace Go.Eng.Gall
open Go.Proofs
noncomputable def E5:cD:=⟨18,[gA jE [3,1],.int .i64 2],.tup [.agg (.I .i64 [2,3]),.int .i64 0]⟩
theorem WT:aB Tryd.prog E5:=aY Dr (H':=[⟨true,[]⟩]) (by kernel_rfl) (by kernel_rfl)
noncomputable def Py:List cD:=E5::Px
theorem Ds:∀ e ∈ Py,aB Tryd.prog e:=aX WT Dr
noncomputable def E6:cD:=⟨56,[.ptrT none (gR jE [3,1] [0,3,0,1,2,3,0,1,0,0,0,0,0,0,0,0,0,0,0,0] [0,8,0,0,0,0,0,0,0,0]) 0],.agg (.I .i64 [0,3,1,1,2,3,0,0,0,0,0,0,0,0,0,0,0,0,0,0])⟩
theorem WU:aB Tryd.prog E6:=aY Ds (H':=[⟨true,[]⟩]) (by kernel_rfl) (by kernel_rfl)
noncomputable def PA:List cD:=E6::Py
theorem Dt:∀ e ∈ PA,aB Tryd.prog e:=aX WU Ds
noncomputable def E7:cD:=⟨20,[gA jE [3,1],.int .i64 1],.tup [.agg (.I .i64 [1,1]),.int .i64 0]⟩
theorem WV:aB Tryd.prog E7:=aY Dt (H':=[⟨true,[]⟩]) (by kernel_rfl) (by kernel_rfl)
noncomputable def PC:List cD:=E7::PA
theorem Du:∀ e ∈ PC,aB Tryd.prog e:=aX WV Dt
noncomputable def E8:cD:=⟨49,[gA jE [3,1],.nils],.tup [.ptrT none (gR jE [3,1] [0,3,0,1,2,3,0,1,0,0,0,0,0,0,0,0,0,0,0,0] [0,8,0,0,0,0,0,0,0,0]) 0,.int .i64 0]⟩
theorem WW:aB Tryd.prog E8:=aY Du (H':=[⟨true,[]⟩]) (by kernel_rfl) (by kernel_rfl)
noncomputable def PD:List cD:=E8::PC
theorem Dv:∀ e ∈ PD,aB Tryd.prog e:=aX WW Du
end Go.Eng.Gall
end
section
namespace Go.Eng.Gall
open Go.Proofs
noncomputable def E9:cD:=⟨65,[.ptrT none (gR jE [3,1] [0,3,0,1,2,3,0,1,0,0,0,0,0,0,0,0,0,0,0,0] [0,8,0,0,0,0,0,0,0,0]) 0],.tup [.agg (.G [.int .i64 0,.int .i64 0,.nils]),.bool false]⟩
theorem WX:aB Tryd.prog E9:=aY Dv (H':=[⟨true,[]⟩]) (by kernel_rfl) (by kernel_rfl)
noncomputable def PE:List cD:=E9::PD
theorem Dw:∀ e ∈ PE,aB Tryd.prog e:=aX WX Dv
noncomputable def Tf:cD:=⟨56,[.ptrT none (gR jE [3,1] [0,0,0,1,2,3,0,1,0,0,0,0,0,0,0,0,0,0,0,0] [0,8,0,0,0,0,0,0,0,0]) 0],.agg (.I .i64 [0,0,1,1,2,3,0,0,0,0,0,0,0,0,0,0,0,0,0,0])⟩
theorem RF:aB Tryd.prog Tf:=aY Dw (H':=[⟨true,[]⟩]) (by kernel_rfl) (by kernel_rfl)
noncomputable def Ka:List cD:=Tf::PE
theorem zB:∀ e ∈ Ka,aB Tryd.prog e:=aX RF Dw
noncomputable def Tg:cD:=⟨65,[.ptrT none (gR jE [3,1] [0,0,0,1,2,3,0,1,0,0,0,0,0,0,0,0,0,0,0,0] [0,8,0,0,0,0,0,0,0,0]) 0],.tup [.agg (.G [.int .i64 0,.int .i64 0,.slcT none (.I .i64 [0,3]) 1 2 false]),.bool true]⟩
theorem RG:aB Tryd.prog Tg:=aY zB (H':=[⟨true,[]⟩]) (by kernel_rfl) (by kernel_rfl)
noncomputable def Kb:List cD:=Tg::Ka
theorem zC:∀ e ∈ Kb,aB Tryd.prog e:=aX RG zB
noncomputable def Th:cD:=⟨56,[.ptrT none (gR jE [3,1] [0,3,0,1,2,3,0,0,0,0,0,0,0,0,0,0,0,0,0,0] [0,8,0,0,0,0,0,0,0,0]) 0],.agg (.I .i64 [0,3,1,1,2,3,0,0,0,0,0,0,0,0,0,0,0,0,0,0])⟩
theorem RH:aB Tryd.prog Th:=aY zC (H':=[⟨true,[]⟩]) (by kernel_rfl) (by kernel_rfl)
noncomputable def Kc:List cD:=Th::Kb
theorem zD:∀ e ∈ Kc,aB Tryd.prog e:=aX RH zC
end Go.Eng.Gall
end
