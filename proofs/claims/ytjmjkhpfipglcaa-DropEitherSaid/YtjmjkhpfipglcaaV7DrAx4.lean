/- Drop: a bath as an abstract value; the table of calls. -/
import Derived.Test.YtjmjkhpfipglcaaV7EngThx6
import Derived.Test.YtjmjkhpfipglcaaProg
import Derived.KernelRfl
section
namespace Go.Eng
open Go.Proofs Go.ChangeShapes
set_option linter.unusedVariables false
set_option maxRecDepth 100000

noncomputable def aU (n len:Nat) (z:Nat→Int):AV:=.slcT none (.M [.arr .i64 z (iS len n)]) n len false
noncomputable def aa (w:Int) (ls:Nat) (zs:Nat→Int) (ld:Nat) (zd:Nat→Int):AV:=.agg (.G [.int .i64 w,aU 2 ls zs,aU 3 ld zd])
noncomputable def mo:bG→FuncId→List AV→ae→Option (AV×ae):=CP [⟨16,[],.bool true⟩]
def IL (f:FuncId):Bool:=Nat.beq f 16 || Nat.beq f 1000000
noncomputable def cd (n:Nat):bG:=dN Try.prog mo Kt.kt 100000 n
noncomputable def il (tab:lR) (n k:Nat):cr:=Cp Try.prog mo Kt.kt 100000 IL tab n k
noncomputable def bF (n:Nat) (f nt:Nat):Cx:=⟨Try.prog,cd n,100000,f,nt,Kt.kt f,none⟩

def Dw:List Nat→Code→Code
 | [],c=>c
 | x :: p,c=>match c with
   | .seq a b=>match x with
     | 0=>Dw p a
     | _=>Dw p b
   | .cond _ a b=>match x with
     | 0=>Dw p a
     | _=>Dw p b
   | .block _ b=>Dw p b
   | .loop b=>Dw p b
   | .scope b=>Dw p b
   | .rangeFunc _ _ a b=>match x with
     | 0=>Dw p a
     | _=>Dw p b
   | c=>c
noncomputable def part (f:Func) (p:List Nat):Code:=Dw p (aL f)
theorem CK (g:FuncId) (h:IL g=false) (c:bG) (args:List AV) (H:ae):mo c g args H=none:=by
 unfold IL at h
 rw[Bool.or_eq_false_iff] at h
 unfold mo CP
 rw[h.2,cond_false]
 simp only[yz]
 have:Nat.beq 16 g=false:=by
  cases hb:Nat.beq 16 g with
  | false=>rfl
  | true=>have:=Nat.eq_of_beq_eq_true hb;subst this;simp at h
 rw[this];rfl
theorem bQ (tab:lR) (n k:Nat) (ht:∀ k,tab.Ok (cd (n+k))):(il tab n k).Ok (cd (n+k)):=zG _ _ _ _ _ _ _ CK (fun k=>Bd _ _ _ _ _) ht k
theorem bU (n k:Nat):(il aG n k).Ok (cd (n+k)):=bQ _ _ _ (fun k=>bB _)
theorem bk (n:Nat):(il aG n 0).Ok (cd n):=bU n 0
theorem nN {f:FuncId} {fn:Func} {n:Nat} (hf:Try.prog.funcs[f]?=some fn) (hb:fn.body.isSome=true) (hn:IL f=false) {args:List HV} (hle:Nat.ble args.length fn.ntmps=true) {H:ae} {callR:cr} (hC:callR.Ok (cd n)) {bl:iI} (hB:bl.Ok (bF n f fn.ntmps) (aL fn)) {rg:uq} (hR:rg.Ok (bF n f fn.ntmps) (aL fn)) {y:HV×ae}
 (h:(aW Try.prog (cd n) 100000 f fn (Kt.kt f) callR bl rg args H).run=some y):cd (n+1) (.fn f) (py args) H=some (y.1.1,y.2) :=
 vN hf hb (CK f hn _ _ _) hle hC hB hR h
theorem gw {f:FuncId} {fn:Func} {n:Nat} (hf:Try.prog.funcs[f]?=some fn) (hb:fn.body.isSome=true) (hn:IL f=false) {args:List HV} (hle:Nat.ble args.length fn.ntmps=true) {H:ae} {callR:cr} {bl:iI} {rg:uq} {T:Tr (HV×ae)}
 (e:aW Try.prog (cd n) 100000 f fn (Kt.kt f) callR bl rg args H=T) (hC:callR.Ok (cd n)) (hB:bl.Ok (bF n f fn.ntmps) (aL fn)) (hR:rg.Ok (bF n f fn.ntmps) (aL fn)) {y:HV×ae} (hr:T.run=some y):cd (n+1) (.fn f) (py args) H=some (y.1.1,y.2) :=
 nN hf hb hn hle hC hB hR (by rw[e];exact hr)
theorem nL {n f nt:Nat} {c:Code} {callR:cr} (hC:callR.Ok (cd n)) {bl:iI} (hB:bl.Ok (bF n f nt) c) {rg:uq} (hR:rg.Ok (bF n f nt) c) {fr:aO} {H:ae} {x:dg} (h:(aH (bF n f nt) callR bl rg c (hints fr) H).run=some x):exec (bF n f nt) c fr H=some x.st:=by
 have:=bK hC c hB hR _ _ _ h
 rw[aw] at this
 exact this

def fY (bl:iI) (id0:Nat):iI:=fun id fr H=>cond (Nat.beq id id0) (some .bad) (bl id fr H)
theorem cN {bl:iI} {cx:Cx} {c:Code} (h:bl.Ok cx c) (id0:Nat):(fY bl id0).Ok cx c:=by
 intro id b hm fr H t y ht hy
 unfold fY at ht
 cases hb:Nat.beq id id0 with
 | true =>
   rw[hb,cond_true,Option.some.injEq] at ht
   subst ht
   exact (Tr.ag hy).elim
 | false =>
   rw[hb,cond_false] at ht
   exact h id b hm fr H t y ht hy
theorem rf {n f nt:Nat} {c:Code} {callR:cr} {bl:iI} {rg:uq} {fr:aO} {H:ae} {T:Tr dg} (e:aH (bF n f nt) callR bl rg c (hints fr) H=T) (hC:callR.Ok (cd n)) (hB:bl.Ok (bF n f nt) c) (hR:rg.Ok (bF n f nt) c) {x:dg} (hr:T.run=some x):exec (bF n f nt) c fr H=some x.st :=
 nL hC hB hR (by rw[e];exact hr)
section
variable {n f nt:Nat} {c:Code} {callR:cr} {bl:iI} {rg:uq}
theorem Jt (id:Nat) (F:Nat→aO) (G:Nat→ae) (N:Nat) (p:Nat→Bool) (X:Nat→dg) (hN:N<99999)
 (hs:∀ j,j<N→p j=false→∃ f' g,exec (bF n f nt) c (F j) (G j)=some (.normal,f',g)∧f'=F (j+1)∧tidy (bm (G 0)) (F (j+1)) g=(F (j+1),G (j+1)))
 (hh:∀ j,j<N→p j=true→exec (bF n f nt) c (F j) (G j)=some (X j).st∧(X j).1=.ret)
 (he:exec (bF n f nt) c (F N) (G N)=some (X N).st∧(X N).1=.exit id) (x:dg)
 (hx:(fN p N 0<N∧x.st=(X (fN p N 0)).st)∨(fN p N 0=N∧x.st=(.normal,(X N).st.2))):exec (bF n f nt) (.block id (.loop c)) (F 0) (G 0)=some x.st:=by
 have st:∀ r:dg,r.st.1=r.1:=fun r=>rfl
 have key:=iF (body:=exec (bF n f nt) c) (n:=bm (G 0)) F G N p (fun j=>(X j).st)
  (fun j hj hp=>by
    obtain ⟨f',g,h1,h2,h3⟩:=hs j hj hp
    exact ⟨f',g,h1,by rw[h2];exact h3⟩)
  (fun j hj hp=>by
    obtain ⟨h1,h2⟩:=hh j hj hp
    exact ⟨h1,by rw[st,h2];simp⟩)
  (by
    obtain ⟨h1,h2⟩:=he
    exact ⟨h1,by rw[st,h2];simp⟩) N 0 100000 (by omega) (by omega)
 rcases hx with ⟨h1,h2⟩ | ⟨h1,h2⟩
 · have hq:=(ji p N 0).2.2.2 (by omega)
   obtain ⟨_,hr⟩:=hh _ h1 hq
   rw[h2]
   generalize X (fN p N 0)=y at key hr
   obtain ⟨e,f1,g1⟩:=y
   dsimp only at hr
   subst hr
   exact dv (fun id' h=>by cases h) key
 · rw[h1] at key
   rw[h2]
   have hr:=he.2
   generalize X N=y at key hr
   obtain ⟨e,f1,g1⟩:=y
   dsimp only at hr
   subst hr
   exact c7 key
theorem rp (hC:callR.Ok (cd n)) (hB:bl.Ok (bF n f nt) c) (hR:rg.Ok (bF n f nt) c) (id:Nat) (F:Nat→aO) (G:Nat→ae) (N:Nat) (p:Nat→Bool) (X:Nat→dg) (hN:N<99999)
 (hs:∀ j,j<N→p j=false→∃ f' g,(aH (bF n f nt) callR bl rg c (hints (F j)) (G j)).run=some (.normal,f',g)∧strip f'=F (j+1)∧tidy (bm (G 0)) (F (j+1)) g=(F (j+1),G (j+1)))
 (hh:∀ j,j<N→p j=true→(aH (bF n f nt) callR bl rg c (hints (F j)) (G j)).run=some (X j)∧(X j).1=.ret)
 (he:(aH (bF n f nt) callR bl rg c (hints (F N)) (G N)).run=some (X N)∧(X N).1=.exit id) (x:dg)
 (hx:(fN p N 0<N∧x.st=(X (fN p N 0)).st)∨(fN p N 0=N∧x.st=(.normal,(X N).st.2))):exec (bF n f nt) (.block id (.loop c)) (F 0) (G 0)=some x.st:=by
 have st:∀ r:dg,r.st.1=r.1:=fun r=>rfl
 have key:=iF (body:=exec (bF n f nt) c) (n:=bm (G 0)) F G N p (fun j=>(X j).st)
  (fun j hj hp=>by
    obtain ⟨f',g,h1,h2,h3⟩:=hs j hj hp
    refine ⟨strip f',g,nL hC hB hR h1,?_⟩
    rw[h2];exact h3)
  (fun j hj hp=>by
    obtain ⟨h1,h2⟩:=hh j hj hp
    exact ⟨nL hC hB hR h1,by rw[st,h2];simp⟩)
  (by
    obtain ⟨h1,h2⟩:=he
    exact ⟨nL hC hB hR h1,by rw[st,h2];simp⟩) N 0 100000 (by omega) (by omega)
 rcases hx with ⟨h1,h2⟩ | ⟨h1,h2⟩
 · have hq:=(ji p N 0).2.2.2 (by omega)
   obtain ⟨_,hr⟩:=hh _ h1 hq
   rw[h2]
   generalize X (fN p N 0)=y at key hr
   obtain ⟨e,f1,g1⟩:=y
   dsimp only at hr
   subst hr
   exact dv (fun id' h=>by cases h) key
 · rw[h1] at key
   rw[h2]
   have hr:=he.2
   generalize X N=y at key hr
   obtain ⟨e,f1,g1⟩:=y
   dsimp only at hr
   subst hr
   exact c7 key
theorem G7 (hC:callR.Ok (cd n)) (hB:bl.Ok (bF n f nt) c) (hR:rg.Ok (bF n f nt) c) (id:Nat) (F:Nat→aO) (G:Nat→ae) (N:Nat) (y:dg) (hN:N<99999)
 (hs:∀ j,j<N→∃ f' g,(aH (bF n f nt) callR bl rg c (hints (F j)) (G j)).run=some (.normal,f',g)∧strip f'=F (j+1)∧tidy (bm (G 0)) (F (j+1)) g=(F (j+1),G (j+1)))
 (he:(aH (bF n f nt) callR bl rg c (hints (F N)) (G N)).run=some y∧y.1=.exit id):exec (bF n f nt) (.block id (.loop c)) (F 0) (G 0)=some (.normal,y.st.2):=by
 have key:=wG (body:=exec (bF n f nt) c) (n:=bm (G 0)) F G N y.st
  (fun j hj=>by
    obtain ⟨f',g,h1,h2,h3⟩:=hs j hj
    refine ⟨strip f',g,nL hC hB hR h1,?_⟩
    rw[h2];exact h3)
  (by
    obtain ⟨h1,h2⟩:=he
    exact ⟨nL hC hB hR h1,by rw[show y.st.1=y.1 from rfl,h2];simp⟩) 100000 (by omega)
 have hr:=he.2
 obtain ⟨e,f1,g1⟩:=y
 dsimp only at hr
 subst hr
 exact c7 key
end
theorem lQ (j:Nat) (h:j<2 ^ 31):IntKind.i64.wrap ((j:Int)+1)=((j+1:Nat):Int):=by
 rw[show ((j:Int)+1)=((j+1:Nat):Int) by omega]
 exact Go.IntWalk.i64_in _ (by omega)

def bD (p:Nat→Bool) (N:Nat):Bool:=decide (fN p N 0<N)
theorem eN {p:Nat→Bool} {N:Nat} (h:bD p N=true):fN p N 0<N:=by simpa[bD] using h
theorem eo {p:Nat→Bool} {N:Nat} (h:bD p N=false):fN p N 0=N:=by
 have h1:=(ji p N 0).2.1
 have:¬ fN p N 0<N:=by simpa[bD] using h
 omega
theorem bV (p:Nat→Bool) (N:Nat):bD p N=true↔∃ i,i<N∧p i=true:=by
 obtain ⟨h1,h2,h3,h4⟩:=ji p N 0
 constructor
 · intro h
   have:=eN h
   exact ⟨_,this,h4 (by omega)⟩
 · rintro ⟨i,hi,hp⟩
   unfold bD
   rw[decide_eq_true_eq]
   apply Nat.lt_of_not_le
   intro hc
   have:=h3 i (by omega) (by omega)
   rw[this] at hp;cases hp
theorem l7 (a b c:Nat):(a<aI b c)=(a<b*c):=by rw[gl]
theorem EA (a b c:Nat):(a≤aI b c)=(a≤b*c):=by rw[gl]

theorem nX:(∀ {α:Type} (c:Bool) (a b:Tr α),(Tr.ite c a b).run=cond c a.run b.run)∧(∀ {α:Type} (c:Bool) (a:Tr α),(Tr.req c a).run=cond c a.run none)∧(∀ {α:Type} (a:α),(Tr.ok a).run=some a)∧(∀ {α:Type} (a b:α),cond true a b=a)∧(∀ {α:Type} (a b:α),cond false a b=b)∧(∀ n:Nat,Int.ofNat n=(n:Int))∧(∀ j:Nat,j<2 ^ 31→IntKind.i64.wrap ((j:Int)+1)=((j+1:Nat):Int))∧cX (cB 0 0) (cB 0 1)=true∧(∀ (p:Prop) [Decidable p],p→decide p=true)∧(∀ (p:Prop) [Decidable p],¬ p→decide p=false):=⟨fun _ _ _=>rfl,fun _ _=>rfl,fun _=>rfl,fun _ _=>rfl,fun _ _=>rfl,fun _=>rfl,lQ,FT,fun _ _ h=>decide_eq_true h,fun _ _ h=>decide_eq_false h⟩
theorem nS:(∀ x y:Int,bA x y=decide (x<y)) ∧
 (∀ x y:Int,dA x y=decide (x≤y)) ∧
 (∀ b:Bool,aD b=(!b)) ∧
 (∀ a b:Bool,cX a b=(a && b)) ∧
 (∀ (i:Int) (n:Nat),br i n=decide (0≤i∧i<(n:Int))) ∧
 (∀ x y:Nat,bt x y=decide (x<y)) ∧
 (∀ x y:Nat,cB x y=decide (x≤y)) ∧
 (∀ a b c:Nat,(a<aI b c)=(a<b*c)) ∧
 (∀ a b c:Nat,(a≤aI b c)=(a≤b*c)) ∧
 (∀ (o:Nat) (i:Int) (s:Nat),al o i s=o+i.toNat*s) ∧
 (∀ a b:Nat,au a b=a+b) ∧
 (∀ (k:IntKind) (x y:Int),ay k x y=k.wrap (x+y)) ∧
 (∀ n:Nat,(n:Int).toNat=n) ∧
 (∀ n:Nat,0+n=n) ∧
 (((1:Nat):Int)=1) ∧
 ((!true)=false) ∧
 ((!false)=true) ∧
 (∀ b:Bool,(b && true)=b) ∧
 (∀ b:Bool,(b && false)=false) ∧
 (∀ b:Bool,(true && b)=b) ∧
 (∀ b:Bool,(false && b)=false) :=
 ⟨cj,er,cL,kf,dW,dJ,eB,l7,EA,bT,bP,aR,Int.toNat_natCast,Nat.zero_add,Int.natCast_one,Bool.not_true,Bool.not_false,Bool.and_true,Bool.and_false,Bool.true_and,Bool.false_and⟩
end Go.Eng
end
section
namespace Go.Eng
open Go.Proofs
set_option linter.unusedVariables false
set_option linter.unusedSimpArgs false
set_option maxRecDepth 100000

def im (zd tr:Nat→Int) (s:Int):Nat→Int
 | 0=>0
 | j+1=>if zd (j*3)=s then IntKind.i64.wrap (im zd tr s j+tr j) else im zd tr s j
noncomputable def rv (lt:Nat) (tr:Nat→Int) (s acc j:Int):aO:=[(1,aU 1 lt tr),(2,.int .i64 s),(3,.ptr 0 0 0 0),(7,.int .i64 acc),(8,.int .i64 j)]
noncomputable def a6 (w:Int) (ls ld:Nat) (zs zd:Nat→Int):b6:=⟨false,[(0,.row (.G [.int .i64 w,aU 2 ls zs,aU 3 ld zd]))]⟩
section
variable (n:Nat) (w:Int) (ls ld lt:Nat) (zs zd tr:Nat→Int) (H:ae) (s:Int)
theorem t45 (acc j:Int):aH (bF n 45 31) (il aG n 0) aJ aK (part Try.f45 [1,1,0,1,0,0]) (hints (rv lt tr s acc j)) (a6 w ls ld zs zd::H) =
 Tr.ite (bA j (Int.ofNat ld))
  (Tr.req (br j ld) (Tr.req (bt (al 0 j 3) (aI ld 3))
    (Tr.ite (aF (zd (al 0 j 3)) s)
      (Tr.req (br j lt) (Tr.req (bt (al 0 j 1) lt) (Tr.ok (Ex.normal,hints (rv lt tr s (ay .i64 acc (tr (al 0 j 1))) (ay .i64 j (Int.ofNat 1))),a6 w ls ld zs zd::H))))
      (Tr.ok (Ex.normal,hints (rv lt tr s acc (ay .i64 j (Int.ofNat 1))),a6 w ls ld zs zd::H)))))
  (Tr.ok (Ex.exit 0,hints (rv lt tr s acc j)++[(13,AV.bool false,some 1)],a6 w ls ld zs zd::H)):=by kernel_rfl
theorem Pd:av (aL Try.f45)=[(0,.loop (part Try.f45 [1,1,0,1,0,0])),(1,part Try.f45 [1,1,0,1,0,0,1,0,0])]:=by kernel_rfl
theorem Rt (h1:ld≤lt) (h2:ld<2 ^ 16):exec (bF n 45 31) (.block 0 (.loop (part Try.f45 [1,1,0,1,0,0]))) (rv lt tr s 0 0) (a6 w ls ld zs zd::H)=some (.normal,rv lt tr s (im zd tr s ld) (ld:Int)++[(13,AV.bool false)],a6 w ls ld zs zd::H):=by
 refine G7 (bk n) (ah _ _) (ai _ _) 0 (fun j=>rv lt tr s (im zd tr s j) (j:Int)) (fun _=>a6 w ls ld zs zd::H) ld (.exit 0,hints (rv lt tr s (im zd tr s ld) (ld:Int))++[(13,AV.bool false,some 1)],a6 w ls ld zs zd::H) (by omega) (fun j hj=>?_) ⟨?_,rfl⟩
 · refine ⟨hints (rv lt tr s (im zd tr s (j+1)) ((j+1:Nat):Int)),a6 w ls ld zs zd::H,?_,aw _,rfl⟩
   rw[t45]
   by_cases e:zd (j*3)=s
   · simp (disch:=omega) only[Tr.run_ite,Tr.b8,Tr.gp,cj,dW,dJ,bT,gl,aR,bY,decide_eq_true,cond_true,Int.ofNat_eq_natCast,Int.toNat_natCast,Nat.zero_add,Nat.mul_one,e,beq_self_eq_true,im,if_true,Int.natCast_one,lQ]
   · simp (disch:=omega) only[Tr.run_ite,Tr.b8,Tr.gp,cj,dW,dJ,bT,gl,aR,bY,decide_eq_true,cond_true,Int.ofNat_eq_natCast,Int.toNat_natCast,Nat.zero_add,Nat.mul_one,e,beq_eq_false_iff_ne.2 e,cond_false,im,if_false,Int.natCast_one,lQ]
 · rw[t45]
   simp (disch:=omega) only[Tr.run_ite,cj,Int.ofNat_eq_natCast,decide_eq_false,cond_false,Tr.gp]
theorem RS (n:Nat) (w:Int) (ls ld lt:Nat) (zs zd tr:Nat→Int) (H:ae) (s acc:Int):aW Try.prog (cd n) 100000 45 Try.f45 (Kt.kt 45) (il aG n 0) (dc aJ 0 (rv lt tr s 0 0) (a6 w ls ld zs zd::H) (.ok (.normal,hints (rv lt tr s acc (ld:Int))++[(13,AV.bool false,none)],a6 w ls ld zs zd::H))) aK [(aa w ls zs ld zd,none),(aU 1 lt tr,none),(.int .i64 s,none)] H =
 (fun (Z0:aO)=>Tr.reqP (Z0=Z0∧a6 w ls ld zs zd::H=a6 w ls ld zs zd::H) (Tr.ok ((AV.int .i64 acc,none),H))) [(1,AV.slcT none (Row.M [aC.arr .i64 tr lt]) 1 lt false),(2,AV.int .i64 s),(3,AV.ptr 0 0 0 0),(7,AV.int .i64 (Int.ofNat 0)),(8,AV.int .i64 (Int.ofNat 0))]:=by kernel_rfl
theorem Pg (h1:ld≤lt) (h2:ld<2 ^ 16):cd (n+1) (.fn 45) [aa w ls zs ld zd,aU 1 lt tr,.int .i64 s] H=some (.int .i64 (im zd tr s ld),H) :=
 gw Try.func45 rfl rfl rfl (RS n w ls ld lt zs zd tr H s (im zd tr s ld)) (bk n)
  (bf (ah _ _) (B:=.loop (part Try.f45 [1,1,0,1,0,0])) (fun b hb=>by rw[Pd] at hb;simpa using hb) (fun x hx=>by rw[← Tr.ab hx];exact Rt n w ls ld lt zs zd tr H s h1 h2))
  (ai _ _) (y:=((.int .i64 (im zd tr s ld),none),H)) (Tr.bc ⟨rfl,rfl⟩)
end
end Go.Eng
end
section
namespace Go.Eng
open Go.Proofs
set_option linter.unusedVariables false
theorem bp {f:FuncId} {fn:Func} {n:Nat} (hf:Try.prog.funcs[f]?=some fn) (hb:fn.body.isSome=true) (hn:IL f=false) {args:List HV} (hle:Nat.ble args.length fn.ntmps=true) {H:ae} {callR:cr} {bl:iI} {rg:uq} {T:Tr (HV×ae)}
 (e:aW Try.prog (cd n) 100000 f fn (Kt.kt f) callR bl rg args H=T) (hC:callR.Ok (cd n)) (hB:bl.Ok (bF n f fn.ntmps) (aL fn)) (hR:rg.Ok (bF n f fn.ntmps) (aL fn)) {v:AV} {H':ae} (h:T.all fun y=>y.1.1=v∧y.2=H'):cd (n+1) (.fn f) (py args) H=some (v,H'):=by
 obtain ⟨y,h1,h2,h3⟩:=h
 have:=gw hf hb hn hle e hC hB hR h1
 rw[this,h2,h3]
theorem bz {n f nt:Nat} {c:Code} {callR:cr} {bl:iI} {rg:uq} {fr:aO} {H:ae} {T:Tr dg} (e:aH (bF n f nt) callR bl rg c (hints fr) H=T) (hC:callR.Ok (cd n)) (hB:bl.Ok (bF n f nt) c) (hR:rg.Ok (bF n f nt) c) {Q:Ex×aO×ae→Prop} (h:T.all fun x=>Q x.st):∃ x,exec (bF n f nt) c fr H=some x∧Q x:=by
 obtain ⟨x,h1,h2⟩:=h
 exact ⟨_,rf e hC hB hR h1,h2⟩
section
variable {n f nt:Nat} {c:Code} {callR:cr} {bl:iI} {rg:uq}
theorem JU (id:Nat) (I:Nat→aO→ae→Prop) (Q:aO×ae→Prop) (N:Nat) (hN:N<99999) {fr0:aO} {H0:ae} (h0:I 0 fr0 H0)
 (hr:∀ j fr H,I j fr H→∃ x,exec (bF n f nt) c fr H=some x∧((x.1=.normal∧j<N∧I (j+1) (tidy (bm H0) x.2.1 x.2.2).1 (tidy (bm H0) x.2.1 x.2.2).2)∨(x.1=.exit id∧Q x.2))) :
 ∃ y,exec (bF n f nt) (.block id (.loop c)) fr0 H0=some (.normal,y)∧Q y:=by
 obtain ⟨x,h1,h2⟩:=wH (body:=exec (bF n f nt) c) (n:=bm H0) I (fun x=>x.1=.exit id∧Q x.2) N (fun j fr H h=>by
  obtain ⟨x,h1,h2⟩:=hr j fr H h
  obtain ⟨e,f1,g1⟩:=x
  refine ⟨e,f1,g1,h1,?_⟩
  rcases h2 with h2 | ⟨h2,h3⟩
  · exact .inl h2
  · exact .inr ⟨by dsimp only at h2;rw[h2];simp,h2,h3⟩) 100000 0 fr0 H0 h0 (by omega)
 obtain ⟨e,f1,g1⟩:=x
 obtain ⟨h2,h3⟩:=h2
 dsimp only at h2 h3
 subst h2
 exact ⟨(f1,g1),c7 h1,h3⟩
theorem gV (id:Nat) (F:Nat→aO) (G:Nat→ae) (N:Nat) (p:Nat→Bool) (X:Nat→aO×ae) (Y:aO×ae) (hN:N<99999)
 (hs:∀ j,j<N→∃ x,exec (bF n f nt) c (F j) (G j)=some x∧if p j=true then x=(.ret,X j) else x.1=.normal∧tidy (bm (G 0)) x.2.1 x.2.2=(F (j+1),G (j+1)))
 (he:exec (bF n f nt) c (F N) (G N)=some (.exit id,Y)):exec (bF n f nt) (.block id (.loop c)) (F 0) (G 0)=some (cond (bD p N) (.ret,X (fN p N 0)) (.normal,Y)):=by
 have key:=iF (body:=exec (bF n f nt) c) (n:=bm (G 0)) F G N p (fun j=>if j<N then (.ret,X j) else (.exit id,Y))
  (fun j hj hp=>by
    obtain ⟨x,h1,h2⟩:=hs j hj
    rw[if_neg (by rw[hp];simp)] at h2
    obtain ⟨e,f1,g1⟩:=x
    obtain ⟨rfl,h3⟩:=h2
    exact ⟨_,_,h1,h3⟩)
  (fun j hj hp=>by
    obtain ⟨x,h1,h2⟩:=hs j hj
    rw[if_pos hp] at h2
    subst h2
    rw[if_pos hj]
    exact ⟨h1,by simp⟩)
  (by
    rw[if_neg (by omega)]
    exact ⟨he,by simp⟩) N 0 100000 (by omega) (by omega)
 cases hc:bD p N with
 | true =>
   have:=eN hc
   rw[if_pos this] at key
   exact dv (fun id' h=>by cases h) key
 | false =>
   have:=eo hc
   rw[if_neg (by omega)] at key
   exact c7 key
theorem Ju (hC:callR.Ok (cd n)) (hB:bl.Ok (bF n f nt) c) (hR:rg.Ok (bF n f nt) c) (id:Nat) (F:Nat→aO) (G:Nat→ae) (N:Nat) (p:Nat→Bool) (X:Nat→aO×ae) (Y:aO×ae) (hN:N<99999)
 (hs:∀ j,j<N→(aH (bF n f nt) callR bl rg c (hints (F j)) (G j)).all fun x=>if p j=true then x.1=.ret∧strip x.2.1=(X j).1∧x.2.2=(X j).2 else x.1=.normal∧tidy (bm (G 0)) (strip x.2.1) x.2.2=(F (j+1),G (j+1)))
 (he:(aH (bF n f nt) callR bl rg c (hints (F N)) (G N)).all fun x=>x.1=.exit id∧strip x.2.1=Y.1∧x.2.2=Y.2) (x:dg)
 (hx:(Tr.ite (bD p N) (Tr.ok (.ret,hints (X (fN p N 0)).1,(X (fN p N 0)).2)) (Tr.ok (.normal,hints Y.1,Y.2))).run=some x):exec (bF n f nt) (.block id (.loop c)) (F 0) (G 0)=some x.st:=by
 have key:=iF (body:=exec (bF n f nt) c) (n:=bm (G 0)) F G N p (fun j=>if j<N then (.ret,(X j).1,(X j).2) else (.exit id,Y.1,Y.2))
  (fun j hj hp=>by
    obtain ⟨x,h1,h2⟩:=hs j hj
    rw[if_neg (by rw[hp];simp)] at h2
    obtain ⟨e,f1,g1⟩:=x
    obtain ⟨rfl,h3⟩:=h2
    exact ⟨_,_,nL hC hB hR h1,h3⟩)
  (fun j hj hp=>by
    obtain ⟨x,h1,h2⟩:=hs j hj
    rw[if_pos hp] at h2
    obtain ⟨e,f1,g1⟩:=x
    obtain ⟨rfl,h3,h4⟩:=h2
    dsimp only at h3 h4
    rw[if_pos hj]
    refine ⟨?_,by simp⟩
    rw[nL hC hB hR h1]
    simp only[dg.st]
    rw[h3,h4])
  (by
    obtain ⟨x,h1,h2⟩:=he
    obtain ⟨e,f1,g1⟩:=x
    obtain ⟨rfl,h3,h4⟩:=h2
    dsimp only at h3 h4
    rw[if_neg (by omega)]
    refine ⟨?_,by simp⟩
    rw[nL hC hB hR h1]
    simp only[dg.st]
    rw[h3,h4]) N 0 100000 (by omega) (by omega)
 rcases Tr.bH hx with ⟨hc,hx⟩ | ⟨hc,hx⟩
 · have:=eN hc
   rw[if_pos this] at key
   rw[← Tr.ab hx]
   simp only[dg.st,aw]
   exact dv (fun id' h=>by cases h) key
 · have:=eo hc
   rw[if_neg (by omega)] at key
   rw[← Tr.ab hx]
   simp only[dg.st,aw]
   exact c7 key
theorem Jx (hC:callR.Ok (cd n)) (hB:bl.Ok (bF n f nt) c) (hR:rg.Ok (bF n f nt) c) (id:Nat) (F:Nat→aO) (G:Nat→ae) (N:Nat) (Y:aO×ae) (hN:N<99999)
 (hs:∀ j,j<N→(aH (bF n f nt) callR bl rg c (hints (F j)) (G j)).all fun x=>x.1=.normal∧tidy (bm (G 0)) (strip x.2.1) x.2.2=(F (j+1),G (j+1)))
 (he:(aH (bF n f nt) callR bl rg c (hints (F N)) (G N)).all fun x=>x.1=.exit id∧strip x.2.1=Y.1∧x.2.2=Y.2):exec (bF n f nt) (.block id (.loop c)) (F 0) (G 0)=some (.normal,Y.1,Y.2):=by
 have h0:bD (fun _=>false) N=false:=by
  cases h:bD (fun _=>false) N with
  | false=>rfl
  | true=>obtain ⟨i,_,h2⟩:=(bV _ _).1 h;cases h2
 have:=Ju hC hB hR id F G N (fun _=>false) (fun _=>([],[])) Y hN (fun j hj=>by simpa using hs j hj) he (.normal,hints Y.1,Y.2) (by rw[Tr.run_ite,h0];rfl)
 rw[this]
 simp only[dg.st,aw]
end
end Go.Eng
end
section
namespace Go.Eng
open Go.Proofs
set_option linter.unusedVariables false
set_option linter.unusedSimpArgs false
set_option maxRecDepth 100000
def upto (e:Nat→Int) (n:Nat):Nat→Int:=fun i=>if i<n then e i else 0
theorem xK (e:Nat→Int):bE [e 0]=upto e 1:=by
 rw[gL];funext i
 cases i with
 | zero=>simp[upto]
 | succ i=>simp[upto]
theorem xJ (e:Nat→Int) (n:Nat):qe (nv (upto e n) 0) n (bE [e n])=upto e (n+1):=by
 rw[hJ,qm,gL];funext i
 simp only[upto]
 by_cases h:i<n
 · rw[if_pos h,if_pos h,if_pos (by omega)]
 · rw[if_neg h]
   by_cases h2:i=n
   · subst h2;simp
   · rw[if_neg (by omega)]
     have:i-n=(i-n-1)+1:=by omega
     rw[this];simp
def jb (h:Bool) (zd:Nat→Int) (i:Nat):Int:=cond h (zd (i*3+1+1)) (zd (i*3+1))
noncomputable def F9 (h:Bool):Nat→aO
 | 0=>[(1,AV.bool h),(2,AV.ptr 0 0 0 0),(5,AV.nils),(6,AV.int IntKind.i64 ((0:Nat):Int))]
 | j+1=>[(1,AV.bool h),(2,AV.ptr 0 0 0 0),(5,AV.slc 0 1 j 0 1 (j+1) none),(6,AV.int IntKind.i64 ((j+1:Nat):Int))]
noncomputable def II (w:Int) (ls ld:Nat) (zs zd:Nat→Int) (v m:Nat) (z:Nat→Int):b6:=⟨false,[(0,.row (.G [.int .i64 w,aU 2 ls zs,aU 3 ld zd])),(v,.row (.M [.arr .i64 z m]))]⟩
noncomputable def hE (w:Int) (ls ld:Nat) (zs zd:Nat→Int) (H:ae) (h:Bool):Nat→ae
 | 0=>a6 w ls ld zs zd::H
 | j+1=>II w ls ld zs zd j (j+1) (upto (jb h zd) (j+1))::H
theorem KY (n:Nat) (w:Int) (ls ld:Nat) (zs zd:Nat→Int) (H:ae) (h:Bool) (j:Int):aH (bF n 61 35) (il aG n 0) aJ aK (part Try.f61 [1,1,0,1,0,0]) (hints [(1,AV.bool h),(2,AV.ptr 0 0 0 0),(5,AV.nils),(6,AV.int IntKind.i64 j)]) (a6 w ls ld zs zd::H) =
 (fun (Z0:a8)=>Tr.ite (bA j (Int.ofNat ld)) (Tr.req (br j ld) (Tr.req (bt (au (al 0 j 3) 1) (aI ld 3)) (Tr.ite h (Tr.req (br j ld) (Tr.req (bt (au (au (al 0 j 3) 1) 1) (aI ld 3)) (Tr.req (gx 0 1 8) (Tr.req (cB 1 1) (Tr.ok (Ex.normal,Z0,{ lock:=false,bs:=[(0,aj.row (Row.G [AV.int .i64 w,aU 2 ls zs,aU 3 ld zd])),(0,aj.row (Row.I .i64 [zd (au (au (al 0 j 3) 1) 1)])),(0,aj.row (Row.M [aC.arr .i64 (bE [zd (au (au (al 0 j 3) 1) 1)]) 1]))] } :: H)))))) (Tr.req (gx 0 1 8) (Tr.req (cB 1 1) (Tr.ok (Ex.normal,Z0,{ lock:=false,bs:=[(0,aj.row (Row.G [AV.int .i64 w,aU 2 ls zs,aU 3 ld zd])),(0,aj.row (Row.I .i64 [zd (au (al 0 j 3) 1)])),(0,aj.row (Row.M [aC.arr .i64 (bE [zd (au (al 0 j 3) 1)]) 1]))] } :: H))))))) (Tr.ok (Ex.exit 0,[(1,AV.bool h,none),(2,AV.ptr 0 0 0 0,none),(5,AV.nils,none),(6,AV.int .i64 j,none),(12,AV.bool false,some 1)],a6 w ls ld zs zd::H))) [(1,AV.bool h,none),(2,AV.ptr 0 0 0 0,none),(5,AV.slc 0 2 0 0 1 1 none,none),(6,AV.int .i64 (ay .i64 j (Int.ofNat 1)),none)]:=by kernel_rfl
theorem KZ (n:Nat) (w:Int) (ls ld:Nat) (zs zd:Nat→Int) (H:ae) (h:Bool) (j:Int) (z:Nat→Int) (v m:Nat):aH (bF n 61 35) (il aG n 0) aJ aK (part Try.f61 [1,1,0,1,0,0]) (hints [(1,AV.bool h),(2,AV.ptr 0 0 0 0),(5,AV.slc 0 1 v 0 1 m none),(6,AV.int IntKind.i64 j)]) (II w ls ld zs zd v m z::H) =
 (fun (Z0:a8)=>((fun (Z1:Nat×aj)=>Tr.ite (bA j (Int.ofNat ld)) (Tr.req (br j ld) (Tr.req (bt (au (al 0 j 3) 1) (aI ld 3)) (Tr.ite h (Tr.req (br j ld) (Tr.req (bt (au (au (al 0 j 3) 1) 1) (aI ld 3)) (Tr.req (gx m 1 8) (Tr.req (cB 1 1) (Tr.req (dH v v) (Tr.req (dH (au 0 m) m) (Tr.ok (Ex.normal,Z0,{ lock:=false,bs:=[Z1,(Nat.succ v,aj.row (Row.M [aC.arr .i64 (qe (nv z 0) m (bE [zd (au (au (al 0 j 3) 1) 1)])) (au m 1)])),(0,aj.row (Row.I .i64 [zd (au (au (al 0 j 3) 1) 1)]))] } :: H)))))))) (Tr.req (gx m 1 8) (Tr.req (cB 1 1) (Tr.req (dH v v) (Tr.req (dH (au 0 m) m) (Tr.ok (Ex.normal,Z0,{ lock:=false,bs:=[Z1,(Nat.succ v,aj.row (Row.M [aC.arr .i64 (qe (nv z 0) m (bE [zd (au (al 0 j 3) 1)])) (au m 1)])),(0,aj.row (Row.I .i64 [zd (au (al 0 j 3) 1)]))] } :: H))))))))) (Tr.ok (Ex.exit 0,[(1,AV.bool h,none),(2,AV.ptr 0 0 0 0,none),(5,AV.slc 0 1 v 0 1 m none,none),(6,AV.int .i64 j,none),(12,AV.bool false,some 1)],{ lock:=false,bs:=[Z1,(v,aj.row (Row.M [aC.arr .i64 z m]))] } :: H))) (0,aj.row (Row.G [AV.int .i64 w,aU 2 ls zs,aU 3 ld zd])))) [(1,AV.bool h,none),(2,AV.ptr 0 0 0 0,none),(5,AV.slc 0 1 (Nat.succ v) 0 1 (au m 1) none,none),(6,AV.int .i64 (ay .i64 j (Int.ofNat 1)),none)]:=by kernel_rfl
theorem PA:av (aL Try.f61)=[(0,.loop (part Try.f61 [1,1,0,1,0,0])),(1,part Try.f61 [1,1,0,1,0,0,1,0,0])]:=by kernel_rfl
noncomputable def ra (h:Bool) (zd:Nat→Int):Nat→AV
 | 0=>.nils
 | j+1=>aU 1 (j+1) (upto (jb h zd) (j+1))
section
variable (n:Nat) (w:Int) (ls ld:Nat) (zs zd:Nat→Int) (H:ae) (h:Bool)
theorem Ru (h2:ld<2 ^ 16):exec (bF n 61 35) (.block 0 (.loop (part Try.f61 [1,1,0,1,0,0]))) (F9 h 0) (a6 w ls ld zs zd::H)=some (.normal,F9 h ld++[(12,AV.bool false)],hE w ls ld zs zd H h ld):=by
 refine Jx (bk n) (ah _ _) (ai _ _) 0 (F9 h) (hE w ls ld zs zd H h) ld (F9 h ld++[(12,AV.bool false)],hE w ls ld zs zd H h ld) (by omega) (fun j hj=>?_) ?_
 · cases j with
   | zero =>
     simp only[F9,hE]
     rw[KY]
     cases h<;>repeat' first | (refine Tr.an (fun hc=>?_) (fun hc=>?_)<;>(try simp (disch:=omega) only[nV,nW] at hc)<;>try omega) | (refine Tr.ao ?_ ?_;· (try simp (disch:=omega) only[nV,nW]);try omega) | (refine Tr.ak ?_ ?_;· first | exact trivial | rfl | exact ⟨rfl,rfl⟩ | exact ⟨rfl,rfl,rfl⟩ | (simp (disch:=omega) only[nV,nW];done) | ((try simp (disch:=omega) only[nV,nW]);omega)) | fail
     all_goals
      refine Tr.aq ⟨rfl,?_⟩
      simp (disch:=omega) only[nV,Int.cast_ofNat_Int,eq_self,← xK,jb,lQ,Nat.zero_mul]
      rfl
   | succ j =>
     simp only[F9,hE]
     rw[KZ]
     have hu:=xJ (jb h zd) (j+1)
     cases h<;>repeat' first | (refine Tr.an (fun hc=>?_) (fun hc=>?_)<;>(try simp (disch:=omega) only[nV,nW] at hc)<;>try omega) | (refine Tr.ao ?_ ?_;· (try simp (disch:=omega) only[nV,nW]);try omega) | (refine Tr.ak ?_ ?_;· first | exact trivial | rfl | exact ⟨rfl,rfl⟩ | exact ⟨rfl,rfl,rfl⟩ | (simp (disch:=omega) only[nV,nW];done) | ((try simp (disch:=omega) only[nV,nW]);omega)) | fail
     all_goals
      refine Tr.aq ⟨rfl,?_⟩
      simp (disch:=omega) only[nV,Int.cast_ofNat_Int,eq_self,cond_true,cond_false,jb,lQ,Nat.zero_mul] at hu ⊢
      rw[hu]
      rfl
 · cases ld with
   | zero =>
     simp only[F9,hE]
     rw[KY]
     repeat' first | (refine Tr.an (fun hc=>?_) (fun hc=>?_)<;>(try simp (disch:=omega) only[nV,nW] at hc)<;>try omega) | (refine Tr.ao ?_ ?_;· (try simp (disch:=omega) only[nV,nW]);try omega) | (refine Tr.ak ?_ ?_;· first | exact trivial | rfl | exact ⟨rfl,rfl⟩ | exact ⟨rfl,rfl,rfl⟩ | (simp (disch:=omega) only[nV,nW];done) | ((try simp (disch:=omega) only[nV,nW]);omega)) | fail
     exact Tr.aq ⟨rfl,rfl,rfl⟩
   | succ j =>
     simp only[F9,hE]
     rw[KZ]
     repeat' first | (refine Tr.an (fun hc=>?_) (fun hc=>?_)<;>(try simp (disch:=omega) only[nV,nW] at hc)<;>try omega) | (refine Tr.ao ?_ ?_;· (try simp (disch:=omega) only[nV,nW]);try omega) | (refine Tr.ak ?_ ?_;· first | exact trivial | rfl | exact ⟨rfl,rfl⟩ | exact ⟨rfl,rfl,rfl⟩ | (simp (disch:=omega) only[nV,nW];done) | ((try simp (disch:=omega) only[nV,nW]);omega)) | fail
     exact Tr.aq ⟨rfl,rfl,rfl⟩
theorem OV (n:Nat) (w:Int) (ls ld:Nat) (zs zd:Nat→Int) (H:ae) (h:Bool):aW Try.prog (cd n) 100000 61 Try.f61 (Kt.kt 61) (il aG n 0) (dc aJ 0 [(1,AV.bool h),(2,AV.ptr 0 0 0 0),(5,AV.nils),(6,AV.int IntKind.i64 (Int.ofNat 0))] (a6 w ls ld zs zd::H) (.ok (.normal,hints [(1,AV.bool h),(2,AV.ptr 0 0 0 0),(5,AV.nils),(6,AV.int IntKind.i64 (Int.ofNat 0)),(12,AV.bool false)],a6 w ls ld zs zd::H))) aK [(aa w ls zs ld zd,none),(.bool h,none)] H =
 (fun (Z0:aO)=>Tr.reqP (Z0=Z0∧a6 w ls ld zs zd::H=a6 w ls ld zs zd::H) (Tr.ok ((AV.nils,none),H))) [(1,AV.bool h),(2,AV.ptr 0 0 0 0),(5,AV.nils),(6,AV.int .i64 (Int.ofNat 0))]:=by kernel_rfl
theorem OW (n:Nat) (w:Int) (ls ld:Nat) (zs zd:Nat→Int) (H:ae) (h:Bool) (j:Int) (z:Nat→Int) (v m:Nat):aW Try.prog (cd n) 100000 61 Try.f61 (Kt.kt 61) (il aG n 0) (dc aJ 0 [(1,AV.bool h),(2,AV.ptr 0 0 0 0),(5,AV.nils),(6,AV.int IntKind.i64 (Int.ofNat 0))] (a6 w ls ld zs zd::H) (.ok (.normal,hints [(1,AV.bool h),(2,AV.ptr 0 0 0 0),(5,AV.slc 0 1 v 0 1 m none),(6,AV.int IntKind.i64 j),(12,AV.bool false)],II w ls ld zs zd v m z::H))) aK [(aa w ls zs ld zd,none),(.bool h,none)] H =
 (fun (Z0:aO)=>Tr.reqP (Z0=Z0∧a6 w ls ld zs zd::H=a6 w ls ld zs zd::H) (Tr.req (dH v v) (Tr.req (kO 0 m 0 m) (Tr.ok ((AV.slcT none (Row.M [aC.arr .i64 (nv z 0) m]) 1 m false,none),H))))) [(1,AV.bool h),(2,AV.ptr 0 0 0 0),(5,AV.nils),(6,AV.int .i64 (Int.ofNat 0))]:=by kernel_rfl
theorem PO (h2:ld<2 ^ 16):cd (n+1) (.fn 61) [aa w ls zs ld zd,.bool h] H=some (ra h zd ld,H):=by
 have hl:=Ru n w ls ld zs zd H h h2
 have hb:∀ b,(0,b) ∈ av (aL Try.f61)→b=.loop (part Try.f61 [1,1,0,1,0,0]):=fun b hb=>by rw[PA] at hb;simpa using hb
 cases ld with
 | zero =>
   exact gw Try.func61 rfl rfl rfl (OV n w ls 0 zs zd H h) (bk n) (bf (ah _ _) hb (fun x hx=>by rw[← Tr.ab hx];exact hl)) (ai _ _) (y:=((.nils,none),H)) (Tr.bc ⟨rfl,rfl⟩)
 | succ m =>
   refine gw Try.func61 rfl rfl rfl (OW n w ls (m+1) zs zd H h ((m+1:Nat):Int) (upto (jb h zd) (m+1)) m (m+1)) (bk n) (bf (ah _ _) hb (fun x hx=>by rw[← Tr.ab hx];exact hl)) (ai _ _) (y:=((ra h zd (m+1),none),H)) ((Tr.bc ⟨rfl,rfl⟩).trans ?_)
   simp (disch:=omega) only[Tr.b8,Tr.gp,cu,fH,decide_true,cond_true,decide_eq_true,hJ]
   rfl
end
end Go.Eng
end
