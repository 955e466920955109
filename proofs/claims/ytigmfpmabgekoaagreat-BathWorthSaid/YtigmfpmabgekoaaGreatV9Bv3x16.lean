/- Bath: CheckPrices: what it answers. -/
import Derived.Test.YtigmfpmabgekoaaGreatV9Buax4
import Derived.Test.YtigmfpmabgekoaaGreatV9Bu4x9
import Derived.Test.YtigmfpmabgekoaaGreatV9EngPostx6
import Derived.Test.YtigmfpmabgekoaaGreatV9Bd2x10
set_option linter.unusedVariables false
set_option linter.unusedSimpArgs false
set_option maxRecDepth 100000
section
namespace Go.Eng
open Go.Proofs
noncomputable def zg:Code:=part Tryz.f44 [1,1,1,1,1,0,1,0,0]
noncomputable def Ci:Code:=part Tryz.f44 [1,1,1,1,1,0,1,0,1]
theorem Qa:dO (bM Tryz.f44)=[(.tmp 70,#[71],zg,Ci)]:=by kernel_rfl
noncomputable def gF (m:Nat) (P:Nat→Int) (a:Int):dF:={ state:=.ready,pending:=none,fn:=44,nt:=92,fr:=nG m P a,params:=[71],assign:=zg,body:=Ci }
noncomputable def KB (a:Int):dF:={ state:=.ready,pending:=none,fn:=44,nt:=92,fr:=xt a,params:=[71],assign:=zg,body:=Ci }
theorem D1 {n d i:Nat} {args:List AV} {H H2 R:aa} {l l2:dF} {fr fr1 fr2:av} {lv:bx}
 (hg:au H d i=(0,.loop l)) (hl:az H d=false) (hs:l.state=.ready) (hp:jL l.nt (kP (d+1) l.fr) l.params (args.map (gC 1))=some fr)
 (h1:exec (jy n l.fn l.nt (d+1) i) l.assign fr (an::H)=some (.normal,fr1,an::H))
 (h2:exec (jy n l.fn l.nt (d+1) i) l.body fr1 (dq (an::H) (d+1) i (0,.loop { l with state:=.busy }))=some (.ret,fr2,lv::H2)) (hg2:au H2 d i=(0,.loop l2)) (hR:R=dq H2 d i (0,.loop { l2 with state:=.done,pending:=some .ret })) :
 cd (n+1) (.round d i) args H=some (.bool false,R):=by
 rw[hR]
 exact Ad (P:=Tryz.prog) (ora:=nE) (KT:=KtB.kt) (fu:=100000) (e:=.ret) hg hl hs hp h1 (by rw[show au (an::H) (d+1) i=au H d i from rfl];exact hg) hs h2 hg2
section
variable (n l m:Nat) (z p P:Nat→Int) (fl:Bool) (lam a:Int) (H:aa)
theorem Qe (x:Int) (h:bD l z=0) (hp:∀ i,i<l→0≤p i∧p i≤cF z i) :
 cd (n+3) (.round 1 6) [.int .i64 x] (an::dy l l (oY z l) p fl lam 0 0 (0,.loop (gF m P a))::H)=(if lam<fG l (bE z) (bG z) p x then some (.bool false,an::dy l l (oY z l) p fl lam 0 14 (0,.loop { gF m P a with state:=.done,pending:=some .ret })::H) else some (.bool true,an::dy l l (oY z l) p fl lam 0 0 (0,.loop (gF m P a))::H)):=by
 obtain ⟨hl,hz⟩:=bI h
 have ho:∀ i,i<l→0≤p i∧p i≤100000:=fun i hi=>by have:=hz i hi;have:=hp i hi;unfold cF at this;omega
 have hm1:∀ i,eH z x l i=1→i<l:=fun i hi=>by
  apply Classical.byContradiction
  intro c
  have:eH z x l i=0:=by rw[mk_one];exact if_neg (fun h=>c h.1)
  rw[this] at hi;cases hi
 have hd:=PB (n+2) l z p fl lam H (eH z x l) { gF m P a with state:=.busy } hm1 ho hl.2
 have hC:(il (tX aI 56 [fT 2 l (oY z l),.int .i64 x] (.agg (.M [.arr .i64 (eH z x l) 14]))) (n+2) 0).Ok (cd (n+2)):=cg _ _ (bZ (aO _) (fun H=>JC n 2 l z H x h))
 rw[← x0 hl.2]
 have h1:exec (jy (n+2) 44 92 2 6) zg (IQ m P a x) (an::an::dy l l (oY z l) p fl lam 0 0 (0,.loop (gF m P a))::H)=some (.normal,IS x,an::an::dy l l (oY z l) p fl lam 0 0 (0,.loop (gF m P a))::H) :=
  ml (Qu (n+2) m P a x _) (aC _) (af _ _) (ag _ _) (Tr.ao rfl)
 generalize nR (eH z x l) p 14=S at *
 by_cases c:lam<S
 · rw[if_pos c]
   obtain ⟨y,h2,fr2,lv,rfl⟩:=qv (Q:=fun y=>∃ fr2 lv,y=(.ret,fr2,lv::an::dy l l (oY z l) p fl lam 0 14 (0,.loop { gF m P a with state:=.busy })::H)) (MM (n+2) l l z (oY z l) p (eH z x l) fl lam S x { gF m P a with state:=.busy } H) hC (bg (af _ _) Le (fun x hx=>by rw[← Tr.ab hx];simp only[dG.st,aF];exact hd)) (ag _ _) (by
    clear hd h1 hC
    repeat' first | (refine Tr.al (fun hc=>?_) (fun hc=>?_)<;>(try simp (disch:=omega) only[nV,nW] at hc)<;>(try (exfalso;omega))) | (refine Tr.bj ?_ ?_;· ((try simp (disch:=omega) only[nV,nW]);try omega)) | (refine Tr.aB ?_ ?_;· first | exact trivial | rfl | exact ⟨rfl,rfl⟩ | exact ⟨trivial,rfl⟩ | exact ⟨rfl,by assumption⟩ | exact ⟨trivial,by assumption⟩ | exact ⟨rfl,rfl,rfl⟩ | (simp (disch:=omega) only[nV,nW];done) | ((try simp (disch:=omega) only[nV,nW]);omega)) | fail
    all_goals first
     | exact Tr.ao ⟨_,_,rfl⟩
     | fail)
   exact D1 (l:=gF m P a) (l2:={ gF m P a with state:=.busy }) rfl rfl rfl rfl h1 h2 rfl rfl
 · rw[if_neg c]
   obtain ⟨y,h2,fr2,lv,rfl⟩:=qv (Q:=fun y=>∃ fr2 lv,y=(.normal,fr2,lv::an::dy l l (oY z l) p fl lam 0 0 (0,.loop { gF m P a with state:=.busy })::H)) (MM (n+2) l l z (oY z l) p (eH z x l) fl lam S x { gF m P a with state:=.busy } H) hC (bg (af _ _) Le (fun x hx=>by rw[← Tr.ab hx];simp only[dG.st,aF];exact hd)) (ag _ _) (by
    clear hd h1 hC
    repeat' first | (refine Tr.al (fun hc=>?_) (fun hc=>?_)<;>(try simp (disch:=omega) only[nV,nW] at hc)<;>(try (exfalso;omega))) | (refine Tr.bj ?_ ?_;· ((try simp (disch:=omega) only[nV,nW]);try omega)) | (refine Tr.aB ?_ ?_;· first | exact trivial | rfl | exact ⟨rfl,rfl⟩ | exact ⟨trivial,rfl⟩ | exact ⟨rfl,by assumption⟩ | exact ⟨trivial,by assumption⟩ | exact ⟨rfl,rfl,rfl⟩ | (simp (disch:=omega) only[nV,nW];done) | ((try simp (disch:=omega) only[nV,nW]);omega)) | fail
    all_goals first
     | exact Tr.ao ⟨_,_,rfl⟩
     | fail)
   exact pY (l:=gF m P a) (l2:={ gF m P a with state:=.busy }) rfl rfl rfl rfl h1 h2 rfl rfl
theorem Qj (h:bD l z=0) (hp:∀ i,i<l→0≤p i∧p i≤cF z i) (hm:m≤1000):exec (bu (n+4) 44 92) (.rangeFunc (.tmp 70) #[71] zg Ci) (nG m P a) (jX l l (oY z l) p fl lam 0::H)=some (if gB (fun j=>decide (lam<fG l (bE z) (bG z) p (P j))) m=true then .ret else .normal,nG m P a,dy l l (oY z l) p fl lam 0 (if gB (fun j=>decide (lam<fG l (bE z) (bG z) p (P j))) m=true then 14 else 0) (0,.dead)::H):=by
 have hc:=Li (n+3) 0 m P (fun j=>if 0<j∧lam<fG l (bE z) (bG z) p (P (j-1)) then dy l l (oY z l) p fl lam 0 14 (0,.loop { gF m P a with state:=.done,pending:=some .ret })::H else dy l l (oY z l) p fl lam 0 0 (0,.loop (gF m P a))::H) (fun j=>decide (lam<fG l (bE z) (bG z) p (P j))) hm (fun j hj hb=>by
  have e0:¬ (0<j∧lam<fG l (bE z) (bG z) p (P (j-1))):=fun h=>by
   have:=hb (j-1) (by omega)
   exact of_decide_eq_false this h.2
  rw[if_neg e0,Qe n l m z p P fl lam a H (P j) h hp]
  by_cases c:lam<fG l (bE z) (bG z) p (P j)
  · rw[if_pos c,if_pos ⟨by omega,by rw[show j+1-1=j by omega];exact c⟩,decide_eq_true c];rfl
  · rw[if_neg c,if_neg (fun h=>c (by have:=h.2;rwa [show j+1-1=j by omega] at this)),decide_eq_false c];rfl)
 rw[if_neg (fun h=>by omega)] at hc
 cases e:gB (fun j=>decide (lam<fG l (bE z) (bG z) p (P j))) m with
 | true =>
   obtain ⟨f1,f2,f3,f4⟩:=m9 (fun j=>decide (lam<fG l (bE z) (bG z) p (P j))) m 0
   have hf:=ky e
   have hpf:decide (lam<fG l (bE z) (bG z) p (P (fN (fun j=>decide (lam<fG l (bE z) (bG z) p (P j))) m 0)))=true:=f4 (by omega)
   rw[e,if_pos rfl,if_pos ⟨by omega,by rw[Nat.add_sub_cancel];exact of_decide_eq_true hpf⟩] at hc
   rw[if_pos rfl,if_pos rfl]
   exact jj (cx:=bu (n+4) 44 92) (l:={ gF m P a with state:=.done,pending:=some .ret }) (f:=.tmp 70) (ps:=#[71]) (fr:=nG m P a) (H:=jX l l (oY z l) p fl lam 0::H) (g:=112) (a:=[]) (b:=[.ptrT (some 0) (.G [bc m P false]) 0]) rfl rfl rfl hc rfl rfl rfl
 | false =>
   have hn:∀ j,j<m→decide (lam<fG l (bE z) (bG z) p (P j))=false:=fun j hj=>by
    cases h2:decide (lam<fG l (bE z) (bG z) p (P j)) with
    | false=>rfl
    | true=>rw[(dv _ _).2 ⟨j,hj,h2⟩] at e;cases e
   have e1:¬ (0<m∧lam<fG l (bE z) (bG z) p (P (m-1))):=fun h=>by
    have:=hn (m-1) (by omega)
    exact of_decide_eq_false this h.2
   rw[e] at hc
   simp only[Bool.false_eq_true,if_false] at hc ⊢
   rw[if_neg e1] at hc
   exact jj (cx:=bu (n+4) 44 92) (l:=gF m P a) (f:=.tmp 70) (ps:=#[71]) (fr:=nG m P a) (H:=jX l l (oY z l) p fl lam 0::H) (g:=112) (a:=[]) (b:=[.ptrT (some 0) (.G [bc m P false]) 0]) rfl rfl rfl hc rfl rfl rfl
end
def yj (l:Nat) (z:Nat→Int) (lam:Int) (k:Nat) (p:Nat→Int):Prop:=k=l∧(0≤lam∧lam≤2000000)∧(∀ i,i<l→0≤p i∧p i≤cF z i)∧∀ x,fG l (bE z) (bG z) p x≤lam
theorem Rn  {l k:Nat} {z p:Nat→Int} {fl:Bool} {q lam:Int} (h:bD l z=0) (hq:0≤q∧q≤14):∃ V E:Int,(E=0↔yj l z lam k p)∧(E=0→V=q*lam+me l (cF z) p)∧∀ n H,cd (n+16) (.fn 44) [ay 5 l z,.int .i64 q,.int .i64 lam,bc k p fl] H=some (.tup [.int .i64 V,.int .i64 E],H):=by
 obtain ⟨hl,hz⟩:=bI h
 obtain ⟨P,hP,h81⟩:=Lk l z h
 obtain ⟨P1,P2,P3⟩:=ue hP
 have hm:=xK h
 have hman:tL l z q=.tup [oO l (oY z l),.int .i64 0]:=by unfold tL;rw[if_pos (oj h hq.1 hq.2)]
 have h78:∀ n d H,cd (n+11+d) (.fn 78) [ay 5 l z,.int .i64 q] H=some (.tup [oO l (oY z l),.int .i64 0],H):=fun n d H=>by
  rw[show n+11+d=n+d+11 by omega,Ol,hman]
 have h81':∀ n d H,cd (n+11+d) (.fn 81) [oO l (oY z l)] H=some (qi 0 (if (bS l z).length=0 then .nils else bc (bS l z).length P false),H):=fun n d H=>by
  rw[show n+11+d=n+3+d+8 by omega];exact h81 _ 0 H
 have hbad:∀ (E:Int),E≠0→¬ yj l z lam k p→(∀ n H,cd (n+16) (.fn 44) [ay 5 l z,.int .i64 q,.int .i64 lam,bc k p fl] H=some (.tup [.int .i64 0,.int .i64 E],H))→∃ V E:Int,(E=0↔yj l z lam k p)∧(E=0→V=q*lam+me l (cF z) p)∧∀ n H,cd (n+16) (.fn 44) [ay 5 l z,.int .i64 q,.int .i64 lam,bc k p fl] H=some (.tup [.int .i64 V,.int .i64 E],H) :=
  fun E h1 h2 h3=>⟨0,E,⟨fun e=>absurd e h1,fun g=>absurd g h2⟩,fun e=>absurd e h1,h3⟩
 by_cases hk:k=l
 · by_cases hlam:0≤lam∧lam≤2000000
   · subst hk
     have hmu:nD .i64 q lam=q*lam∧0≤q*lam∧q*lam≤28000000:=by
      have h1:0≤q*lam:=Int.mul_nonneg hq.1 hlam.1
      have h2:q*lam≤14*lam:=Int.mul_le_mul_of_nonneg_right hq.2 hlam.1
      refine ⟨?_,h1,by omega⟩
      rw[nj,cq (by omega) (by omega)]
     cases eo:gB (GB z p) k with
     | true =>
       obtain ⟨j,hj,hjo⟩:=(dv _ _).1 eo
       refine hbad 3 (by decide) (fun g=>?_) (fun n H=>?_)
       · have:=g.2.2.1 j hj
         unfold GB at hjo
         rw[decide_eq_false (by omega),decide_eq_false (by omega)] at hjo
         cases hjo
       · have hx:=LS (n+11) k z p fl lam H (nD .i64 q lam) hl.2
         rw[eo] at hx
         refine aX (n:=n+15) Tryz.func44 rfl rfl rfl (QO (n+11) k k z (oY z k) p fl true (if (bS k z).length=0 then .nils else bc (bS k z).length P false) q lam 0 (p (fN (GB z p) k 0)) H) (eP _ (n+11) 4 (fun d=>bZ (bZ (aO _) (h78 n d)) (h81' n d))) (bg (af _ _) GO (fun x hx2=>by
          have hx2:(Tr.ok (Ex.ret,hints [(8,.ptr 0 2 0 0),(9,.ptr 0 3 0 0)],dy k k (oY z k) p fl lam 0 3 (0,.row (.I .i64 [p (fN (GB z p) k 0)]))::H):Tr dG).run=some x:=hx2
          rw[← Tr.ab hx2];simp only[dG.st,aF];exact hx)) (ag _ _) ?_
         clear hx
         exact wF
     | false =>
       have hp:∀ i,i<k→0≤p i∧p i≤cF z i:=fun i hi=>by
        cases e:GB z p i with
        | true=>rw[(dv _ _).2 ⟨i,hi,e⟩] at eo;cases eo
        | false =>
          unfold GB at e
          rw[Bool.or_eq_false_iff,decide_eq_false_iff_not,decide_eq_false_iff_not] at e
          omega
       have hbo:=(AG h hmu.2 hp k (Nat.le_refl _)).1
       have hx:=fun n H=>LS (n+11) k z p fl lam H (nD .i64 q lam) hl.2
       rw[eo,hmu.1,hbo] at hx
       by_cases hm0:(bS k z).length=0
       · refine ⟨q*lam+me k (cF z) p,0,⟨fun _=>⟨rfl,hlam,hp,qb hlam.1 (fun i hi=>(hp i hi).1) (fun i hi hc=>?_)⟩,fun _=>rfl⟩,fun _=>rfl,fun n H=>?_⟩
         · obtain ⟨j,hj,_⟩:=P2 i hi hc
           omega
         · rw[if_pos hm0] at h81'
           have hy:=hx n H
           refine aX (n:=n+15) Tryz.func44 rfl rfl rfl (QN (n+11) k k z (oY z k) p fl false q lam (q*lam+me k (cF z) p) 0 H) (eP _ (n+11) 4 (fun d=>bZ (bZ (aO _) (h78 n d)) (h81' n d))) (bg (af _ _) GO (fun x hx2=>by
            have hx2:(Tr.ok (Ex.normal,hints (iV k k z p fl (q*lam+me k (cF z) p) (Int.ofNat k)++[(46,.bool false)]),jX k k (oY z k) p fl lam 0::H):Tr dG).run=some x:=hx2
            rw[← Tr.ab hx2];simp only[dG.st,aF];rw[hmu.1];exact hy)) (oG (ag _ _) (fun f ps a b _ hm x hx2=>by
            rw[Qa] at hm
            simp only[List.mem_cons,Prod.mk.injEq,List.not_mem_nil,or_false] at hm
            obtain ⟨rfl,rfl,rfl,rfl⟩:=hm
            rw[← Tr.ab hx2];simp only[dG.st,aF]
            exact jj (cx:=bu (n+15) 44 92) (l:=KB (q*lam+me k (cF z) p)) (f:=.tmp 70) (ps:=#[71]) (fr:=xt (q*lam+me k (cF z) p)) (H:=jX k k (oY z k) p fl lam 0::H) (g:=112) (a:=[]) (b:=[.ptrT (some 0) (.G [.nils]) 0]) rfl rfl rfl (JA (n+14) 0 _) rfl rfl rfl)) ?_
           rw[hmu.1]
           clear hx hy hbo
           generalize q*lam+me k (cF z) p=V at *
           generalize q*lam=V2 at *
           exact wF
       · rw [if_neg hm0] at h81'
         have hr:=fun n H=>Qj (n+11) k (bS k z).length z p P fl lam (q*lam+me k (cF z) p) H h hp (by omega)
         cases es:gB (fun j=>decide (lam<fG k (bE z) (bG z) p (P j))) (bS k z).length with
         | true =>
           obtain ⟨j,hj,hjo⟩:=(dv _ _).1 es
           refine hbad 14 (by decide) (fun g=>?_) (fun n H=>?_)
           · have:=g.2.2.2 (P j)
             have:=of_decide_eq_true hjo
             omega
           · have hy:=hx n H
             have hz2:=hr n H
             rw[es] at hz2
             generalize (bS k z).length=m at *
             refine aX (n:=n+15) Tryz.func44 rfl rfl rfl (RA (n+11) k k m z (oY z k) p P fl false true q lam (q*lam+me k (cF z) p) 0 0 H) (eP _ (n+11) 4 (fun d=>bZ (bZ (aO _) (h78 n d)) (h81' n d))) (bg (af _ _) GO (fun x hx2=>by
              have hx2:(Tr.ok (Ex.normal,hints (iV k k z p fl (q*lam+me k (cF z) p) (Int.ofNat k)++[(46,.bool false)]),jX k k (oY z k) p fl lam 0::H):Tr dG).run=some x:=hx2
              rw[← Tr.ab hx2];simp only[dG.st,aF];rw[hmu.1];exact hy)) (oG (ag _ _) (fun f ps a b _ hm x hx2=>by
              rw[Qa] at hm
              simp only[List.mem_cons,Prod.mk.injEq,List.not_mem_nil,or_false] at hm
              obtain ⟨rfl,rfl,rfl,rfl⟩:=hm
              have hx2:(Tr.ok (Ex.ret,hints (nG m P (q*lam+me k (cF z) p)),dy k k (oY z k) p fl lam 0 14 (0,.dead)::H):Tr dG).run=some x:=hx2
              rw[← Tr.ab hx2];simp only[dG.st,aF]
              exact hz2)) ?_
             rw[hmu.1]
             clear hx hy hbo hr hz2
             generalize q*lam+me k (cF z) p=V at *
             generalize q*lam=V2 at *
             exact wF
         | false =>
           have hs:∀ j,j<(bS k z).length→fG k (bE z) (bG z) p (P j)≤lam:=fun j hj=>by
            apply Classical.byContradiction
            intro hc
            rw[(dv _ _).2 ⟨j,hj,decide_eq_true (by omega)⟩] at es
            cases es
           refine ⟨q*lam+me k (cF z) p,0,⟨fun _=>⟨rfl,hlam,hp,qb hlam.1 (fun i hi=>(hp i hi).1) (fun i hi hc=>?_)⟩,fun _=>rfl⟩,fun _=>rfl,fun n H=>?_⟩
           · obtain ⟨j,hj,e⟩:=P2 i hi hc
             rw[← e];exact hs j hj
           · have hy:=hx n H
             have hz2:=hr n H
             rw[es] at hz2
             generalize (bS k z).length=m at *
             refine aX (n:=n+15) Tryz.func44 rfl rfl rfl (RA (n+11) k k m z (oY z k) p P fl false false q lam (q*lam+me k (cF z) p) 0 0 H) (eP _ (n+11) 4 (fun d=>bZ (bZ (aO _) (h78 n d)) (h81' n d))) (bg (af _ _) GO (fun x hx2=>by
              have hx2:(Tr.ok (Ex.normal,hints (iV k k z p fl (q*lam+me k (cF z) p) (Int.ofNat k)++[(46,.bool false)]),jX k k (oY z k) p fl lam 0::H):Tr dG).run=some x:=hx2
              rw[← Tr.ab hx2];simp only[dG.st,aF];rw[hmu.1];exact hy)) (oG (ag _ _) (fun f ps a b _ hm x hx2=>by
              rw[Qa] at hm
              simp only[List.mem_cons,Prod.mk.injEq,List.not_mem_nil,or_false] at hm
              obtain ⟨rfl,rfl,rfl,rfl⟩:=hm
              have hx2:(Tr.ok (Ex.normal,hints (nG m P (q*lam+me k (cF z) p)),dy k k (oY z k) p fl lam 0 0 (0,.dead)::H):Tr dG).run=some x:=hx2
              rw[← Tr.ab hx2];simp only[dG.st,aF]
              exact hz2)) ?_
             rw[hmu.1]
             clear hx hy hbo hr hz2
             generalize q*lam+me k (cF z) p=V at *
             generalize q*lam=V2 at *
             exact wF
   · refine hbad 3 (by decide) (fun g=>hlam g.2.1) (fun n H=>?_)
     refine aX (n:=n+15) Tryz.func44 rfl rfl rfl (Nu (n+11) l k z (oY z l) p fl q lam H) (eP _ (n+11) 4 (fun d=>bZ (aO _) (h78 n d))) (eC (af _ _) 1) (ag _ _) ?_
     clear h78 h81' hbad
     repeat' first | (refine Tr.al (fun hc=>?_) (fun hc=>?_)<;>(try simp (disch:=omega) only[nV,nW] at hc)<;>(try (exfalso;omega))) | (refine Tr.bj ?_ ?_;· ((try simp (disch:=omega) only[nV,nW]);try omega)) | (refine Tr.aB ?_ ?_;· first | exact trivial | rfl | exact ⟨rfl,rfl⟩ | exact ⟨trivial,rfl⟩ | exact ⟨rfl,by assumption⟩ | exact ⟨trivial,by assumption⟩ | exact ⟨rfl,rfl,rfl⟩ | (simp (disch:=omega) only[nV,nW];done) | ((try simp (disch:=omega) only[nV,nW]);omega)) | fail
     all_goals first
      | exact Tr.ao ⟨rfl,rfl⟩
      | omega
      | fail
 · refine hbad 15 (by decide) (fun g=>hk g.1) (fun n H=>?_)
   refine aX (n:=n+15) Tryz.func44 rfl rfl rfl (Nu (n+11) l k z (oY z l) p fl q lam H) (eP _ (n+11) 4 (fun d=>bZ (aO _) (h78 n d))) (eC (af _ _) 1) (ag _ _) ?_
   clear h78 h81' hbad
   repeat' first | (refine Tr.al (fun hc=>?_) (fun hc=>?_)<;>(try simp (disch:=omega) only[nV,nW] at hc)<;>(try (exfalso;omega))) | (refine Tr.bj ?_ ?_;· ((try simp (disch:=omega) only[nV,nW]);try omega)) | (refine Tr.aB ?_ ?_;· first | exact trivial | rfl | exact ⟨rfl,rfl⟩ | exact ⟨trivial,rfl⟩ | exact ⟨rfl,by assumption⟩ | exact ⟨trivial,by assumption⟩ | exact ⟨rfl,rfl,rfl⟩ | (simp (disch:=omega) only[nV,nW];done) | ((try simp (disch:=omega) only[nV,nW]);omega)) | fail
   all_goals first
    | exact Tr.ao ⟨rfl,rfl⟩
    | omega
    | fail
end Go.Eng
end
section
namespace Go.Eng
open Go.Proofs
noncomputable def LK (lo hi:Int→Int) (z:Nat→Int) (l:Nat):List AV→Option (Prop×AV)
 | [.slcT none (.M [.arr .i64 z' N]) 5 l' false,.int .i64 q]=>some (z'=z∧N=aH l 5∧l'=l∧(0≤q∧q<l),.agg (.I .i64 [lo q,hi q]))
 | _=>none
end Go.Eng
end
section
namespace Go.Eng
open Go.Proofs
theorem QQ (n l:Nat) (z:Nat→Int) (q:Int) (H:aa):bt Tryz.prog (cd n) 100000 55 Tryz.f55 (KtB.kt 55) (il aI n 0) aP aQ [(ay 5 l z,none),(.int .i64 q,none)] H =
 Tr.req (cU q l) (Tr.req (bB (aw 0 q 5) (aH l 5)) (Tr.req (bB (ak (aw 0 q 5) 1) (aH l 5)) (Tr.req (bB (ak (aw 0 q 5) 2) (aH l 5)) (Tr.req (bB (ak (aw 0 q 5) 3) (aH l 5)) (Tr.req (bB (ak (aw 0 q 5) 4) (aH l 5)) (Tr.ok ((AV.agg (Row.I .i64 [bQ .i64 (z (ak (aw 0 q 5) 1)) (z (ak (aw 0 q 5) 3)),bQ .i64 (z (aw 0 q 5)) (z (ak (aw 0 q 5) 2))]),none),H))))))):=by kernel_rfl
def Ev (z:Nat→Int) (q:Int):Int:=bE z q.toNat
def Gu (z:Nat→Int) (q:Int):Int:=bG z q.toNat
theorem Oc (n l:Nat) (z:Nat→Int) (q:Int) (H:aa) (h:bD l z=0) (h0:0≤q) (h1:q<l):cd (n+1) (.fn 55) [ay 5 l z,.int .i64 q] H=some (.agg (.I .i64 [Ev z q,Gu z q]),H):=by
 obtain ⟨hl,hz⟩:=bI h
 have hk:=hz q.toNat (by omega)
 have ei:aw 0 q 5=q.toNat*5:=by rw[bA];omega
 refine aX (n:=n) Tryz.func55 rfl rfl rfl (QQ n l z q H) (aC _) (af _ _) (ag _ _) ?_
 have v1:bQ .i64 (z (q.toNat*5+1)) (z (q.toNat*5+3))=Ev z q:=by
  unfold Ev bE;rw[cG,cq (by omega) (by omega)]
 have v2:bQ .i64 (z (q.toNat*5)) (z (q.toNat*5+2))=Gu z q:=by
  unfold Gu bG;rw[cG,cq (by omega) (by omega)]
 simp only[ei,a7,Nat.add_assoc]
 simp only[Nat.reduceAdd,v1,v2]
 exact wF
theorem Fi (n l:Nat) (z:Nat→Int) (h:bD l z=0):(iS aI 55 (LK (Ev z) (Gu z) z l)).Ok (cd (n+1)):=by
 refine dY (aO _) (fun args p v hg hp H=>?_)
 unfold LK at hg
 split at hg
 · simp only[nP] at hg
   obtain ⟨rfl,rfl⟩:=hg
   obtain ⟨rfl,rfl,rfl,h0,h1⟩:=hp
   have:=Oc n _ _ _ H h h0 h1
   unfold ay at this
   rw[cu,← gw] at this
   exact this
 · cases hg
section
variable (n N l:Nat) (z o:Nat→Int) (H:aa)
end
end Go.Eng
end
section
namespace Go.Eng
open Go.Proofs
noncomputable def NG (M:Int→Int→Bool) (z:Nat→Int) (l:Nat):List AV→Option (Prop×AV)
 | [.slcT none (.M [.arr .i64 z' N]) 5 l' false,.int .i64 x,.int .i64 q]=>some (z'=z∧N=aH l 5∧l'=l∧(0≤q∧q<l),.bool (M x q))
 | _=>none
noncomputable def yF (l k:Nat) (z p:Nat→Int) (fl:Bool) (q lam j:Int):av:=[(0,ay 5 l z),(1,.int .i64 q),(2,.int .i64 lam),(3,bc k p fl),(10,.int .i64 j)]
noncomputable def pw (l k:Nat) (z p:Nat→Int) (fl:Bool) (lam a j:Int):av:=[(0,ay 5 l z),(2,.int .i64 lam),(3,bc k p fl),(11,.int .i64 a),(12,.int .i64 j)]
noncomputable def rv (l k:Nat) (z p:Nat→Int) (fl:Bool) (lam a j s i:Int):av:=[(0,ay 5 l z),(2,.int .i64 lam),(3,bc k p fl),(11,.int .i64 a),(12,.int .i64 j),(13,.int .i64 s),(14,.int .i64 i)]
theorem MN (n l k:Nat) (z p:Nat→Int) (fl:Bool) (q lam j:Int) (H:aa):aK (bu n 45 100) (il aI n 0) aP aQ (part Tryz.f45 [1,1,1,1,0,1,0,0]) (hints (yF l k z p fl q lam j)) (an::H) =
 Tr.ite (cn j (Int.ofNat l)) (Tr.req (cU j k) (Tr.req (bB (aw 0 j 1) k) (Tr.ite (cn (p (aw 0 j 1)) (Int.ofNat 0)) (Tr.ok (Ex.ret,[(8,AV.int .i64 (Int.ofNat 0),some 1),(9,AV.int .i64 (Int.ofNat 3),some 1)],an::H)) (Tr.req (cU j k) (Tr.req (bB (aw 0 j 1) k) (Tr.req (cU j l) (Tr.req (bB (ak (aw 0 j 5) 4) (aH l 5)) (Tr.ite (cn (z (ak (aw 0 j 5) 4)) (p (aw 0 j 1))) (Tr.ok (Ex.ret,[(8,AV.int .i64 (Int.ofNat 0),some 1),(9,AV.int .i64 (Int.ofNat 3),some 1)],an::H)) (Tr.ok (Ex.normal,[(0,ay 5 l z,none),(1,AV.int .i64 q,none),(2,AV.int .i64 lam,none),(3,AV.slcT none (Row.M [aM.arr .i64 p k]) 1 k fl,none),(10,AV.int .i64 (aS .i64 j (Int.ofNat 1)),none)],an::H)))))))))) (Tr.ok (Ex.exit 0,[(0,ay 5 l z,none),(1,AV.int .i64 q,none),(2,AV.int .i64 lam,none),(3,AV.slcT none (Row.M [aM.arr .i64 p k]) 1 k fl,none),(10,AV.int .i64 j,none),(36,AV.bool false,some 1)],an::H)):=by kernel_rfl
theorem MP (n l k:Nat) (z p:Nat→Int) (fl:Bool) (lam a j s i:Int) (lo hi:Int→Int) (M:Int→Int→Bool) (H:aa):aK (bu n 45 100) (il (iS (iS aI 55 (LK lo hi z l)) 57 (NG M z l)) n 0) aP aQ (part Tryz.f45 [1,1,1,1,1,1,0,1,0,0,1,0,0,1,1,0,1,0,0]) (hints (rv l k z p fl lam a j s i)) (an::H) =
 (fun (Z0:Nat×AV×Option Nat)=>Tr.ite (cn i (Int.ofNat l)) (Tr.reqP (z=z∧aH l 5=aH l 5∧l=l∧Int.NonNeg (j-0)∧Int.NonNeg (↑l-(j+1))) (Tr.reqP (z=z∧aH l 5=aH l 5∧l=l∧Int.NonNeg (i-0)∧Int.NonNeg (↑l-(i+1))) (Tr.ite (M (lo j) i) (Tr.req (cU i k) (Tr.req (bB (aw 0 i 1) k) (Tr.ok (Ex.normal,[(0,ay 5 l z,none),(2,AV.int .i64 lam,none),Z0,(11,AV.int .i64 a,none),(12,AV.int .i64 j,none),(13,AV.int .i64 (aS .i64 s (p (aw 0 i 1))),none),(14,AV.int .i64 (aS .i64 i (Int.ofNat 1)),none)],an::H)))) (Tr.ok (Ex.normal,[(0,ay 5 l z,none),(2,AV.int .i64 lam,none),Z0,(11,AV.int .i64 a,none),(12,AV.int .i64 j,none),(13,AV.int .i64 s,none),(14,AV.int .i64 (aS .i64 i (Int.ofNat 1)),none)],an::H))))) (Tr.ok (Ex.exit 4,[(0,ay 5 l z,none),(2,AV.int .i64 lam,none),Z0,(11,AV.int .i64 a,none),(12,AV.int .i64 j,none),(13,AV.int .i64 s,none),(14,AV.int .i64 i,none),(80,AV.bool false,some 1)],an::H))) (3,AV.slcT none (Row.M [aM.arr .i64 p k]) 1 k fl,none):=by kernel_rfl
theorem Qv (n l k:Nat) (z p:Nat→Int) (fl:Bool) (lam a j s:Int) (H:aa):aK (bu n 45 100) (il aI n 0) (dJ aP 4 (rv l k z p fl lam (aS .i64 a (bQ .i64 (z (ak (aw 0 j 5) 4)) (p (aw 0 j 1)))) j (Int.ofNat 0) (Int.ofNat 0)) (an::H) (.ok (.normal,hints (rv l k z p fl lam (aS .i64 a (bQ .i64 (z (ak (aw 0 j 5) 4)) (p (aw 0 j 1)))) j s (Int.ofNat l)++[(80,.bool false)]),an::H))) aQ (part Tryz.f45 [1,1,1,1,1,1,0,1,0,0]) (hints (pw l k z p fl lam a j)) (an::H) =
 (fun (Z0:av)=>Tr.ite (cn j (Int.ofNat l)) (Tr.req (cU j l) (Tr.req (bB (ak (aw 0 j 5) 4) (aH l 5)) (Tr.req (cU j k) (Tr.req (bB (aw 0 j 1) k) (Tr.reqP (Z0=Z0∧an::H=an::H) (Tr.ite (cn lam s) (Tr.ok (Ex.ret,[(8,AV.int .i64 (Int.ofNat 0),some 1),(9,AV.int .i64 (Int.ofNat 14),some 1)],an::H)) (Tr.ok (Ex.normal,[(0,ay 5 l z,none),(2,AV.int .i64 lam,none),(3,AV.slcT none (Row.M [aM.arr .i64 p k]) 1 k fl,none),(11,AV.int .i64 (aS .i64 a (bQ .i64 (z (ak (aw 0 j 5) 4)) (p (aw 0 j 1)))),none),(12,AV.int .i64 (aS .i64 j (Int.ofNat 1)),none)],an::H)))))))) (Tr.ok (Ex.exit 2,[(0,ay 5 l z,none),(2,AV.int .i64 lam,none),(3,AV.slcT none (Row.M [aM.arr .i64 p k]) 1 k fl,none),(11,AV.int .i64 a,none),(12,AV.int .i64 j,none),(62,AV.bool false,some 1)],an::H))) [(0,ay 5 l z),(2,AV.int .i64 lam),(3,AV.slcT none (Row.M [aM.arr .i64 p k]) 1 k fl),(11,AV.int .i64 (aS .i64 a (bQ .i64 (z (ak (aw 0 j 5) 4)) (p (aw 0 j 1))))),(12,AV.int .i64 j),(13,AV.int .i64 (Int.ofNat 0)),(14,AV.int .i64 (Int.ofNat 0))]:=by kernel_rfl
theorem MO (n l k:Nat) (z p:Nat→Int) (fl:Bool) (lam a j:Int) (H:aa):aK (bu n 45 100) (il aI n 0) (lY aP 4) aQ (part Tryz.f45 [1,1,1,1,1,1,0,1,0,0]) (hints (pw l k z p fl lam a j)) (an::H) =
 Tr.ite (cn j (Int.ofNat l)) (Tr.req (cU j l) (Tr.req (bB (ak (aw 0 j 5) 4) (aH l 5)) (Tr.req (cU j k) (Tr.req (bB (aw 0 j 1) k) Tr.bad)))) (Tr.ok (Ex.exit 2,[(0,ay 5 l z,none),(2,AV.int .i64 lam,none),(3,AV.slcT none (Row.M [aM.arr .i64 p k]) 1 k fl,none),(11,AV.int .i64 a,none),(12,AV.int .i64 j,none),(62,AV.bool false,some 1)],an::H)):=by kernel_rfl
theorem Ul (n l k:Nat) (z p:Nat→Int) (fl:Bool) (q lam a:Int) (H:aa):bt Tryz.prog (cd n) 100000 45 Tryz.f45 (KtB.kt 45) (il (tX aI 37 [ay 5 l z,.int .i64 q] (.int .i64 0)) n 0) (dJ (dJ aP 0 (yF l k z p fl q lam (Int.ofNat 0)) (an::H) (.ok (.normal,hints (yF l k z p fl q lam (Int.ofNat l)++[(36,.bool false)]),an::H))) 2 (pw l k z p fl lam (nD .i64 q lam) (Int.ofNat 0)) (an::H) (.ok (.normal,hints (pw l k z p fl lam a (Int.ofNat l)++[(62,.bool false)]),an::H))) aQ [(ay 5 l z,none),(.int .i64 q,none),(.int .i64 lam,none),(bc k p fl,none)] H =
 (fun (Z0:av)=>((fun (Z1:av)=>Tr.reqP ([ay 5 l z,AV.int .i64 q]=[ay 5 l z,AV.int .i64 q]) (Tr.ite (bL (c5 (Int.ofNat 0) (Int.ofNat 0))) (Tr.reqP ([ay 5 l z,AV.int .i64 q]=[ay 5 l z,AV.int .i64 q]) (Tr.ok ((AV.tup [AV.int .i64 (Int.ofNat 0),AV.int .i64 (Int.ofNat 0)],none),H))) (Tr.ite (bL (c5 (Int.ofNat k) (Int.ofNat l))) (Tr.ok ((AV.tup [AV.int .i64 (Int.ofNat 0),AV.int .i64 (Int.ofNat 15)],none),H)) (Tr.ite (cn lam (Int.ofNat 0)) (Tr.ok ((AV.tup [AV.int .i64 (Int.ofNat 0),AV.int .i64 (Int.ofNat 3)],none),H)) (Tr.ite (cn (Int.ofNat 2000000) lam) (Tr.ok ((AV.tup [AV.int .i64 (Int.ofNat 0),AV.int .i64 (Int.ofNat 3)],none),H)) (Tr.reqP (Z1=Z1∧an::H=an::H) (Tr.reqP (Z0=Z0∧an::H=an::H) (Tr.ok ((AV.tup [AV.int .i64 a,AV.int .i64 (Int.ofNat 0)],none),H))))))))) [(0,ay 5 l z),(1,AV.int .i64 q),(2,AV.int .i64 lam),(3,AV.slcT none (Row.M [aM.arr .i64 p k]) 1 k fl),(10,AV.int .i64 (Int.ofNat 0))])) [(0,ay 5 l z),(2,AV.int .i64 lam),(3,AV.slcT none (Row.M [aM.arr .i64 p k]) 1 k fl),(11,AV.int .i64 (nD .i64 q lam)),(12,AV.int .i64 (Int.ofNat 0))]:=by kernel_rfl
end Go.Eng
end
section
namespace Go.Eng
open Go.Proofs
section
variable (n N l:Nat) (z o:Nat→Int) (H:aa)
end
end Go.Eng
end
section
namespace Go.Eng
open Go.Proofs
noncomputable def ru (l:Nat) (z:Nat→Int) (a j:Int):av:=[(0,ay 5 l z),(1,.nils),(5,.int .i64 a),(6,.int .i64 j)]
noncomputable def JX (l:Nat) (z:Nat→Int):List AV→Option (Prop×AV)
 | [.slcT none (.M [.arr .i64 z' N]) 5 l' false,.nils,.int .i64 q]=>some (z'=z∧N=aH l 5∧l'=l,.bool false)
 | _=>none
theorem MI (n l:Nat) (z:Nat→Int) (a j:Int) (H:aa):aK (bu n 39 25) (il (iS aI 73 (JX l z)) n 0) aP aQ (part Tryz.f39 [1,1,0,1,0,0]) (hints (ru l z a j)) (an::H) =
 Tr.ite (cn j (Int.ofNat l)) (Tr.reqP (z=z∧aH l 5=aH l 5∧l=l) (Tr.ite false (Tr.req (cU j l) (Tr.req (bB (ak (aw 0 j 5) 4) (aH l 5)) (Tr.ok (Ex.normal,[(0,ay 5 l z,none),(1,AV.nils,none),(5,AV.int .i64 (aS .i64 a (z (ak (aw 0 j 5) 4))),none),(6,AV.int .i64 (aS .i64 j (Int.ofNat 1)),none)],an::H)))) (Tr.ok (Ex.normal,[(0,ay 5 l z,none),(1,AV.nils,none),(5,AV.int .i64 a,none),(6,AV.int .i64 (aS .i64 j (Int.ofNat 1)),none)],an::H)))) (Tr.ok (Ex.exit 0,[(0,ay 5 l z,none),(1,AV.nils,none),(5,AV.int .i64 a,none),(6,AV.int .i64 j,none),(10,AV.bool false,some 1)],an::H)):=by kernel_rfl
theorem Q8 (n l:Nat) (z:Nat→Int) (a:Int) (H:aa):bt Tryz.prog (cd n) 100000 39 Tryz.f39 (KtB.kt 39) (il aI n 0) (dJ aP 0 (ru l z (Int.ofNat 0) (Int.ofNat 0)) (an::H) (.ok (.normal,hints (ru l z a (Int.ofNat l)++[(10,.bool false)]),an::H))) aQ [(ay 5 l z,none),(.nils,none)] H =
 (fun (Z0:av)=>Tr.reqP (Z0=Z0∧an::H=an::H) (Tr.ok ((AV.int .i64 a,none),H))) [(0,ay 5 l z),(1,AV.nils),(5,AV.int .i64 (Int.ofNat 0)),(6,AV.int .i64 (Int.ofNat 0))]:=by kernel_rfl
theorem NT:∀ b,(0,b) ∈ aV (bM Tryz.f39)→b=.loop (part Tryz.f39 [1,1,0,1,0,0]):=fM (by kernel_rfl)
theorem Lt (z:Nat→Int) (S:List Int) (i:Nat):vG z (bn S) S.length i=df (bE z) (bG z) S i:=by
 rw[Bool.eq_iff_iff,eB]
 unfold vG
 rw[dv]
 constructor
 · rintro ⟨j,hj,e⟩
   have e2:pB z (bn S j) (i:Int)=sf z (bn S j) i:=by unfold pB;rw[Int.toNat_natCast]
   rw[← e2,xI,Int.toNat_natCast] at e
   exact ⟨bn S j,pO S j hj,e⟩
 · rintro ⟨x,hx,e⟩
   obtain ⟨j,hj,rfl⟩:=Cn hx
   refine ⟨j,hj,?_⟩
   have e2:pB z (bn S j) (i:Int)=sf z (bn S j) i:=by unfold pB;rw[Int.toNat_natCast]
   rw[← e2,xI,Int.toNat_natCast]
   exact e
theorem yc (z:Nat→Int) (S:List Int):∀ l,l8 z S.length (bn S) l=lZ l (bE z) (bG z) (cF z) S
 | 0=>rfl
 | l+1=>by
   have ih:=yc z S l
   show (if vG z (bn S) S.length l=true then l8 z S.length (bn S) l+z (l*5+4) else l8 z S.length (bn S) l)=lZ l (bE z) (bG z) (cF z) S+(if df (bE z) (bG z) S l=true then cF z l else 0)
   rw[Lt,ih]
   by_cases c:df (bE z) (bG z) S l=true
   · rw[if_pos c,if_pos c];rfl
   · rw[if_neg c,if_neg c];omega
theorem Oi (n l:Nat) (z:Nat→Int) (a:Int) (H:aa):cd (n+1) (.fn 73) [.slcT none (.M [.arr .i64 z (aH l 5)]) 5 l false,.nils,.int .i64 a] H=some (.bool false,H):=by
 have h73:=Oj n l z H a
 unfold ay at h73
 rw[cu,← gw] at h73
 exact h73
theorem Oa (n l:Nat) (z:Nat→Int) (H:aa) (hl:l≤14):cd (n+2) (.fn 39) [ay 5 l z,.nils] H=some (.int .i64 0,H):=by
 have hC:(il (iS aI 73 (JX l z)) (n+1) 0).Ok (cd (n+1)):=cg _ _ (dY (aO _) (fun args p v hg hp H=>by
  unfold JX at hg
  split at hg
  · simp only[nP] at hg
    obtain ⟨rfl,rfl⟩:=hg
    obtain ⟨rfl,rfl,rfl⟩:=hp
    exact Oi _ _ _ _ _
  · cases hg))
 have hx:exec (bu (n+1) 39 25) (.block 0 (.loop (part Tryz.f39 [1,1,0,1,0,0]))) (ru l z (Int.ofNat 0) (Int.ofNat 0)) (an::H)=some (.normal,ru l z (Int.ofNat 0) (Int.ofNat l)++[(10,.bool false)],an::H):=by
  refine jz 0 (fun j=>ru l z (Int.ofNat 0) (j:Nat)) (fun _=>an::H) l (ru l z (Int.ofNat 0) (Int.ofNat l)++[(10,.bool false)],an::H) (by omega) (fun j hj=>?_) ?_
  · have e1:aS .i64 (j:Int) (Int.ofNat 1)=((j+1:Nat):Int):=iu (by omega)
    refine aE (MI (n+1) l z (Int.ofNat 0) (j:Nat) H) hC (af _ _) (ag _ _) ?_
    rw[e1]
    exact wF
  · obtain ⟨q,q1,rfl⟩:=aE (Q:=fun q=>q=(.exit 0,ru l z (Int.ofNat 0) (Int.ofNat l)++[(10,.bool false)],an::H)) (MI (n+1) l z (Int.ofNat 0) (Int.ofNat l) H) hC (af _ _) (ag _ _) (by
     refine Tr.al (fun hc=>?_) (fun hc=>Tr.ao rfl)
     simp (disch:=omega) only[nV,nW] at hc;omega)
    exact q1
 refine aX (n:=n+1) Tryz.func39 rfl rfl rfl (Q8 (n+1) l z (Int.ofNat 0) H) (aC _) (bg (af _ _) NT (fun x h=>by rw[← Tr.ab h];simp only[dG.st,aF];exact hx)) (ag _ _) ?_
 exact wF
section
variable (n N l:Nat) (z o:Nat→Int) (H:aa)
end
end Go.Eng
end
section
namespace Go.Eng
open Go.Proofs
section
variable (n l:Nat) (z:Nat→Int) (H:aa)
end
end Go.Eng
end
section
namespace Go.Eng
open Go.Proofs
section
variable (n l:Nat) (z:Nat→Int) (H:aa)
end
end Go.Eng
end
section
namespace Go.Eng
open Go.Proofs
section
variable (n l:Nat) (z:Nat→Int) (a b c d e w b0 b1 b2 b3 q:Int) (H:aa)
end
theorem N9 {c l:Nat} {z:Nat→Int} {q:Int} {k1 k2:Bool} {b1 b2:List (Nat×aj)} (h1:jA l z q=0):cd (c+12) (.fn 36) [.slcT none (.M [.arr .i64 z (aH l 5)]) 5 l false,.int .i64 q] [⟨k1,b1⟩,⟨k2,b2⟩]=some (.tup [.int .i64 (mX l z q.toNat).1,dA (mX l z q.toNat).2,.int .i64 0],[⟨k1,b1⟩,⟨k2,b2⟩]):=by
 have:=N8 c l z q k1 k2 b1 b2
 unfold L7 at this
 rw[if_pos h1] at this
 unfold ay at this
 rw[cu,← gw] at this
 exact this
theorem JU {c:Nat} {t:l9} (ht:t.Ok (cd (c+12))):(dI t 36 (OB (fun l z q=>jA l z q=0) (fun l z q=>(mX l z q.toNat).1) (fun l z q=>dA (mX l z q.toNat).2))).Ok (cd (c+12)):=by
 refine gh ht (fun args H x hx=>?_)
 unfold OB at hx
 split at hx
 · split at hx
   · obtain ⟨⟨rfl,h1⟩,h2⟩:=Tr.cW hx
     rw[← Tr.ab h2]
     exact N9 h1
   · exact (Tr.ae hx).elim
 · exact (Tr.ae hx).elim
end Go.Eng
end
section
namespace Go.Eng
open Go.Proofs
theorem Uh (n l:Nat) (z:Nat→Int) (q e:Int) (H:aa):bt Tryz.prog (cd n) 100000 37 Tryz.f37 (KtB.kt 37) (il (tX aI 21 [ay 5 l z] (.int .i64 e)) n 0) aP aQ [(ay 5 l z,none),(.int .i64 q,none)] H =
 Tr.reqP ([ay 5 l z]=[ay 5 l z]) (Tr.ite (bL (c5 e (Int.ofNat 0))) (Tr.reqP ([ay 5 l z]=[ay 5 l z]) (Tr.ok ((AV.int .i64 e,none),H))) (Tr.ite (cn q (Int.ofNat 0)) (Tr.ok ((AV.int .i64 (Int.ofNat 2),some 1),H)) (Tr.ite (cn (Int.ofNat 14) q) (Tr.ok ((AV.int .i64 (Int.ofNat 2),some 1),H)) (Tr.ok ((AV.int .i64 (Int.ofNat 0),some 1),H))))):=by kernel_rfl
end Go.Eng
end
section
namespace Go.Eng
open Go.Proofs
theorem He {k:Nat} {b:Nat→Int} (hk:k≤14) (hr:∀ j,j<k→-10000≤b j∧b j≤10000) (hi:∀ j,0<j→j<k→b (j-1)<b j):DD k b=0:=by
 unfold DD
 rw[if_neg (by omega),if_neg]
 rw[JR];· decide
 intro j hj
 have:=hr j hj
 unfold r4
 rw[decide_eq_false (by omega),decide_eq_false (by omega)]
 by_cases h0:0<j
 · have:=hi j h0 hj
   rw[decide_eq_false (show ¬ b j≤b (j-1) by omega)];simp
 · rw[decide_eq_false h0];rfl
theorem Hd {B:List Int} (hk:B.length≤14) (hr:∀ x ∈ B,-10000≤x∧x≤10000) (hs:B.Pairwise (· < ·)):DD B.length (bn B)=0 :=
 He hk (fun j hj=>hr _ (pO B j hj)) (fun j h0 hj=>by
  rw[Fy _ _ (show j-1<B.length by omega),Fy _ _ hj]
  exact List.pairwise_iff_getElem.1 hs (j-1) j (by omega) hj (by omega))
theorem RP (n l:Nat) (z:Nat→Int) (q:Int) (H:aa):cd (n+4) (.fn 37) [ay 5 l z,.int .i64 q] H=some (.int .i64 (jA l z q),H):=by
 refine aX (n:=n+3) Tryz.func37 rfl rfl rfl (Uh (n+3) l z q (bD l z) H) (cg _ _ (bZ (aO _) (fun H=>Rk n l z H))) (af _ _) (ag _ _) ?_
 unfold jA
 generalize bD l z=e
 by_cases h:e=0
 · rw [if_neg (fun x=>x h)]
   by_cases hq:q<0∨14<q
   · rw[if_pos hq]
     repeat' first | (refine Tr.al (fun hc=>?_) (fun hc=>?_)<;>(try simp (disch:=omega) only[nV,nW] at hc)<;>(try (exfalso;omega))) | (refine Tr.bj ?_ ?_;· ((try simp (disch:=omega) only[nV,nW]);try omega)) | (refine Tr.aB ?_ ?_;· first | exact trivial | rfl | exact ⟨rfl,rfl⟩ | exact ⟨trivial,rfl⟩ | exact ⟨rfl,by assumption⟩ | exact ⟨trivial,by assumption⟩ | exact ⟨rfl,rfl,rfl⟩ | (simp (disch:=omega) only[nV,nW];done) | ((try simp (disch:=omega) only[nV,nW]);omega)) | fail
     all_goals first
      | exact Tr.ao ⟨rfl,rfl⟩
      | omega
      | fail
   · rw[if_neg hq]
     repeat' first | (refine Tr.al (fun hc=>?_) (fun hc=>?_)<;>(try simp (disch:=omega) only[nV,nW] at hc)<;>(try (exfalso;omega))) | (refine Tr.bj ?_ ?_;· ((try simp (disch:=omega) only[nV,nW]);try omega)) | (refine Tr.aB ?_ ?_;· first | exact trivial | rfl | exact ⟨rfl,rfl⟩ | exact ⟨trivial,rfl⟩ | exact ⟨rfl,by assumption⟩ | exact ⟨trivial,by assumption⟩ | exact ⟨rfl,rfl,rfl⟩ | (simp (disch:=omega) only[nV,nW];done) | ((try simp (disch:=omega) only[nV,nW]);omega)) | fail
     all_goals first
      | exact Tr.ao ⟨rfl,rfl⟩
      | omega
      | fail
 · rw[if_pos h]
   repeat' first | (refine Tr.al (fun hc=>?_) (fun hc=>?_)<;>(try simp (disch:=omega) only[nV,nW] at hc)<;>(try (exfalso;omega))) | (refine Tr.bj ?_ ?_;· ((try simp (disch:=omega) only[nV,nW]);try omega)) | (refine Tr.aB ?_ ?_;· first | exact trivial | rfl | exact ⟨rfl,rfl⟩ | exact ⟨trivial,rfl⟩ | exact ⟨rfl,by assumption⟩ | exact ⟨trivial,by assumption⟩ | exact ⟨rfl,rfl,rfl⟩ | (simp (disch:=omega) only[nV,nW];done) | ((try simp (disch:=omega) only[nV,nW]);omega)) | fail
   all_goals first
    | exact Tr.ao ⟨rfl,rfl⟩
    | omega
    | fail
end Go.Eng
end
section
namespace Go.Eng
open Go.Proofs
end Go.Eng
end
section
namespace Go.Eng
open Go.Proofs
end Go.Eng
end
section
namespace Go.Eng
open Go.Proofs
end Go.Eng
end
section
namespace Go.Eng
open Go.Proofs
section
variable (n l v:Nat) (z x y w:Nat→Int) (u t k:Int) (r0 u0 t0 q0:Int)
end
end Go.Eng
end
section
namespace Go.Eng
open Go.Proofs
theorem Bo {g:Nat→Int} {B:Int}:∀ N,(∀ i,i<N→0≤g i∧g i≤B)→0≤gG g N∧gG g N≤(N:Int)*B
 | 0,_=>by
   show (0:Int)≤0∧(0:Int)≤((0:Nat):Int)*B
   simp
 | N+1,h=>by
   obtain ⟨i1,i2⟩:=Bo N (fun i hi=>h i (by omega))
   have:=h N (by omega)
   have e:gG g (N+1)=gG g N+g N:=rfl
   rw[e,show ((N+1:Nat):Int)*B=(N:Int)*B+B by rw[Int.natCast_add,Int.add_mul];simp]
   omega
theorem tK {l K:Nat} {z:Nat→Int} (h:bD l z=0) (hK:K≤15):0≤(mX l z K).1∧(mX l z K).1≤1400000:=by
 have hm:=(mK (K:=K) h hK).1
 obtain ⟨hl,hz⟩:=bI h
 rw[← hm.wo]
 unfold lZ
 have:=Bo (g:=fun i=>if df (bE z) (bG z) (mX l z K).2 i=true then cF z i else 0) (B:=100000) l (fun i hi=>by
  have:=hz i hi
  unfold cF
  split<;>omega)
 omega
section
variable (n l v:Nat) (z x:Nat→Int) (u:Int)
end
end Go.Eng
end
