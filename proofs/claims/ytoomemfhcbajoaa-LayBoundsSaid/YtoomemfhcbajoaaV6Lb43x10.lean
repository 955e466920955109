/- Lay: CheckPlan (own copy). -/
import Derived.Test.YtoomemfhcbajoaaV6Lb41x2
import Derived.Test.YtoomemfhcbajoaaV6Lb35x6
set_option linter.unusedVariables false
set_option linter.unusedSimpArgs false
set_option maxRecDepth 100000
section
namespace Go.Eng
open Go.Proofs
noncomputable def cK (l:Nat) (t:Nat→Int) (k:Nat) (d:Nat→Int):aT:=⟨false,[DB l t k d]⟩
noncomputable def sS (l:Nat) (z:Nat→Int) (h:Int) (m:Nat) (f:Nat→Nat→Int) (g:Nat→Nat) (j:Int):aq:=[(1,.int .i64 h),(2,dA m f g),(3,.ptr 0 0 0 0),(7,b6 l z true),(9,.int .i64 j)]
noncomputable def sU (l:Nat) (z:Nat→Int) (j:Int):aq:=[(3,.ptr 0 0 0 0),(7,b6 l z true),(10,.int .i64 j)]
noncomputable def sV (l:Nat) (z:Nat→Int) (j:Int):aq:=[(3,.ptr 0 0 0 0),(7,b6 l z true),(11,.int .i64 j)]
theorem NG (n l k:Nat) (t d z:Nat→Int) (h:Int) (m:Nat) (f:Nat→Nat→Int) (g:Nat→Nat) (j:Int) (H:aa):aJ (bn n 30 84) (il aE n 0) aG aH (part Try.f30 [1,1,1,1,0,1,0,0]) (hints (sS l z h m f g j)) (cK l t k d::H) =
 (fun (Z0:aT)=>((fun (Z1:Nat×AV×Option Nat)=>Tr.ite (bK j (Int.ofNat m)) (Tr.req (cE j m) (Tr.req (cr (au 0 j 1) m) (Tr.ite (bK h (Int.ofNat (g (au 0 j 1)))) (Tr.ok (Ex.ret,[(6,AV.int .i64 (Int.ofNat 4),some 1)],Z0::H)) (Tr.ok (Ex.normal,[(1,AV.int .i64 h,none),Z1,(3,AV.ptr 0 0 0 0,none),(7,AV.slcT none (Row.M [ah.arr .i64 z l]) 1 l true,none),(9,AV.int .i64 (bA .i64 j (Int.ofNat 1)),none)],Z0::H))))) (Tr.ok (Ex.exit 0,[(1,AV.int .i64 h,none),Z1,(3,AV.ptr 0 0 0 0,none),(7,AV.slcT none (Row.M [ah.arr .i64 z l]) 1 l true,none),(9,AV.int .i64 j,none),(31,AV.bool false,some 1)],Z0::H))) (2,AV.slcT none (Row.F (fun j=>AV.slcT none (Row.M [ah.arr .i64 (f j) (g j)]) 1 (g j) false) m) 1 m false,none))) { lock:=false,bs:=[(0,ai.row (Row.G [AV.slcT none (Row.M [ah.arr .i64 t l]) 1 l false,AV.slcT none (Row.M [ah.arr .i64 d k]) 1 k false]))] }:=by kernel_rfl
theorem NH (n l k:Nat) (t d z:Nat→Int) (j:Int) (H:aa):aJ (bn n 30 84) (il aE n 0) aG aH (part Try.f30 [1,1,1,1,1,0,1,0,0]) (hints (sU l z j)) (cK l t k d::H) =
 (fun (Z0:aT)=>((fun (Z1:aN)=>Tr.ite (bK j (Int.ofNat l)) (Tr.req (cE j l) (Tr.req (cr (au 0 j 1) l) (Tr.ite (lV (Int.ofNat 0) (t (au 0 j 1))) (Tr.req (cE j l) (Tr.req (cr (au 0 j 1) l) (Tr.req (cE j l) (Tr.req (cr (au 0 j 1) l) (Tr.req (cE (t (au 0 j 1)) l) (Tr.req (cr (au 0 (t (au 0 j 1)) 1) l) (Tr.ite (lV (z (au 0 (t (au 0 j 1)) 1)) (z (au 0 j 1))) (Tr.ok (Ex.ret,[(6,AV.int .i64 (Int.ofNat 16),some 1)],Z0::H)) (Tr.ok (Ex.normal,Z1,Z0::H))))))))) (Tr.ok (Ex.normal,Z1,Z0::H))))) (Tr.ok (Ex.exit 2,[(3,AV.ptr 0 0 0 0,none),(7,AV.slcT none (Row.M [ah.arr .i64 z l]) 1 l true,none),(10,AV.int .i64 j,none),(44,AV.bool false,some 1)],Z0::H))) [(3,AV.ptr 0 0 0 0,none),(7,AV.slcT none (Row.M [ah.arr .i64 z l]) 1 l true,none),(10,AV.int .i64 (bA .i64 j (Int.ofNat 1)),none)])) { lock:=false,bs:=[(0,ai.row (Row.G [AV.slcT none (Row.M [ah.arr .i64 t l]) 1 l false,AV.slcT none (Row.M [ah.arr .i64 d k]) 1 k false]))] }:=by kernel_rfl
theorem NI (n l k:Nat) (t d z:Nat→Int) (j:Int) (H:aa):aJ (bn n 30 84) (il aE n 0) aG aH (part Try.f30 [1,1,1,1,1,1,0,1,0,0]) (hints (sV l z j)) (cK l t k d::H) =
 (fun (Z0:aT)=>Tr.ite (bK j (Int.ofNat l)) (Tr.req (cE j l) (Tr.req (cr (au 0 j 1) l) (Tr.req (cE j k) (Tr.req (cr (au 0 j 1) k) (Tr.ite (bK (d (au 0 j 1)) (z (au 0 j 1))) (Tr.ok (Ex.ret,[(6,AV.int .i64 (Int.ofNat 12),some 1)],Z0::H)) (Tr.ok (Ex.normal,[(3,AV.ptr 0 0 0 0,none),(7,AV.slcT none (Row.M [ah.arr .i64 z l]) 1 l true,none),(11,AV.int .i64 (bA .i64 j (Int.ofNat 1)),none)],Z0::H))))))) (Tr.ok (Ex.exit 4,[(3,AV.ptr 0 0 0 0,none),(7,AV.slcT none (Row.M [ah.arr .i64 z l]) 1 l true,none),(11,AV.int .i64 j,none),(71,AV.bool false,some 1)],Z0::H))) { lock:=false,bs:=[(0,ai.row (Row.G [AV.slcT none (Row.M [ah.arr .i64 t l]) 1 l false,AV.slcT none (Row.M [ah.arr .i64 d k]) 1 k false]))] }:=by kernel_rfl
theorem UW (n l k:Nat) (t d z:Nat→Int) (h:Int) (m:Nat) (f:Nat→Nat→Int) (g:Nat→Nat) (b0 b2 b4:Bool) (H:aa):aX Try.prog (cd n) 100000 30 Try.f30 (KtL.kt 30) (il (tX (tX aE 64 [b5 l t k d,.int .i64 h] (.int .i64 0)) 47 [b5 l t k d,dA m f g] (.tup [b6 l z true,.int .i64 0])) n 0) (bS (bS (bS aG 4 (sV l z 0) (cK l t k d::H) (.ite b4 (.ok (.ret,hints [(6,.int .i64 12)],cK l t k d::H)) (.ok (.normal,hints (sV l z (Int.ofNat l)++[(71,.bool false)]),cK l t k d::H)))) 2 (sU l z 0) (cK l t k d::H) (.ite b2 (.ok (.ret,hints [(6,.int .i64 16)],cK l t k d::H)) (.ok (.normal,hints (sU l z (Int.ofNat l)++[(44,.bool false)]),cK l t k d::H)))) 0 (sS l z h m f g 0) (cK l t k d::H) (.ite b0 (.ok (.ret,hints [(6,.int .i64 4)],cK l t k d::H)) (.ok (.normal,hints (sS l z h m f g (Int.ofNat m)++[(31,.bool false)]),cK l t k d::H)))) aH [(b5 l t k d,none),(.int .i64 h,none),(dA m f g,none)] H =
 (fun (Z0:Row)=>((fun (Z1:Nat×AV)=>((fun (Z2:Row)=>((fun (Z3:aT)=>((fun (Z4:aq)=>Tr.reqP ([AV.agg Z0,AV.int .i64 h]=[AV.agg Z0,AV.int .i64 h]) (Tr.ite (aP (b7 (Int.ofNat 0) (Int.ofNat 0))) (Tr.reqP ([AV.agg Z0,AV.int .i64 h]=[AV.agg Z0,AV.int .i64 h]) (Tr.ok ((AV.int .i64 (Int.ofNat 0),none),H))) (Tr.reqP ([AV.agg Z0,AV.slcT none Z2 1 m false]=[AV.agg Z0,AV.slcT none Z2 1 m false]) (Tr.ite (aP (b7 (Int.ofNat 0) (Int.ofNat 0))) (Tr.ok ((AV.int .i64 (Int.ofNat 0),none),H)) (Tr.reqP (Z4=Z4∧Z3::H=Z3::H) (Tr.ite b0 (Tr.ok ((AV.int .i64 (Int.ofNat 4),none),H)) (Tr.reqP ([(3,AV.ptr 0 0 0 0),Z1,(10,AV.int .i64 (Int.ofNat 0))]=[(3,AV.ptr 0 0 0 0),Z1,(10,AV.int .i64 (Int.ofNat 0))]∧Z3::H=Z3::H) (Tr.ite b2 (Tr.ok ((AV.int .i64 (Int.ofNat 16),none),H)) (Tr.reqP ([(3,AV.ptr 0 0 0 0),Z1,(11,AV.int .i64 (Int.ofNat 0))]=[(3,AV.ptr 0 0 0 0),Z1,(11,AV.int .i64 (Int.ofNat 0))]∧Z3::H=Z3::H) (Tr.ite b4 (Tr.ok ((AV.int .i64 (Int.ofNat 12),none),H)) (Tr.ok ((AV.int .i64 (Int.ofNat 0),some 1),H)))))))))))) [(1,AV.int .i64 h),(2,AV.slcT none Z2 1 m false),(3,AV.ptr 0 0 0 0),Z1,(9,AV.int .i64 (Int.ofNat 0))])) { lock:=false,bs:=[(0,ai.row Z0)] })) (Row.F (fun j=>AV.slcT none (Row.M [ah.arr .i64 (f j) (g j)]) 1 (g j) false) m))) (7,AV.slcT none (Row.M [ah.arr .i64 z l]) 1 l true))) (Row.G [AV.slcT none (Row.M [ah.arr .i64 t l]) 1 l false,AV.slcT none (Row.M [ah.arr .i64 d k]) 1 k false]):=by kernel_rfl
theorem Q8 (n l k:Nat) (t d:Nat→Int) (h:Int) (m:Nat) (f:Nat→Nat→Int) (g:Nat→Nat) (c:Int) (H:aa):aX Try.prog (cd n) 100000 30 Try.f30 (KtL.kt 30) (il (tX (tX aE 64 [b5 l t k d,.int .i64 h] (.int .i64 0)) 47 [b5 l t k d,dA m f g] (.tup [.nils,.int .i64 c])) n 0) (bS aG 0 [] [] .bad) aH [(b5 l t k d,none),(.int .i64 h,none),(dA m f g,none)] H =
 (fun (Z0:Row)=>((fun (Z1:Row)=>Tr.reqP ([AV.agg Z0,AV.int .i64 h]=[AV.agg Z0,AV.int .i64 h]) (Tr.ite (aP (b7 (Int.ofNat 0) (Int.ofNat 0))) (Tr.reqP ([AV.agg Z0,AV.int .i64 h]=[AV.agg Z0,AV.int .i64 h]) (Tr.ok ((AV.int .i64 (Int.ofNat 0),none),H))) (Tr.reqP ([AV.agg Z0,AV.slcT none Z1 1 m false]=[AV.agg Z0,AV.slcT none Z1 1 m false]) (Tr.ite (aP (b7 c (Int.ofNat 0))) (Tr.ok ((AV.int .i64 c,none),H)) (Tr.reqP ([(1,AV.int .i64 h),(2,AV.slcT none Z1 1 m false),(3,AV.ptr 0 0 0 0),(7,AV.nils),(9,AV.int .i64 (Int.ofNat 0))]=[]∧{ lock:=false,bs:=[(0,ai.row Z0)] } :: H=[]) Tr.bad))))) (Row.F (fun j=>AV.slcT none (Row.M [ah.arr .i64 (f j) (g j)]) 1 (g j) false) m))) (Row.G [AV.slcT none (Row.M [ah.arr .i64 t l]) 1 l false,AV.slcT none (Row.M [ah.arr .i64 d k]) 1 k false]):=by kernel_rfl
theorem Q7 (n l k:Nat) (t d:Nat→Int) (h:Int) (m:Nat) (f:Nat→Nat→Int) (g:Nat→Nat) (c:Int) (H:aa):aX Try.prog (cd n) 100000 30 Try.f30 (KtL.kt 30) (il (tX aE 64 [b5 l t k d,.int .i64 h] (.int .i64 c)) n 0) (bS aG 0 [] [] .bad) aH [(b5 l t k d,none),(.int .i64 h,none),(dA m f g,none)] H =
 (fun (Z0:List AV)=>Tr.reqP (Z0=Z0) (Tr.ite (aP (b7 c (Int.ofNat 0))) (Tr.reqP (Z0=Z0) (Tr.ok ((AV.int .i64 c,none),H))) Tr.bad)) [AV.agg (Row.G [AV.slcT none (Row.M [ah.arr .i64 t l]) 1 l false,AV.slcT none (Row.M [ah.arr .i64 d k]) 1 k false]),AV.int .i64 h]:=by kernel_rfl
theorem Kb:∀ b,(0,b) ∈ aI (bj Try.f30)→b=.loop (part Try.f30 [1,1,1,1,0,1,0,0]):=ep (by kernel_rfl)
theorem OH:∀ b,(2,b) ∈ aI (bj Try.f30)→b=.loop (part Try.f30 [1,1,1,1,1,0,1,0,0]):=ep (by kernel_rfl)
theorem OI:∀ b,(4,b) ∈ aI (bj Try.f30)→b=.loop (part Try.f30 [1,1,1,1,1,1,0,1,0,0]):=ep (by kernel_rfl)
section
variable (n l k:Nat) (t d z:Nat→Int) (h:Int) (m:Nat) (f:Nat→Nat→Int) (g:Nat→Nat) (H:aa)
theorem PQ (hm:m≤1000):exec (bn n 30 84) (.block 0 (.loop (part Try.f30 [1,1,1,1,0,1,0,0]))) (sS l z h m f g ((0:Nat):Int)) (cK l t k d::H)=some (cond (bV (r8 h g) m) (.ret,[(6,.int .i64 4)],cK l t k d::H) (.normal,sS l z h m f g (Int.ofNat m)++[(31,.bool false)],cK l t k d::H)):=by
 refine iv (n:=n) (f:=30) (nt:=84) (c:=part Try.f30 [1,1,1,1,0,1,0,0]) 0 (fun j=>sS l z h m f g (j:Nat)) (fun j=>cK l t k d::H) m (r8 h g) (fun j=>([(6,.int .i64 4)],cK l t k d::H)) _ (by omega) (fun j hj=>?_) ?_
 · refine aB (NG n l k t d z h m f g (j:Nat) H) (ao n) (af _ _) (ag _ _) ?_
   show Tr.all _ (fun r=>if r8 h g j=true then _ else _∧tidy _ _ _=(sS l z h m f g ((j+1:Nat):Int),cK l t k d::H))
   rw[c7 (j:=j) (by omega)]
   simp only[iS]
   have eb:bK h (Int.ofNat (g j))=r8 h g j:=by rw[cY];rfl
   rw[eb]
   cases r8 h g j with
   | true =>
     simp only[if_true]
     exact wF
   | false =>
     simp only[Bool.false_eq_true,if_false]
     exact wF
 · exact cO (NG n l k t d z h m f g (Int.ofNat m) H) (ao n) (af _ _) (ag _ _) (by first | (simp (disch:=omega) only[nV,nW];done) | (simp (disch:=omega) only[nV,nW];omega))
theorem PR (hl:l≤30) (ht:∀ j,j<l→t j<l):exec (bn n 30 84) (.block 2 (.loop (part Try.f30 [1,1,1,1,1,0,1,0,0]))) (sU l z ((0:Nat):Int)) (cK l t k d::H)=some (cond (bV (pV t z) l) (.ret,[(6,.int .i64 16)],cK l t k d::H) (.normal,sU l z (Int.ofNat l)++[(44,.bool false)],cK l t k d::H)):=by
 refine iv (n:=n) (f:=30) (nt:=84) (c:=part Try.f30 [1,1,1,1,1,0,1,0,0]) 2 (fun j=>sU l z (j:Nat)) (fun j=>cK l t k d::H) l (pV t z) (fun j=>([(6,.int .i64 16)],cK l t k d::H)) _ (by omega) (fun j hj=>?_) ?_
 · refine aB (NH n l k t d z (j:Nat) H) (ao n) (af _ _) (ag _ _) ?_
   show Tr.all _ (fun r=>if pV t z j=true then _ else _∧tidy _ _ _=(sU l z ((j+1:Nat):Int),cK l t k d::H))
   rw[c7 (j:=j) (by omega)]
   simp only[iS]
   have htj:=ht j hj
   by_cases c0:0≤t j
   · obtain ⟨q,hq⟩:∃ q:Nat,t j=q:=⟨(t j).toNat,by omega⟩
     have er:pV t z j=decide (z q≤z j):=by unfold pV;rw[decide_eq_true c0,hq];rfl
     rw[er,hq]
     rw[hq] at htj
     simp only[iS]
     by_cases c1:z q≤z j
     · rw[decide_eq_true c1]
       simp only[if_true]
       exact wF
     · rw[decide_eq_false c1]
       simp only[Bool.false_eq_true,if_false]
       exact wF
   · have er:pV t z j=false:=by unfold pV;rw[decide_eq_false c0];rfl
     rw[er]
     simp only[Bool.false_eq_true,if_false]
     exact wF
 · exact cO (NH n l k t d z (Int.ofNat l) H) (ao n) (af _ _) (ag _ _) (by first | (simp (disch:=omega) only[nV,nW];done) | (simp (disch:=omega) only[nV,nW];omega))
theorem PS (hl:l≤30) (hk:k=l):exec (bn n 30 84) (.block 4 (.loop (part Try.f30 [1,1,1,1,1,1,0,1,0,0]))) (sV l z ((0:Nat):Int)) (cK l t k d::H)=some (cond (bV (qv d z) l) (.ret,[(6,.int .i64 12)],cK l t k d::H) (.normal,sV l z (Int.ofNat l)++[(71,.bool false)],cK l t k d::H)):=by
 subst hk
 refine iv (n:=n) (f:=30) (nt:=84) (c:=part Try.f30 [1,1,1,1,1,1,0,1,0,0]) 4 (fun j=>sV k z (j:Nat)) (fun j=>cK k t k d::H) k (qv d z) (fun j=>([(6,.int .i64 12)],cK k t k d::H)) _ (by omega) (fun j hj=>?_) ?_
 · refine aB (NI n k k t d z (j:Nat) H) (ao n) (af _ _) (ag _ _) ?_
   show Tr.all _ (fun r=>if qv d z j=true then _ else _∧tidy _ _ _=(sV k z ((j+1:Nat):Int),cK k t k d::H))
   rw[c7 (j:=j) (by omega)]
   simp only[iS]
   have e2:bK (d j) (z j)=qv d z j:=by rw[cY];rfl
   rw[e2]
   cases qv d z j with
   | true =>
     simp only[if_true]
     exact wF
   | false =>
     simp only[Bool.false_eq_true,if_false]
     exact wF
 · exact cO (NI n k k t d z (Int.ofNat k) H) (ao n) (af _ _) (ag _ _) (by first | (simp (disch:=omega) only[nV,nW];done) | (simp (disch:=omega) only[nV,nW];omega))
theorem Sp (hm:m≤50) (hg:∀ i,i<m→g i≤40):cd (n+4) (.fn 30) [b5 l t k d,.int .i64 h,dA m f g] H=some (.int .i64 (qU l k t d h m f g),H):=by
 by_cases ea:dj l t k d h=0
 · obtain ⟨hs,h1,h2⟩:=ma ea
   have h64:∀ H,cd (n+3) (.fn 64) [b5 l t k d,.int .i64 h] H=some (.int .i64 0,H):=fun H=>by rw[RV,ea]
   have h47:∀ H,cd (n+3) (.fn 47) [b5 l t k d,dA m f g] H=some (Oa l m f g,H):=fun H=>RR (n+1) l k t d m f g H (by have:=hs.l30;omega) (fun i hi=>by have:=hg i hi;omega)
   by_cases et:nk l m f g=0
   · rw[BL,if_pos et] at h47
     have hxa:=PQ (n+3) l k t d (cg f g m) h m f g H (by omega)
     have hxb:=PR (n+3) l k t d (cg f g m) H hs.l30 hs.tl
     have hxc:=PS (n+3) l k t d (cg f g m) H hs.l30 hs.kl
     have ec:qU l k t d h m f g=if bV (r8 h g) m=true then 4 else if bV (pV t (cg f g m)) l=true then 16 else if bV (qv d (cg f g m)) l=true then 12 else 0:=by
      unfold qU
      rw[if_neg (by rw[ea];decide),if_neg (by rw[et];decide)]
     rw[ec]
     refine aD (n:=n+3) Try.func30 rfl rfl rfl (UW (n+3) l k t d (cg f g m) h m f g (bV (r8 h g) m) (bV (pV t (cg f g m)) l) (bV (qv d (cg f g m)) l) H) (aO _ (n+3) (bp (bp (aF _) h64) h47)) (aA (aA (aA (af _ _) OI (fun x hy=>dk hy hxc)) OH (fun x hy=>dk hy hxb)) Kb (fun x hy=>dk hy hxa)) (ag _ _) ?_
     clear hxa hxb hxc ec
     generalize bV (r8 h g) m=A at *
     generalize bV (pV t (cg f g m)) l=B at *
     generalize bV (qv d (cg f g m)) l=C at *
     cases A<;>cases B<;>cases C
     all_goals
      simp only[Bool.false_eq_true,if_false,if_true]
      exact wF
   · rw[BL,if_neg et] at h47
     have ec:qU l k t d h m f g=nk l m f g:=by
      unfold qU
      rw[if_neg (by rw[ea];decide),if_pos et]
     rw[ec]
     refine aD (n:=n+3) Try.func30 rfl rfl rfl (Q8 (n+3) l k t d h m f g (nk l m f g) H) (aO _ (n+3) (bp (bp (aF _) h64) h47)) (aA (af _ _) Kb (fun x hx=>(Tr.ae hx).elim)) (ag _ _) ?_
     generalize nk l m f g=E at *
     exact wF
 · have ec:qU l k t d h m f g=dj l t k d h:=by
    unfold qU
    rw[if_pos ea]
   have h64:∀ H,cd (n+3) (.fn 64) [b5 l t k d,.int .i64 h] H=some (.int .i64 (dj l t k d h),H):=fun H=>RV n l k t d H h
   rw[ec]
   generalize dj l t k d h=E at *
   refine aD (n:=n+3) Try.func30 rfl rfl rfl (Q7 (n+3) l k t d h m f g E H) (aO _ (n+3) (bp (aF _) h64)) (aA (af _ _) Kb (fun x hx=>(Tr.ae hx).elim)) (ag _ _) ?_
   exact wF
end
end Go.Eng
end
section
namespace Go.Eng
open Go.Proofs
section
variable (n l k:Nat) (t d:Nat→Int) (m:Nat) (f:Nat→Nat→Int) (g:Nat→Nat) (H:aa)
end
end Go.Eng
end
section
namespace Go.Eng
theorem s9:∀ (j:Nat) (z:Nat→Int) (i:Nat),j<i→lZ z j i=z i
 | 0,_,_,_=>rfl
 | j + 1,z,i,h=>by
   unfold lZ
   split
   · rw[s9 j _ i (by omega)]
     unfold C8
     rw[ig]
     simp only[]
     rw[if_neg (by omega),if_neg (by omega)]
   · rfl
theorem Aq:∀ (k:Nat) (z:Nat→Int) (i:Nat),k<i→iJ z k i=z i
 | 0,_,_,_=>rfl
 | k+1,z,i,h=>by
   unfold iJ
   rw[s9 (k+1) _ i h,Aq k z i (by omega)]
theorem Cr:∀ (j:Nat) (z:Nat→Int),(∀ a b,a<b→b<j→z a<z b)→(∀ a,a<j→z a≠z j) →
 (∀ a b,a<b→b≤j→lZ z j a<lZ z j b)∧(∀ x,(∃ i,i≤j∧lZ z j i=x)↔∃ i,i≤j∧z i=x)
 | 0,z,_,_=>⟨fun a b h1 h2=>by omega,fun x=>Iff.rfl⟩
 | j + 1,z,  h1,h2=>by
   unfold lZ
   by_cases hc:z (j+1)<z j
   · rw[if_pos hc]
     have s1:C8 z (j+1) (j+1)=z j:=by unfold C8;simp[ig]
     have s2:C8 z (j+1) j=z (j+1):=by unfold C8;simp[ig]
     have s3:∀ a,a≠j→a≠j+1→C8 z (j+1) a=z a:=fun a q1 q2=>by unfold C8;simp[ig,q1,q2]
     generalize C8 z (j+1)=z' at *
     obtain ⟨i1,i2⟩:=Cr j z' (fun a b q1 q2=>by rw[s3 a (by omega) (by omega),s3 b (by omega) (by omega)];exact h1 a b q1 (by omega)) (fun a q=>by rw[s3 a (by omega) (by omega),s2];exact h2 a (by omega))
     have o:=s9 j z' (j+1) (by omega)
     rw[s1] at o
     refine ⟨fun a b q1 q2=>?_,fun x=>?_⟩
     · by_cases e:b=j+1
       · subst e
         rw[o]
         obtain ⟨i,q3,q4⟩:=(i2 (lZ z' j a)).1 ⟨a,by omega,rfl⟩
         rw[← q4]
         by_cases e2:i=j
         · subst e2;rw[s2];exact hc
         · rw[s3 i e2 (by omega)];exact h1 i j (by omega) (by omega)
       · exact i1 a b q1 (by omega)
     · constructor
       · rintro ⟨i,q1,q2⟩
         by_cases e:i=j+1
         · subst e;rw[o] at q2;exact ⟨j,by omega,q2⟩
         · obtain ⟨k,q3,q4⟩:=(i2 x).1 ⟨i,by omega,q2⟩
           by_cases e2:k=j
           · subst e2;rw[s2] at q4;exact ⟨k+1,by omega,q4⟩
           · rw[s3 k e2 (by omega)] at q4;exact ⟨k,by omega,q4⟩
       · rintro ⟨i,q1,q2⟩
         by_cases e:i=j
         · subst e;exact ⟨i+1,by omega,by rw[o];exact q2⟩
         · by_cases e2:i=j+1
           · subst e2
             obtain ⟨k,q3,q4⟩:=(i2 x).2 ⟨j,by omega,by rw[s2];exact q2⟩
             exact ⟨k,by omega,q4⟩
           · obtain ⟨k,q3,q4⟩:=(i2 x).2 ⟨i,by omega,by rw[s3 i e e2];exact q2⟩
             exact ⟨k,by omega,q4⟩
   · rw[if_neg hc]
     refine ⟨fun a b q1 q2=>?_,fun x=>Iff.rfl⟩
     by_cases e:b=j+1
     · subst e
       have:=h2 j (by omega)
       by_cases e2:a=j
       · subst e2;omega
       · have:=h1 a j (by omega) (by omega);omega
     · exact h1 a b q1 (by omega)
theorem C6 (z:Nat→Int):∀ k,(∀ a b,a<b→b≤k→z a≠z b) →
 (∀ a b,a<b→b≤k→iJ z k a<iJ z k b)∧(∀ x,(∃ i,i≤k∧iJ z k i=x)↔∃ i,i≤k∧z i=x)
 | 0,_=>⟨fun a b h1 h2=>by omega,fun x=>Iff.rfl⟩
 | k + 1,h=>by
   obtain ⟨i1,i2⟩:=C6 z k (fun a b q1 q2=>h a b q1 (by omega))
   have o:=Aq k z (k+1) (by omega)
   show (∀ a b,a<b→b≤k+1→lZ (iJ z k) (k+1) a<lZ (iJ z k) (k+1) b)∧(∀ x,(∃ i,i≤k+1∧lZ (iJ z k) (k+1) i=x)↔∃ i,i≤k+1∧z i=x)
   generalize iJ z k=y at *
   obtain ⟨j1,j2⟩:=Cr (k+1) y (fun a b q1 q2=>i1 a b q1 (by omega)) (fun a q=>by
    rw[o]
    obtain ⟨i,q1,q2⟩:=(i2 (y a)).1 ⟨a,by omega,rfl⟩
    rw[← q2];exact h i (k+1) (by omega) (by omega))
   refine ⟨j1,fun x=>(j2 x).trans ?_⟩
   constructor
   · rintro ⟨i,q1,q2⟩
     by_cases e:i=k+1
     · subst e;exact ⟨k+1,by omega,by rw[← o];exact q2⟩
     · obtain ⟨m,q3,q4⟩:=(i2 x).1 ⟨i,by omega,q2⟩
       exact ⟨m,by omega,q4⟩
   · rintro ⟨i,q1,q2⟩
     by_cases e:i=k+1
     · subst e;exact ⟨k+1,by omega,by rw[o];exact q2⟩
     · obtain ⟨m,q3,q4⟩:=(i2 x).2 ⟨i,by omega,q2⟩
       exact ⟨m,by omega,q4⟩
theorem Ln {L:List Int} (hn:L.Nodup) (h1:1≤L.length):(∀ a b,a<b→b<L.length→wy L.length (ay L) a<wy L.length (ay L) b)∧∀ x,(∃ i,i<L.length∧wy L.length (ay L) i=x)↔x ∈ L:=by
 have hv:∀ a,(h:a<L.length)→eG (fun _=>Int.ofNat 0) 0 (ay L) L.length a=L[a]:=fun a h=>by
  rw[rW]
  show (if 0≤a∧a<0+L.length then ay L (a-0) else _)=_
  rw[if_pos (by omega),Nat.sub_zero,iV]
  show L.getD a 0=_
  rw[List.getD_eq_getElem?_getD,List.getElem?_eq_getElem h];rfl
 obtain ⟨s1,s2⟩:=C6 (eG (fun _=>Int.ofNat 0) 0 (ay L) L.length) (L.length-1) (fun a b q1 q2=>by
  rw[hv a (by omega),hv b (by omega)]
  exact (List.pairwise_iff_getElem.1 hn) a b (by omega) (by omega) q1)
 unfold wy
 refine ⟨fun a b q1 q2=>s1 a b q1 (by omega),fun x=>?_⟩
 constructor
 · rintro ⟨i,q1,q2⟩
   obtain ⟨m,q3,q4⟩:=(s2 x).1 ⟨i,by omega,q2⟩
   rw[← q4,hv m (by omega)]
   exact List.getElem_mem _
 · intro hx
   obtain ⟨m,q1,q2⟩:=List.mem_iff_getElem.1 hx
   obtain ⟨i,q3,q4⟩:=(s2 x).2 ⟨m,by omega,by rw[hv m q1];exact q2⟩
   exact ⟨i,by omega,q4⟩
section
variable {l k:Nat} {t d:Nat→Int} {h:Int}
noncomputable def rN (l k:Nat) (t d:Nat→Int) (h:Int) (m:Nat):List Nat:=rH l t (zP l t k d (dY l t d h:Nat)) h.toNat (bG (cQ t l)) m
noncomputable def dP (l k:Nat) (t d:Nat→Int) (h:Int) (m:Nat):Nat→Bool:=dS l t (zP l t k d (dY l t d h:Nat)) h.toNat (bG (cQ t l)) m
theorem xU (m:Nat):sf l k t d h m=(rN l k t d h m).map fun (i:Nat)=>(i:Int):=rfl
theorem FB (m i:Nat):dP l k t d h (m+1) i=(dP l k t d h m i || decide (i ∈ rN l k t d h m)):=rfl
theorem z7 (hs:Sh l t k d) (m:Nat):(rN l k t d h m).Nodup∧∀ i ∈ rN l k t d h m,i<l∧dP l k t d h m i=false:=by
 obtain ⟨r,h1,h2,h3,h4⟩:=mJ (l:=l) (z:=zP l t k d (dY l t d h:Nat)) (w:=(eQ l t (zP l t k d (dY l t d h:Nat)) h.toNat (bG (cQ t l)) m).2) h.toNat
 obtain ⟨_,a2,a3⟩:=zY (BI (z:=zP l t k d (dY l t d h:Nat)) (H:=h.toNat) hs.l30 hs.tl (oY hs) m) r h2
 unfold rN rH
 rw[h3]
 exact ⟨a2,a3⟩
theorem Ep (hs:Sh l t k d) (m:Nat):(sf l k t d h m).Nodup:=by
 rw[xU]
 have:=(z7 (h:=h) hs m).1
 unfold List.Nodup at *
 rw[List.pairwise_map]
 exact this.imp (fun hab=>by omega)
theorem Lh (hs:Sh l t k d) (hc:bC l t d h=true) (hh:1≤h∧h≤10) {m T:Nat} (hm:m<dY l t d h) (hT:m≤T):gP l k t d h T m=(rN l k t d h m).length∧(∀ a b,a<b→b<gP l k t d h T m→fP l k t d h T m a<fP l k t d h T m b)∧∀ x,(∃ i,i<gP l k t d h T m∧fP l k t d h T m i=x)↔∃ c:Nat,c ∈ rN l k t d h m∧x=c:=by
 have h1:=(BE l k t d h hs hc hh m hm).1
 obtain ⟨a,b⟩:=Ln (Ep (h:=h) hs m) h1
 have e:gP l k t d h T m=(sf l k t d h m).length:=by unfold gP;rw[Nat.min_eq_left hT]
 have ef:fP l k t d h T m=wy (sf l k t d h m).length (ay (sf l k t d h m)):=by unfold fP;rw[e,Nat.min_eq_left hT]
 rw[e,ef]
 refine ⟨by rw[xU,List.length_map],a,fun x=>(b x).trans ?_⟩
 rw[xU,List.mem_map]
 exact ⟨fun ⟨c,q1,q2⟩=>⟨c,q1,q2.symm⟩,fun ⟨c,q1,q2⟩=>⟨c,q1,q2.symm⟩⟩
end
end Go.Eng
end
section
namespace Go.Eng
section
variable {l k:Nat} {t d:Nat→Int} {h:Int}
theorem Jg:∀ {n i:Nat},dP l k t d h n i=true→∃ m,m<n∧i ∈ rN l k t d h m
 | 0,i,hd=>by
   have:(fun _:Nat=>false) i=true:=hd
   cases this
 | n + 1,i,hd=>by
   rw[FB,Bool.or_eq_true,decide_eq_true_eq] at hd
   rcases hd with hd | hd
   · obtain ⟨m,a,b⟩:=Jg hd
     exact ⟨m,by omega,b⟩
   · exact ⟨n,by omega,hd⟩
theorem Jo {n m i:Nat} (hm:m<n) (hi:i ∈ rN l k t d h m):dP l k t d h n i=true:=by
 have:dP l k t d h (m+1) i=true:=by rw[FB,decide_eq_true hi,Bool.or_true]
 exact h9 (show m+1≤n by omega) this
theorem Le (hs:Sh l t k d) {m m' i:Nat} (h1:i ∈ rN l k t d h m) (h2:i ∈ rN l k t d h m'):m=m':=by
 have key:∀ {a b:Nat},a<b→i ∈ rN l k t d h a→i ∈ rN l k t d h b→False:=fun {a b} hab ha hb=>by
  have h1:=Jo hab ha
  have h2:=((z7 hs b).2 i hb).2
  rw[h1] at h2;cases h2
 rcases Nat.lt_trichotomy m m' with c | c | c
 · exact (key c h1 h2).elim
 · exact c
 · exact (key c h2 h1).elim
theorem Lc (hs:Sh l t k d) {y x my mx:Nat} (hy:y ∈ rN l k t d h my) (hx:x ∈ rN l k t d h mx) (hyx:t y=(x:Int)):my<mx:=by
 have hyl:=((z7 hs my).2 y hy)
 have hxl:=((z7 hs mx).2 x hx)
 have h1:dP l k t d h (mx+1) x=true:=Jo (by omega) hx
 have h2:=(P9 hs.l30 hs.tl (oY hs) hyl.1 hxl.1 hyx (mx+1) h1).2
 have h2:dP l k t d h mx y=true:=h2
 apply Classical.byContradiction
 intro hc
 have h3:dP l k t d h my y=true:=h9 (show mx≤my by omega) h2
 rw[hyl.2] at h3;cases h3
theorem Lb (hs:Sh l t k d) (hc:bC l t d h=true) (hh:1≤h∧h≤10) {i:Nat} (hi:i<l):∃ m,m<dY l t d h∧((m:Nat):Int)+1≤d i∧i ∈ rN l k t d h m:=by
 have e:h=(h.toNat:Int):=by omega
 have:=Cp (H:=h.toNat) hs hc e i hi
 obtain ⟨m,a,b⟩:=Jg (k:=k) (h:=h) this
 have hz:=I9 hs i hi (dY l t d h)
 have:=Ha hs hc i hi
 exact ⟨m,by omega,by omega,b⟩
theorem Ld (hs:Sh l t k d) (hc:bC l t d h=true) (hh:1≤h∧h≤10) {m:Nat} (hm:m<dY l t d h):1≤(rN l k t d h m).length∧((rN l k t d h m).length:Int)≤h:=by
 have:=BE l k t d h hs hc hh m hm
 rw[xU,List.length_map] at this
 omega
end
end Go.Eng
end
section
namespace Go.Eng
theorem B8:∀ n,cn (fun _=>true) n=n
 | 0=>rfl
 | n+1=>by
   show cn (fun _=>true) n+1=n+1
   rw[B8 n]
theorem Hu {l:Nat} {z:Nat→Int} {c:Int} (h:ny l z c=false):0≤c∧c<l∧z c.toNat=0:=by
 unfold ny at h
 simp only[Bool.or_eq_false_iff,Bool.not_eq_false',Bool.and_eq_true,decide_eq_true_eq,decide_eq_false_iff_not,ne_eq,Classical.not_not] at h
 exact ⟨h.1.1,h.1.2,h.2⟩
section
variable {l m:Nat} {f:Nat→Nat→Int} {g:Nat→Nat}
def Nb (l:Nat) (f:Nat→Nat→Int) (g:Nat→Nat) (m:Nat):Prop:=∀ i,i<m→∀ j,j<g i→0≤f i j∧f i j<l∧fA (f i) ((i+1:Nat):Int) (cg f g i) j (f i j).toNat=0
theorem Gk (h:bV (mU l f g) m=false):Nb l f g m:=fun i hi j hj=>Hu (dR (dR h i hi) j hj)
theorem Dl {o:Nat→Int} {T:Int} {z:Nat→Int} {c:Nat} (hc:z c≠0):∀ J,(∀ j,j<J→fA o T z j (o j).toNat=0)→fA o T z J c=z c
 | 0,_=>rfl
 | J + 1,h=>by
   have ih:=Dl (o:=o) (T:=T) hc J (fun j hj=>h j (by omega))
   show uI (fA o T z J) (o J).toNat T c=z c
   unfold uI
   by_cases e:c=(o J).toNat
   · have:=h J (by omega)
     rw[← e,ih] at this
     exact absurd this hc
   · rw[if_neg e,ih]
theorem G6 {o:Nat→Int} {T:Int} {z:Nat→Int} (hT:T≠0) {j:Nat}:∀ J,j<J→(∀ j,j<J→fA o T z j (o j).toNat=0)→fA o T z J (o j).toNat=T
 | 0,hj,_=>by omega
 | J + 1,hj,h=>by
   show uI (fA o T z J) (o J).toNat T (o j).toNat=T
   unfold uI
   by_cases e:(o j).toNat=(o J).toNat
   · rw[if_pos e]
   · rw[if_neg e]
     have:j≠J:=fun e2=>e (by rw[e2])
     exact G6 hT J (by omega) (fun j hj=>h j (by omega))
theorem ya {o:Nat→Int} {T:Int} {z:Nat→Int} {c:Nat}:∀ J,fA o T z J c=z c∨∃ j,j<J∧(o j).toNat=c∧fA o T z J c=T
 | 0=>.inl rfl
 | J + 1=>by
   show uI (fA o T z J) (o J).toNat T c=z c∨∃ j,j<J+1∧(o j).toNat=c∧uI (fA o T z J) (o J).toNat T c=T
   unfold uI
   by_cases e:c=(o J).toNat
   · rw[if_pos e];exact .inr ⟨J,by omega,e.symm,rfl⟩
   · rw[if_neg e]
     rcases ya (o:=o) (T:=T) (z:=z) (c:=c) J with h | ⟨j,h1,h2,h3⟩
     · exact .inl h
     · exact .inr ⟨j,by omega,h2,h3⟩
theorem Ds {c:Nat} {i:Nat} (hc:cg f g i c≠0):∀ q,Nb l f g (i+q)→cg f g (i+q) c=cg f g i c
 | 0,_=>rfl
 | q+1,h=>by
   have ih:=Ds hc q (fun i' hi=>h i' (by omega))
   show fA (f (i+q)) ((i+q+1:Nat):Int) (cg f g (i+q)) (g (i+q)) c=_
   rw[Dl (by rw[ih];exact hc) _ (fun j hj=>(h (i+q) (by omega) j hj).2.2),ih]
theorem He (h:Nb l f g m) {i j:Nat} (hi:i<m) (hj:j<g i):cg f g m (f i j).toNat=((i+1:Nat):Int):=by
 have e1:cg f g (i+1) (f i j).toNat=((i+1:Nat):Int):=by
  show fA (f i) ((i+1:Nat):Int) (cg f g i) (g i) (f i j).toNat=_
  exact G6 (by omega) (g i) hj (fun j hj=>(h i hi j hj).2.2)
 obtain ⟨q,rfl⟩:∃ q,m=i+1+q:=⟨m-(i+1),by omega⟩
 rw[Ds (by rw[e1];omega) q h,e1]
theorem yf {c:Nat}:∀ m,cg f g m c≠0→∃ i,i<m∧∃ j,j<g i∧(f i j).toNat=c∧cg f g m c=((i+1:Nat):Int)
 | 0,h=>absurd rfl h
 | m + 1,h=>by
   have e:cg f g (m+1) c=fA (f m) ((m+1:Nat):Int) (cg f g m) (g m) c:=rfl
   rcases ya (o:=f m) (T:=((m+1:Nat):Int)) (z:=cg f g m) (c:=c) (g m) with h1 | ⟨j,h1,h2,h3⟩
   · rw[e,h1] at h
     obtain ⟨i,a,j,b,cc,dd⟩:=yf m h
     exact ⟨i,by omega,j,b,cc,by rw[e,h1];exact dd⟩
   · exact ⟨m,by omega,j,h1,h2,by rw[e,h3]⟩
theorem J1 {o:Nat→Int} {T:Int} {z:Nat→Int} (hT:T≠0):∀ J,(∀ j,j<J→0≤o j∧o j<l∧fA o T z j (o j).toNat=0)→cn (fun c=>decide (fA o T z J c≠0)) l=cn (fun c=>decide (z c≠0)) l+J
 | 0,_=>rfl
 | J+1,h=>by
   have ih:=J1 (o:=o) (T:=T) (z:=z) hT J (fun j hj=>h j (by omega))
   obtain ⟨h1,h2,h3⟩:=h J (by omega)
   rw[gT (p:=fun c=>decide (fA o T z J c≠0)) (q:=fun c=>decide (fA o T z (J+1) c≠0)) (i:=(o J).toNat) (by simp[h3]) (by
    show decide (uI (fA o T z J) (o J).toNat T (o J).toNat≠0)=true
    unfold uI
    rw[if_pos rfl];simpa using hT) (fun j _ hj=>by
    show decide (uI (fA o T z J) (o J).toNat T j≠0)=_
    unfold uI
    rw[if_neg hj]) (by omega),ih,Nat.add_assoc]
theorem Dr:∀ m,Nb l f g m→cn (fun c=>decide (cg f g m c≠0)) l=bw g m
 | 0,_=>mW (fun j _=>by show decide (Int.ofNat 0≠0)=false;decide)
 | m+1,h=>by
   have ih:=Dr m (fun i hi=>h i (by omega))
   have:=J1 (l:=l) (o:=f m) (T:=((m+1:Nat):Int)) (z:=cg f g m) (by omega) (g m) (h m (by omega))
   rw[ih] at this
   exact this
theorem G1 (h:nk l m f g=0):m≤40∧Nb l f g m∧bw g m=l:=by
 unfold nk at h
 by_cases c:40<m
 · rw[if_pos c] at h;omega
 · rw[if_neg c] at h
   by_cases c2:bV (mU l f g) m=true∨bw g m≠l
   · rw[if_pos c2] at h;omega
   · refine ⟨by omega,Gk ?_,?_⟩
     · cases e:bV (mU l f g) m with
       | false=>rfl
       | true=>exact absurd (.inl e) c2
     · exact Classical.byContradiction (fun h=>c2 (.inr h))
theorem Oc (hm:m≤40) (hb:bV (mU l f g) m=false) (ht:bw g m=l):nk l m f g=0:=by
 unfold nk
 rw[if_neg (by omega),if_neg (by rw[hb,ht];simp)]
theorem Dt (h:nk l m f g=0) {c:Nat} (hc:c<l):∃ i,i<m∧(∃ j,j<g i∧f i j=(c:Int))∧cg f g m c=((i+1:Nat):Int):=by
 obtain ⟨h1,h2,h3⟩:=G1 h
 have:=B7 (p:=fun c=>decide (cg f g m c≠0)) (n:=l) (by rw[Dr m h2,h3]) c hc
 obtain ⟨i,a,j,b,e1,e2⟩:=yf m (by simpa using this)
 have:=(h2 i a j b).1
 exact ⟨i,a,⟨j,b,by omega⟩,e2⟩
theorem G3 {h:Int} {T:Nat} (hg:∀ i,i<T→(g i:Int)≤h):∀ i,i≤T→(bw g i:Int)≤h*i
 | 0,_=>by show ((0:Nat):Int)≤h*((0:Nat):Int);simp
 | i+1,hi=>by
   have ih:=G3 hg i (by omega)
   have:=hg i (by omega)
   show ((bw g i+g i:Nat):Int)≤h*((i+1:Nat):Int)
   rw[Int.natCast_add,Int.natCast_add,Int.mul_add]
   simp only[Int.natCast_one,Int.mul_one]
   omega
theorem Ja (h:nk l m f g=0) {hh:Int} (h0:0≤hh) (hg:∀ i,i<m→(g i:Int)≤hh) (T:Nat):(cn (fun c=>decide (cg f g m c≤(T:Int))) l:Int)≤hh*T:=by
 obtain ⟨h1,h2,h3⟩:=G1 h
 by_cases c:m≤T
 · have a:=G3 hg m (Nat.le_refl _)
   have b:=oO (fun c=>decide (cg f g m c≤(T:Int))) l
   have d:hh*(m:Int)≤hh*(T:Int):=Int.mul_le_mul_of_nonneg_left (by omega) h0
   omega
 · have hT:Nb l f g T:=fun i hi=>h2 i (by omega)
   have a:=Dr T hT
   have b:=G3 hg T (by omega)
   have:cn (fun c=>decide (cg f g m c≤(T:Int))) l≤cn (fun c=>decide (cg f g T c≠0)) l:=kU (fun c hc hp=>by
    obtain ⟨i,q1,⟨j,q2,q3⟩,q4⟩:=Dt h hc
    have q5:cg f g m c≤(T:Int):=by simpa using hp
    have:=He hT (i:=i) (j:=j) (by omega) q2
    rw[q3,Int.toNat_natCast] at this
    rw[decide_eq_true_eq,this]
    omega)
   omega
theorem Nv {t z:Nat→Int} (h:bV (pV t z) l=false) {j:Nat} (hj:j<l) (h0:0≤t j):z j<z (t j).toNat:=by
 have:=dR h j hj
 unfold pV at this
 rw[decide_eq_true h0,Bool.true_and,decide_eq_false_iff_not] at this
 omega
theorem BD {t z:Nat→Int} (hf:Fw l t) (hr:∀ j,j<l→0≤t j→z j<z (t j).toNat) {i:Nat} (hi:i<l):∀ q,q<eP l t i→z i+q≤z (bE t q (i:Int)).toNat
 | 0,_=>by
   show z i+((0:Nat):Int)≤z ((i:Int)).toNat
   rw[Int.toNat_natCast];omega
 | q+1,hq=>by
   have ih:=BD hf hr hi q (by omega)
   have h1:=(lx hf hi q (by omega)).1
   have h2:=(lx hf hi (q+1) hq).1
   have h3:=fz hf.tl (x:=(i:Int)) (by omega) q
   rw[pN h1] at h2 ⊢
   have:=hr (bE t q (i:Int)).toNat (by omega) h2
   omega
theorem yr {t e:Nat→Int} {hh:Int} (hf:Fw l t) (h:nk l m f g=0) (h0:0≤hh) (hg:∀ i,i<m→(g i:Int)≤hh) (hr:∀ j,j<l→0≤t j→cg f g m j<cg f g m (t j).toNat) (he:∀ j,j<l→cg f g m j≤e j):bC l t e hh=true:=by
 refine (oN l t e hh).2 (fun T hT=>?_)
 have:=Ja h h0 hg T
 have:Fv l t e T≤cn (fun c=>decide (cg f g m c≤(T:Int))) l:=kU (fun c hc hp=>by
  have a:nZ l t e c≤T:=by simpa using hp
  have b:cg f g m c≤nZ l t e c:=(rp hf hc).2 (fun q hq=>by
   have:=BD hf hr hc q hq
   have h1:=(lx hf hc q hq).1
   have h2:=fz hf.tl (x:=(c:Int)) (by omega) q
   have:=he (bE t q (c:Int)).toNat (by omega)
   omega)
  rw[decide_eq_true_eq];omega)
 omega

end
section
variable {l k:Nat} {t d:Nat→Int} {h:Int} {m:Nat} {f:Nat→Nat→Int} {g:Nat→Nat}
structure Rp (l k:Nat) (t d:Nat→Int) (h:Int) (m:Nat) (f:Nat→Nat→Int) (g:Nat→Nat):Prop where
 sh:Sh l t k d
 h1:1≤h
 h10:h≤10
 tn:nk l m f g=0
 gh:∀ i,i<m→(g i:Int)≤h
 ru:∀ j,j<l→0≤t j→cg f g m j<cg f g m (t j).toNat
 la:∀ j,j<l→cg f g m j≤d j
theorem JC (hc:qU l k t d h m f g=0):Rp l k t d h m f g:=by
 unfold qU at hc
 by_cases a:dj l t k d h=0
 · rw[if_neg (by rw[a];decide)] at hc
   by_cases b:nk l m f g=0
   · rw[if_neg (by rw[b];decide)] at hc
     cases e1:bV (r8 h g) m with
     | true=>rw[e1] at hc;simp at hc
     | false =>
       cases e2:bV (pV t (cg f g m)) l with
       | true=>rw[e1,e2] at hc;simp at hc
       | false =>
         cases e3:bV (qv d (cg f g m)) l with
         | true=>rw[e1,e2,e3] at hc;simp at hc
         | false =>
           obtain ⟨s,s1,s2⟩:=ma a
           refine ⟨s,s1,s2,b,fun i hi=>?_,fun j hj h0=>Nv e2 hj h0,fun j hj=>?_⟩
           · have:=dR e1 i hi
             unfold r8 at this
             rw[decide_eq_false_iff_not] at this
             omega
           · have:=dR e3 j hj
             unfold qv at this
             rw[decide_eq_false_iff_not] at this
             omega
   · rw[if_pos b] at hc;exact absurd hc b
 · rw[if_pos a] at hc;exact absurd hc a
theorem Nu (r:Rp l k t d h m f g):qU l k t d h m f g=0:=by
 unfold qU
 have a:=AW r.sh r.h1 r.h10
 rw[if_neg (by rw[a];decide),if_neg (by rw[r.tn];decide),if_neg,if_neg,if_neg]
 · intro e
   obtain ⟨j,j1,j2⟩:=(dm _ _).1 e
   have:=r.la j j1
   unfold qv at j2
   rw[decide_eq_true_eq] at j2
   omega
 · intro e
   obtain ⟨j,j1,j2⟩:=(dm _ _).1 e
   unfold pV at j2
   rw[Bool.and_eq_true,decide_eq_true_eq,decide_eq_true_eq] at j2
   have:=r.ru j j1 j2.1
   omega
 · intro e
   obtain ⟨j,j1,j2⟩:=(dm _ _).1 e
   have:=r.gh j j1
   unfold r8 at j2
   rw[decide_eq_true_eq] at j2
   omega
theorem Li (r:Rp l k t d h m f g):bC l t d h=true:=yr r.sh.fw r.tn (by have:=r.h1;omega) r.gh r.ru r.la
theorem IL (r:Rp l k t d h m f g) {c:Nat} (hc:c<l):1≤cg f g m c∧cg f g m c≤m:=by
 obtain ⟨i,a,_,b⟩:=Dt r.tn hc
 omega
theorem IK (hs:Sh l t k d) (hc:bC l t d h=true) (h1:1≤h) (h10:h≤10):Rp l k t d h (dY l t d h) (fP l k t d h (dY l t d h-1)) (gP l k t d h (dY l t d h-1)):=by
 have row:∀ i,i<dY l t d h→_:=fun i hi=>Lh hs hc ⟨h1,h10⟩ (T:=dY l t d h-1) hi (by omega)
 have hlen:∀ i,i<dY l t d h→(gP l k t d h (dY l t d h-1) i:Int)≤h:=fun i hi=>by
  have:=Ld hs hc ⟨h1,h10⟩ hi
  rw[(row i hi).1];exact this.2
 obtain ⟨T1,T40⟩:=(lQ hs hc).2
 generalize dY l t d h-1=T at *
 have cell:∀ i,i<dY l t d h→∀ j,j<gP l k t d h T i→∃ c:Nat,c ∈ rN l k t d h i∧fP l k t d h T i j=c:=fun i hi j hj=>by
  exact ((row i hi).2.2 _).1 ⟨j,hj,rfl⟩
 have nb:∀ i,i<dY l t d h→∀ j,j<gP l k t d h T i→ny l (fA (fP l k t d h T i) ((i+1:Nat):Int) (cg (fP l k t d h T) (gP l k t d h T) i) j) (fP l k t d h T i j)=false:=fun i hi j hj=>by
  obtain ⟨c,c1,c2⟩:=cell i hi j hj
  have hcl:=((z7 (h:=h) hs i).2 c c1).1
  unfold ny
  rw[c2,Int.toNat_natCast,decide_eq_true (show (0:Int)≤(c:Int) by omega),decide_eq_true (show (c:Int)<l by omega)]
  have:fA (fP l k t d h T i) ((i+1:Nat):Int) (cg (fP l k t d h T) (gP l k t d h T) i) j c=0:=by
   apply Classical.byContradiction
   intro hne
   rcases ya (o:=fP l k t d h T i) (T:=((i+1:Nat):Int)) (z:=cg (fP l k t d h T) (gP l k t d h T) i) (c:=c) j with e | ⟨j',e1,e2,_⟩
   · rw[e] at hne
     obtain ⟨i',q1,j',q2,q3,_⟩:=yf i hne
     obtain ⟨c',c3,c4⟩:=cell i' (by omega) j' q2
     rw[c4,Int.toNat_natCast] at q3
     subst q3
     have:=Le hs c1 c3
     omega
   · have:=(row i hi).2.1 j' j e1 hj
     obtain ⟨c',c3,c4⟩:=cell i hi j' (by omega)
     rw[c4,Int.toNat_natCast] at e2
     rw[c4,c2] at this
     omega
  rw[this];rfl
 have hb:bV (mU l (fP l k t d h T) (gP l k t d h T)) (dY l t d h)=false:=jT (fun i hi=>jT (fun j hj=>nb i hi j hj))
 have hset:∀ c,c<l→∃ i,i<dY l t d h∧c ∈ rN l k t d h i∧((i:Nat):Int)+1≤d c∧cg (fP l k t d h T) (gP l k t d h T) (dY l t d h) c=((i+1:Nat):Int):=fun c hcl=>by
  obtain ⟨i,i1,i2,i3⟩:=Lb hs hc ⟨h1,h10⟩ hcl
  obtain ⟨j,j1,j2⟩:=((row i i1).2.2 (c:Int)).2 ⟨c,i3,rfl⟩
  have:=He (Gk hb) i1 j1
  rw[j2,Int.toNat_natCast] at this
  exact ⟨i,i1,i3,i2,this⟩
 have htot:bw (gP l k t d h T) (dY l t d h)=l:=by
  rw[← Dr (l:=l) (f:=fP l k t d h T) (dY l t d h) (Gk hb)]
  have:cn (fun c=>decide (cg (fP l k t d h T) (gP l k t d h T) (dY l t d h) c≠0)) l=cn (fun _=>true) l:=eT (fun c hcl=>by
   obtain ⟨i,_,_,_,e⟩:=hset c hcl
   rw[e]
   exact decide_eq_true (by omega))
  rw[this,B8]
 refine ⟨hs,h1,h10,Oc T40 hb htot,hlen,fun j hj h0=>?_,fun j hj=>?_⟩
 · have htl:=hs.tl j hj
   obtain ⟨i,_,i2,_,e⟩:=hset j hj
   obtain ⟨i',_,i2',_,e'⟩:=hset (t j).toNat (by omega)
   have:=Lc hs i2 i2' (by omega)
   rw[e,e'];omega
 · obtain ⟨i,_,_,i3,e⟩:=hset j hj
   rw[e];omega
end
end Go.Eng
end
section
namespace Go.Eng
open Go.Proofs
section
variable {m m':Nat} {f f':Nat→Nat→Int} {g g':Nat→Nat}
theorem C4 (h:dA m f g=dA m' f' g'):m=m'∧f=f'∧g=g':=by
 unfold dA b6 at h
 injection h with _ h1 _ h2 _
 injection h1 with h3 _
 refine ⟨h2,?_,?_⟩
 · funext j
   have:=congrFun h3 j
   injection this with _ a _ _ _
   injection a with a
   injection a with a _
   injection a with _ a _
 · funext j
   have:=congrFun h3 j
   injection this with _ _ _ a _
end
noncomputable def Jf (l k:Nat) (t d:Nat→Int) (h:Int) (c:AV):Int:=by
 classical exact if e:∃ q:Nat×(Nat→Nat→Int)×(Nat→Nat),c=dA q.1 q.2.1 q.2.2 then qU l k t d h e.choose.1 e.choose.2.1 e.choose.2.2 else 0
theorem A9 (l k:Nat) (t d:Nat→Int) (h:Int) (m:Nat) (f:Nat→Nat→Int) (g:Nat→Nat):Jf l k t d h (dA m f g)=qU l k t d h m f g:=by
 have e:∃ q:Nat×(Nat→Nat→Int)×(Nat→Nat),dA m f g=dA q.1 q.2.1 q.2.2:=⟨(m,f,g),rfl⟩
 unfold Jf
 rw[dif_pos e]
 obtain ⟨a,b,c⟩:=C4 e.choose_spec
 rw[← a,← b,← c]
def LM (c:AV):Prop:=∃ (m:Nat) (f:Nat→Nat→Int) (g:Nat→Nat),c=dA m f g∧m≤50∧∀ i,i<m→g i≤40
section
variable (n l k:Nat) (t d:Nat→Int) (h:Int) (m:Nat) (f:Nat→Nat→Int) (g:Nat→Nat) (H:aa)
end
end Go.Eng
end
section
namespace Go.Eng
open Go.Proofs
section
variable (n l k:Nat) (t d:Nat→Int) (h w:Int) (m:Nat) (f:Nat→Nat→Int) (g:Nat→Nat) (H:aa)
end
end Go.Eng
end
section
namespace Go.Eng
open Go.Proofs
section
variable (n l k:Nat) (t d z:Nat→Int) (H:aa)
end
end Go.Eng
end
section
namespace Go.Eng
open Go.Proofs
section
variable (n l k:Nat) (t d:Nat→Int) (H:aa)
end
end Go.Eng
end
section
namespace Go.Eng
open Go.Proofs
section
variable (l:Nat) (t:Nat→Int) (k:Nat) (hv:Int) (z:Nat→Int)
noncomputable def cS:Int:=fE l k t z hv
end
theorem IS {l k:Nat} {t d e:Nat→Int} (h:Sh l t k d) (he:∀ j,j<l→1≤e j∧e j≤40):Sh l t k e :=
 ⟨h.l1,h.l30,h.kl,h.tl,h.tm,h.tj,fun j hj=>(he j hj).1,fun j hj=>(he j hj).2,h.cyc⟩
section
variable {l k:Nat} {t d:Nat→Int} {hv:Int} {T:Nat}
end
section
variable (n l k:Nat) (t d:Nat→Int) (H:aa)
end
end Go.Eng
end
