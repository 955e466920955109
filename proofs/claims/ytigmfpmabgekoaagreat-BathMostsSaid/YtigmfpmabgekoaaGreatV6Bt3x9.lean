/- Bath: Mosts as it is defined: all lists of last births. -/
import Derived.Test.YtigmfpmabgekoaaGreatV6Bqmx10
import Derived.Test.YtigmfpmabgekoaaGreatV6Bak0x6
set_option linter.unusedVariables false
set_option linter.unusedSimpArgs false
set_option maxRecDepth 100000
section
namespace Go.Eng
open Go.Proofs
noncomputable def qj (l:Nat) (z:Nat→Int) (a j:Int):au:=[(0,aO 5 l z),(1,.nils),(5,.int .i64 a),(6,.int .i64 j)]
noncomputable def H5 (l:Nat) (z:Nat→Int):List AV→Option (Prop×AV)
 | [.slcT none (.M [.arr .i64 z' N]) 5 l' false,.nils,.int .i64 q]=>some (z'=z∧N=bg l 5∧l'=l,.bool false)
 | _=>none
theorem Km (n l:Nat) (z:Nat→Int) (a j:Int) (H:aa):aP (bt n 39 25) (il (ly aT 73 (H5 l z)) n 0) a6 a7 (part Tryz.f39 [1,1,0,1,0,0]) (hints (qj l z a j)) (aH::H) =
 Tr.ite (cP j (Int.ofNat l)) (Tr.reqP (z=z∧bg l 5=bg l 5∧l=l) (Tr.ite false (Tr.req (dY j l) (Tr.req (bX (aq (aD 0 j 5) 4) (bg l 5)) (Tr.ok (Ex.normal,[(0,aO 5 l z,none),(1,AV.nils,none),(5,AV.int .i64 (bk .i64 a (z (aq (aD 0 j 5) 4))),none),(6,AV.int .i64 (bk .i64 j (Int.ofNat 1)),none)],aH::H)))) (Tr.ok (Ex.normal,[(0,aO 5 l z,none),(1,AV.nils,none),(5,AV.int .i64 a,none),(6,AV.int .i64 (bk .i64 j (Int.ofNat 1)),none)],aH::H)))) (Tr.ok (Ex.exit 0,[(0,aO 5 l z,none),(1,AV.nils,none),(5,AV.int .i64 a,none),(6,AV.int .i64 j,none),(10,AV.bool false,some 1)],aH::H)):=by kernel_rfl
theorem NV (n l:Nat) (z:Nat→Int) (a:Int) (H:aa):bK Tryz.prog (cd n) 100000 39 Tryz.f39 (KtB.kt 39) (il aT n 0) (eT a6 0 (qj l z (Int.ofNat 0) (Int.ofNat 0)) (aH::H) (.ok (.normal,hints (qj l z a (Int.ofNat l)++[(10,.bool false)]),aH::H))) a7 [(aO 5 l z,none),(.nils,none)] H =
 (fun (Z0:au)=>Tr.reqP (Z0=Z0∧aH::H=aH::H) (Tr.ok ((AV.int .i64 a,none),H))) [(0,aO 5 l z),(1,AV.nils),(5,AV.int .i64 (Int.ofNat 0)),(6,AV.int .i64 (Int.ofNat 0))]:=by kernel_rfl
theorem Lg:∀ b,(0,b) ∈ aV (bQ Tryz.f39)→b=.loop (part Tryz.f39 [1,1,0,1,0,0]):=gM (by kernel_rfl)
theorem Jn (z:Nat→Int) (S:List Int) (i:Nat):BH z (aL S) S.length i=jl (c5 z) (cB z) S i:=by
 rw[Bool.eq_iff_iff,jR]
 unfold BH
 rw[ko]
 constructor
 · rintro ⟨j,hj,e⟩
   have e2:pB z (aL S j) (i:Int)=uf z (aL S j) i:=by unfold pB;rw[Int.toNat_natCast]
   rw[← e2,D5,Int.toNat_natCast] at e
   exact ⟨aL S j,oG S j hj,e⟩
 · rintro ⟨x,hx,e⟩
   obtain ⟨j,hj,rfl⟩:=vN hx
   refine ⟨j,hj,?_⟩
   have e2:pB z (aL S j) (i:Int)=uf z (aL S j) i:=by unfold pB;rw[Int.toNat_natCast]
   rw[← e2,D5,Int.toNat_natCast]
   exact e
theorem rr (z:Nat→Int) (S:List Int):∀ l,tn z S.length (aL S) l=tg l (c5 z) (cB z) (eB z) S
 | 0=>rfl
 | l+1=>by
   have ih:=rr z S l
   show (if BH z (aL S) S.length l=true then tn z S.length (aL S) l+z (l*5+4) else tn z S.length (aL S) l)=tg l (c5 z) (cB z) (eB z) S+(if jl (c5 z) (cB z) S l=true then eB z l else 0)
   rw[Jn,ih]
   by_cases c:jl (c5 z) (cB z) S l=true
   · rw[if_pos c,if_pos c];rfl
   · rw[if_neg c,if_neg c];omega
theorem Lv (n l:Nat) (z:Nat→Int) (a:Int) (H:aa):cd (n+1) (.fn 73) [.slcT none (.M [.arr .i64 z (bg l 5)]) 5 l false,.nils,.int .i64 a] H=some (.bool false,H):=by
 have h73:=Lw n l z H a
 unfold aO at h73
 rw[b7,← g8] at h73
 exact h73
theorem Jg (n l:Nat) (z:Nat→Int) (H:aa) (hl:l≤14):cd (n+2) (.fn 39) [aO 5 l z,.nils] H=some (.int .i64 0,H):=by
 have hC:(il (ly aT 73 (H5 l z)) (n+1) 0).Ok (cd (n+1)):=cY _ _ (fD (bp _) (fun args p v hg hp H=>by
  unfold H5 at hg
  split at hg
  · simp only[nP] at hg
    obtain ⟨rfl,rfl⟩:=hg
    obtain ⟨rfl,rfl,rfl⟩:=hp
    exact Lv _ _ _ _ _
  · cases hg))
 have hx:exec (bt (n+1) 39 25) (.block 0 (.loop (part Tryz.f39 [1,1,0,1,0,0]))) (qj l z (Int.ofNat 0) (Int.ofNat 0)) (aH::H)=some (.normal,qj l z (Int.ofNat 0) (Int.ofNat l)++[(10,.bool false)],aH::H):=by
  refine iR 0 (fun j=>qj l z (Int.ofNat 0) (j:Nat)) (fun _=>aH::H) l (qj l z (Int.ofNat 0) (Int.ofNat l)++[(10,.bool false)],aH::H) (by omega) (fun j hj=>?_) ?_
  · have e1:bk .i64 (j:Int) (Int.ofNat 1)=((j+1:Nat):Int):=lx (by omega)
    refine az (Km (n+1) l z (Int.ofNat 0) (j:Nat) H) hC (af _ _) (ag _ _) ?_
    rw[e1]
    exact wF
  · obtain ⟨q,q1,rfl⟩:=az (Q:=fun q=>q=(.exit 0,qj l z (Int.ofNat 0) (Int.ofNat l)++[(10,.bool false)],aH::H)) (Km (n+1) l z (Int.ofNat 0) (Int.ofNat l) H) hC (af _ _) (ag _ _) (by
     refine Tr.aj (fun hc=>?_) (fun hc=>Tr.ar rfl)
     simp (disch:=omega) only[nV,nW] at hc;omega)
    exact q1
 refine bw (n:=n+1) Tryz.func39 rfl rfl rfl (NV (n+1) l z (Int.ofNat 0) H) (aB _) (bu (af _ _) Lg (fun x h=>by rw[← Tr.ab h];simp only[fz.st,aN];exact hx)) (ag _ _) ?_
 exact wF
section
variable (n N l:Nat) (z o:Nat→Int) (H:aa)
theorem MH (w m b:Nat) (a:Nat→Int) (hm:m≤14) (hb:b<2 ^ 62):exec (bt n 40 105) (.block 6 (.loop (part Tryz.f40 [1,1,1,1,0,1,0,0,1,0,0,1,0,1,0,0]))) (jJ N l m z a (b:Nat) .nils (Int.ofNat 0)) (⟨false,[fV N o,(w,.dead)]⟩::H)=some (.normal,jJ N l m z a (b:Nat) (IU (lg a b m)) (Int.ofNat m)++[(57,.bool false)],Ir N w o (lg a b m)::H):=by
 refine iR 6 (fun i=>jJ N l m z a (b:Nat) (IU (lg a b i)) (i:Nat)) (fun i=>Ir N w o (lg a b i)::H) m (jJ N l m z a (b:Nat) (IU (lg a b m)) (Int.ofNat m)++[(57,.bool false)],Ir N w o (lg a b m)::H) (by omega) (fun i hi=>?_) ?_
 · have e1 : bk .i64 (i:Int) (Int.ofNat 1)=((i+1:Nat):Int):=lx (by omega)
   have ei:aD 0 (i:Int) 1=i:=by rw[bS];omega
   have hbit:=Fg (S:=b) (i:=i) hb (by omega)
   have hlen:=vV a b i
   rw[sO]
   cases e:lg a b i with
   | nil =>
     refine az (Hg n N l m w z a o (b:Nat) (i:Nat) H) (aB n) (af _ _) (ag _ _) ?_
     rw[e1,ei,hbit]
     cases decide (b / 2 ^ i % 2=1) with
     | true =>
       rw[if_pos rfl]
       clear hbit
       repeat' first | (refine Tr.aj (fun hc=>?_) (fun hc=>?_)<;>(try simp (disch:=omega) only[nV,nW] at hc)<;>(try (exfalso;omega))) | (refine Tr.bm ?_ ?_;· ((try simp (disch:=omega) only[nV,nW]);try omega)) | (refine Tr.aF ?_ ?_;· first | exact trivial | rfl | exact ⟨rfl,rfl⟩ | exact ⟨trivial,rfl⟩ | exact ⟨rfl,by assumption⟩ | exact ⟨trivial,by assumption⟩ | exact ⟨rfl,rfl,rfl⟩ | (simp (disch:=omega) only[nV,nW];done) | ((try simp (disch:=omega) only[nV,nW]);omega)) | fail
       all_goals first
        | (refine Tr.ar ⟨rfl,?_⟩
           kernel_rfl)
        | fail
     | false =>
       rw[if_neg (by simp)]
       clear hbit
       exact wF
   | cons a0 r =>
     rw[e] at hlen
     simp only[List.length_cons] at hlen
     have e2:=mi (a0::r) (a i)
     simp only[List.length_cons] at e2
     have e3:aq (r.length+1) 1=r.length+1+1:=by rw[ba]
     have e4:(r++[a i]).length=r.length+1:=by simp
     refine az (Kp n N l m w r.length (r.length+1) z a o (aL (a0::r)) (b:Nat) (i:Nat) H) (aB n) (af _ _) (ag _ _) ?_
     rw[e1,ei,hbit,e2,e3]
     cases decide (b / 2 ^ i % 2=1) with
     | true =>
       rw[if_pos rfl]
       clear hbit
       repeat' first | (refine Tr.aj (fun hc=>?_) (fun hc=>?_)<;>(try simp (disch:=omega) only[nV,nW] at hc)<;>(try (exfalso;omega))) | (refine Tr.bm ?_ ?_;· ((try simp (disch:=omega) only[nV,nW]);try omega)) | (refine Tr.aF ?_ ?_;· first | exact trivial | rfl | exact ⟨rfl,rfl⟩ | exact ⟨trivial,rfl⟩ | exact ⟨rfl,by assumption⟩ | exact ⟨trivial,by assumption⟩ | exact ⟨rfl,rfl,rfl⟩ | (simp (disch:=omega) only[nV,nW];done) | ((try simp (disch:=omega) only[nV,nW]);omega)) | fail
       all_goals first
        | (refine Tr.ar ⟨rfl,?_⟩
           show _=(jJ N l m z a (b:Nat) (.slc 0 2 (r++[a i]).length 0 1 ((r++[a i]).length+1) none) ((i+1:Nat):Int),(⟨false,[fV N o,(w,.dead),kK (r++[a i]).length ((r++[a i]).length+1) (aL (a0::(r++[a i])))]⟩:bo)::H)
           rw[e4];kernel_rfl)
        | fail
     | false =>
       rw[if_neg (by simp)]
       clear hbit
       exact wF
 · cases e:lg a b m with
   | nil =>
     obtain ⟨q,q1,rfl⟩:=az (Q:=fun q=>q=(.exit 6,jJ N l m z a (b:Nat) .nils (Int.ofNat m)++[(57,.bool false)],(⟨false,[fV N o,(w,.dead)]⟩:bo)::H)) (Hg n N l m w z a o (b:Nat) (Int.ofNat m) H) (aB n) (af _ _) (ag _ _) (by
      refine Tr.aj (fun hc=>?_) (fun hc=>Tr.ar rfl)
      simp (disch:=omega) only[nV,nW] at hc;omega)
     exact q1
   | cons a0 r =>
     obtain ⟨q,q1,rfl⟩:=az (Q:=fun q=>q=(.exit 6,jJ N l m z a (b:Nat) (.slc 0 2 r.length 0 1 (r.length+1) none) (Int.ofNat m)++[(57,.bool false)],(⟨false,[fV N o,(w,.dead),kK r.length (r.length+1) (aL (a0::r))]⟩:bo)::H)) (Kp n N l m w r.length (r.length+1) z a o (aL (a0::r)) (b:Nat) (Int.ofNat m) H) (aB n) (af _ _) (ag _ _) (by
      refine Tr.aj (fun hc=>?_) (fun hc=>Tr.ar rfl)
      simp (disch:=omega) only[nV,nW] at hc;omega)
     exact q1
theorem MI (w:Nat) (g:Nat→Nat→Int) (hg:∀ j,fS (g j) (j+1) (max (g j (j+1)) (g j j))=g (j+1)):exec (bt n 40 105) (.block 8 (.loop (part Tryz.f40 [1,1,1,1,1,0,1,0,0]))) (qk 15 (Int.ofNat 1)) (⟨false,[fV 15 (g 0),(w,.dead)]⟩::H)=some (.normal,qk 15 (Int.ofNat 15)++[(88,.bool false)],⟨false,[fV 15 (g 14),(w,.dead)]⟩::H):=by
 refine iR 8 (fun j=>qk 15 ((j+1:Nat):Int)) (fun j=>⟨false,[fV 15 (g j),(w,.dead)]⟩::H) 14 (qk 15 (Int.ofNat 15)++[(88,.bool false)],⟨false,[fV 15 (g 14),(w,.dead)]⟩::H) (by omega) (fun j hj=>?_) ?_
 · have e1:bk .i64 ((j+1:Nat):Int) (Int.ofNat 1)=((j+1+1:Nat):Int):=lx (by omega)
   have e2:cD .i64 ((j+1:Nat):Int) (Int.ofNat 1)=(j:Int):=by rw[db,show Int.ofNat 1=1 from rfl,dv (by omega) (by omega)];omega
   have ei:aD 0 ((j+1:Nat):Int) 1=j+1:=by rw[bS];omega
   have ej:aD 0 (j:Int) 1=j:=by rw[bS];omega
   have hh:=hg j
   refine az (Kq n 15 w (g j) ((j+1:Nat):Int) H) (aB n) (af _ _) (ag _ _) ?_
   rw[e1,e2,ei,ej,DT,hh]
   exact wF
 · obtain ⟨q,q1,rfl⟩:=az (Q:=fun q=>q=(.exit 8,qk 15 (Int.ofNat 15)++[(88,.bool false)],(⟨false,[fV 15 (g 14),(w,.dead)]⟩:bo)::H)) (Kq n 15 w (g 14) (Int.ofNat 15) H) (aB n) (af _ _) (ag _ _) (by
    refine Tr.aj (fun hc=>?_) (fun hc=>Tr.ar rfl)
    simp (disch:=omega) only[nV,nW] at hc;omega)
   exact q1
end
end Go.Eng
end
section
namespace Go.Eng
open Go.Proofs
theorem Ko (n N l m w:Nat) (z a o:Nat→Int) (x:Int) (H:aa):aP (bt n 40 105) (il aT n 0) (mT a6 6) a7 (part Tryz.f40 [1,1,1,1,0,1,0,0]) (hints (mI N l m z a x)) (⟨false,[fV N o,(w,.dead)]⟩::H) =
 Tr.req (mK (Int.ofNat 0) (Int.ofNat m)) (Tr.ite (cP x (yE IntKind.i64 (Int.ofNat 1) (Int.ofNat m))) Tr.bad (Tr.ok (Ex.exit 4,[(0,aO 5 l z,none),(3,AV.slc 0 0 0 0 1 N (some N),none),(4,AV.slcT none (Row.M [aW.arr .i64 a m]) 1 m false,none),(8,AV.int .i64 x,none),(51,AV.bool false,some 1)],{ lock:=false,bs:=[(0,al.row (Row.M [aW.arr .i64 o N])),(w,al.dead)] } :: H))):=by kernel_rfl
theorem QO (n l v m:Nat) (z a o4 o8:Nat→Int) (x:Int) (H:aa):bK Tryz.prog (cd n) 100000 40 Tryz.f40 (KtB.kt 40) (il aT n 0) (eT (eT (eT a6 0 (qR (gI (Int.ofNat 15)) l z .nils (Int.ofNat 0)) (⟨false,[fV (gI (Int.ofNat 15)) (fun x=>Int.ofNat 0)]⟩::H) (.ok (.normal,hints (qR (gI (Int.ofNat 15)) l z (.slc 0 1 v 0 1 m none) (Int.ofNat l)++[(17,.bool false)]),⟨false,[fV (gI (Int.ofNat 15)) (fun x=>Int.ofNat 0),kK v m a]⟩::H))) 4 (mI (gI (Int.ofNat 15)) l m z a (Int.ofNat 0)) (⟨false,[fV (gI (Int.ofNat 15)) (fun x=>Int.ofNat 0),(v,.dead)]⟩::H) (.ok (.normal,hints (mI (gI (Int.ofNat 15)) l m z a x++[(51,.bool false)]),⟨false,[fV (gI (Int.ofNat 15)) o4,(v,.dead)]⟩::H))) 8 (qk (gI (Int.ofNat 15)) (Int.ofNat 1)) (⟨false,[fV (gI (Int.ofNat 15)) o4,(v,.dead)]⟩::H) (.ok (.normal,hints (qk (gI (Int.ofNat 15)) (Int.ofNat 15)++[(88,.bool false)]),⟨false,[fV (gI (Int.ofNat 15)) o8,(v,.dead)]⟩::H))) a7 [(aO 5 l z,none)] H =
 (fun (Z0:Nat×AV)=>((fun (Z1:Nat×al)=>((fun (Z2:bo)=>Tr.req (Is (Int.ofNat 15) (Int.ofNat 15) 8) (Tr.reqP ([(0,aO 5 l z),Z0,(4,AV.nils),(5,AV.int .i64 (Int.ofNat 0))]=[(0,aO 5 l z),Z0,(4,AV.nils),(5,AV.int .i64 (Int.ofNat 0))]∧{ lock:=false,bs:=[Z1] } :: H={ lock:=false,bs:=[Z1] } :: H) (Tr.req (dJ v v) (Tr.req (qu 0 m 0 m) (Tr.reqP ([(0,aO 5 l z),Z0,(4,AV.slcT none (Row.M [aW.arr .i64 (qL a 0) m]) 1 m false),(8,AV.int .i64 (Int.ofNat 0))]=[(0,aO 5 l z),Z0,(4,AV.slcT none (Row.M [aW.arr .i64 a m]) 1 m false),(8,AV.int .i64 (Int.ofNat 0))]∧{ lock:=false,bs:=[Z1,(v,al.dead)] } :: H={ lock:=false,bs:=[Z1,(v,al.dead)] } :: H) (Tr.reqP ([Z0,(12,AV.int .i64 (Int.ofNat 1))]=[Z0,(12,AV.int .i64 (Int.ofNat 1))]∧Z2::H=Z2::H) (Tr.req (dJ 0 0) (Tr.req (qu 0 (gI (Int.ofNat 15)) 0 (gI (Int.ofNat 15))) (Tr.ok ((AV.slcT none (Row.M [aW.arr .i64 (qL o8 0) (gI (Int.ofNat 15))]) 1 (gI (Int.ofNat 15)) (dJ (gI (Int.ofNat 15)) (gI (Int.ofNat 15))),none),H)))))))))) { lock:=false,bs:=[(0,al.row (Row.M [aW.arr .i64 o4 (gI (Int.ofNat 15))])),(v,al.dead)] })) (0,al.row (Row.M [aW.arr .i64 (fun x=>Int.ofNat 0) (gI (Int.ofNat 15))])))) (3,AV.slc 0 0 0 0 1 (gI (Int.ofNat 15)) (some (gI (Int.ofNat 15)))):=by kernel_rfl
section
variable (n l:Nat) (z:Nat→Int) (H:aa)
theorem MG (v m:Nat) (a:Nat→Int) (h:bY l z=0) (hm:m≤9):exec (bt (n+5) 40 105) (.block 4 (.loop (part Tryz.f40 [1,1,1,1,0,1,0,0]))) (mI 15 l m z a (Int.ofNat 0)) (⟨false,[fV 15 (fun x=>Int.ofNat 0),(v,.dead)]⟩::H)=some (.normal,mI 15 l m z a ((2 ^ m:Nat):Int)++[(51,.bool false)],⟨false,[fV 15 (o9 l (c5 z) (cB z) (eB z) a m (2 ^ m)),(v,.dead)]⟩::H):=by
 obtain ⟨hl,_⟩:=cM h
 have hp:2 ^ m≤512:=Nat.pow_le_pow_right (n:=2) (by decide) hm
 have es:yE .i64 (Int.ofNat 1) (Int.ofNat m)=((2 ^ m:Nat):Int):=GG (by omega)
 generalize hB:2 ^ m=B at *
 refine iR 4 (fun b=>mI 15 l m z a (b:Nat)) (fun b=>⟨false,[fV 15 (o9 l (c5 z) (cB z) (eB z) a m b),(v,.dead)]⟩::H) B (mI 15 l m z a ((B:Nat):Int)++[(51,.bool false)],⟨false,[fV 15 (o9 l (c5 z) (cB z) (eB z) a m B),(v,.dead)]⟩::H) (by omega) (fun b hb=>?_) ?_
 · have e1:bk .i64 (b:Int) (Int.ofNat 1)=((b+1:Nat):Int):=lx (by omega)
   have hlen:=vV a b m
   have hx:=MH (n+5) 15 l z (o9 l (c5 z) (cB z) (eB z) a m b) H v m b a (by omega) (by omega)
   have hO:fS (o9 l (c5 z) (cB z) (eB z) a m b) (lg a b m).length (max (o9 l (c5 z) (cB z) (eB z) a m b (lg a b m).length) (tg l (c5 z) (cB z) (eB z) (lg a b m)))=o9 l (c5 z) (cB z) (eB z) a m (b+1):=by
    rw[rp]
    funext x
    show _=(if (lg a b m).length=x then max (o9 l (c5 z) (cB z) (eB z) a m b x) (tg l (c5 z) (cB z) (eB z) (lg a b m)) else o9 l (c5 z) (cB z) (eB z) a m b x)
    by_cases c:x=(lg a b m).length
    · rw[if_pos c,if_pos c.symm,c]
    · rw[if_neg c,if_neg (fun h=>c h.symm)]
   have hw:=rr z (lg a b m) l
   generalize tg l (c5 z) (cB z) (eB z) (lg a b m)=wo at *
   generalize o9 l (c5 z) (cB z) (eB z) a m (b+1)=o2 at *
   generalize o9 l (c5 z) (cB z) (eB z) a m b=o at *
   generalize lg a b m=S at *
   cases S with
   | nil =>
     have hw0:wo=0:=by
      rw[← hw]
      have:∀ j,tn z 0 (aL []) j=0:=fun j=>by
       induction j with
       | zero=>rfl
       | succ j ih=>show (if BH z (aL []) 0 j=true then _ else _)=_;rw[if_neg (by simp[BH,lB]),ih]
      exact this l
     subst hw0
     have ei:aD 0 (Int.ofNat 0) 1=0:=by rw[bS];rfl
     refine az (Kn (n+5) 15 l m v z a o (b:Nat) 0 H) (cY _ _ (dz (bp _) (fun H=>Jg (n+3) l z H (by omega)))) (bu (af _ _) Jd (fun x h=>by rw[← Tr.ab h];simp only[fz.st,aN];exact hx)) (ag _ _) ?_
     have hO:fS o 0 (max (o 0) 0)=o2:=hO
     rw[e1,es,DT,hO]
     clear hx hO es
     exact wF
   | cons a0 r =>
     simp only[List.length_cons] at hlen hO hw
     have ei:aD 0 (Int.ofNat (r.length+1)) 1=r.length+1:=by rw[bS];show ((0:Int)+((r.length+1:Nat):Int)*1).toNat=_;omega
     refine az (Nr (n+5) 15 l m v r.length (r.length+1) z a o (aL (a0::r)) (b:Nat) wo H) (cY _ _ (dz (bp _) (fun H=>by rw[← hw];exact N8 (h:=h) (hk:=by omega) ..))) (bu (af _ _) Jd (fun x h=>by rw[← Tr.ab h];simp only[fz.st,aN];exact hx)) (ag _ _) ?_
     rw[e1,es,ei,DT,hO]
     simp only[gH]
     clear hx hO es hw
     exact wF
 · obtain ⟨q,q1,rfl⟩:=az (Q:=fun q=>q=(.exit 4,mI 15 l m z a ((B:Nat):Int)++[(51,.bool false)],(⟨false,[fV 15 (o9 l (c5 z) (cB z) (eB z) a m B),(v,.dead)]⟩:bo)::H)) (Ko (n+5) 15 l m v z a (o9 l (c5 z) (cB z) (eB z) a m B) ((B:Nat):Int) H) (aB _) (fP (af _ _) 6) (ag _ _) (by
    rw[es]
    refine Tr.bm (by first | (simp (disch:=omega) only[nV,nW];done) | (simp (disch:=omega) only[nV,nW];omega)) (Tr.aj (fun hc=>?_) (fun hc=>Tr.ar rfl))
    simp (disch:=omega) only[nV,nW] at hc;omega)
   exact q1
end
end Go.Eng
end
section
namespace Go.Eng
open Go.Proofs
theorem EF (a:Nat→Int) (h:Int):∀ k,wv a h k=true↔∃ j,j<k∧a j=h
 | 0=>⟨(fun e=>by cases e),(fun ⟨j,hj,_⟩=>by omega)⟩
 | k + 1=>by
   show (wv a h k || (a k == h))=true↔_
   rw[Bool.or_eq_true,beq_iff_eq,EF a h k]
   constructor
   · rintro (⟨j,h1,h2⟩ | h1)
     · exact ⟨j,by omega,h2⟩
     · exact ⟨k,by omega,h1⟩
   · rintro ⟨j,h1,h2⟩
     by_cases e:j=k
     · subst e;exact .inr h2
     · exact .inl ⟨j,by omega,h2⟩
theorem zq (z:Nat→Int):∀ i,(gw z i).Nodup∧∀ j,j<i→cB z j ∈ gw z i
 | 0=>⟨List.nodup_nil,fun j hj=>absurd hj (Nat.not_lt_zero _)⟩
 | i + 1=>by
   obtain ⟨i1,i2⟩:=zq z i
   have hs:gw z (i+1)=if wv (aL (gw z i)) (cB z i) (gw z i).length=true then gw z i else gw z i++[cB z i]:=rfl
   rw[hs]
   have hm:wv (aL (gw z i)) (cB z i) (gw z i).length=true↔cB z i ∈ gw z i:=by
    rw[EF]
    constructor
    · rintro ⟨j,h1,h2⟩;rw[← h2];exact oG _ _ h1
    · intro h
      obtain ⟨j,hj,e⟩:=vN h
      exact ⟨j,hj,e⟩
   by_cases c:wv (aL (gw z i)) (cB z i) (gw z i).length=true
   · rw[if_pos c]
     refine ⟨i1,fun j hj=>?_⟩
     by_cases e:j=i
     · subst e;exact hm.1 c
     · exact i2 j (by omega)
   · rw[if_neg c]
     refine ⟨List.nodup_append.2 ⟨i1,List.nodup_cons.2 ⟨List.not_mem_nil,List.nodup_nil⟩,fun x hx y hy=>?_⟩,fun j hj=>?_⟩
     · rw[List.mem_singleton] at hy
       subst hy
       intro e;subst e
       exact c (hm.2 hx)
     · by_cases e:j=i
       · subst e;simp
       · exact List.mem_append_left _ (i2 j (by omega))
noncomputable def mG (l:Nat) (z:Nat→Int) (j x:Nat):Int :=
 if x≤j then DN l (c5 z) (cB z) (eB z) (aL (gw z l)) (gw z l).length (2 ^ (gw z l).length) x else o9 l (c5 z) (cB z) (eB z) (aL (gw z l)) (gw z l).length (2 ^ (gw z l).length) x
theorem DQ (l:Nat) (z:Nat→Int) (j:Nat):fS (mG l z j) (j+1) (max (mG l z j (j+1)) (mG l z j j))=mG l z (j+1):=by
 rw[rp]
 funext x
 have e1:mG l z j (j+1)=o9 l (c5 z) (cB z) (eB z) (aL (gw z l)) (gw z l).length (2 ^ (gw z l).length) (j+1):=if_neg (by omega)
 have e2:mG l z j j=DN l (c5 z) (cB z) (eB z) (aL (gw z l)) (gw z l).length (2 ^ (gw z l).length) j:=if_pos (Nat.le_refl _)
 rw[e1,e2]
 by_cases c:x=j+1
 · subst c
   rw[if_pos rfl]
   exact (if_pos (Nat.le_refl _)).symm
 · rw[if_neg c]
   unfold mG
   by_cases c2:x≤j
   · rw[if_pos c2,if_pos (by omega)]
   · rw[if_neg c2,if_neg (by omega)]
theorem Iu (l:Nat) (z:Nat→Int):o9 l (c5 z) (cB z) (eB z) (aL (gw z l)) (gw z l).length (2 ^ (gw z l).length)=mG l z 0:=by
 funext x
 unfold mG
 by_cases c:x≤0
 · rw[if_pos c]
   obtain rfl:x=0:=by omega
   rfl
 · rw[if_neg c]
theorem B8 {l:Nat} {z:Nat→Int} (h:bY l z=0) (k:Nat) (hk:k≤14):mG l z 14 k=(mX l z k).1:=by
 obtain ⟨n1,n2⟩:=zq z l
 have e:mG l z 14 k=DN l (c5 z) (cB z) (eB z) (aL (gw z l)) (gw z l).length (2 ^ (gw z l).length) k:=if_pos hk
 rw[e]
 refine zn (DP (fun i j hi hj hij=>?_) (fun i hi=>?_) (EI h) k) (DD (K:=k) h (by omega)).1.most
 · rw[vM _ _ hi,vM _ _ hj] at hij
   rcases Nat.lt_trichotomy i j with c | c | c
   · exact absurd hij (List.pairwise_iff_getElem.1 n1 i j hi hj c)
   · exact c
   · exact absurd hij.symm (List.pairwise_iff_getElem.1 n1 j i hj hi c)
 · obtain ⟨j,hj,e⟩:=vN (n2 i hi)
   exact ⟨j,hj,e⟩
section
variable (n l:Nat) (z:Nat→Int) (H:aa)
theorem Oz (h:bY l z=0) (h9:l≤9):cd (n+6) (.fn 40) [aO 5 l z] H=some (cQ 15 (mG l z 14) (dJ 15 15),H):=by
 obtain ⟨hl,_⟩:=cM h
 have hlen:=vL z l
 have hN:gI (Int.ofNat 15)=15:=iN _
 have ha:=MF (n+4) 15 l z (fun x=>Int.ofNat 0) H h
 have hb:=fun v=>MG n l z H v (gw z l).length (aL (gw z l)) h (by omega)
 rw[Iu] at hb
 have hh:=fun v=>MI (n+5) H v (mG l z) (DQ l z)
 generalize mG l z 0=o4 at *
 generalize mG l z 14=o8 at *
 generalize 2 ^ (gw z l).length=B at *
 have hne:gw z l≠[]:=by
  have:=(zq z l).2 0 (by omega)
  intro e;rw[e] at this;cases this
 cases e:gw z l with
 | nil=>exact absurd e hne
 | cons a r =>
   rw[e] at ha hb
   simp only[List.length_cons] at hb
   refine bw (n:=n+5) Tryz.func40 rfl rfl rfl (QO (n+5) l r.length (r.length+1) z (aL (a::r)) o4 o8 (B:Nat) H) (aB _) (bu (bu (bu (af _ _) Lh (fun x hx=>by rw[← Tr.ab hx];simp only[fz.st,aN];rw[hN];exact ha)) Li (fun x hx=>by rw[← Tr.ab hx];simp only[fz.st,aN];rw[hN];exact hb _)) Lj (fun x hx=>by rw[← Tr.ab hx];simp only[fz.st,aN];rw[hN];exact hh _)) (ag _ _) ?_
   rw[hN]
   simp only[gH]
   exact wF
end
end Go.Eng
end
section
namespace Go.Eng
open Go.Proofs
section
variable (n l:Nat) (z:Nat→Int) (a b c d e w b0 b1 b2 b3 q:Int) (H:aa)
end
end Go.Eng
end
section
namespace Go.Eng
open Go.Proofs
noncomputable def Dp (A V:AV) (q:Int) (args:List AV) (H:aa):Tr (AV×aa) :=
 match H with
 | [⟨_,_⟩,⟨_,_⟩]=>.reqP (args=[A,.int .i64 q]) (.ok (V,H))
 | _=>.bad
theorem QL (n l:Nat) (z:Nat→Int) (q e:Int) (H:aa):bK Tryz.prog (cd n) 100000 37 Tryz.f37 (KtB.kt 37) (il (tX aT 21 [aO 5 l z] (.int .i64 e)) n 0) a6 a7 [(aO 5 l z,none),(.int .i64 q,none)] H =
 Tr.reqP ([aO 5 l z]=[aO 5 l z]) (Tr.ite (dQ (eU e (Int.ofNat 0))) (Tr.reqP ([aO 5 l z]=[aO 5 l z]) (Tr.ok ((AV.int .i64 e,none),H))) (Tr.ite (cP q (Int.ofNat 0)) (Tr.ok ((AV.int .i64 (Int.ofNat 2),some 1),H)) (Tr.ite (cP (Int.ofNat 14) q) (Tr.ok ((AV.int .i64 (Int.ofNat 2),some 1),H)) (Tr.ok ((AV.int .i64 (Int.ofNat 0),some 1),H))))):=by kernel_rfl
theorem ND (n:Nat) (H:aa):bK Tryz.prog (cd n) 100000 38 Tryz.f38 (KtB.kt 38) (il aT n 0) (eT a6 0 [(0,.nils),(3,.int .i64 (Int.ofNat 0))] (aH::H) (.ok (.normal,hints [(0,.nils),(3,.int .i64 (Int.ofNat 0)),(10,.bool false)],aH::H))) a7 [(.nils,none)] H =
 Tr.reqP ([(0,AV.nils),(3,AV.int .i64 (Int.ofNat 0))]=[(0,AV.nils),(3,AV.int .i64 (Int.ofNat 0))]∧aH::H=aH::H) (Tr.ok ((AV.int .i64 (Int.ofNat 0),some 1),H)):=by kernel_rfl
theorem Np (n:Nat) (H:aa):aP (bt n 38 41) (il aT n 0) a6 a7 (part Tryz.f38 [1,1,0,1,0,0]) (hints [(0,.nils),(3,.int .i64 (Int.ofNat 0))]) (aH::H) =
 Tr.ite (cP (Int.ofNat 0) (Int.ofNat 0)) Tr.bad (Tr.ok (Ex.exit 0,[(0,AV.nils,none),(3,AV.int .i64 (Int.ofNat 0),none),(10,AV.bool false,some 1)],aH::H)):=by kernel_rfl
theorem Oh (n l:Nat) (z:Nat→Int) (q e:Int) (H:aa):aP (bt (n+1) 6 75) (il (tX (ly aT 15 G4) 21 [aO 5 l z] (.int .i64 e)) n 1) a6 a7 (chain [part Tryz.f6 [0],part Tryz.f6 [1,0]]) (hints [(0,aO 5 l z),(1,.int .i64 q)]) (aH::H) =
 Tr.ite (cP (Int.ofNat 20) (Int.ofNat l)) (Tr.reqP True (Tr.ok (Ex.ret,[(4,AV.bool true,none)],aH::H))) (Tr.reqP ([aO 5 l z]=[aO 5 l z]) (Tr.ite (eU e (Int.ofNat 0)) (Tr.ite (cP (Int.ofNat 9) (Int.ofNat l)) (Tr.reqP True (Tr.ok (Ex.ret,[(4,AV.bool true,none)],aH::H))) (Tr.ok (Ex.normal,[(0,aO 5 l z,none),(1,AV.int .i64 q,none),(14,AV.bool false,some 1)],aH::H))) (Tr.ok (Ex.normal,[(0,aO 5 l z,none),(1,AV.int .i64 q,none),(14,AV.bool false,some 1)],aH::H)))):=by kernel_rfl
theorem QG (n l:Nat) (z:Nat→Int) (q e:Int):aP (bt n 6 75) (il (iU (tX (ly aT 15 G4) 37 [aO 5 l z,.int .i64 q] (.int .i64 e)) 36 (Dp (aO 5 l z) (.tup [.int .i64 0,.nils,.int .i64 e]) q)) n 0) a6 a7 (chain [part Tryz.f6 [1,1,0],part Tryz.f6 [1,1,1,0],part Tryz.f6 [1,1,1,1,0]]) (hints [(0,aO 5 l z),(1,.int .i64 q),(14,.bool false)]) [aH,⟨true,[]⟩] =
 Tr.reqP ([aO 5 l z,AV.int .i64 q]=[aO 5 l z,AV.int .i64 q]) (Tr.reqP ([aO 5 l z,AV.int .i64 q]=[aO 5 l z,AV.int .i64 q]) (Tr.ite (dQ (eU e (Int.ofNat 0))) (Tr.ite (eU e e) (Tr.ite (eU (Int.ofNat 0) (Int.ofNat 0)) (Tr.reqP True (Tr.ok (Ex.ret,[(4,AV.bool true,none)],[aH,{ lock:=true,bs:=[] }]))) (Tr.ok (Ex.ret,[(4,AV.bool false,some 1)],[aH,{ lock:=true,bs:=[] }]))) (Tr.ok (Ex.ret,[(4,AV.bool false,some 1)],[aH,{ lock:=true,bs:=[] }]))) (Tr.ok (Ex.normal,[(0,aO 5 l z,none),(1,AV.int .i64 q,none),(5,AV.int .i64 (Int.ofNat 0),none),(6,AV.nils,none),(7,AV.int .i64 e,none),(8,AV.int .i64 e,none),(27,AV.bool false,some 1)],[aH,{ lock:=true,bs:=[] }])))):=by kernel_rfl
theorem QF (n l k:Nat) (z b f:Nat→Int) (q M:Int) (fl:Bool):aP (bt n 6 75) (il (iU (tX (tX (tX (tX (ly aT 15 G4) 37 [aO 5 l z,.int .i64 q] (.int .i64 0)) 38 [cQ k b false] (.int .i64 0)) 39 [aO 5 l z,cQ k b false] (.int .i64 M)) 40 [aO 5 l z] (cQ 15 f fl)) 36 (Dp (aO 5 l z) (.tup [.int .i64 M,cQ k b false,.int .i64 0]) q)) n 0) a6 a7 (chain [part Tryz.f6 [1,1,0],part Tryz.f6 [1,1,1,0],part Tryz.f6 [1,1,1,1,0],part Tryz.f6 [1,1,1,1,1]]) (hints [(0,aO 5 l z),(1,.int .i64 q),(14,.bool false)]) [aH,⟨true,[]⟩] =
 Tr.reqP ([aO 5 l z,AV.int .i64 q]=[aO 5 l z,AV.int .i64 q]) (Tr.reqP ([aO 5 l z,AV.int .i64 q]=[aO 5 l z,AV.int .i64 q]) (Tr.ite (dQ (eU (Int.ofNat 0) (Int.ofNat 0))) (Tr.ite (eU (Int.ofNat 0) (Int.ofNat 0)) (Tr.ite (eU M (Int.ofNat 0)) (Tr.ite (eU (Int.ofNat k) (Int.ofNat 0)) (Tr.reqP True (Tr.ok (Ex.ret,[(4,AV.bool true,none)],[aH,{ lock:=true,bs:=[] }]))) (Tr.ok (Ex.ret,[(4,AV.bool false,some 1)],[aH,{ lock:=true,bs:=[] }]))) (Tr.ok (Ex.ret,[(4,AV.bool false,some 1)],[aH,{ lock:=true,bs:=[] }]))) (Tr.ok (Ex.ret,[(4,AV.bool false,some 1)],[aH,{ lock:=true,bs:=[] }]))) (Tr.ite (eU (Int.ofNat 0) (Int.ofNat 0)) (Tr.ite (mK (Int.ofNat k) q) (Tr.reqP ([AV.slcT none (Row.M [aW.arr .i64 b k]) 1 k false]=[AV.slcT none (Row.M [aW.arr .i64 b k]) 1 k false]) (Tr.ite (eU (Int.ofNat 0) (Int.ofNat 0)) (Tr.reqP ([aO 5 l z,AV.slcT none (Row.M [aW.arr .i64 b k]) 1 k false]=[aO 5 l z,AV.slcT none (Row.M [aW.arr .i64 b k]) 1 k false]) (Tr.ite (eU M M) (Tr.reqP ([aO 5 l z]=[aO 5 l z]) (Tr.req (dY q 15) (Tr.req (bX (aD 0 q 1) 15) (Tr.ite (eU M (f (aD 0 q 1))) (Tr.reqP True (Tr.ok (Ex.ret,[(4,AV.bool true,none)],[aH,{ lock:=true,bs:=[] }]))) (Tr.ok (Ex.ret,[(4,AV.bool false,some 1)],[aH,{ lock:=true,bs:=[] }])))))) (Tr.ok (Ex.ret,[(4,AV.bool false,some 1)],[aH,{ lock:=true,bs:=[] }])))) (Tr.ok (Ex.ret,[(4,AV.bool false,some 1)],[aH,{ lock:=true,bs:=[] }])))) (Tr.ok (Ex.ret,[(4,AV.bool false,some 1)],[aH,{ lock:=true,bs:=[] }]))) (Tr.ok (Ex.ret,[(4,AV.bool false,some 1)],[aH,{ lock:=true,bs:=[] }]))))):=by kernel_rfl
theorem QH (n l:Nat) (z f:Nat→Int) (q M:Int) (fl:Bool):aP (bt n 6 75) (il (iU (tX (tX (tX (tX (ly aT 15 G4) 37 [aO 5 l z,.int .i64 q] (.int .i64 0)) 38 [.nils] (.int .i64 0)) 39 [aO 5 l z,.nils] (.int .i64 M)) 40 [aO 5 l z] (cQ 15 f fl)) 36 (Dp (aO 5 l z) (.tup [.int .i64 M,.nils,.int .i64 0]) q)) n 0) a6 a7 (chain [part Tryz.f6 [1,1,0],part Tryz.f6 [1,1,1,0],part Tryz.f6 [1,1,1,1,0],part Tryz.f6 [1,1,1,1,1]]) (hints [(0,aO 5 l z),(1,.int .i64 q),(14,.bool false)]) [aH,⟨true,[]⟩] =
 Tr.reqP ([aO 5 l z,AV.int .i64 q]=[aO 5 l z,AV.int .i64 q]) (Tr.reqP ([aO 5 l z,AV.int .i64 q]=[aO 5 l z,AV.int .i64 q]) (Tr.ite (dQ (eU (Int.ofNat 0) (Int.ofNat 0))) (Tr.ite (eU (Int.ofNat 0) (Int.ofNat 0)) (Tr.ite (eU M (Int.ofNat 0)) (Tr.reqP True (Tr.ok (Ex.ret,[(4,AV.bool true,none)],[aH,{ lock:=true,bs:=[] }]))) (Tr.ok (Ex.ret,[(4,AV.bool false,some 1)],[aH,{ lock:=true,bs:=[] }]))) (Tr.ok (Ex.ret,[(4,AV.bool false,some 1)],[aH,{ lock:=true,bs:=[] }]))) (Tr.ite (eU (Int.ofNat 0) (Int.ofNat 0)) (Tr.ite (mK (Int.ofNat 0) q) (Tr.reqP ([AV.nils]=[AV.nils]) (Tr.ite (eU (Int.ofNat 0) (Int.ofNat 0)) (Tr.reqP ([aO 5 l z,AV.nils]=[aO 5 l z,AV.nils]) (Tr.ite (eU M M) (Tr.reqP ([aO 5 l z]=[aO 5 l z]) (Tr.req (dY q 15) (Tr.req (bX (aD 0 q 1) 15) (Tr.ite (eU M (f (aD 0 q 1))) (Tr.reqP True (Tr.ok (Ex.ret,[(4,AV.bool true,none)],[aH,{ lock:=true,bs:=[] }]))) (Tr.ok (Ex.ret,[(4,AV.bool false,some 1)],[aH,{ lock:=true,bs:=[] }])))))) (Tr.ok (Ex.ret,[(4,AV.bool false,some 1)],[aH,{ lock:=true,bs:=[] }])))) (Tr.ok (Ex.ret,[(4,AV.bool false,some 1)],[aH,{ lock:=true,bs:=[] }])))) (Tr.ok (Ex.ret,[(4,AV.bool false,some 1)],[aH,{ lock:=true,bs:=[] }]))) (Tr.ok (Ex.ret,[(4,AV.bool false,some 1)],[aH,{ lock:=true,bs:=[] }]))))):=by kernel_rfl
end Go.Eng
end
section
namespace Go.Eng
open Go.Proofs
theorem Lf:∀ b,(0,b) ∈ aV (bQ Tryz.f38)→b=.loop (part Tryz.f38 [1,1,0,1,0,0]):=gM (by kernel_rfl)
theorem OK:Tryz.f6.body=some (chain [part Tryz.f6 [0],part Tryz.f6 [1,0],part Tryz.f6 [1,1,0],part Tryz.f6 [1,1,1,0],part Tryz.f6 [1,1,1,1,0],part Tryz.f6 [1,1,1,1,1]]):=by kernel_rfl
theorem Qu:Tryz.f6.ntmps=75:=by kernel_rfl
theorem Nk (H:aa) (l:bo):Jj Tryz.f6 H [(4,.bool true)] l=some (.bool true,H):=by kernel_rfl
theorem FB {k:Nat} {b:Nat→Int} (hk:k≤14) (hr:∀ j,j<k→-10000≤b j∧b j≤10000) (hi:∀ j,0<j→j<k→b (j-1)<b j):JB k b=0:=by
 unfold JB
 rw[if_neg (by omega),if_neg]
 rw[HW];· decide
 intro j hj
 have:=hr j hj
 unfold oL
 rw[decide_eq_false (by omega),decide_eq_false (by omega)]
 by_cases h0:0<j
 · have:=hi j h0 hj
   rw[decide_eq_false (show ¬ b j≤b (j-1) by omega)];simp
 · rw[decide_eq_false h0];rfl
theorem FA {B:List Int} (hk:B.length≤14) (hr:∀ x ∈ B,-10000≤x∧x≤10000) (hs:B.Pairwise (· < ·)):JB B.length (aL B)=0 :=
 FB hk (fun j hj=>hr _ (oG B j hj)) (fun j h0 hj=>by
  rw[vM _ _ (show j-1<B.length by omega),vM _ _ hj]
  exact List.pairwise_iff_getElem.1 hs (j-1) j (by omega) hj (by omega))
theorem Lr (n:Nat) (H:aa):cd (n+1) (.fn 38) [.nils] H=some (.int .i64 0,H):=by
 have hx:exec (bt n 38 41) (.block 0 (.loop (part Tryz.f38 [1,1,0,1,0,0]))) [(0,.nils),(3,.int .i64 (Int.ofNat 0))] (aH::H)=some (.normal,[(0,.nils),(3,.int .i64 (Int.ofNat 0)),(10,.bool false)],aH::H):=by
  refine iR 0 (fun k=>[(0,.nils),(3,.int .i64 ((k:Nat):Int))]) (fun _=>aH::H) 0 ([(0,.nils),(3,.int .i64 (Int.ofNat 0)),(10,.bool false)],aH::H) (by omega) (fun k hk=>absurd hk (Nat.not_lt_zero _)) ?_
  obtain ⟨q,q1,rfl⟩:=az (Q:=fun q=>q=(.exit 0,[(0,.nils),(3,.int .i64 (Int.ofNat 0)),(10,.bool false)],aH::H)) (Np n H) (aB _) (af _ _) (ag _ _) (by
   refine Tr.aj (fun hc=>?_) (fun hc=>Tr.ar rfl)
   simp (disch:=omega) only[nV,nW] at hc;omega)
  exact q1
 refine bw (n:=n) Tryz.func38 rfl rfl rfl (ND n H) (aB _) (bu (af _ _) Lf (fun x h=>by rw[← Tr.ab h];simp only[fz.st,aN];exact hx)) (ag _ _) ?_
 exact wF
theorem Ox (n l:Nat) (z:Nat→Int) (q:Int) (H:aa):cd (n+4) (.fn 37) [aO 5 l z,.int .i64 q] H=some (.int .i64 (jT l z q),H):=by
 refine bw (n:=n+3) Tryz.func37 rfl rfl rfl (QL (n+3) l z q (bY l z) H) (cY _ _ (dz (bp _) (fun H=>N7 n l z H))) (af _ _) (ag _ _) ?_
 unfold jT
 generalize bY l z=e
 by_cases h:e=0
 · rw [if_neg (fun x=>x h)]
   by_cases hq:q<0∨14<q
   · rw[if_pos hq]
     repeat' first | (refine Tr.aj (fun hc=>?_) (fun hc=>?_)<;>(try simp (disch:=omega) only[nV,nW] at hc)<;>(try (exfalso;omega))) | (refine Tr.bm ?_ ?_;· ((try simp (disch:=omega) only[nV,nW]);try omega)) | (refine Tr.aF ?_ ?_;· first | exact trivial | rfl | exact ⟨rfl,rfl⟩ | exact ⟨trivial,rfl⟩ | exact ⟨rfl,by assumption⟩ | exact ⟨trivial,by assumption⟩ | exact ⟨rfl,rfl,rfl⟩ | (simp (disch:=omega) only[nV,nW];done) | ((try simp (disch:=omega) only[nV,nW]);omega)) | fail
     all_goals first
      | exact Tr.ar ⟨rfl,rfl⟩
      | omega
      | fail
   · rw[if_neg hq]
     repeat' first | (refine Tr.aj (fun hc=>?_) (fun hc=>?_)<;>(try simp (disch:=omega) only[nV,nW] at hc)<;>(try (exfalso;omega))) | (refine Tr.bm ?_ ?_;· ((try simp (disch:=omega) only[nV,nW]);try omega)) | (refine Tr.aF ?_ ?_;· first | exact trivial | rfl | exact ⟨rfl,rfl⟩ | exact ⟨trivial,rfl⟩ | exact ⟨rfl,by assumption⟩ | exact ⟨trivial,by assumption⟩ | exact ⟨rfl,rfl,rfl⟩ | (simp (disch:=omega) only[nV,nW];done) | ((try simp (disch:=omega) only[nV,nW]);omega)) | fail
     all_goals first
      | exact Tr.ar ⟨rfl,rfl⟩
      | omega
      | fail
 · rw[if_pos h]
   repeat' first | (refine Tr.aj (fun hc=>?_) (fun hc=>?_)<;>(try simp (disch:=omega) only[nV,nW] at hc)<;>(try (exfalso;omega))) | (refine Tr.bm ?_ ?_;· ((try simp (disch:=omega) only[nV,nW]);try omega)) | (refine Tr.aF ?_ ?_;· first | exact trivial | rfl | exact ⟨rfl,rfl⟩ | exact ⟨trivial,rfl⟩ | exact ⟨rfl,by assumption⟩ | exact ⟨trivial,by assumption⟩ | exact ⟨rfl,rfl,rfl⟩ | (simp (disch:=omega) only[nV,nW];done) | ((try simp (disch:=omega) only[nV,nW]);omega)) | fail
   all_goals first
    | exact Tr.ar ⟨rfl,rfl⟩
    | omega
    | fail
theorem vE {c:Nat} {t:nI} {A V:AV} {q:Int} (ht:t.Ok (cd c)) (h:∀ k1 k2 b1 b2,cd c (.fn 36) [A,.int .i64 q] [⟨k1,b1⟩,⟨k2,b2⟩]=some (V,[⟨k1,b1⟩,⟨k2,b2⟩])):(iU t 36 (Dp A V q)).Ok (cd c):=by
 refine ll ht (fun args H x hx=>?_)
 unfold Dp at hx
 split at hx
 · obtain ⟨rfl,h2⟩:=Tr.dO hx
   rw[← Tr.ab h2]
   exact h _ _ _ _
 · exact (Tr.ae hx).elim
theorem c6 (n l:Nat) (z:Nat→Int) (q:Int):cd (n+15) (.fn 6) [aO 5 l z,.int .i64 q] [⟨true,[]⟩]=some (.bool true,[⟨true,[]⟩]):=by
 suffices hs:∃ lv,exec (bt (n+14) 6 75) (chain [part Tryz.f6 [0],part Tryz.f6 [1,0],part Tryz.f6 [1,1,0],part Tryz.f6 [1,1,1,0],part Tryz.f6 [1,1,1,1,0],part Tryz.f6 [1,1,1,1,1]]) [(0,aO 5 l z),(1,.int .i64 q)] [aH,⟨true,[]⟩]=some (.ret,[(4,.bool true)],[lv,⟨true,[]⟩]) by
  obtain ⟨lv,hs⟩:=hs
  exact Fk (n:=n+14) Tryz.func6 OK rfl rfl (by rw[Qu];exact hs) (Nk _ lv)
 have h21:∀ q H,cd (n+13+q) (.fn 21) [aO 5 l z] H=some (.int .i64 (bY l z),H):=fun q H=>by rw[show n+13+q=n+10+q+3 by omega];exact N7 _ l z H
 have hC:(il (tX (ly aT 15 G4) 21 [aO 5 l z] (.int .i64 (bY l z))) (n+13) 1).Ok (cd (n+14)):=iA _ (n+13) 1 (fun q=>dz (K5 (by omega) (bp _)) (h21 q))
 by_cases hg:20<l∨(bY l z=0∧9<l)
 · obtain ⟨x,h1,lv,rfl⟩:=az (Q:=fun x=>∃ lv,x=(.ret,[(4,.bool true)],[lv,⟨true,[]⟩])) (Oh (n+13) l z q (bY l z) [⟨true,[]⟩]) hC (af _ _) (ag _ _) (by
    generalize bY l z=e at *
    repeat' first | (refine Tr.aj (fun hc=>?_) (fun hc=>?_)<;>(try simp (disch:=omega) only[nV,nW] at hc)<;>(try (exfalso;omega))) | (refine Tr.bm ?_ ?_;· ((try simp (disch:=omega) only[nV,nW]);try omega)) | (refine Tr.aF ?_ ?_;· first | exact trivial | rfl | exact ⟨rfl,rfl⟩ | exact ⟨trivial,rfl⟩ | exact ⟨rfl,by assumption⟩ | exact ⟨trivial,by assumption⟩ | exact ⟨rfl,rfl,rfl⟩ | (simp (disch:=omega) only[nV,nW];done) | ((try simp (disch:=omega) only[nV,nW]);omega)) | fail
    all_goals first
     | exact Tr.ar ⟨_,rfl⟩
     | omega
     | fail)
   exact ⟨lv,vn [part Tryz.f6 [0],part Tryz.f6 [1,0]] (by simp) h1⟩
 · obtain ⟨x,sa,rfl⟩:=az (Q:=fun x=>x=(.normal,[(0,aO 5 l z),(1,.int .i64 q),(14,.bool false)],[aH,⟨true,[]⟩])) (Oh (n+13) l z q (bY l z) [⟨true,[]⟩]) hC (af _ _) (ag _ _) (by
    generalize bY l z=e at *
    repeat' first | (refine Tr.aj (fun hc=>?_) (fun hc=>?_)<;>(try simp (disch:=omega) only[nV,nW] at hc)<;>(try (exfalso;omega))) | (refine Tr.bm ?_ ?_;· ((try simp (disch:=omega) only[nV,nW]);try omega)) | (refine Tr.aF ?_ ?_;· first | exact trivial | rfl | exact ⟨rfl,rfl⟩ | exact ⟨trivial,rfl⟩ | exact ⟨rfl,by assumption⟩ | exact ⟨trivial,by assumption⟩ | exact ⟨rfl,rfl,rfl⟩ | (simp (disch:=omega) only[nV,nW];done) | ((try simp (disch:=omega) only[nV,nW]);omega)) | fail
    all_goals first
     | exact Tr.ar rfl
     | omega
     | fail)
   have h36:=fun k1 k2 b1 b2=>Ow (n+2) l z q k1 k2 b1 b2
   have h37:=fun H=>Ox (n+10) l z q H
   unfold MU at h36
   by_cases hm:jT l z q=0
   · obtain ⟨m1,m2,m3⟩:=DE hm
     have h9:l≤9:=by omega
     have hmo:=(DD (K:=q.toNat) m1 (by omega)).1
     have hmf:=B8 m1 q.toNat (by omega)
     have h40:=fun H=>Oz (n+8) l z H m1 h9
     have hib:=FA (Nat.le_trans hmo.len (by omega)) hmo.rg hmo.srt
     have hwo:=hmo.wo
     have hlen:=hmo.len
     rw[← rr] at hwo
     rw[if_pos hm] at h36
     rw[hm] at h37
     have ei:aD 0 q 1=q.toNat:=by rw[bS];omega
     generalize (mX l z q.toNat).1=M at *
     generalize (mX l z q.toNat).2=B at *
     generalize mG l z 14=f at *
     cases B with
     | nil =>
       have h0:M=0:=by
        rw[← hwo,rr];exact rq
       subst h0
       obtain ⟨x,h1,lv,rfl⟩:=az (Q:=fun x=>∃ lv,x=(.ret,[(4,.bool true)],[lv,⟨true,[]⟩])) (QH (n+14) l z f q 0 (dJ 15 15)) (cY _ _ (vE (dz (dz (dz (dz (K5 (by omega) (bp _)) h37) (fun H=>Lr (n+13) H)) (fun H=>Jg (n+12) l z H (by omega))) h40) h36)) (af _ _) (ag _ _) (by
        rw[ei,hmf]
        clear h36 h37 h40 h21 hC sa
        repeat' first | (refine Tr.aj (fun hc=>?_) (fun hc=>?_)<;>(try simp (disch:=omega) only[nV,nW] at hc)<;>(try (exfalso;omega))) | (refine Tr.bm ?_ ?_;· ((try simp (disch:=omega) only[nV,nW]);try omega)) | (refine Tr.aF ?_ ?_;· first | exact trivial | rfl | exact ⟨rfl,rfl⟩ | exact ⟨trivial,rfl⟩ | exact ⟨rfl,by assumption⟩ | exact ⟨trivial,by assumption⟩ | exact ⟨rfl,rfl,rfl⟩ | (simp (disch:=omega) only[nV,nW];done) | ((try simp (disch:=omega) only[nV,nW]);omega)) | fail
        all_goals first
         | exact Tr.ar ⟨_,rfl⟩
         | fail)
       exact ⟨lv,(vm [part Tryz.f6 [0],part Tryz.f6 [1,0]] (by simp) sa).trans h1⟩
     | cons a r =>
       simp only[List.length_cons] at hib hwo hlen
       have h38:=fun H=>Oy (n+13) (r.length+1) (aL (a::r)) false H
       rw[hib] at h38
       obtain ⟨x,h1,lv,rfl⟩:=az (Q:=fun x=>∃ lv,x=(.ret,[(4,.bool true)],[lv,⟨true,[]⟩])) (QF (n+14) l (r.length+1) z (aL (a::r)) f q M (dJ 15 15)) (cY _ _ (vE (dz (dz (dz (dz (K5 (by omega) (bp _)) h37) h38) (fun H=>by rw[← hwo];exact N8 (h:=m1) (hk:=by omega) ..)) h40) h36)) (af _ _) (ag _ _) (by
        rw[ei,hmf]
        clear h36 h37 h40 h38 h21 hC sa
        repeat' first | (refine Tr.aj (fun hc=>?_) (fun hc=>?_)<;>(try simp (disch:=omega) only[nV,nW] at hc)<;>(try (exfalso;omega))) | (refine Tr.bm ?_ ?_;· ((try simp (disch:=omega) only[nV,nW]);try omega)) | (refine Tr.aF ?_ ?_;· first | exact trivial | rfl | exact ⟨rfl,rfl⟩ | exact ⟨trivial,rfl⟩ | exact ⟨rfl,by assumption⟩ | exact ⟨trivial,by assumption⟩ | exact ⟨rfl,rfl,rfl⟩ | (simp (disch:=omega) only[nV,nW];done) | ((try simp (disch:=omega) only[nV,nW]);omega)) | fail
        all_goals first
         | exact Tr.ar ⟨_,rfl⟩
         | fail)
       exact ⟨lv,(vm [part Tryz.f6 [0],part Tryz.f6 [1,0]] (by simp) sa).trans h1⟩
   · rw[if_neg hm] at h36
     obtain ⟨x,h1,lv,rfl⟩:=az (Q:=fun x=>∃ lv,x=(.ret,[(4,.bool true)],[lv,⟨true,[]⟩])) (QG (n+14) l z q (jT l z q)) (cY _ _ (vE (dz (K5 (by omega) (bp _)) h37) h36)) (af _ _) (ag _ _) (by
      generalize jT l z q=e at *
      clear h36 h37 h21 hC sa
      repeat' first | (refine Tr.aj (fun hc=>?_) (fun hc=>?_)<;>(try simp (disch:=omega) only[nV,nW] at hc)<;>(try (exfalso;omega))) | (refine Tr.bm ?_ ?_;· ((try simp (disch:=omega) only[nV,nW]);try omega)) | (refine Tr.aF ?_ ?_;· first | exact trivial | rfl | exact ⟨rfl,rfl⟩ | exact ⟨trivial,rfl⟩ | exact ⟨rfl,by assumption⟩ | exact ⟨trivial,by assumption⟩ | exact ⟨rfl,rfl,rfl⟩ | (simp (disch:=omega) only[nV,nW];done) | ((try simp (disch:=omega) only[nV,nW]);omega)) | fail
      all_goals first
       | exact Tr.ar ⟨_,rfl⟩
       | fail)
     exact ⟨lv,(vm [part Tryz.f6 [0],part Tryz.f6 [1,0]] (by simp) sa).trans (vn [part Tryz.f6 [1,1,0],part Tryz.f6 [1,1,1,0],part Tryz.f6 [1,1,1,1,0]] (by simp) h1)⟩
end Go.Eng
end
section
namespace Go.Proofs.YtigmfpmabgekoaaGreat.Known
open Go.Eng Go.Proofs
noncomputable def E1:iQ:=⟨51,[],.slcT none (.I .i64 [100,110,20,60,5,90,90,10,30,3,150,150,0,40,4,130,140,30,35,6]) 5 4 true⟩
theorem Qw:bM Tryz.prog E1:=dG named mixed Be iH [50] KtB.kt 100000 40 (H':=[⟨true,[]⟩]) (by kernel_rfl) (by kernel_rfl)
noncomputable def KI:List iQ:=E1::KH
theorem Bf:∀ e ∈ KI,bM Tryz.prog e:=dS Qw Be
noncomputable def E2:iQ:=⟨18,[.slcT none (.I .i64 [100,110,20,60,5,90,90,10,30,3,150,150,0,40,4,130,130,25,50,6]) 5 4 true,.int .i64 80],.tup [.slcT none (.I .i64 [0,1,3]) 1 3 false,.int .i64 0]⟩
theorem Qx:bM Tryz.prog E2:=dG named mixed Bf iH [68] KtB.kt 100000 40 (H':=[⟨true,[]⟩]) (by kernel_rfl) (by kernel_rfl)
noncomputable def KL:List iQ:=E2::KI
theorem Bg:∀ e ∈ KL,bM Tryz.prog e:=dS Qx Bf
noncomputable def E3:iQ:=⟨23,[.slcT none (.I .i64 [100,110,20,60,5,90,90,10,30,3,150,150,0,40,4,130,130,25,50,6]) 5 4 true],.tup [.slcT none (.I .i64 [80,150]) 1 2 true,.int .i64 0]⟩
theorem Qy:bM Tryz.prog E3:=dG named mixed Bg iH [68] KtB.kt 100000 40 (H':=[⟨true,[]⟩]) (by kernel_rfl) (by kernel_rfl)
noncomputable def KM:List iQ:=E3::KL
theorem Bh:∀ e ∈ KM,bM Tryz.prog e:=dS Qy Bg
end Go.Proofs.YtigmfpmabgekoaaGreat.Known
end
section
namespace Go.Proofs.YtigmfpmabgekoaaGreat.Known
open Go.Eng Go.Proofs
noncomputable def E4:iQ:=⟨32,[.slcT none (.I .i64 [100,110,20,60,5,90,90,10,30,3,150,150,0,40,4,130,130,25,50,6]) 5 4 true],.tup [.slcT none (.I .i64 [0,2]) 1 2 false,.int .i64 0]⟩
theorem Qz:bM Tryz.prog E4:=dG named mixed Bh iH [68] KtB.kt 100000 40 (H':=[⟨true,[]⟩]) (by kernel_rfl) (by kernel_rfl)
noncomputable def KN:List iQ:=E4::KM
theorem Bi:∀ e ∈ KN,bM Tryz.prog e:=dS Qz Bh
noncomputable def E5:iQ:=⟨25,[.slcT none (.I .i64 [100,110,20,60,5,90,90,10,30,3,150,150,0,40,4,130,130,25,50,6]) 5 4 true],.tup [.slcT none (.I .i64 [2]) 1 1 false,.int .i64 0]⟩
theorem QA:bM Tryz.prog E5:=dG named mixed Bi iH [68] KtB.kt 100000 40 (H':=[⟨true,[]⟩]) (by kernel_rfl) (by kernel_rfl)
noncomputable def KO:List iQ:=E5::KN
theorem Bj:∀ e ∈ KO,bM Tryz.prog e:=dS QA Bi
noncomputable def E6:iQ:=⟨36,[.slcT none (.I .i64 [100,110,20,60,5,90,90,10,30,3,150,150,0,40,4,130,130,25,50,6]) 5 4 true,.int .i64 1],.tup [.int .i64 14,.slcT none (.I .i64 [80]) 1 1 false,.int .i64 0]⟩
theorem QB:bM Tryz.prog E6:=dG named mixed Bj iH [68] KtB.kt 100000 40 (H':=[⟨true,[]⟩]) (by kernel_rfl) (by kernel_rfl)
noncomputable def KP:List iQ:=E6::KO
theorem Bk:∀ e ∈ KP,bM Tryz.prog e:=dS QB Bj
end Go.Proofs.YtigmfpmabgekoaaGreat.Known
end
section
namespace Go.Proofs.YtigmfpmabgekoaaGreat.Known
open Go.Eng Go.Proofs
noncomputable def E7:iQ:=⟨43,[.slcT none (.I .i64 [100,110,20,60,5,90,90,10,30,3,150,150,0,40,4,130,130,25,50,6]) 5 4 true,.int .i64 1],.tup [.int .i64 4,.slcT none (.I .i64 [1,3,4,0]) 1 4 true,.int .i64 0]⟩
theorem QC:bM Tryz.prog E7:=dG named mixed Bk iH [68] KtB.kt 100000 40 (H':=[⟨true,[]⟩]) (by kernel_rfl) (by kernel_rfl)
noncomputable def KQ:List iQ:=E7::KP
theorem Bl:∀ e ∈ KQ,bM Tryz.prog e:=dS QC Bk
noncomputable def E8:iQ:=⟨45,[.slcT none (.I .i64 [100,110,20,60,5,90,90,10,30,3,150,150,0,40,4,130,130,25,50,6]) 5 4 true,.int .i64 1,.int .i64 4,.slcT none (.I .i64 [1,3,4,0]) 1 4 true],.tup [.int .i64 14,.int .i64 0]⟩
theorem QD:bM Tryz.prog E8:=dG named mixed Bl iH [68] KtB.kt 100000 40 (H':=[⟨true,[]⟩]) (by kernel_rfl) (by kernel_rfl)
noncomputable def KR:List iQ:=E8::KQ
theorem Bn:∀ e ∈ KR,bM Tryz.prog e:=dS QD Bl
noncomputable def E9:iQ:=⟨34,[.slcT none (.I .i64 [100,110,20,60,5,90,90,10,30,3,150,150,0,40,4,130,130,25,50,6]) 5 4 true,.slcT none (.I .i64 [0,2]) 1 2 false],.int .i64 0⟩
theorem QE:bM Tryz.prog E9:=dG named mixed Bn iH [68] KtB.kt 100000 40 (H':=[⟨true,[]⟩]) (by kernel_rfl) (by kernel_rfl)
noncomputable def KS:List iQ:=E9::KR
theorem Bo:∀ e ∈ KS,bM Tryz.prog e:=dS QE Bn
end Go.Proofs.YtigmfpmabgekoaaGreat.Known
end
