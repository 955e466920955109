/- Gall: windows and bounds, by the reference: what they are. -/
import Derived.Test.YtgphpjdchnfjlaaDoorV3Gafx4
set_option linter.unusedVariables false
set_option linter.unusedSimpArgs false
set_option maxRecDepth 100000
section
namespace Go.Eng
open Go.Proofs Go.Eng.Gall
theorem qo {a b:Int} (hb:1≤b) {K:Int} (h1:-K≤a) (h2:a≤K) (hK:0≤K):-K-b≤a / b∧a / b≤K:=by
 have h7:=Int.mul_ediv_add_emod a b
 have h3:=Int.emod_nonneg a (show b≠0 by omega)
 have h4:=Int.emod_lt_of_pos a (show 0<b by omega)
 constructor
 · apply Classical.byContradiction
   intro hc
   have h8:b*(a / b)≤1*(a / b):=Int.mul_le_mul_of_nonpos_right hb (by omega)
   omega
 · exact Int.le_trans (Int.ediv_le_ediv (by omega) h2) (Int.ediv_le_self b hK)
theorem Ql (n:Nat) (a b:Int) (H:aa) (h1:-1000000≤a∧a≤1000000) (h2:1≤b∧b≤1000):cd (n+1) (.fn 81) [.int .i64 a,.int .i64 b] H=some (.int .i64 (a / b),H):=by
 have hd:=qo (a:=a) (b:=b) h2.1 (K:=1000000) h1.1 h1.2 (by decide)
 have e0:=Int.mul_tdiv_add_tmod a b
 have e1:=Int.mul_ediv_add_emod a b
 have h3:=Int.emod_nonneg a (show b≠0 by omega)
 have h4:=Int.emod_lt_of_pos a (show 0<b by omega)
 have hm:-b<a.tmod b∧a.tmod b<b:=by
  constructor
  · by_cases h:0≤a
    · have:=Int.tmod_nonneg b h;omega
    · have e:a.tmod b=-((-a).tmod b):=by rw[Int.neg_tmod];omega
      have:=Int.tmod_lt_of_pos (-a) (show 0<b by omega)
      omega
  · exact Int.tmod_lt_of_pos a (by omega)
 have hq:(0≤a.tmod b∧a.tdiv b=a / b)∨(a.tmod b<0∧a.tdiv b=a / b+1):=by
  by_cases h:0≤a.tmod b
  · refine .inl ⟨h,?_⟩
    exact ((Int.ediv_emod_unique (show 0<b by omega)).2 ⟨by rw[Int.add_comm];exact e0,h,hm.2⟩).1.symm
  · refine .inr ⟨by omega,?_⟩
    have:a / b=a.tdiv b-1:=((Int.ediv_emod_unique (r:=a.tmod b+b) (show 0<b by omega)).2 ⟨by rw[Int.mul_sub];omega,by omega,by omega⟩).1
    omega
 have eq:tr .i64 a b=a.tdiv b:=by rw[vG];exact fH (by omega) (by omega)
 have em:qi .i64 (a.tdiv b) b=a-a.tmod b:=by
  rw[kg,Int.mul_comm]
  have:b*a.tdiv b=a-a.tmod b:=by omega
  rw[this];exact fH (by omega) (by omega)
 have U:=SQ n a b H
 rw[eq,em] at U
 refine bN Tryd.func81 rfl rfl rfl U (aV _) (ak _ _) (al _ _) ?_
 refine Tr.af (by rw[aS,bh];show (!(b == 0))=true;simp;omega) (Tr.ag (fun q=>Tr.ah ⟨?_,rfl⟩) (fun q=>Tr.ah ⟨?_,rfl⟩))
 · rw[br,decide_eq_true_iff] at q
   rcases hq with hq | hq
   · omega
   · show AV.int .i64 (bW .i64 (a.tdiv b) (Int.ofNat 1))=_
     rw[tw (by show _≤a.tdiv b-1;omega) (by show a.tdiv b-1≤_;omega),hq.2]
     show AV.int .i64 (a / b+1-1)=_
     rw[Int.add_sub_cancel]
 · rw[br,decide_eq_false_iff_not] at q
   rcases hq with hq | hq
   · show AV.int .i64 (a.tdiv b)=_
     rw[hq.2]
   · omega
section
variable (n:Nat) (dr:Int) (lc:Nat) (zc:Nat→Int) (lb:Nat) (zb:Nat→Int) (H:aa)
theorem IS {c:Nat} (hc:0<c):(mr aX 81 (Mq (fun a b=>(-1000000≤a∧a≤1000000)∧1≤b∧b≤1000) (fun a b=>a / b))).Ok (cd c):=by
 obtain ⟨m,rfl⟩:∃ m,c=m+1:=⟨c-1,by omega⟩
 refine j4 (bG _) (fun args p v hg hp H=>?_)
 unfold Mq at hg
 split at hg
 · simp only[nP] at hg
   obtain ⟨rfl,rfl⟩:=hg
   exact Ql m _ _ H hp.1 hp.2
 · cases hg
theorem PC (hl:lc≤1000) (hd:1≤dr∧dr≤100) (hv:qb lc zc) (c:Nat) (hc:c<lc):cd (n+2) (.fn 55) [df dr lc zc lb zb,.int .i64 (c:Int)] H=some (JX (cE dr lc zc (2*c)) (cE dr lc zc (2*c+1)),H):=by
 obtain ⟨v1,v2,v3,v4,v5,v6⟩:=EV hv hc
 have ei:aE 0 (c:Int) 4=c*4:=by rw[bO];omega
 have s1:bW .i64 (zc (c*4+3)) (zc (c*4+1))=zc (c*4+3)-zc (c*4+1):=tw (by omega) (by omega)
 have s2:bW .i64 (zc (c*4)) (zc (c*4+2))=zc (c*4)-zc (c*4+2):=tw (by omega) (by omega)
 have s3:bW .i64 (Int.ofNat lc) (Int.ofNat 1)=(lc:Int)-1:=tw (by show _≤(lc:Int)-1;omega) (by show (lc:Int)-1≤_;omega)
 have q1:=qo (a:=zc (c*4+3)-zc (c*4+1)) hd.1 (K:=1000) (by omega) (by omega) (by decide)
 have n1:zL .i64 ((zc (c*4+3)-zc (c*4+1)) / dr)=-((zc (c*4+3)-zc (c*4+1)) / dr):=by rw[vt,fH (by omega) (by omega)];omega
 have U:=SG (n+1) dr lc zc lb zb H (c:Int) (fun a b=>a / b) (fun a b=>(-1000000≤a∧a≤1000000)∧1≤b∧b≤1000)
 rw[ei,aJ,aJ,aJ,s1,s2,s3] at U
 rw[n1] at U
 have w0:cE dr lc zc (2*c)=mC (Int.ofNat 0) (-((zc (c*4+3)-zc (c*4+1)) / dr)):=by
  unfold cE
  rw[if_pos (by omega),if_pos (by omega),mb,show 2*c / 2=c by omega]
  show _=(if _ > (0:Int) then _ else (0:Int))
  omega
 have w1:cE dr lc zc (2*c+1)=qh ((lc:Int)-1) ((zc (c*4)-zc (c*4+2)) / dr):=by
  unfold cE
  rw[if_pos (by omega),if_neg (by omega),mc,show (2*c+1) / 2=c by omega]
  omega
 refine bN (n:=n+1) Tryd.func55 rfl rfl rfl U (cK _ _ (IS (by omega))) (ak _ _) (al _ _) ?_
 refine Tr.af (by simp (disch:=omega) only[nV,nW];omega) (Tr.af (by simp (disch:=omega) only[nV,nW];omega) (Tr.af (by simp (disch:=omega) only[nV,nW];omega) (Tr.af (by simp (disch:=omega) only[nV,nW];omega) (Tr.af (by simp (disch:=omega) only[nV,nW];omega) (Tr.an ⟨⟨by omega,by omega⟩,hd.1,by omega⟩ (Tr.an ⟨⟨by omega,by omega⟩,hd.1,by omega⟩ (Tr.af (by simp (disch:=omega) only[nV,nW];omega) (Tr.ah ⟨?_,rfl⟩))))))))
 rw[w0,w1];rfl
theorem IT {k:Nat} (hk:2≤k) (hl:lc≤1000) (hd:1≤dr∧dr≤100) (hv:qb lc zc):(mr aX 55 (L6 (df dr lc zc lb zb) (fun c=>0≤c∧c<lc) (fun c=>JX (cE dr lc zc (2*c.toNat)) (cE dr lc zc (2*c.toNat+1))))).Ok (cd k):=by
 obtain ⟨m,rfl⟩:∃ m,k=m+2:=⟨k-2,by omega⟩
 refine j4 (bG _) (fun args p v hg hp H=>?_)
 unfold L6 at hg
 split at hg
 · simp only[nP] at hg
   obtain ⟨rfl,rfl⟩:=hg
   obtain ⟨rfl,h1,h2⟩:=hp
   rename_i c
   have:=PC m dr lc zc lb zb H hl hd hv c.toNat (by omega)
   rw[Int.toNat_of_nonneg h1] at this
   exact this
 · cases hg
theorem EX (m:Nat) (hm:m<lc):sV (yN (sG dr lc zc m) 0) (2*m) (bC [cE dr lc zc (2*m),cE dr lc zc (2*m+1)])=sG dr lc zc (m+1):=by
 rw[lS,lV,iY];funext i
 unfold sG
 by_cases h:i<2*m
 · simp only[h,if_true]
   rw[if_pos (by omega)]
 · simp only[h,if_false]
   by_cases e:i=2*m
   · subst e;rw[if_pos (by omega)];simp
   · by_cases e2:i=2*m+1
     · subst e2
       rw[if_pos (by omega),show 2*m+1-2*m=1 by omega];rfl
     · rw[if_neg (by omega)]
       obtain ⟨d,hd⟩:∃ d,i-2*m=d+2:=⟨i-2*m-2,by omega⟩
       rw[hd];rfl
theorem JT (hm:0<lc):bC [cE dr lc zc 0,cE dr lc zc 1]=sG dr lc zc 1:=by
 have:=EX dr lc zc 0 hm
 rw[Ie] at this
 rw[← this,lS,lV]
 funext i;simp
noncomputable def PI (m:Nat):az:=match m with
 | 0=>wH .nils (Int.ofNat 0)
 | m+1=>wH (uE 1 m (m+1)) ((m+1:Nat):Int)
noncomputable def PK (m:Nat):aa:=match m with
 | 0=>iN dr lc zc lb zb::H
 | m+1=>c6 dr lc zc lb zb [uB m (2*(m+1)) (sG dr lc zc (m+1))]::H
theorem Np (h1:1≤lc) (hl:lc≤10) (hd:1≤dr∧dr≤100) (hv:qb lc zc):exec (cI (n+2) 57 81) (.block 0 (.loop (part Tryd.f57 [1,1,0,1,0,0]))) (PI 0) (PK dr lc zc lb zb H 0) =
 some (.normal,wH (uE 1 (lc-1) lc) (Int.ofNat lc)++[(13,.bool false)],c6 dr lc zc lb zb [uB (lc-1) (2*lc) (cE dr lc zc)]::H):=by
 have hC:=IT dr lc zc lb zb (show 2≤n+2 by omega) (show lc≤1000 by omega) hd hv
 refine ld (n:=n+2) (f:=57) (nt:=81) (c:=part Tryd.f57 [1,1,0,1,0,0]) 0 PI (PK dr lc zc lb zb H) lc (_,_) (by omega) (fun m hm=>?_) ?_
 · have ec:bz .i64 (m:Int) (Int.ofNat 1)=((m+1:Nat):Int):=gN (by omega)
   cases m with
   | zero =>
     have T:=Oy (n+2) dr lc zc lb zb H ((0:Nat):Int) (fun c=>0≤c∧c<lc) (fun c=>cE dr lc zc (2*c.toNat)) (fun c=>cE dr lc zc (2*c.toNat+1))
     rw[ec] at T
     have e:bC [(fun c:Int=>cE dr lc zc (2*c.toNat)) ((0:Nat):Int),(fun c:Int=>cE dr lc zc (2*c.toNat+1)) ((0:Nat):Int)]=sG dr lc zc 1:=JT dr lc zc (by omega)
     rw[e] at T
     refine aY T (cK _ _ hC) (ak _ _) (al _ _) ?_
     refine Tr.ag (fun h0=>?_) (fun h0=>by simp (disch:=omega) only[nV,nW] at h0;omega)
     exact Tr.an ⟨rfl,by omega,by omega⟩ (Tr.af (by simp (disch:=omega) only[nV,nW];omega) (Tr.af (by simp (disch:=omega) only[nV,nW]) (Tr.af (by simp (disch:=omega) only[nV,nW];omega) (Tr.ah ⟨rfl,rfl⟩))))
   | succ m =>
     have T:=Lz (n+2) dr lc zc lb zb H ((m+1:Nat):Int) (fun c=>0≤c∧c<lc) (fun c=>cE dr lc zc (2*c.toNat)) (fun c=>cE dr lc zc (2*c.toNat+1)) m (m+1) (2*(m+1)) (sG dr lc zc (m+1))
     have e:sV (yN (sG dr lc zc (m+1)) 0) (aq (m+1) 2) (bC [(fun c:Int=>cE dr lc zc (2*c.toNat)) ((m+1:Nat):Int),(fun c:Int=>cE dr lc zc (2*c.toNat+1)) ((m+1:Nat):Int)])=sG dr lc zc (m+1+1):=by
      rw[ja,Nat.mul_comm]
      show sV _ _ (bC [cE dr lc zc (2*((m+1:Nat):Int).toNat),cE dr lc zc (2*((m+1:Nat):Int).toNat+1)])=_
      rw[Int.toNat_natCast]
      exact EX dr lc zc (m+1) hm
     rw[ec,e] at T
     have e2:aG (aq (m+1) 2) 2=2*(m+1+1):=by rw[aJ,ja];omega
     have e3:aG (m+1) 1=m+1+1:=aJ _ _
     rw[e2,e3] at T
     refine aY T (cK _ _ hC) (ak _ _) (al _ _) ?_
     refine Tr.ag (fun h0=>?_) (fun h0=>by simp (disch:=omega) only[nV,nW] at h0;omega)
     exact Tr.an ⟨rfl,by omega,by omega⟩ (Tr.af (by simp (disch:=omega) only[nV,nW];omega) (Tr.af (by simp (disch:=omega) only[nV,nW]) (Tr.af (by simp (disch:=omega) only[nV,nW];omega) (Tr.af (by simp (disch:=omega) only[nV,nW]) (Tr.af (by rw[eK,aJ,ja];exact decide_eq_true (by omega)) (Tr.ah ⟨rfl,rfl⟩))))))
 · obtain ⟨m,rfl⟩:∃ m,lc=m+1:=⟨lc-1,by omega⟩
   have T:=Lz (n+2) dr (m+1) zc lb zb H (Int.ofNat (m+1)) (fun c=>0≤c∧c<(m+1:Nat)) (fun c=>cE dr (m+1) zc (2*c.toNat)) (fun c=>cE dr (m+1) zc (2*c.toNat+1)) m (m+1) (2*(m+1)) (sG dr (m+1) zc (m+1))
   obtain ⟨x,h1,rfl⟩:=aY (Q:=fun x=>x=(.exit 0,wH (uE 1 (m+1-1) (m+1)) (Int.ofNat (m+1))++[(13,.bool false)],c6 dr (m+1) zc lb zb [uB (m+1-1) (2*(m+1)) (cE dr (m+1) zc)]::H)) T (cK _ _ hC) (ak _ _) (al _ _) (by
    refine Tr.ag (fun h0=>by simp (disch:=omega) only[nV,nW] at h0;omega) (fun h0=>Tr.ah ?_)
    rw[← BR];rfl)
   exact h1
end
end Go.Eng
end
section
namespace Go.Eng
open Go.Proofs Go.Eng.Gall
theorem Kg:∀ b,(0,b) ∈ aP (bw Tryd.f57)→b=.loop (part Tryd.f57 [1,1,0,1,0,0]):=fJ (by kernel_rfl)
theorem Kh:∀ b,(2,b) ∈ aP (bw Tryd.f57)→b=.loop (part Tryd.f57 [1,1,1,0,1,0,0]):=fJ (by kernel_rfl)
theorem Ki:∀ b,(4,b) ∈ aP (part Tryd.f57 [1,1,1,0,1,0,0])→b=.loop (part Tryd.f57 [1,1,1,0,1,0,0,1,0,0,1,0,0]):=fJ (by kernel_rfl)
def th (zb:Nat→Int) (j:Nat):List (Nat×Nat):=(List.range j).map fun i=>((zb (i*2)).toNat,(zb (i*2+1)).toNat)
theorem F3 (zb:Nat→Int) (j:Nat):th zb (j+1)=th zb j++[((zb (j*2)).toNat,(zb (j*2+1)).toNat)]:=by unfold th;rw[List.range_succ,List.map_append];rfl
theorem Ba {lc lb:Nat} {zb:Nat→Int} (hp:fi lc lb zb) {j:Nat} (hj:j≤lb) {p:Nat×Nat} (h:p ∈ th zb j):p.1<lc∧p.2<lc∧(eu zb p.2 lb).testBit p.1=true:=by
 unfold th at h
 obtain ⟨i,hi,rfl⟩:=List.mem_map.1 h
 have hi:=List.mem_range.1 hi
 have:=hp i (by omega)
 refine ⟨by show (zb (i*2)).toNat<lc;omega,by show (zb (i*2+1)).toNat<lc;omega,?_⟩
 exact (jW zb _ _ lb (fun i hi=>(hp i hi).1.1)).2 ⟨i,by omega,by show zb (i*2)=((zb (i*2)).toNat:Int);omega,by show zb (i*2+1)=((zb (i*2+1)).toNat:Int);omega⟩
theorem A9 {lc lb:Nat} {zb:Nat→Int} (hp:fi lc lb zb):CY lc (fun c=>eu zb c lb) (th zb lb):=fun a c=>by
 constructor
 · intro h;exact Ba hp (Nat.le_refl _) h
 · rintro ⟨h1,h2,h3⟩
   obtain ⟨i,hi,h4,h5⟩:=(jW zb c a lb (fun i hi=>(hp i hi).1.1)).1 h3
   unfold th
   exact List.mem_map.2 ⟨i,List.mem_range.2 hi,by rw[h4,h5,Int.toNat_natCast,Int.toNat_natCast]⟩
section
variable (dr:Int) (lc:Nat) (zc:Nat→Int) (lb:Nat) (zb:Nat→Int)
theorem Lo (hl:lc≤10) (hd:1≤dr∧dr≤100) (hv:qb lc zc) (hp:fi lc lb zb) (hk:kK lc (fun c=>eu zb c lb)=false):ny lc (cE dr lc zc) (fun c=>eu zb c lb):=by
 refine ⟨hl,fun j=>?_,fun j hj=>?_,fun c hc=>yV zb c lc lb (fun i hi=>(hp i hi).1),fun c hc=>?_,hk⟩
 · unfold cE
   by_cases h:j<2*lc
   · rw[if_pos h]
     obtain ⟨v1,v2,v3,v4,v5,v6⟩:=EV hv (show j / 2<lc by omega)
     have q1:=qo (a:=zc (j / 2*4+3)-zc (j / 2*4+1)) hd.1 (K:=1000) (by omega) (by omega) (by decide)
     have q2:=qo (a:=zc (j / 2*4)-zc (j / 2*4+2)) hd.1 (K:=1000) (by omega) (by omega) (by decide)
     split<;>omega
   · rw[if_neg h];omega
 · unfold cE;rw[if_neg (by omega)]
 · cases e:eu zb c lb with
   | zero=>rfl
   | succ m =>
     exfalso
     have:∃ a,(eu zb c lb).testBit a=true:=by
      apply Classical.byContradiction
      intro hn
      have:eu zb c lb=0:=by
       apply Nat.eq_of_testBit_eq
       intro i
       rw[Nat.zero_testBit]
       cases e:(eu zb c lb).testBit i with
       | false=>rfl
       | true=>exact absurd ⟨i,e⟩ hn
      omega
     obtain ⟨a,ha⟩:=this
     obtain ⟨i,hi,h4,h5⟩:=(jW zb c a lb (fun i hi=>(hp i hi).1.1)).1 ha
     have:=hp i hi
     omega
variable (n:Nat) (H:aa)
theorem Nu (h1:1≤lc) (hl:lc≤10) (hb:lb≤1000) (hS:ny lc (cE dr lc zc) (fun c=>eu zb c lb)) (hp:fi lc lb zb) (z:Nat→Int) (t':Nat) (hr:Bd lc (fun c=>eu zb c lb) (cE dr lc zc) t' z) (t:Int):exec (cI n 57 81) (.block 4 (.loop (part Tryd.f57 [1,1,1,0,1,0,0,1,0,0,1,0,0]))) (zo (uE 1 (lc-1) lc) t (Int.ofNat 0)) (c6 dr lc zc lb zb [uB (lc-1) (2*lc) z]::H) =
 some (.normal,zo (uE 1 (lc-1) lc) t (Int.ofNat lb)++[(33,.bool false)],c6 dr lc zc lb zb [uB (lc-1) (2*lc) (kx z (th zb lb))]::H):=by
 refine ld (n:=n) (f:=57) (nt:=81) (c:=part Tryd.f57 [1,1,1,0,1,0,0,1,0,0,1,0,0]) 4 (fun j=>zo (uE 1 (lc-1) lc) t (j:Int)) (fun j=>c6 dr lc zc lb zb [uB (lc-1) (2*lc) (kx z (th zb j))]::H) lb (_,_) (by omega) (fun j hj=>?_) ?_
 · obtain ⟨⟨p1,p2⟩,p3,p4⟩:=hp j hj
   have hs:Bd lc (fun c=>eu zb c lb) (cE dr lc zc) t' (kx z (th zb j)):=(nE hS.nob _ hr (fun p hp'=>Ba hp (by omega) hp')).1
   have e9:kx z (th zb (j+1))=yO (kx z (th zb j)) (zb (j*2)).toNat (zb (j*2+1)).toNat:=by rw[F3,vK];rfl
   generalize hR:kx z (th zb j)=R at *
   have bc:=uP (K:=100000) (by omega) hS.win hs (zb (j*2+1)).toNat (by omega)
   have ba:=uP (K:=100000) (by omega) hS.win hs (zb (j*2)).toNat (by omega)
   have ec:bz .i64 (j:Int) (Int.ofNat 1)=((j+1:Nat):Int):=gN (by omega)
   have ei:aE 0 (j:Int) 2=j*2:=by rw[bO];omega
   have T:=Lx n dr lc zc lb zb H t (j:Int) (lc-1) lc (2*lc) R
   have es:Nat.succ (j*2)=j*2+1:=rfl
   have e1:aE 0 (zb (j*2+1)) 2=2*(zb (j*2+1)).toNat:=by rw[bO];omega
   have e2:aE 0 (zb (j*2)) 2=2*(zb (j*2)).toNat:=by rw[bO];omega
   rw[ei,es,e1,e2,aJ,aJ,ec,vW,vW] at T
   generalize hA:(zb (j*2)).toNat=A at *
   generalize hC:(zb (j*2+1)).toNat=C at *
   have e4:bz .i64 (R (2*A)) (Int.ofNat 1)=R (2*A)+1:=J8 (by show _≤R (2*A)+1;omega) (by show R (2*A)+1≤_;omega)
   rw[e4] at T
   have e5:mC (R (2*C)) (R (2*A)+1)=max (R (2*C)) (R (2*A)+1):=by rw[mb];omega
   rw[e5] at T
   have e6:yP R (2*C) (max (R (2*C)) (R (2*A)+1)) (2*C+1)=R (2*C+1):=by unfold yP;rw[if_neg (by omega)]
   have e7:bW .i64 (yP R (2*C) (max (R (2*C)) (R (2*A)+1)) (2*C+1)) (Int.ofNat 1)=yP R (2*C) (max (R (2*C)) (R (2*A)+1)) (2*C+1)-1:=by
    rw[e6]
    exact tw (by show _≤R (2*C+1)-1;omega) (by show R (2*C+1)-1≤_;omega)
   rw[e7] at T
   have e8:∀ x y:Int,qh x y=min x y:=fun x y=>by rw[mc];omega
   rw[e8] at T
   refine aY T (aV _) (ak _ _) (al _ _) ?_
   have q1:dk (j:Int) lb=true:=by simp (disch:=omega) only[nV,nW];omega
   have q2:dk (Int.ofNat 0) 2=true:=by simp (disch:=omega) only[nV,nW];omega
   have q3:dk (Int.ofNat 1) 2=true:=by simp (disch:=omega) only[nV,nW];omega
   have q4:cW (j*2) (aq lb 2)=true:=by simp (disch:=omega) only[nV,nW];omega
   have q5:cW (j*2+1) (aq lb 2)=true:=by simp (disch:=omega) only[nV,nW];omega
   have q6:dk (zb (j*2+1)) lc=true:=by simp (disch:=omega) only[nV,nW];omega
   have q7:dk (zb (j*2)) lc=true:=by simp (disch:=omega) only[nV,nW];omega
   have qv:fX (lc-1) (lc-1)=true:=by simp (disch:=omega) only[nV,nW]
   have q8:cW (2*C) (2*lc)=true:=by simp (disch:=omega) only[nV,nW];omega
   have q9:cW (2*A) (2*lc)=true:=by simp (disch:=omega) only[nV,nW];omega
   have q10:cW (2*A+1) (2*lc)=true:=by simp (disch:=omega) only[nV,nW];omega
   have q11:cW (2*C+1) (2*lc)=true:=by simp (disch:=omega) only[nV,nW];omega
   have qa:bY (jS (lc-1) (lc-1)) (jS (lc-1) (Nat.succ (lc-1)))=true:=by rw[bP,iD,iD,decide_eq_true (Nat.le_refl _),decide_eq_true (by omega)];rfl
   refine Tr.ag (fun h0=>?_) (fun h0=>by simp (disch:=omega) only[nV,nW] at h0;omega)
   refine Tr.af q1 (Tr.af q2 (Tr.af q4 (Tr.af q1 (Tr.af q3 (Tr.af q5 (Tr.af q6 (Tr.af qv (Tr.af q8 (Tr.af q7 (Tr.af qv (Tr.af q9 (Tr.af q6 (Tr.af qv (Tr.af q8 (Tr.af qa (Tr.af q7 (Tr.af qv (Tr.af q10 (Tr.af q6 (Tr.af qv (Tr.af q11 (Tr.af q7 (Tr.af qv (Tr.af q10 (Tr.af qa ?_)))))))))))))))))))))))))
   refine Tr.ah ⟨rfl,?_⟩
   rw[e9];rfl
 · obtain ⟨x,h1,rfl⟩:=aY (Q:=fun x=>x=(.exit 4,zo (uE 1 (lc-1) lc) t (Int.ofNat lb)++[(33,.bool false)],c6 dr lc zc lb zb [uB (lc-1) (2*lc) (kx z (th zb lb))]::H)) (Lx n dr lc zc lb zb H t (Int.ofNat lb) (lc-1) lc (2*lc) (kx z (th zb lb))) (aV _) (ak _ _) (al _ _) (by
    refine Tr.ag (fun h0=>by simp (disch:=omega) only[nV,nW] at h0;omega) (fun h0=>Tr.ah rfl))
   exact h1
theorem Nx (h1:1≤lc) (hl:lc≤10) (hb:lb≤1000) (hS:ny lc (cE dr lc zc) (fun c=>eu zb c lb)) (hp:fi lc lb zb):exec (cI n 57 81) (.block 2 (.loop (part Tryd.f57 [1,1,1,0,1,0,0]))) (wJ (uE 1 (lc-1) lc) (Int.ofNat 0)) (c6 dr lc zc lb zb [uB (lc-1) (2*lc) (cE dr lc zc)]::H) =
 some (.normal,wJ (uE 1 (lc-1) lc) (Int.ofNat lc)++[(26,.bool false)],c6 dr lc zc lb zb [uB (lc-1) (2*lc) (eQ (th zb lb) (cE dr lc zc) lc)]::H):=by
 refine ld (n:=n) (f:=57) (nt:=81) (c:=part Tryd.f57 [1,1,1,0,1,0,0]) 2 (fun t=>wJ (uE 1 (lc-1) lc) (t:Int)) (fun t=>c6 dr lc zc lb zb [uB (lc-1) (2*lc) (eQ (th zb lb) (cE dr lc zc) t)]::H) lc (_,_) (by omega) (fun t ht=>?_) ?_
 · have hbd:=ky (w:=cE dr lc zc) hS.nob (A9 hp) t
   have ec:bz .i64 (t:Int) (Int.ofNat 1)=((t+1:Nat):Int):=gN (by omega)
   have T:=Oz n dr lc zc lb zb H (t:Int) (lc-1) lc (2*lc) (eQ (th zb lb) (cE dr lc zc) t) (eQ (th zb lb) (cE dr lc zc) (t+1))
   rw[ec] at T
   refine aY T (aV _) (bu (ak _ _) Ki (fun x h=>by rw[← Tr.ab h];simp only[gZ.st,bn];exact Nu dr lc zc lb zb n H h1 hl hb hS hp _ t hbd (t:Int))) (al _ _) ?_
   exact Tr.ag (fun h0=>Tr.an ⟨rfl,rfl⟩ (Tr.ah ⟨rfl,rfl⟩)) (fun h0=>by simp (disch:=omega) only[nV,nW] at h0;omega)
 · obtain ⟨x,h1,rfl⟩:=aY (Q:=fun x=>x=(.exit 2,wJ (uE 1 (lc-1) lc) (Int.ofNat lc)++[(26,.bool false)],c6 dr lc zc lb zb [uB (lc-1) (2*lc) (eQ (th zb lb) (cE dr lc zc) lc)]::H)) (Ly n dr lc zc lb zb H (Int.ofNat lc) (lc-1) lc (2*lc) (eQ (th zb lb) (cE dr lc zc) lc)) (aV _) (fB (ak _ _) 4) (al _ _) (by
    refine Tr.ag (fun h0=>by simp (disch:=omega) only[nV,nW] at h0;omega) (fun h0=>Tr.ah rfl))
   exact h1
noncomputable def Pz (lc:Nat) (r:Nat→Int):AV:=.slcT none (.M [.arr .i64 r (aq lc 2)]) 2 lc false
theorem Qe (h1:1≤lc) (hl:lc≤10) (hb:lb≤1000) (hd:1≤dr∧dr≤100) (hv:qb lc zc) (hp:fi lc lb zb) (hk:kK lc (fun c=>eu zb c lb)=false):cd (n+3) (.fn 57) [df dr lc zc lb zb] H=some (Pz lc (qc lc (fun c=>eu zb c lb) (cE dr lc zc)),H):=by
 have hS:=Lo dr lc zc lb zb hl hd hv hp hk
 have e1:=Np n dr lc zc lb zb H h1 hl hd hv
 have e2:=Nx dr lc zc lb zb (n+2) H h1 hl hb hS hp
 rw[yU (Nat.le_refl lc) (ky (w:=cE dr lc zc) hS.nob (A9 hp) lc)] at e2
 refine bN (n:=n+2) Tryd.func57 rfl rfl rfl (SH (n+2) dr lc zc lb zb H (lc-1) lc (2*lc) (cE dr lc zc) (qc lc (fun c=>eu zb c lb) (cE dr lc zc))) (aV _) (bu (bu (ak _ _) Kg (fun x h=>by rw[← Tr.ab h];simp only[gZ.st,bn];exact e1)) Kh (fun x h=>by rw[← Tr.ab h];simp only[gZ.st,bn];exact e2)) (al _ _) ?_
 refine Tr.an ⟨rfl,rfl⟩ (Tr.an ⟨rfl,rfl⟩ (Tr.af (by simp (disch:=omega) only[nV,nW]) (Tr.af (by rw[iA,ja];exact decide_eq_true (by omega)) (Tr.ah ⟨?_,rfl⟩))))
 rw[lS];rfl
end
end Go.Eng
end
section
namespace Go.Eng
open Go.Proofs Go.Eng.Gall
noncomputable def v8 (d:Nat):AV:=.slc d 2 0 0 1 1 (some 1)
noncomputable def lB (b0 b1:Nat×av) (c:Int):bL:=⟨false,[b0,b1,(0,.row (.I .i64 [c]))]⟩
noncomputable def uZ (d:Nat):AV:=.fn (.func 80) [] [.ptr d 0 0 0]
noncomputable def vg (j:Int):az:=[(0,v8 3),(1,uZ 2),(7,.int .i64 (Int.ofNat 1)),(8,.int .i64 j)]
theorem u16 (n:Nat) (dr:Int) (lc:Nat) (zc:Nat→Int) (lb:Nat) (zb:Nat→Int) (H:aa) (c:Int) (p:Int) (W B:Nat→Int):bA Tryd.prog (cd (n+1)) 100000 16 Tryd.f16 (KtG.kt 16) (il (B6 aX 49 [df dr lc zc lb zb,v8 0] (lB (0,.row (.G [.int .i64 dr,slA 4 lc zc,slA 2 lb zb])) (0,.row (.I .i64 [Int.ofNat 0,Int.ofNat 0])) c::H) (.ok (.tup [shV dr lc zc lb zb W B,.int .i64 (Int.ofNat 0)],lB (0,.row (.G [.int .i64 dr,slA 4 lc zc,slA 2 lb zb])) (0,.row (.I .i64 [Int.ofNat 0,Int.ofNat 0])) c::H))) n 1) bo bp [(df dr lc zc lb zb,none),(.int .i64 c,none),(.int .i64 p,none)] H =
 (fun (Z0:Row)=>((fun (Z1:Row)=>((fun (Z2:bL)=>Tr.reqP ([AV.agg Z0,AV.slc 0 2 0 0 1 1 (some 1)]=[AV.agg Z0,AV.slc 0 2 0 0 1 1 (some 1)]∧Z2::H=Z2::H) (Tr.ite (cH (dC (Int.ofNat 0) (Int.ofNat 0))) (Tr.ok ((AV.tup [AV.agg Z1,AV.int .i64 (Int.ofNat 0)],none),H)) (Tr.ite (da p (Int.ofNat 0)) (Tr.ok ((AV.tup [AV.agg Z1,AV.int .i64 (Int.ofNat 3)],none),H)) (Tr.ite (er (Int.ofNat lc) p) (Tr.ok ((AV.tup [AV.agg Z1,AV.int .i64 (Int.ofNat 3)],none),H)) (Tr.req (dk c lc) (Tr.req (cW (aE 0 c 4) (aq lc 4)) (Tr.req (cW (aG (aE 0 c 4) 1) (aq lc 4)) (Tr.req (bY (jS 0 0) (jS 0 1)) (Tr.ok ((AV.tup [AV.agg (Row.I .i64 [bW .i64 (zc (aE 0 c 4)) (qi .i64 p dr),bW .i64 (zc (aG (aE 0 c 4) 1)) (qi .i64 p dr)]),AV.int .i64 (Int.ofNat 0)],none),H)))))))))) { lock:=false,bs:=[(0,av.row Z0),(0,av.row Z1),(0,av.row (Row.I .i64 [c]))] })) (Row.I .i64 [Int.ofNat 0,Int.ofNat 0]))) (Row.G [AV.int .i64 dr,AV.slcT none (Row.M [aw.arr .i64 zc (aq lc 4)]) 4 lc false,AV.slcT none (Row.M [aw.arr .i64 zb (aq lb 2)]) 2 lb false]):=by kernel_rfl
theorem OC (n:Nat) (dr:Int) (lc:Nat) (zc:Nat→Int) (lb:Nat) (zb:Nat→Int) (H:aa) (c:Int) (p:Int) (e:Int):bA Tryd.prog (cd (n+1)) 100000 16 Tryd.f16 (KtG.kt 16) (il (B6 aX 49 [df dr lc zc lb zb,v8 0] (lB (0,.row (.G [.int .i64 dr,slA 4 lc zc,slA 2 lb zb])) (0,.row (.I .i64 [Int.ofNat 0,Int.ofNat 0])) c::H) (.ok (.tup [.nilp,.int .i64 e],lB (0,.row (.G [.int .i64 dr,slA 4 lc zc,slA 2 lb zb])) (0,.row (.I .i64 [Int.ofNat 0,Int.ofNat 0])) c::H))) n 1) bo bp [(df dr lc zc lb zb,none),(.int .i64 c,none),(.int .i64 p,none)] H =
 (fun (Z0:Row)=>((fun (Z1:Row)=>((fun (Z2:bL)=>Tr.reqP ([AV.agg Z0,AV.slc 0 2 0 0 1 1 (some 1)]=[AV.agg Z0,AV.slc 0 2 0 0 1 1 (some 1)]∧Z2::H=Z2::H) (Tr.ite (cH (dC e (Int.ofNat 0))) (Tr.ok ((AV.tup [AV.agg Z1,AV.int .i64 e],none),H)) (Tr.ite (da p (Int.ofNat 0)) (Tr.ok ((AV.tup [AV.agg Z1,AV.int .i64 (Int.ofNat 3)],none),H)) (Tr.ite (er (Int.ofNat lc) p) (Tr.ok ((AV.tup [AV.agg Z1,AV.int .i64 (Int.ofNat 3)],none),H)) Tr.bad)))) { lock:=false,bs:=[(0,av.row Z0),(0,av.row Z1),(0,av.row (Row.I .i64 [c]))] })) (Row.I .i64 [Int.ofNat 0,Int.ofNat 0]))) (Row.G [AV.int .i64 dr,AV.slcT none (Row.M [aw.arr .i64 zc (aq lc 4)]) 4 lc false,AV.slcT none (Row.M [aw.arr .i64 zb (aq lb 2)]) 2 lb false]):=by kernel_rfl
theorem Sx (n:Nat) (dr:Int) (lc:Nat) (zc:Nat→Int) (lb:Nat) (zb:Nat→Int) (H:aa) (c:Int) (W B:Nat→Int):bA Tryd.prog (cd (n+1)) 100000 18 Tryd.f18 (KtG.kt 18) (il (B6 aX 49 [df dr lc zc lb zb,v8 0] (lB (0,.row (.G [.int .i64 dr,slA 4 lc zc,slA 2 lb zb])) (0,.row (.I .i64 [Int.ofNat 0,Int.ofNat 0])) c::H) (.ok (.tup [shV dr lc zc lb zb W B,.int .i64 (Int.ofNat 0)],lB (0,.row (.G [.int .i64 dr,slA 4 lc zc,slA 2 lb zb])) (0,.row (.I .i64 [Int.ofNat 0,Int.ofNat 0])) c::H))) n 1) bo bp [(df dr lc zc lb zb,none),(.int .i64 c,none)] H =
 (fun (Z0:Row)=>((fun (Z1:bL)=>Tr.reqP ([AV.agg Z0,AV.slc 0 2 0 0 1 1 (some 1)]=[AV.agg Z0,AV.slc 0 2 0 0 1 1 (some 1)]∧Z1::H=Z1::H) (Tr.ite (cH (dC (Int.ofNat 0) (Int.ofNat 0))) (Tr.ok ((AV.tup [AV.agg (Row.I .i64 [Int.ofNat 0,Int.ofNat 0]),AV.int .i64 (Int.ofNat 0)],none),H)) (Tr.req (dk c 10) (Tr.req (nv (aE 3 c 2) 1 3 20) (Tr.req (nv (aG (aE 3 c 2) 1) 1 3 20) (Tr.ite (da (W (fG (aG (aE 3 c 2) 1) 3)) (W (fG (aE 3 c 2) 3))) (Tr.ok ((AV.tup [AV.agg (Row.I .i64 [Int.ofNat 0,Int.ofNat 0]),AV.int .i64 (Int.ofNat 21)],none),H)) (Tr.ok ((AV.tup [AV.agg (Row.I .i64 [W (fG (aE 3 c 2) 3),W (fG (aG (aE 3 c 2) 1) 3)]),AV.int .i64 (Int.ofNat 0)],none),H)))))))) { lock:=false,bs:=[(0,av.row Z0),(0,av.row (Row.I .i64 [Int.ofNat 0,Int.ofNat 0])),(0,av.row (Row.I .i64 [c]))] })) (Row.G [AV.int .i64 dr,AV.slcT none (Row.M [aw.arr .i64 zc (aq lc 4)]) 4 lc false,AV.slcT none (Row.M [aw.arr .i64 zb (aq lb 2)]) 2 lb false]):=by kernel_rfl
theorem OD (n:Nat) (dr:Int) (lc:Nat) (zc:Nat→Int) (lb:Nat) (zb:Nat→Int) (H:aa) (c:Int) (e:Int):bA Tryd.prog (cd (n+1)) 100000 18 Tryd.f18 (KtG.kt 18) (il (B6 aX 49 [df dr lc zc lb zb,v8 0] (lB (0,.row (.G [.int .i64 dr,slA 4 lc zc,slA 2 lb zb])) (0,.row (.I .i64 [Int.ofNat 0,Int.ofNat 0])) c::H) (.ok (.tup [.nilp,.int .i64 e],lB (0,.row (.G [.int .i64 dr,slA 4 lc zc,slA 2 lb zb])) (0,.row (.I .i64 [Int.ofNat 0,Int.ofNat 0])) c::H))) n 1) bo bp [(df dr lc zc lb zb,none),(.int .i64 c,none)] H =
 (fun (Z0:Row)=>((fun (Z1:bL)=>Tr.reqP ([AV.agg Z0,AV.slc 0 2 0 0 1 1 (some 1)]=[AV.agg Z0,AV.slc 0 2 0 0 1 1 (some 1)]∧Z1::H=Z1::H) (Tr.ite (cH (dC e (Int.ofNat 0))) (Tr.ok ((AV.tup [AV.agg (Row.I .i64 [Int.ofNat 0,Int.ofNat 0]),AV.int .i64 e],none),H)) Tr.bad)) { lock:=false,bs:=[(0,av.row Z0),(0,av.row (Row.I .i64 [Int.ofNat 0,Int.ofNat 0])),(0,av.row (Row.I .i64 [c]))] })) (Row.G [AV.int .i64 dr,AV.slcT none (Row.M [aw.arr .i64 zc (aq lc 4)]) 4 lc false,AV.slcT none (Row.M [aw.arr .i64 zb (aq lb 2)]) 2 lb false]):=by kernel_rfl
theorem Sz (n:Nat) (dr:Int) (lc:Nat) (zc:Nat→Int) (lb:Nat) (zb:Nat→Int) (H:aa) (c:Int) (W B:Nat→Int) (r:Nat→Int):bA Tryd.prog (cd (n+1)) 100000 20 Tryd.f20 (KtG.kt 20) (il (B6 (tX aX 56 [shV dr lc zc lb zb W B] (.agg (.M [.arr .i64 r 20]))) 49 [df dr lc zc lb zb,v8 0] (lB (0,.row (.G [.int .i64 dr,slA 4 lc zc,slA 2 lb zb])) (0,.row (.I .i64 [Int.ofNat 0,Int.ofNat 0])) c::H) (.ok (.tup [shV dr lc zc lb zb W B,.int .i64 (Int.ofNat 0)],lB (0,.row (.G [.int .i64 dr,slA 4 lc zc,slA 2 lb zb])) (0,.row (.I .i64 [Int.ofNat 0,Int.ofNat 0])) c::H))) n 1) bo bp [(df dr lc zc lb zb,none),(.int .i64 c,none)] H =
 (fun (Z0:Row)=>((fun (Z1:List AV)=>((fun (Z2:bL)=>Tr.reqP ([AV.agg Z0,AV.slc 0 2 0 0 1 1 (some 1)]=[AV.agg Z0,AV.slc 0 2 0 0 1 1 (some 1)]∧Z2::H=Z2::H) (Tr.ite (cH (dC (Int.ofNat 0) (Int.ofNat 0))) (Tr.ok ((AV.tup [AV.agg (Row.I .i64 [Int.ofNat 0,Int.ofNat 0]),AV.int .i64 (Int.ofNat 0)],none),H)) (Tr.reqP (Z1=Z1) (Tr.req (dk c 10) (Tr.req (cW (aE 0 c 2) 20) (Tr.req (cW (aG (aE 0 c 2) 1) 20) (Tr.ite (da (r (aG (aE 0 c 2) 1)) (r (aE 0 c 2))) (Tr.ok ((AV.tup [AV.agg (Row.I .i64 [Int.ofNat 0,Int.ofNat 0]),AV.int .i64 (Int.ofNat 21)],none),H)) (Tr.ok ((AV.tup [AV.agg (Row.I .i64 [r (aE 0 c 2),r (aG (aE 0 c 2) 1)]),AV.int .i64 (Int.ofNat 0)],none),H))))))))) { lock:=false,bs:=[(0,av.row Z0),(0,av.row (Row.I .i64 [Int.ofNat 0,Int.ofNat 0])),(0,av.row (Row.I .i64 [c]))] })) [AV.ptrT none (Row.M [aw.one (AV.int .i64 dr),aw.one (AV.slcT none (Row.M [aw.arr .i64 zc (aq lc 4)]) 4 lc false),aw.one (AV.slcT none (Row.M [aw.arr .i64 zb (aq lb 2)]) 2 lb false),aw.arr .i64 W 20,aw.arr IntKind.u64 B 10]) 0])) (Row.G [AV.int .i64 dr,AV.slcT none (Row.M [aw.arr .i64 zc (aq lc 4)]) 4 lc false,AV.slcT none (Row.M [aw.arr .i64 zb (aq lb 2)]) 2 lb false]):=by kernel_rfl
theorem OE (n:Nat) (dr:Int) (lc:Nat) (zc:Nat→Int) (lb:Nat) (zb:Nat→Int) (H:aa) (c:Int) (e:Int):bA Tryd.prog (cd (n+1)) 100000 20 Tryd.f20 (KtG.kt 20) (il (B6 aX 49 [df dr lc zc lb zb,v8 0] (lB (0,.row (.G [.int .i64 dr,slA 4 lc zc,slA 2 lb zb])) (0,.row (.I .i64 [Int.ofNat 0,Int.ofNat 0])) c::H) (.ok (.tup [.nilp,.int .i64 e],lB (0,.row (.G [.int .i64 dr,slA 4 lc zc,slA 2 lb zb])) (0,.row (.I .i64 [Int.ofNat 0,Int.ofNat 0])) c::H))) n 1) bo bp [(df dr lc zc lb zb,none),(.int .i64 c,none)] H =
 (fun (Z0:Row)=>((fun (Z1:bL)=>Tr.reqP ([AV.agg Z0,AV.slc 0 2 0 0 1 1 (some 1)]=[AV.agg Z0,AV.slc 0 2 0 0 1 1 (some 1)]∧Z1::H=Z1::H) (Tr.ite (cH (dC e (Int.ofNat 0))) (Tr.ok ((AV.tup [AV.agg (Row.I .i64 [Int.ofNat 0,Int.ofNat 0]),AV.int .i64 e],none),H)) Tr.bad)) { lock:=false,bs:=[(0,av.row Z0),(0,av.row (Row.I .i64 [Int.ofNat 0,Int.ofNat 0])),(0,av.row (Row.I .i64 [c]))] })) (Row.G [AV.int .i64 dr,AV.slcT none (Row.M [aw.arr .i64 zc (aq lc 4)]) 4 lc false,AV.slcT none (Row.M [aw.arr .i64 zb (aq lb 2)]) 2 lb false]):=by kernel_rfl
theorem t89 (n:Nat) (dr:Int) (lc:Nat) (zc:Nat→Int) (lb:Nat) (zb:Nat→Int) (H:aa) (b0 b1:Nat×av) (c:Int):aZ (cI (n+1) 89 19) (il aX n 1) bo bp (part Tryd.f89 [1,0,1,0,0]) (hints (vg (Int.ofNat 0))) (aR::aR::iN dr lc zc lb zb::lB b0 b1 c::H) =
 (fun (Z0:bL)=>((fun (Z1:bL)=>Tr.ite (da (Int.ofNat 0) (Int.ofNat 1)) (Tr.req (dk (Int.ofNat 0) 1) (Tr.req (fX 0 0) (Tr.req (cW (aE 0 (Int.ofNat 0) 1) (D3 [c])) (Tr.ite (da (bC [c] (aE 0 (Int.ofNat 0) 1)) (Int.ofNat 0)) (Tr.ok (Ex.ret,[(4,AV.int .i64 (Int.ofNat 0),none)],aR::aR::Z0::Z1::H)) (Tr.ite (er (Int.ofNat lc) (bC [c] (aE 0 (Int.ofNat 0) 1))) (Tr.ok (Ex.ret,[(4,AV.int .i64 (Int.ofNat 0),none)],aR::aR::Z0::Z1::H)) (Tr.ok (Ex.normal,[(0,AV.slc 3 2 0 0 1 1 (some 1),none),(1,AV.fn (Fn.func 80) [] [AV.ptr 2 0 0 0],none),(7,AV.int .i64 (Int.ofNat 1),none),(8,AV.int .i64 (bz .i64 (Int.ofNat 0) (Int.ofNat 1)),none)],aR::aR::Z0::Z1::H))))))) (Tr.ok (Ex.exit 0,[(0,AV.slc 3 2 0 0 1 1 (some 1),none),(1,AV.fn (Fn.func 80) [] [AV.ptr 2 0 0 0],none),(7,AV.int .i64 (Int.ofNat 1),none),(8,AV.int .i64 (Int.ofNat 0),none),(9,AV.bool false,some 1)],aR::aR::Z0::Z1::H))) { lock:=false,bs:=[b0,b1,(0,av.row (Row.I .i64 [c]))] })) { lock:=false,bs:=[(0,av.row (Row.G [AV.int .i64 dr,AV.slcT none (Row.M [aw.arr .i64 zc (aq lc 4)]) 4 lc false,AV.slcT none (Row.M [aw.arr .i64 zb (aq lb 2)]) 2 lb false]))] }:=by kernel_rfl
theorem OA (n:Nat) (dr:Int) (lc:Nat) (zc:Nat→Int) (lb:Nat) (zb:Nat→Int) (H:aa) (b0 b1:Nat×av) (c:Int):aZ (cI (n+1) 89 19) (il aX n 1) bo bp (part Tryd.f89 [1,0,1,0,0]) (hints (vg (Int.ofNat 1))) (aR::aR::iN dr lc zc lb zb::lB b0 b1 c::H) =
 (fun (Z0:bL)=>((fun (Z1:bL)=>Tr.ite (da (Int.ofNat 1) (Int.ofNat 1)) (Tr.req (dk (Int.ofNat 1) 1) (Tr.req (fX 0 0) (Tr.req (cW (aE 0 (Int.ofNat 1) 1) (D3 [c])) (Tr.ite (da (bC [c] (aE 0 (Int.ofNat 1) 1)) (Int.ofNat 0)) (Tr.ok (Ex.ret,[(4,AV.int .i64 (Int.ofNat 1),none)],aR::aR::Z0::Z1::H)) (Tr.ite (er (Int.ofNat lc) (bC [c] (aE 0 (Int.ofNat 1) 1))) (Tr.ok (Ex.ret,[(4,AV.int .i64 (Int.ofNat 1),none)],aR::aR::Z0::Z1::H)) (Tr.ok (Ex.normal,[(0,AV.slc 3 2 0 0 1 1 (some 1),none),(1,AV.fn (Fn.func 80) [] [AV.ptr 2 0 0 0],none),(7,AV.int .i64 (Int.ofNat 1),none),(8,AV.int .i64 (bz .i64 (Int.ofNat 1) (Int.ofNat 1)),none)],aR::aR::Z0::Z1::H))))))) (Tr.ok (Ex.exit 0,[(0,AV.slc 3 2 0 0 1 1 (some 1),none),(1,AV.fn (Fn.func 80) [] [AV.ptr 2 0 0 0],none),(7,AV.int .i64 (Int.ofNat 1),none),(8,AV.int .i64 (Int.ofNat 1),none),(9,AV.bool false,some 1)],aR::aR::Z0::Z1::H))) { lock:=false,bs:=[b0,b1,(0,av.row (Row.I .i64 [c]))] })) { lock:=false,bs:=[(0,av.row (Row.G [AV.int .i64 dr,AV.slcT none (Row.M [aw.arr .i64 zc (aq lc 4)]) 4 lc false,AV.slcT none (Row.M [aw.arr .i64 zb (aq lb 2)]) 2 lb false]))] }:=by kernel_rfl
theorem SW (n:Nat) (e:Bool) (G:aa):bA Tryd.prog (cd n) 100000 89 Tryd.f89 (KtG.kt 89) (il aX n 0) (dN bo 0 (vg (Int.ofNat 0)) (aR::G) (.ite e (.ok (.ret,[(4,.int .i64 (Int.ofNat 0),none)],aR::G)) (.ok (.normal,hints (vg (Int.ofNat 1)++[(9,.bool false)]),aR::G)))) bp [(v8 2,none),(uZ 1,none)] G =
 (fun (Z0:az)=>Tr.reqP (Z0=Z0∧aR::G=aR::G) (Tr.ite e (Tr.ok ((AV.int .i64 (Int.ofNat 0),none),G)) (Tr.ok ((AV.int .i64 (Int.negSucc 0),some 1),G)))) [(0,AV.slc 3 2 0 0 1 1 (some 1)),(1,AV.fn (Fn.func 80) [] [AV.ptr 2 0 0 0]),(7,AV.int .i64 (Int.ofNat 1)),(8,AV.int .i64 (Int.ofNat 0))]:=by kernel_rfl
theorem SN (n:Nat) (i:Int) (G:aa):bA Tryd.prog (cd n) 100000 67 Tryd.f67 (KtG.kt 67) (il (B6 aX 89 [v8 2,uZ 1] (aR::G) (.ok (.int .i64 i,aR::G))) n 0) bo bp [(v8 1,none),(uZ 0,none)] G =
 Tr.reqP ([AV.slc 2 2 0 0 1 1 (some 1),AV.fn (Fn.func 80) [] [AV.ptr 1 0 0 0]]=[AV.slc 2 2 0 0 1 1 (some 1),AV.fn (Fn.func 80) [] [AV.ptr 1 0 0 0]]∧aR::G=aR::G) (Tr.ok ((AV.bool (er (Int.ofNat 0) i),none),G)):=by kernel_rfl
theorem SE (n:Nat) (dr:Int) (lc:Nat) (zc:Nat→Int) (lb:Nat) (zb:Nat→Int) (W B:Nat→Int) (G:aa) (e:Int) (q:Bool) (C:List AV→Prop):bA Tryd.prog (cd n) 100000 49 Tryd.f49 (KtG.kt 49) (il (B6 (mr (tX aX 22 [df dr lc zc lb zb] (.int .i64 e)) 62 (fun x=>some (C x,shV dr lc zc lb zb W B))) 67 [v8 1,uZ 0] (iN dr lc zc lb zb::G) (.ok (.bool q,iN dr lc zc lb zb::G))) n 0) bo bp [(df dr lc zc lb zb,none),(v8 0,none)] G =
 (fun (Z0:Row)=>Tr.reqP ([AV.agg Z0]=[AV.agg Z0]) (Tr.ite (cH (dC e (Int.ofNat 0))) (Tr.ok ((AV.tup [AV.nilp,AV.int .i64 e],none),G)) (Tr.reqP ([AV.slc 1 2 0 0 1 1 (some 1),AV.fn (Fn.func 80) [] [AV.ptr 0 0 0 0]]=[AV.slc 1 2 0 0 1 1 (some 1),AV.fn (Fn.func 80) [] [AV.ptr 0 0 0 0]]∧{ lock:=false,bs:=[(0,av.row Z0)] } :: G={ lock:=false,bs:=[(0,av.row Z0)] } :: G) (Tr.ite q (Tr.ok ((AV.tup [AV.nilp,AV.int .i64 (Int.ofNat 2)],none),G)) (Tr.reqP (C [AV.agg Z0]) (Tr.ok ((AV.tup [AV.ptrT none (Row.M [aw.one (AV.int .i64 dr),aw.one (AV.slcT none (Row.M [aw.arr .i64 zc (aq lc 4)]) 4 lc false),aw.one (AV.slcT none (Row.M [aw.arr .i64 zb (aq lb 2)]) 2 lb false),aw.arr .i64 W 20,aw.arr IntKind.u64 B 10]) 0,AV.int .i64 (Int.ofNat 0)],none),G))))))) (Row.G [AV.int .i64 dr,AV.slcT none (Row.M [aw.arr .i64 zc (aq lc 4)]) 4 lc false,AV.slcT none (Row.M [aw.arr .i64 zb (aq lb 2)]) 2 lb false]):=by kernel_rfl
end Go.Eng
end
