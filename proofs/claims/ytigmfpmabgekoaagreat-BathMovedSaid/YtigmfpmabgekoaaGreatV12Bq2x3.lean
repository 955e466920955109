/- Bath: the points: the first births of the orders that have any, sorted, each once. -/
import Derived.Test.YtigmfpmabgekoaaGreatV12Bq1x2
import Derived.Test.YtigmfpmabgekoaaGreatV12Bc5x23
set_option linter.unusedVariables false
set_option linter.unusedSimpArgs false
set_option maxRecDepth 100000
section
namespace Go.Eng
open Go.Proofs
noncomputable def tp (s l m:Nat) (y g:Nat→Int) (L:AV) (j:Int):ay:=[(0,iO (s+1) l y),(3,L),(7,bD m g false),(8,.int .i64 (Int.ofNat m)),(9,.int .i64 j)]
noncomputable def OT (v k:Nat) (a b:Nat→Int) (args:List AV) (H:aa):Tr (AV×aa) :=
 match args with
 | [.slc 0 0 v' 0 1 k' none]=>match H with
   | ⟨lk,[(v2,.row (.M [.arr .i64 a' k2]))]⟩::r=>.reqP (lk=false∧v'=v∧k'=k∧v2=v∧k2=k∧a'=a) (.ok (.tup [],⟨false,[(v,.row (.M [.arr .i64 b k]))]⟩::r))
   | _=>.bad
 | _=>.bad
noncomputable def OU (v k k3:Nat) (a b:Nat→Int) (args:List AV) (H:aa):Tr (AV×aa) :=
 match args with
 | [.slc 0 0 v' 0 1 k' none]=>match H with
   | ⟨lk,[(v2,.row (.M [.arr .i64 a' k2]))]⟩::r=>.reqP (lk=false∧v'=v∧k'=k∧v2=v∧k2=k∧a'=a) (.ok (.slc 0 0 v 0 1 k3 none,⟨false,[(v,.row (.M [.arr .i64 b k]))]⟩::r))
   | _=>.bad
 | _=>.bad
theorem Nz (n s l m:Nat) (y g:Nat→Int) (H:aa) (j:Int):aN (bp n 81 32) (il aR n 0) aW aX (part Tryz.f81 [1,1,0,1,0,0]) (hints (tp s l m y g .nils j)) (aC::H) =
 Tr.ite (df j (Int.ofNat m)) (Tr.req (dR j m) (Tr.req (bx (au 0 j 1) m) (Tr.req (dR (g (au 0 j 1)) l) (Tr.req (bx (ah (au 0 (g (au 0 j 1)) 7) 5) (aq l 7)) (Tr.req (dJ 0 1 8) (Tr.req (cM 0 0) (Tr.req (fA 1 1) (Tr.ok (Ex.normal,[(0,AV.ptrT (some (Nat.succ s)) (Row.G [aG 7 l y]) 0,none),(3,AV.slc 0 1 0 0 1 1 none,none),(7,AV.slcT none (Row.M [aL.arr .i64 g m]) 1 m false,none),(8,AV.int .i64 (Int.ofNat m),none),(9,AV.int .i64 (aK .i64 j (Int.ofNat 1)),none)],{ lock:=false,bs:=[(0,ak.row (Row.I .i64 [y (ah (au 0 (g (au 0 j 1)) 7) 5)])),(0,ak.row (Row.M [aL.arr .i64 (aB [y (ah (au 0 (g (au 0 j 1)) 7) 5)]) 1]))] } :: H))))))))) (Tr.ok (Ex.exit 0,[(0,AV.ptrT (some (Nat.succ s)) (Row.G [aG 7 l y]) 0,none),(3,AV.nils,none),(7,AV.slcT none (Row.M [aL.arr .i64 g m]) 1 m false,none),(8,AV.int .i64 (Int.ofNat m),none),(9,AV.int .i64 j,none),(10,AV.bool false,some 1)],aC::H)):=by kernel_rfl
theorem NA (n s l m v k:Nat) (y g b:Nat→Int) (H:aa) (j:Int):aN (bp n 81 32) (il aR n 0) aW aX (part Tryz.f81 [1,1,0,1,0,0]) (hints (tp s l m y g (.slc 0 0 v 0 1 k none) j)) (⟨false,[(v,.row (.M [.arr .i64 b k]))]⟩::H) =
 Tr.ite (df j (Int.ofNat m)) (Tr.req (dR j m) (Tr.req (bx (au 0 j 1) m) (Tr.req (dR (g (au 0 j 1)) l) (Tr.req (bx (ah (au 0 (g (au 0 j 1)) 7) 5) (aq l 7)) (Tr.req (dJ k 1 8) (Tr.req (cM 0 0) (Tr.req (fA 1 1) (Tr.req (cM v v) (Tr.req (cM (ah 0 k) k) (Tr.ok (Ex.normal,[(0,AV.ptrT (some (Nat.succ s)) (Row.G [aG 7 l y]) 0,none),(3,AV.slc 0 0 (Nat.succ v) 0 1 (ah k 1) none,none),(7,AV.slcT none (Row.M [aL.arr .i64 g m]) 1 m false,none),(8,AV.int .i64 (Int.ofNat m),none),(9,AV.int .i64 (aK .i64 j (Int.ofNat 1)),none)],{ lock:=false,bs:=[(Nat.succ v,ak.row (Row.M [aL.arr .i64 (iE (fE b 0) k (aB [y (ah (au 0 (g (au 0 j 1)) 7) 5)])) (ah k 1)])),(0,ak.row (Row.I .i64 [y (ah (au 0 (g (au 0 j 1)) 7) 5)]))] } :: H))))))))))) (Tr.ok (Ex.exit 0,[(0,AV.ptrT (some (Nat.succ s)) (Row.G [aG 7 l y]) 0,none),(3,AV.slc 0 0 v 0 1 k none,none),(7,AV.slcT none (Row.M [aL.arr .i64 g m]) 1 m false,none),(8,AV.int .i64 (Int.ofNat m),none),(9,AV.int .i64 j,none),(10,AV.bool false,some 1)],{ lock:=false,bs:=[(v,ak.row (Row.M [aL.arr .i64 b k]))] } :: H)):=by kernel_rfl
theorem Rj (n s l m v k k3:Nat) (y g a b c:Nat→Int) (H:aa):bu Tryz.prog (cd (n+1)) 100000 81 Tryz.f81 (KtB.kt 81) (il (fS (fS (iz aR 64 (gO (iO (s+1) l y) (bD m g false))) 96 (OT v k a b)) 97 (OU v k k3 b c)) n 1) (eP aW 0 (tp s l m y g .nils (Int.ofNat 0)) (aC::H) (.ok (.normal,hints (tp s l m y g (.slc 0 0 v 0 1 k none) (Int.ofNat m)++[(10,.bool false)]),⟨false,[(v,.row (.M [.arr .i64 a k]))]⟩::H))) aX [(iO s l y,none)] H =
 (fun (Z0:ay)=>Tr.reqP (AV.ptrT (some (Nat.succ s)) (Row.G [aG 7 l y]) 0=AV.ptrT (some (Nat.succ s)) (Row.G [aG 7 l y]) 0) (Tr.reqP (Z0=Z0∧aC::H=aC::H) (Tr.reqP (false=false∧v=v∧k=k∧v=v∧k=k∧a=a) (Tr.reqP (false=false∧v=v∧k=k∧v=v∧k=k∧b=b) (Tr.req (cM v v) (Tr.req (la 0 k3 0 k) (Tr.ok ((AV.fn (Fn.func 112) [] [AV.ptrT (some 0) (Row.G [AV.slcT none (Row.M [aL.arr .i64 (fE c 0) k3]) 1 k3 false]) 0],none),H)))))))) [(0,AV.ptrT (some (Nat.succ s)) (Row.G [aG 7 l y]) 0),(3,AV.nils),(7,AV.slcT none (Row.M [aL.arr .i64 g m]) 1 m false),(8,AV.int .i64 (Int.ofNat m)),(9,AV.int .i64 (Int.ofNat 0))]:=by kernel_rfl
theorem Ri (n s l:Nat) (y:Nat→Int) (H:aa):bu Tryz.prog (cd (n+1)) 100000 81 Tryz.f81 (KtB.kt 81) (il (iz (iz aR 64 (gO (iO (s+1) l y) .nils)) 96 (gO .nils (.tup []))) n 1) aW aX [(iO s l y,none)] H =
 Tr.reqP (AV.ptrT (some (Nat.succ s)) (Row.G [aG 7 l y]) 0=AV.ptrT (some (Nat.succ s)) (Row.G [aG 7 l y]) 0) (Tr.reqP (AV.nils=AV.nils) (Tr.ok ((AV.fn (Fn.func 112) [] [AV.ptrT (some 0) (Row.G [AV.nils]) 0],none),H))):=by kernel_rfl
theorem RW:∀ b,(0,b) ∈ bc (bZ Tryz.f81)→b=.loop (part Tryz.f81 [1,1,0,1,0,0]):=jj (by kernel_rfl)
def zN (z g:Nat→Int):Nat→List Int
 | 0=>[]
 | j+1=>zN z g j++[cq z (g j).toNat]
theorem sA (z g:Nat→Int):∀ j,(zN z g j).length=j
 | 0=>rfl
 | j+1=>by
   show (zN z g j++[_]).length=j+1
   rw[List.length_append,sA z g j];rfl
theorem OG (n:Nat) (H:aa):cd (n+6) (.fn 96) [.nils] H=some (.tup [],H):=by kernel_rfl
theorem Sn (n v k:Nat) (a:Nat→Int) (H:aa) (h1:0<k) (h2:k<4611686018427387904):cd (n+1) (.fn 96) [.slc 0 0 v 0 1 k none] (⟨false,[(v,.row (.M [.arr .i64 a k]))]⟩::H)=some (.tup [],⟨false,[(v,.row (.M [.arr .i64 (Em g8 a 0 k) k]))]⟩::H):=by
 have hr:dc (⟨false,[(v,.row (.M [.arr .i64 a k]))]⟩::H) 0 0 v=some (.M [.arr .i64 a k]):=by
  show (if Nat.beq v v then some (Row.M [.arr .i64 a k]) else none)=_
  rw[if_pos (Nat.beq_refl v)]
 have:mg (cd n) 96 [.slc 0 0 v 0 1 k none] (⟨false,[(v,.row (.M [.arr .i64 a k]))]⟩::H)=some (.tup [],⟨false,[(v,.row (.M [.arr .i64 (Em g8 a 0 k) k]))]⟩::H):=by
  show D5 g8 [.slc 0 0 v 0 1 k none] (⟨false,[(v,.row (.M [.arr .i64 a k]))]⟩::H)=_
  simp only[D5,hr]
  rw[if_pos ⟨rfl,h1,h2,by omega⟩]
  rfl
 unfold cd
 rw[show cH Tryz.prog mg KtB.kt 100000 (n+1) (.fn 96) [.slc 0 0 v 0 1 k none] (⟨false,[(v,.row (.M [.arr .i64 a k]))]⟩::H)=(match mg (cd n) 96 [.slc 0 0 v 0 1 k none] (⟨false,[(v,.row (.M [.arr .i64 a k]))]⟩::H) with
  | some r=>some r
  | none=>_) from rfl,this]
theorem Kh {n v k:Nat} {a b:Nat→Int} {t:me} (ht:t.Ok (cd (n+1))) (h:∀ H,cd (n+1) (.fn 96) [.slc 0 0 v 0 1 k none] (⟨false,[(v,.row (.M [.arr .i64 a k]))]⟩::H)=some (.tup [],⟨false,[(v,.row (.M [.arr .i64 b k]))]⟩::H)):(fS t 96 (OT v k a b)).Ok (cd (n+1)):=by
 refine ji ht (fun args H x hx=>?_)
 unfold OT at hx
 split at hx
 · split at hx
   · obtain ⟨⟨rfl,rfl,rfl,rfl,rfl,rfl⟩,h2⟩:=Tr.cY hx
     rw[← Tr.ab h2]
     exact h _
   · exact (Tr.ae hx).elim
 · exact (Tr.ae hx).elim
theorem Ki {n v k k3:Nat} {a b:Nat→Int} {t:me} (ht:t.Ok (cd (n+1))) (h:∀ H,cd (n+1) (.fn 97) [.slc 0 0 v 0 1 k none] (⟨false,[(v,.row (.M [.arr .i64 a k]))]⟩::H)=some (.slc 0 0 v 0 1 k3 none,⟨false,[(v,.row (.M [.arr .i64 b k]))]⟩::H)):(fS t 97 (OU v k k3 a b)).Ok (cd (n+1)):=by
 refine ji ht (fun args H x hx=>?_)
 unfold OU at hx
 split at hx
 · split at hx
   · obtain ⟨⟨rfl,rfl,rfl,rfl,rfl,rfl⟩,h2⟩:=Tr.cY hx
     rw[← Tr.ab h2]
     exact h _
   · exact (Tr.ae hx).elim
 · exact (Tr.ae hx).elim
section
variable (n s l m:Nat) (z g:Nat→Int) (H:aa)
theorem T0 (hl:l≤14) (hm:m≤14) (hg:∀ j,j<m→0≤g j∧g j<l):exec (bp n 81 32) (.block 0 (.loop (part Tryz.f81 [1,1,0,1,0,0]))) (tp s l m (oY z l) g .nils (Int.ofNat 0)) (aC::H)=some (.normal,tp s l m (oY z l) g (dW (zN z g m)) (Int.ofNat m)++[(10,.bool false)],Lh (zN z g m)::H):=by
 refine j9 0 (fun j=>tp s l m (oY z l) g (dW (zN z g j)) (j:Int)) (fun j=>Lh (zN z g j)::H) m (tp s l m (oY z l) g (dW (zN z g m)) (Int.ofNat m)++[(10,.bool false)],Lh (zN z g m)::H) (by omega) (fun j hj=>?_) ?_
 · have ej:aK .i64 (j:Int) (Int.ofNat 1)=((j+1:Nat):Int):=rV (by omega)
   have ei:au 0 (j:Int) 1=j:=Hr j
   have eg:au 0 (g j) 7=(g j).toNat*7:=by rw[bB];omega
   have hgj:=hg j hj
   have h5:oY z l ((g j).toNat*7+5)=cq z (g j).toNat:=nU z (by omega) (by omega)
   have hd:zN z g (j+1)=zN z g j++[cq z (g j).toNat]:=rfl
   have hlen:=sA z g j
   cases e:zN z g j with
   | nil =>
     rw[e] at hd
     refine aD (Nz n s l m (oY z l) g H (j:Int)) (aI n) (af _ _) (ag _ _) ?_
     simp only[ei,eg,aU]
     rw[ej,h5]
     rw[hd]
     clear hd
     generalize cq z (g j).toNat=lo at *
     exact wF
   | cons a r =>
     rw[e] at hd hlen
     have e1:=ny (a::r) (cq z (g j).toNat)
     simp only[List.length_cons] at hlen e1
     have e3:ah (r.length+1) 1=r.length+1+1:=by rw[aU]
     refine aD (NA n s l m r.length (r.length+1) (oY z l) g (aB (a::r)) H (j:Int)) (aI n) (af _ _) (ag _ _) ?_
     simp only[ei,eg,aU] at e1 e3 ⊢
     rw[ej,h5,e1]
     have e4:(r++[cq z (g j).toNat]).length=r.length+1:=by simp
     rw[hd]
     clear hd
     generalize cq z (g j).toNat=lo at *
     repeat' first | (refine Tr.al (fun hc=>?_) (fun hc=>?_)<;>(try simp (disch:=omega) only[nV,nW] at hc)<;>(try (exfalso;omega))) | (refine Tr.a8 ?_ ?_;· ((try simp (disch:=omega) only[nV,nW]);try omega)) | (refine Tr.aw ?_ ?_;· first | exact trivial | rfl | exact ⟨rfl,rfl⟩ | exact ⟨trivial,rfl⟩ | exact ⟨rfl,by assumption⟩ | exact ⟨trivial,by assumption⟩ | exact ⟨rfl,rfl,rfl⟩ | (simp (disch:=omega) only[nV,nW];done) | ((try simp (disch:=omega) only[nV,nW]);omega)) | fail
     all_goals first
      | (refine Tr.av ⟨rfl,?_⟩
         show _=(tp s l m (oY z l) g (.slc 0 0 (r++[lo]).length 0 1 ((r++[lo]).length+1) none) ((j+1:Nat):Int),(⟨false,[((r++[lo]).length,.row (.M [.arr .i64 (aB (a::r++[lo])) ((r++[lo]).length+1)]))]⟩:bm)::H)
         rw[e4];rfl)
      | fail
 · cases e:zN z g m with
   | nil =>
     obtain ⟨x,h1,rfl⟩:=aD (Q:=fun x=>x=(.exit 0,tp s l m (oY z l) g .nils (Int.ofNat m)++[(10,.bool false)],aC::H)) (Nz n s l m (oY z l) g H (Int.ofNat m)) (aI n) (af _ _) (ag _ _) (by
      exact wF)
     exact h1
   | cons a r =>
     obtain ⟨x,h1,rfl⟩:=aD (Q:=fun x=>x=(.exit 0,tp s l m (oY z l) g (.slc 0 0 r.length 0 1 (r.length+1) none) (Int.ofNat m)++[(10,.bool false)],(⟨false,[(r.length,.row (.M [.arr .i64 (aB (a::r)) (r.length+1)]))]⟩:bm)::H)) (NA n s l m r.length (r.length+1) (oY z l) g (aB (a::r)) H (Int.ofNat m)) (aI n) (af _ _) (ag _ _) (by
      exact wF)
     exact h1
end
noncomputable def A6 (l:Nat) (z:Nat→Int):List Int:=zN z (aB (dl (gK z) l)) (dl (gK z) l).length
noncomputable def cU (l:Nat) (z:Nat→Int):List Int:=oU (aB (g8 (A6 l z))) (dl (gK z) l).length
noncomputable def UA (A:AV):AV:=.fn (.func 112) [] [.ptrT (some 0) (.G [A]) 0]
theorem Sh (l:Nat) (z:Nat→Int) (h:bh l z=0):∃ P,(∀ i,i<(cU l z).length→P i=(cU l z).getD i 0)∧∀ n s H,cd (n+8) (.fn 81) [iO s l (oY z l)] H=some (UA (if (cU l z).length=0 then .nils else bD (cU l z).length P false),H):=by
 obtain ⟨hl,_⟩:=bM h
 have hlen:=s7 (gK z) l
 cases e:dl (gK z) l with
 | nil =>
   have e2:cU l z=[]:=by unfold cU;rw[e];rfl
   rw[e2]
   refine ⟨fun _=>0,fun i hi=>by simp at hi,fun n s H=>?_⟩
   rw[if_pos (show ([]:List Int).length=0 from rfl)]
   refine ba (n:=n+7) Tryz.func81 rfl rfl rfl (Ri (n+6) s l (oY z l) H) (cP _ (n+6) 1 (fun q=>s6 (s6 (aO _) (fun H=>by
    have:=Ly (n+2+q) (s+1) l z H h
    rw[e] at this
    rw[show n+6+q=n+2+q+4 by omega]
    exact this)) (fun H=>by rw[show n+6+q=n+q+6 by omega];exact OG _ H))) (af _ _) (ag _ _) ?_
   exact wF
 | cons a0 r0 =>
   have em:(dl (gK z) l).length=r0.length+1:=by rw[e];rfl
   have hg:∀ j,j<r0.length+1→0≤aB (dl (gK z) l) j∧aB (dl (gK z) l) j<l:=fun j hj=>by
    have:=nz (dl (gK z) l) j (by omega)
    obtain ⟨i,h1,h2,_⟩:=(qm _ _ _).1 this
    omega
   have hx:=fun n s H=>T0 (n+7) s l (r0.length+1) z (aB (dl (gK z) l)) H (by omega) (by omega) hg
   have hlw:A6 l z=zN z (aB (dl (gK z) l)) (r0.length+1):=by unfold A6;rw[em]
   have hA:=sA z (aB (dl (gK z) l)) (r0.length+1)
   have hpt:cU l z=oU (aB (g8 (A6 l z))) (r0.length+1):=by unfold cU;rw[em]
   rw[← hlw] at hx hA
   generalize hAA:A6 l z=A at *
   cases A with
   | nil=>simp at hA
   | cons a r =>
     simp only[List.length_cons,Nat.add_right_cancel_iff] at hA
     obtain ⟨P,hP,hcp⟩:∃ P,(∀ i,i<(cU l z).length→P i=(cU l z).getD i 0)∧∀ q v H,cd (q+1) (.fn 97) [.slc 0 0 v 0 1 (r.length+1) none] (⟨false,[(v,.row (.M [.arr .i64 (aB (g8 (a::r))) (r.length+1)]))]⟩::H)=some (.slc 0 0 v 0 1 (cU l z).length none,⟨false,[(v,.row (.M [.arr .i64 P (r.length+1)]))]⟩::H):=by
      rw[hpt,← hA]
      exact OH _ _ (by omega) (by omega)
     refine ⟨P,hP,fun n s H=>?_⟩
     have hk:1≤(cU l z).length:=by
      rw[hpt]
      have:oU (aB (g8 (a::r))) (r0.length+1)≠[]:=by
       have:∀ j,oU (aB (g8 (a::r))) (j+1)≠[]:=by
        intro j
        induction j with
        | zero=>simp[oU]
        | succ j ih =>
          show (if _ then _ else _)≠[]
          split
          · simp
          · exact ih
       exact this _
      have:=List.length_pos_iff.2 this
      omega
     have hle:(cU l z).length≤r.length+1:=by rw[hpt,← hA];exact wT _ _
     rw[if_neg (by omega)]
     have hs0:P=fE P 0:=(c9 P).symm
     have hrw:=KX (a::r)
     simp only[List.length_cons] at hrw
     refine ba (n:=n+7) Tryz.func81 rfl rfl rfl (Rj (n+6) s l (r0.length+1) r.length (r.length+1) (cU l z).length (oY z l) (aB (dl (gK z) l)) (aB (a::r)) (aB (g8 (a::r))) P H) (cP _ (n+6) 1 (fun q=>by
      rw[show n+6+q=n+5+q+1 by omega]
      refine Ki (Kh (s6 (aO _) (fun H=>?_)) (fun H=>?_)) (fun H=>hcp _ _ H)
      · have:=Ly (n+2+q) (s+1) l z H h
        rw[show n+5+q+1=n+2+q+4 by omega]
        rw[this,e]
        show _=some (bD (r0.length+1) (aB (a0::r0)) false,H)
        rfl
      · rw[← hrw]
        exact Sn _ _ _ _ H (by omega) (by omega))) (bz (af _ _) RW (fun x hx2=>by rw[← Tr.ab hx2];simp only[gi.st,aP];exact hx n s H)) (ag _ _) ?_
     rw[c9]
     generalize cU l z=Q at *
     exact wF
end Go.Eng
end
section
namespace Go.Eng
open Go.Proofs
noncomputable def yr (n f nt d i:Nat):Cx:=⟨Tryz.prog,cd n,100000,f,nt,KtB.kt f,some (d,i)⟩
noncomputable def tm (k:Nat) (P:Nat→Int) (j:Int):ay:=[(0,.yld 1 1),(5,bD k P false),(6,.int .i64 (Int.ofNat k)),(7,.int .i64 j)]
noncomputable def AB (s:Nat) (A:AV):AV:=.fn (.func 112) [] [.ptrT (some s) (.G [A]) 0]
noncomputable def mJ (s:Nat) (A:AV):ay:=[(2,.ptr 0 0 0 0),(6,AB (s+1) A)]
noncomputable def Ll (b:Nat×ak):bm:=⟨false,[(0,.row (.G [.nils])),b]⟩
noncomputable def Jj (v k:Nat) (a:Nat→Int) (b:Nat×ak):bm:=⟨false,[(0,.row (.G [.slc 0 2 v 0 1 k none])),b,(v,.row (.M [.arr .i64 a k]))]⟩
theorem t112 (n k:Nat) (P:Nat→Int) (G G':aa) (j x:Int):aN (bp n 112 16) (Qz (il aR n 0) 1 1 [.int .i64 x] (aC::G) (.ok (.bool true,aC::G'))) aW aX (part Tryz.f112 [1,0,0]) (hints (tm k P j)) (aC::G) =
 (fun (Z0:Nat×AV×Option Nat)=>Tr.ite (df j (Int.ofNat k)) (Tr.req (dR j k) (Tr.req (bx (au 0 j 1) k) (Tr.reqP ([AV.int .i64 (P (au 0 j 1))]=[AV.int .i64 x]∧aC::G=aC::G) (Tr.ite (bG true) (Tr.ok (Ex.ret,[(0,AV.yld 1 1,none),Z0,(6,AV.int .i64 (Int.ofNat k),none),(7,AV.int .i64 j,none),(14,AV.bool true,some 1)],aC::G')) (Tr.ok (Ex.normal,[(0,AV.yld 1 1,none),Z0,(6,AV.int .i64 (Int.ofNat k),none),(7,AV.int .i64 (aK .i64 j (Int.ofNat 1)),none)],aC::G')))))) (Tr.ok (Ex.exit 0,[(0,AV.yld 1 1,none),Z0,(6,AV.int .i64 (Int.ofNat k),none),(7,AV.int .i64 j,none),(8,AV.bool false,some 1)],aC::G))) (5,AV.slcT none (Row.M [aL.arr .i64 P k]) 1 k false,none):=by kernel_rfl
theorem Nn (n k:Nat) (P:Nat→Int) (G:aa) (j:Int):aN (bp n 112 16) (il aR n 0) aW aX (part Tryz.f112 [1,0,0]) (hints (tm k P j)) (aC::G) =
 Tr.ite (df j (Int.ofNat k)) (Tr.req (dR j k) (Tr.req (bx (au 0 j 1) k) Tr.bad)) (Tr.ok (Ex.exit 0,[(0,AV.yld 1 1,none),(5,AV.slcT none (Row.M [aL.arr .i64 P k]) 1 k false,none),(6,AV.int .i64 (Int.ofNat k),none),(7,AV.int .i64 j,none),(8,AV.bool false,some 1)],aC::G)):=by kernel_rfl
theorem QW (n s k:Nat) (P:Nat→Int) (G G':aa):bu Tryz.prog (cd n) 100000 112 Tryz.f112 (KtB.kt 112) (il aR n 0) (eP aW 0 (tm k P (Int.ofNat 0)) (aC::G) (.ok (.normal,hints (tm k P (Int.ofNat k)++[(8,.bool false)]),aC::G'))) aX [(.yld 0 1,none),(.ptrT (some s) (.G [bD k P false]) 0,none)] G =
 (fun (Z0:ay)=>Tr.reqP (Z0=Z0∧aC::G=aC::G) (Tr.ok ((AV.tup [],none),G'))) [(0,AV.yld 1 1),(5,AV.slcT none (Row.M [aL.arr .i64 P k]) 1 k false),(6,AV.int .i64 (Int.ofNat k)),(7,AV.int .i64 (Int.ofNat 0))]:=by kernel_rfl
theorem NT (n s:Nat) (G:aa):bu Tryz.prog (cd n) 100000 112 Tryz.f112 (KtB.kt 112) (il aR n 0) aW aX [(.yld 0 1,none),(.ptrT (some s) (.G [.nils]) 0,none)] G =
 Tr.ok ((AV.tup [],none),G):=by kernel_rfl
theorem Js (n s k:Nat) (P:Nat→Int) (bs:List (Nat×ak)) (H:aa) (x:Int):aN (yr n 110 13 2 1) (il aR n 0) aW aX (part Tryz.f110 [1,0,1,0,0]) (hints [(2,.ptr 2 0 0 0),(6,AB (s+3) (bD k P false)),(7,.int .i64 x)]) (aC::aC::⟨false,bs⟩::H) =
 Tr.ok (Ex.normal,[(2,AV.ptr 2 0 0 0,none),(5,AV.int .i64 x,none)],aC::aC::{ lock:=false,bs:=bs } :: H):=by kernel_rfl
theorem Nl (n:Nat) (L:ml) (H:aa) (x:Int):aN (yr n 110 13 2 1) (il aR n 0) aW aX (part Tryz.f110 [1,0,1,0,1]) (hints [(2,.ptr 2 0 0 0),(5,.int .i64 x)]) (aC::aC::Ll (0,.loop L)::H) =
 Tr.req (dJ 0 1 8) (Tr.req (cM 0 0) (Tr.req (fA 1 1) (Tr.ok (Ex.normal,[],{ lock:=false,bs:=[(0,ak.row (Row.I .i64 [x])),(0,ak.dead)] } :: aC::{ lock:=false,bs:=[(0,ak.row (Row.G [AV.slc 0 2 0 0 1 1 none])),(0,ak.loop L),(0,ak.row (Row.M [aL.arr .i64 (aB [x]) 1]))] } :: H)))):=by kernel_rfl
theorem Nm (n v k:Nat) (b:Nat→Int) (L:ml) (H:aa) (x:Int):aN (yr n 110 13 2 1) (il aR n 0) aW aX (part Tryz.f110 [1,0,1,0,1]) (hints [(2,.ptr 2 0 0 0),(5,.int .i64 x)]) (aC::aC::Jj v k b (0,.loop L)::H) =
 Tr.req (dJ k 1 8) (Tr.req (cM 0 0) (Tr.req (fA 1 1) (Tr.req (cM v v) (Tr.req (cM (ah 0 k) k) (Tr.ok (Ex.normal,[],{ lock:=false,bs:=[(0,ak.row (Row.I .i64 [x]))] } :: aC::{ lock:=false,bs:=[(0,ak.row (Row.G [AV.slc 0 2 (Nat.succ v) 0 1 (ah k 1) none])),(0,ak.loop L),(Nat.succ v,ak.row (Row.M [aL.arr .i64 (iE (fE b 0) k (aB [x])) (ah k 1)]))] } :: H)))))):=by kernel_rfl
theorem QV (n s v k m:Nat) (P b:Nat→Int) (H:aa):bu Tryz.prog (cd n) 100000 110 Tryz.f110 (KtB.kt 110) (il aR n 0) aW (Of aX (fun _=>true) (mJ s (bD k P false)) (⟨false,[(0,.row (.G [.nils]))]⟩::H) (.ok (.normal,hints (mJ s (bD k P false)),Jj v m b (0,.dead)::H))) [(.nils,none),(AB s (bD k P false),none)] H =
 (fun (Z0:ay)=>Tr.reqP (Z0=Z0∧{ lock:=false,bs:=[(0,ak.row (Row.G [AV.nils]))] } :: H={ lock:=false,bs:=[(0,ak.row (Row.G [AV.nils]))] } :: H) (Tr.req (cM v v) (Tr.req (la 0 m 0 m) (Tr.ok ((AV.slcT none (Row.M [aL.arr .i64 (fE b 0) m]) 1 m false,none),H))))) [(2,AV.ptr 0 0 0 0),(6,AV.fn (Fn.func 112) [] [AV.ptrT (some (Nat.succ s)) (Row.G [AV.slcT none (Row.M [aL.arr .i64 P k]) 1 k false]) 0])]:=by kernel_rfl
theorem NS (n s:Nat) (H:aa):bu Tryz.prog (cd n) 100000 110 Tryz.f110 (KtB.kt 110) (il aR n 0) aW (Of aX (fun _=>true) (mJ s .nils) (⟨false,[(0,.row (.G [.nils]))]⟩::H) (.ok (.normal,hints (mJ s .nils),Ll (0,.dead)::H))) [(.nils,none),(AB s .nils,none)] H =
 (fun (Z0:ay)=>Tr.reqP (Z0=Z0∧{ lock:=false,bs:=[(0,ak.row (Row.G [AV.nils]))] } :: H={ lock:=false,bs:=[(0,ak.row (Row.G [AV.nils]))] } :: H) (Tr.ok ((AV.nils,none),H))) [(2,AV.ptr 0 0 0 0),(6,AV.fn (Fn.func 112) [] [AV.ptrT (some (Nat.succ s)) (Row.G [AV.nils]) 0])]:=by kernel_rfl
theorem Ux (n s k m:Nat) (P b:Nat→Int) (H:aa):bu Tryz.prog (cd n) 100000 92 Tryz.f92 (KtB.kt 92) (il (tX aR 110 [.nils,AB (s+1) (bD k P false)] (bD m b false)) n 0) aW aX [(AB s (bD k P false),none)] H =
 (fun (Z0:List AV)=>Tr.reqP (Z0=Z0) (Tr.ok ((AV.slcT none (Row.M [aL.arr .i64 b m]) 1 m false,none),H))) [AV.nils,AV.fn (Fn.func 112) [] [AV.ptrT (some (Nat.succ s)) (Row.G [AV.slcT none (Row.M [aL.arr .i64 P k]) 1 k false]) 0]]:=by kernel_rfl
theorem Rm (n s:Nat) (H:aa):bu Tryz.prog (cd n) 100000 92 Tryz.f92 (KtB.kt 92) (il (tX aR 110 [.nils,AB (s+1) .nils] .nils) n 0) aW aX [(AB s .nils,none)] H =
 Tr.reqP ([AV.nils,AV.fn (Fn.func 112) [] [AV.ptrT (some (Nat.succ s)) (Row.G [AV.nils]) 0]]=[AV.nils,AV.fn (Fn.func 112) [] [AV.ptrT (some (Nat.succ s)) (Row.G [AV.nils]) 0]]) (Tr.ok ((AV.nils,none),H)):=by kernel_rfl
theorem Oj:∀ b,(0,b) ∈ bc (bZ Tryz.f112)→b=.loop (part Tryz.f112 [1,0,0]):=jj (by kernel_rfl)
section
variable (n s k:Nat) (P:Nat→Int)
theorem Ov (St:Nat→aa) (hk:k≤1000) (hr:∀ j,j<k→cd n (.round 1 1) [.int .i64 (P j)] (aC::St j)=some (.bool true,aC::St (j+1))) :
 cd (n+1) (.fn 112) [.yld 0 1,.ptrT (some s) (.G [bD k P false]) 0] (St 0)=some (.tup [],St k):=by
 have hx:=j9 (n:=n) (f:=112) (nt:=16) (c:=part Tryz.f112 [1,0,0]) 0 (fun j=>tm k P (j:Int)) (fun j=>aC::St j) k (tm k P (Int.ofNat k)++[(8,.bool false)],aC::St k) (by omega) (fun j hj=>?_) ?_
 · refine ba (n:=n) Tryz.func112 rfl rfl rfl (QW n s k P (St 0) (St k)) (aI _) (bz (af _ _) Oj (fun x h=>by rw[← Tr.ab h];simp only[gi.st,aP];exact hx)) (ag _ _) ?_
   exact Tr.aw ⟨rfl,rfl⟩ (Tr.av ⟨rfl,rfl⟩)
 · refine aD (t112 n k P (St j) (St (j+1)) (j:Int) (P j)) (KU (aI n) (fun x hy=>by rw[← Tr.ab hy];exact hr j hj)) (af _ _) (ag _ _) ?_
   rw[Hr,rV (by omega)]
   generalize St (j+1)=G' at *
   generalize St j=G at *
   exact wF
 · obtain ⟨x,h1,rfl⟩:=aD (Q:=fun x=>x=(.exit 0,tm k P (Int.ofNat k)++[(8,.bool false)],aC::St k)) (Nn n k P (St k) (Int.ofNat k)) (aI n) (af _ _) (ag _ _) (by
    refine Tr.al (fun hc=>?_) (fun hc=>Tr.av rfl)
    simp (disch:=omega) only[nV,nW] at hc;omega)
   exact h1
theorem Lw (H:aa):cd (n+1) (.fn 112) [.yld 0 1,.ptrT (some s) (.G [.nils]) 0] H=some (.tup [],H):=by
 refine ba (n:=n) Tryz.func112 rfl rfl rfl (NT n s H) (aI _) (af _ _) (ag _ _) ?_
 exact wF
end
theorem Ab {n d i:Nat} {args:List AV} {H H2 R:aa} {l l2:ml} {fr fr1 fr2:ay} {lv:bm}
 (hg:ar H d i=(0,.loop l)) (hl:aA H d=false) (hs:l.state=.ready) (hp:kR l.nt (mc (d+1) l.fr) l.params (args.map (gL 1))=some fr)
 (h1:exec (yr n l.fn l.nt (d+1) i) l.assign fr (aC::H)=some (.normal,fr1,aC::H))
 (h2:exec (yr n l.fn l.nt (d+1) i) l.body fr1 (dx (aC::H) (d+1) i (0,.loop { l with state:=.busy }))=some (.normal,fr2,lv::H2)) (hg2:ar H2 d i=(0,.loop l2)) (hR:R=dx H2 d i (0,.loop { l2 with state:=.ready,pending:=none })) :
 cd (n+1) (.round d i) args H=some (.bool true,R):=by
 rw[hR]
 exact Gk (P:=Tryz.prog) (ora:=mg) (KT:=KtB.kt) (fu:=100000) (e:=.normal) hg hl hs hp h1 (by rw[show ar (aC::H) (d+1) i=ar H d i from rfl];exact hg) hs h2 hg2
theorem EZ {n f nt d i:Nat} {c:Code} {callR:bF} {bl:ie} {rg:sF} {fr:ay} {H:aa} {T:Tr gi} (e:aN (yr n f nt d i) callR bl rg c (hints fr) H=T) (hC:callR.Ok (cd n)) (hB:bl.Ok (yr n f nt d i) c) (hR:rg.Ok (yr n f nt d i) c) {y:Ex×ay×aa} (h:T.all fun x=>x.st=y):exec (yr n f nt d i) c fr H=some y:=by
 obtain ⟨x,h1,rfl⟩:=h
 have:=mG (cx:=yr n f nt d i) hC c hB hR (hints fr) H x (by rw[e];exact h1)
 rw[aP] at this;exact this
theorem EY {n f nt d i:Nat} {c:Code} {callR:bF} {bl:ie} {rg:sF} {fr:ay} {H:aa} {T:Tr gi} {Q:Ex×ay×aa→Prop} (e:aN (yr n f nt d i) callR bl rg c (hints fr) H=T) (hC:callR.Ok (cd n)) (hB:bl.Ok (yr n f nt d i) c) (hR:rg.Ok (yr n f nt d i) c) (h:T.all fun x=>Q x.st):∃ y,exec (yr n f nt d i) c fr H=some y∧Q y:=by
 obtain ⟨x,h1,h2⟩:=h
 have:=mG (cx:=yr n f nt d i) hC c hB hR (hints fr) H x (by rw[e];exact h1)
 rw[aP] at this;exact ⟨_,this,h2⟩
noncomputable def qH:Code:=part Tryz.f110 [1,0,1,0,0]
noncomputable def xx:Code:=part Tryz.f110 [1,0,1,0,1]
theorem MU:fc (bZ Tryz.f110)=[(.tmp 6,#[7],qH,xx)]:=by kernel_rfl
noncomputable def dI (s:Nat) (A:AV):ml:={ state:=.ready,pending:=none,fn:=110,nt:=13,fr:=mJ s A,params:=[7],assign:=qH,body:=xx }
noncomputable def Mr (b:Nat×ak):List Int→bm
 | []=>Ll b
 | a::r=>Jj r.length (r.length+1) (aB (a::r)) b
theorem MV (n s k:Nat) (P:Nat→Int) (L:List Int) (H:aa) (x:Int) (hL:L.length≤1000) :
 cd (n+1) (.round 1 1) [.int .i64 x] (aC::Mr (0,.loop (dI s (bD k P false))) L::H)=some (.bool true,aC::Mr (0,.loop (dI s (bD k P false))) (L++[x])::H):=by
 cases L with
 | nil =>
   have h1:exec (yr n 110 13 2 1) qH [(2,.ptr 2 0 0 0),(6,AB (s+3) (bD k P false)),(7,.int .i64 x)] (aC::aC::Ll (0,.loop (dI s (bD k P false)))::H)=some (.normal,[(2,.ptr 2 0 0 0),(5,.int .i64 x)],aC::aC::Ll (0,.loop (dI s (bD k P false)))::H) :=
    EZ (Js n s k P _ H x) (aI n) (af _ _) (ag _ _) (Tr.av rfl)
   obtain ⟨y,h2,h3⟩:=EY (Q:=fun y=>y=(.normal,[],⟨false,[(0,.row (.I .i64 [x])),(0,.dead)]⟩::aC::Jj 0 1 (aB [x]) (0,.loop { dI s (bD k P false) with state:=.busy })::H)) (Nl n { dI s (bD k P false) with state:=.busy } H x) (aI n) (af _ _) (ag _ _) (by
    generalize dI s (bD k P false)=L at *
    exact wF)
   subst h3
   exact Ab (l:=dI s (bD k P false)) (l2:={ dI s (bD k P false) with state:=.busy }) rfl rfl rfl rfl h1 h2 rfl rfl
 | cons a r =>
   simp only[List.length_cons] at hL
   have h1:exec (yr n 110 13 2 1) qH [(2,.ptr 2 0 0 0),(6,AB (s+3) (bD k P false)),(7,.int .i64 x)] (aC::aC::Jj r.length (r.length+1) (aB (a::r)) (0,.loop (dI s (bD k P false)))::H)=some (.normal,[(2,.ptr 2 0 0 0),(5,.int .i64 x)],aC::aC::Jj r.length (r.length+1) (aB (a::r)) (0,.loop (dI s (bD k P false)))::H) :=
    EZ (Js n s k P _ H x) (aI n) (af _ _) (ag _ _) (Tr.av rfl)
   have e1:=ny (a::r) x
   simp only[List.length_cons] at e1
   have e3:ah (r.length+1) 1=r.length+1+1:=by rw[aU]
   obtain ⟨y,h2,h3⟩:=EY (Q:=fun y=>y=(.normal,[],⟨false,[(0,.row (.I .i64 [x]))]⟩::aC::Jj (r.length+1) (r.length+1+1) (aB (a::r++[x])) (0,.loop { dI s (bD k P false) with state:=.busy })::H)) (Nm n r.length (r.length+1) (aB (a::r)) { dI s (bD k P false) with state:=.busy } H x) (aI n) (af _ _) (ag _ _) (by
    rw[e1,e3]
    generalize dI s (bD k P false)=L at *
    generalize aB (a::r++[x])=Y at *
    exact wF)
   subst h3
   have e4:(r++[x]).length=r.length+1:=by simp
   refine Ab (l:=dI s (bD k P false)) (l2:={ dI s (bD k P false) with state:=.busy }) rfl rfl rfl rfl h1 h2 rfl ?_
   show aC::Jj (r++[x]).length ((r++[x]).length+1) (aB (a::(r++[x]))) _::H=_
   rw[e4];rfl
def qX (P:Nat→Int) (k:Nat):List Int:=(List.range k).map P
theorem CL (P:Nat→Int) (k:Nat):qX P (k+1)=qX P k++[P k]:=by unfold qX;rw[List.range_succ,List.map_append];rfl
theorem lT (P:Nat→Int) (k:Nat):(qX P k).length=k:=by simp[qX]
theorem Ou (n s k:Nat) (P:Nat→Int) (H:aa) (hk:k≤1000):cd (n+3) (.fn 110) [.nils,AB s (if k=0 then .nils else bD k P false)] H=some (dA (qX P k),H):=by
 cases k with
 | zero =>
   rw[if_pos rfl]
   have hx:exec (bp (n+2) 110 13) (.rangeFunc (.tmp 6) #[7] qH xx) (mJ s .nils) (⟨false,[(0,.row (.G [.nils]))]⟩::H)=some (.normal,mJ s .nils,Ll (0,.dead)::H) :=
    zW (cx:=bp (n+2) 110 13) (l:=dI s .nils) (f:=.tmp 6) (ps:=#[7]) (fr:=mJ s .nils) (H:=⟨false,[(0,.row (.G [.nils]))]⟩::H) (g:=112) (a:=[]) (b:=[.ptrT (some (s+1)) (.G [.nils]) 0]) rfl rfl rfl (Lw (n+1) (s+1) _) rfl rfl rfl
   refine ba (n:=n+2) Tryz.func110 rfl rfl rfl (NS (n+2) s H) (aI _) (af _ _) (Gh (ag _ _) (fun f ps a b _ hm x hx2=>by
    rw[MU] at hm
    simp only[List.mem_cons,Prod.mk.injEq,List.not_mem_nil,or_false] at hm
    obtain ⟨rfl,rfl,rfl,rfl⟩:=hm
    rw[← Tr.ab hx2];simp only[gi.st,aP];exact hx)) ?_
   exact wF
 | succ k =>
   rw[if_neg (by omega)]
   have hx:exec (bp (n+2) 110 13) (.rangeFunc (.tmp 6) #[7] qH xx) (mJ s (bD (k+1) P false)) (⟨false,[(0,.row (.G [.nils]))]⟩::H)=some (.normal,mJ s (bD (k+1) P false),cA (Mr (0,.loop (dI s (bD (k+1) P false))) (qX P (k+1))::H) 0 1) :=
    zW (cx:=bp (n+2) 110 13) (l:=dI s (bD (k+1) P false)) (f:=.tmp 6) (ps:=#[7]) (fr:=mJ s (bD (k+1) P false)) (H:=⟨false,[(0,.row (.G [.nils]))]⟩::H) (g:=112) (a:=[]) (b:=[.ptrT (some (s+1)) (.G [bD (k+1) P false]) 0]) rfl rfl rfl
     (Ov (n+1) (s+1) (k+1) P (fun j=>Mr (0,.loop (dI s (bD (k+1) P false))) (qX P j)::H) hk (fun j hj=>by
       show _=some (_,aC::Mr _ (qX P (j+1))::H)
       rw[CL]
       exact MV n s (k+1) P (qX P j) H (P j) (by rw[lT];omega))) (by
       cases e:qX P (k+1) with
       | nil=>have:=lT P (k+1);rw[e] at this;cases this
       | cons a r=>rfl) rfl rfl
   have hl:=lT P (k+1)
   cases e:qX P (k+1) with
   | nil=>rw[e] at hl;cases hl
   | cons a r =>
     rw[e] at hx
     refine ba (n:=n+2) Tryz.func110 rfl rfl rfl (QV (n+2) s r.length (k+1) (r.length+1) P (aB (a::r)) H) (aI _) (af _ _) (Gh (ag _ _) (fun f ps a b _ hm x hx2=>by
      rw[MU] at hm
      simp only[List.mem_cons,Prod.mk.injEq,List.not_mem_nil,or_false] at hm
      obtain ⟨rfl,rfl,rfl,rfl⟩:=hm
      rw[← Tr.ab hx2];simp only[gi.st,aP];exact hx)) ?_
     rw[c9]
     exact wF
theorem Sk (n s k:Nat) (P:Nat→Int) (H:aa) (hk:k≤1000):cd (n+4) (.fn 92) [AB s (if k=0 then .nils else bD k P false)] H=some (dA (qX P k),H):=by
 have h:=fun q H=>Ou (n+q) (s+1) k P H hk
 cases k with
 | zero =>
   rw[if_pos rfl] at h ⊢
   refine ba (n:=n+3) Tryz.func92 rfl rfl rfl (Rm (n+3) s H) (cP _ (n+3) 0 (fun q=>gb (aO _) (fun H=>by rw[show n+3+q=n+q+3 by omega];exact h q H))) (af _ _) (ag _ _) ?_
   exact wF
 | succ k =>
   rw[if_neg (by omega)] at h ⊢
   have hl:=lT P (k+1)
   cases e:qX P (k+1) with
   | nil=>rw[e] at hl;cases hl
   | cons a r =>
     rw[e] at h
     refine ba (n:=n+3) Tryz.func92 rfl rfl rfl (Ux (n+3) s (k+1) (r.length+1) P (aB (a::r)) H) (cP _ (n+3) 0 (fun q=>gb (aO _) (fun H=>by rw[show n+3+q=n+q+3 by omega];exact h q H))) (af _ _) (ag _ _) ?_
     exact wF
end Go.Eng
end
section
namespace Go.Eng
open Go.Proofs
noncomputable def dH (h:List Int→Bool) (g:List Int→Int) (c:Nat) (h2:List Int→Bool) (g2:List Int→Int) (c2:Nat) (bs:List (Nat×ak)):bm:=⟨false,(0,.fmap (.str 2) h g c)::(0,.fmap (.str 2) h2 g2 c2)::bs⟩
noncomputable def tn (s l m:Nat) (y P:Nat→Int) (K j:Int):ay:=[(0,iO (s+1) l y),(1,.int .i64 K),(6,bD m P false),(7,.map 0 0),(8,.map 0 1),(32,.int .i64 (Int.ofNat m)),(33,.int .i64 j)]
noncomputable def px (s l m:Nat) (y P:Nat→Int) (K j f:Int):ay:=[(0,iO (s+1) l y),(1,.int .i64 K),(6,bD m P false),(7,.map 0 0),(8,.map 0 1),(9,.int .i64 j),(10,.int .i64 f),(32,.int .i64 (Int.ofNat m)),(33,.int .i64 j)]
noncomputable def pA (s l m:Nat) (y P:Nat→Int) (K j f n:Int):ay:=[(0,iO (s+1) l y),(1,.int .i64 K),(6,bD m P false),(7,.map 0 0),(8,.map 0 1),(9,.int .i64 j),(10,.int .i64 f),(32,.int .i64 (Int.ofNat m)),(33,.int .i64 j),(41,.int .i64 K),(42,.int .i64 n)]
noncomputable def OS (Q:Int→Int→Prop) (B A:AV) (a:Int→Int→Int):List AV→Option (Prop×AV)
 | [B',A',.int .i64 f,.int .i64 p]=>some ([B',A']=[B,A]∧Q f p,.int .i64 (a f p))
 | _=>none
theorem MA (n s l:Nat) (y:Nat→Int) (K:Int) (H:aa):aN (bp n 79 156) (il aR n 0) aW aX (part Tryz.f79 [0]) (hints [(0,iO (s+1) l y),(1,.int .i64 K)]) (aC::H) =
 Tr.ok (Ex.normal,[(0,AV.ptrT (some (Nat.succ s)) (Row.G [aG 7 l y]) 0,none),(1,AV.int .i64 K,none)],aC::H):=by kernel_rfl
theorem QR (n s l m:Nat) (y P:Nat→Int) (K j:Int) (h:List Int→Bool) (g:List Int→Int) (c:Nat) (h2:List Int→Bool) (g2:List Int→Int) (c2:Nat) (h':List Int→Bool) (g':List Int→Int) (c':Nat) (h2':List Int→Bool) (g2':List Int→Int) (c2':Nat) (H:aa):aN (bp n 79 156) (il aR n 0) (eP aW 2 (px s l m y P K j (-1)) (dH h g c h2 g2 c2 []::H) (.ok (.normal,hints (px s l m y P K j j++[(38,.bool false)]),dH h' g' c' h2' g2' c2' []::H))) aX (part Tryz.f79 [1,1,1,1,0,1,0,0]) (hints (tn s l m y P K j)) (dH h g c h2 g2 c2 []::H) =
 (fun (Z0:ay)=>((fun (Z1:bm)=>Tr.ite (df j (Int.ofNat m)) (Tr.reqP (Z0=Z0∧Z1::H=Z1::H) (Tr.ok (Ex.normal,[(0,AV.ptrT (some (Nat.succ s)) (Row.G [aG 7 l y]) 0,none),(1,AV.int .i64 K,none),(6,AV.slcT none (Row.M [aL.arr .i64 P m]) 1 m false,none),(7,AV.map 0 0,none),(8,AV.map 0 1,none),(32,AV.int .i64 (Int.ofNat m),none),(33,AV.int .i64 (aK .i64 j (Int.ofNat 1)),none)],{ lock:=false,bs:=[(0,ak.fmap (KK.str 2) h' g' c'),(0,ak.fmap (KK.str 2) h2' g2' c2')] } :: H))) (Tr.ok (Ex.exit 0,[(0,AV.ptrT (some (Nat.succ s)) (Row.G [aG 7 l y]) 0,none),(1,AV.int .i64 K,none),(6,AV.slcT none (Row.M [aL.arr .i64 P m]) 1 m false,none),(7,AV.map 0 0,none),(8,AV.map 0 1,none),(32,AV.int .i64 (Int.ofNat m),none),(33,AV.int .i64 j,none),(34,AV.bool false,some 1)],Z1::H))) { lock:=false,bs:=[(0,ak.fmap (KK.str 2) h g c),(0,ak.fmap (KK.str 2) h2 g2 c2)] })) [(0,AV.ptrT (some (Nat.succ s)) (Row.G [aG 7 l y]) 0),(1,AV.int .i64 K),(6,AV.slcT none (Row.M [aL.arr .i64 P m]) 1 m false),(7,AV.map 0 0),(8,AV.map 0 1),(9,AV.int .i64 j),(10,AV.int .i64 (Int.negSucc 0)),(32,AV.int .i64 (Int.ofNat m)),(33,AV.int .i64 j)]:=by kernel_rfl
theorem QS (n s l m:Nat) (y P:Nat→Int) (K j f:Int) (h:List Int→Bool) (g:List Int→Int) (c:Nat) (h2:List Int→Bool) (g2:List Int→Int) (c2:Nat) (h':List Int→Bool) (g':List Int→Int) (c':Nat) (h2':List Int→Bool) (g2':List Int→Int) (c2':Nat) (H:aa):aN (bp n 79 156) (il aR n 0) (eP aW 4 (pA s l m y P K j f (Int.ofNat 0)) (dH h g c h2 g2 c2 []::H) (.ok (.normal,hints (pA s l m y P K j f K++[(43,.bool false)]),dH h' g' c' h2' g2' c2' []::H))) aX (part Tryz.f79 [1,1,1,1,0,1,0,0,1,1,0,0,1,1,0,0]) (hints (px s l m y P K j f)) (dH h g c h2 g2 c2 []::H) =
 (fun (Z0:ay)=>((fun (Z1:bm)=>Tr.ite (df f j) (Tr.reqP (Z0=Z0∧Z1::H=Z1::H) (Tr.ok (Ex.normal,[(0,AV.ptrT (some (Nat.succ s)) (Row.G [aG 7 l y]) 0,none),(1,AV.int .i64 K,none),(6,AV.slcT none (Row.M [aL.arr .i64 P m]) 1 m false,none),(7,AV.map 0 0,none),(8,AV.map 0 1,none),(9,AV.int .i64 j,none),(10,AV.int .i64 (aK .i64 f (Int.ofNat 1)),none),(32,AV.int .i64 (Int.ofNat m),none),(33,AV.int .i64 j,none)],{ lock:=false,bs:=[(0,ak.fmap (KK.str 2) h' g' c'),(0,ak.fmap (KK.str 2) h2' g2' c2')] } :: H))) (Tr.ok (Ex.exit 2,[(0,AV.ptrT (some (Nat.succ s)) (Row.G [aG 7 l y]) 0,none),(1,AV.int .i64 K,none),(6,AV.slcT none (Row.M [aL.arr .i64 P m]) 1 m false,none),(7,AV.map 0 0,none),(8,AV.map 0 1,none),(9,AV.int .i64 j,none),(10,AV.int .i64 f,none),(32,AV.int .i64 (Int.ofNat m),none),(33,AV.int .i64 j,none),(38,AV.bool false,some 1)],Z1::H))) { lock:=false,bs:=[(0,ak.fmap (KK.str 2) h g c),(0,ak.fmap (KK.str 2) h2 g2 c2)] })) [(0,AV.ptrT (some (Nat.succ s)) (Row.G [aG 7 l y]) 0),(1,AV.int .i64 K),(6,AV.slcT none (Row.M [aL.arr .i64 P m]) 1 m false),(7,AV.map 0 0),(8,AV.map 0 1),(9,AV.int .i64 j),(10,AV.int .i64 f),(32,AV.int .i64 (Int.ofNat m)),(33,AV.int .i64 j),(41,AV.int .i64 K),(42,AV.int .i64 (Int.ofNat 0))]:=by kernel_rfl
theorem Nw (n s l m:Nat) (y P:Nat→Int) (a:Int→Int→Int) (Q:Int→Int→Prop) (K j f x:Int) (h:List Int→Bool) (g:List Int→Int) (c:Nat) (h2:List Int→Bool) (g2:List Int→Int) (c2:Nat) (H:aa):aN (bp n 79 156) (il (iz aR 93 (OS Q (iO (s+1) l y) (bD m P false) a)) n 0) aW aX (part Tryz.f79 [1,1,1,1,0,1,0,0,1,1,0,0,1,1,0,0,1,0,0,1,0,0]) (hints (pA s l m y P K j f x)) (dH h g c h2 g2 c2 []::H) =
 (fun (Z0:aT)=>((fun (Z1:bm)=>((fun (Z2:List AV)=>((fun (Z3:bm)=>Tr.ite (df x K) (Tr.ite (bG (h [f,x])) (Tr.ok (Ex.normal,Z0,Z3::H)) (Tr.reqP (Z2=Z2∧Q f j) (Tr.ite (bG (h [j,aK .i64 x (Int.ofNat 1)])) (Tr.req (gJ (fA 0 0) (fA 0 1)) (Tr.req (gJ (fA 0 0) (fA 0 1)) (Tr.ok (Ex.normal,Z0,Z1::H)))) (Tr.ite (df (g [j,aK .i64 x (Int.ofNat 1)]) (aK .i64 (g [f,x]) (a f j))) (Tr.req (gJ (fA 0 0) (fA 0 1)) (Tr.req (gJ (fA 0 0) (fA 0 1)) (Tr.ok (Ex.normal,Z0,Z1::H)))) (Tr.ok (Ex.normal,Z0,{ lock:=false,bs:=[(0,ak.fmap (KK.str 2) h g c),(0,ak.fmap (KK.str 2) h2 g2 c2),(0,ak.row (Row.I .i64 [j,aK .i64 x (Int.ofNat 1)]))] } :: H)))))) (Tr.ok (Ex.exit 4,[(0,AV.ptrT (some (Nat.succ s)) (Row.G [aG 7 l y]) 0,none),(1,AV.int .i64 K,none),(6,AV.slcT none (Row.M [aL.arr .i64 P m]) 1 m false,none),(7,AV.map 0 0,none),(8,AV.map 0 1,none),(9,AV.int .i64 j,none),(10,AV.int .i64 f,none),(32,AV.int .i64 (Int.ofNat m),none),(33,AV.int .i64 j,none),(41,AV.int .i64 K,none),(42,AV.int .i64 x,none),(43,AV.bool false,some 1)],Z3::H))) { lock:=false,bs:=[(0,ak.fmap (KK.str 2) h g c),(0,ak.fmap (KK.str 2) h2 g2 c2)] })) [AV.ptrT (some (Nat.succ s)) (Row.G [aG 7 l y]) 0,AV.slcT none (Row.M [aL.arr .i64 P m]) 1 m false])) { lock:=false,bs:=[(0,ak.fmap (KK.str 2) (ni h [j,aK .i64 x (Int.ofNat 1)] true) (oa g [j,aK .i64 x (Int.ofNat 1)] (aK .i64 (g [f,x]) (a f j))) (re (h [j,aK .i64 x (Int.ofNat 1)]) c)),(0,ak.fmap (KK.str 2) (ni (ni h2 [j,aK .i64 x (Int.ofNat 1)] false) [j,aK .i64 x (Int.ofNat 1)] true) (oa (oa g2 [j,aK .i64 x (Int.ofNat 1)] (Int.ofNat 0)) [j,aK .i64 x (Int.ofNat 1)] f) (re (ni h2 [j,aK .i64 x (Int.ofNat 1)] false [j,aK .i64 x (Int.ofNat 1)]) (BW (h2 [j,aK .i64 x (Int.ofNat 1)]) c2))),(0,ak.row (Row.I .i64 [j,aK .i64 x (Int.ofNat 1)]))] })) [(0,AV.ptrT (some (Nat.succ s)) (Row.G [aG 7 l y]) 0,none),(1,AV.int .i64 K,none),(6,AV.slcT none (Row.M [aL.arr .i64 P m]) 1 m false,none),(7,AV.map 0 0,none),(8,AV.map 0 1,none),(9,AV.int .i64 j,none),(10,AV.int .i64 f,none),(32,AV.int .i64 (Int.ofNat m),none),(33,AV.int .i64 j,none),(41,AV.int .i64 K,none),(42,AV.int .i64 (aK .i64 x (Int.ofNat 1)),none)]:=by kernel_rfl
theorem On:∀ b,(4,b) ∈ bc (part Tryz.f79 [1,1,1,1,0,1,0,0,1,1,0,0,1,1,0,0])→b=.loop (part Tryz.f79 [1,1,1,1,0,1,0,0,1,1,0,0,1,1,0,0,1,0,0,1,0,0]):=jj (by kernel_rfl)
theorem Om:∀ b,(2,b) ∈ bc (part Tryz.f79 [1,1,1,1,0,1,0,0])→b=.loop (part Tryz.f79 [1,1,1,1,0,1,0,0,1,1,0,0,1,1,0,0]):=jj (by kernel_rfl)
theorem Oo:∀ b,(0,b) ∈ bc (part Tryz.f79 [1,1,1,1,0])→b=.loop (part Tryz.f79 [1,1,1,1,0,1,0,0]):=jj (by kernel_rfl)
noncomputable def kx (s:MS) (bs:List (Nat×ak)):bm:=dH s.h s.g s.c s.h2 s.g2 s.c2 bs
def Od (m:Nat) (f p:Int):Prop:=(-1≤f∧f<m)∧0≤p∧p<m
theorem Fq {n s l m:Nat} {z P:Nat→Int} {t:me} (h:bh l z=0) (hm:m≤1000) (ht:t.Ok (cd (n+3))):(iz t 93 (OS (Od m) (iO s l (oY z l)) (bD m P false) (eN l z P))).Ok (cd (n+3)):=by
 refine dQ ht (fun args p v hg hp H=>?_)
 unfold OS at hg
 split at hg
 · simp only[nP] at hg
   obtain ⟨rfl,rfl⟩:=hg
   obtain ⟨e,h1,h2⟩:=hp
   simp only[List.cons.injEq,and_true] at e
   obtain ⟨rfl,rfl⟩:=e
   exact Sl n s l m z P H _ _ h hm h1 h2
 · cases hg
section
variable (n s l m:Nat) (z P:Nat→Int) (H:aa)
theorem BH (h:bh l z=0) (f p:Int):0≤eN l z P f p∧eN l z P f p≤1400000:=by
 obtain ⟨hl,hz⟩:=bM h
 have hw:∀ i,i<l→0≤gm z i∧gm z i≤100000:=fun i hi=>by
  have:=hz i hi
  unfold gm;omega
 obtain ⟨h1,h2⟩:=Er (N:=l) (lo:=cq z) (hi:=bE z) (P:=P) (fun i hi=>(hw i hi).1) f p
 have h3:∀ j,j≤l→ku (gm z) j≤(j:Int)*100000:=by
  intro j
  induction j with
  | zero=>intro _;show (0:Int)≤_;omega
  | succ j ih =>
    intro hj
    have:=ih (by omega)
    have:=hw j (by omega)
    show ku (gm z) j+gm z j≤_
    omega
 have:=h3 l (Nat.le_refl _)
 unfold eN
 omega
theorem PY (K:Nat) (j f:Int) (S:MS) (h:bh l z=0) (hK:K≤15) (hm:m≤14) (hf:-1≤f∧f<j) (hj:0≤j∧j<m) (hB:GU 1400000 S):exec (bp (n+3) 79 156) (.block 4 (.loop (part Tryz.f79 [1,1,1,1,0,1,0,0,1,1,0,0,1,1,0,0,1,0,0,1,0,0]))) (pA s l m (oY z l) P K j f (Int.ofNat 0)) (kx S []::H)=some (.normal,pA s l m (oY z l) P K j f K++[(43,.bool false)],kx (ib (eN l z P) j f K S) []::H):=by
 refine j9 4 (fun i=>pA s l m (oY z l) P K j f (i:Nat)) (fun i=>kx (ib (eN l z P) j f i S) []::H) K (pA s l m (oY z l) P K j f K++[(43,.bool false)],kx (ib (eN l z P) j f K S) []::H) (by omega) (fun i hi=>?_) ?_
 · have hB2:=JQ (a:=eN l z P) (W:=1400000) (fun f p=>BH l z P h f p) (p:=j) (f:=f) hB i
   have e1:aK .i64 (i:Int) (Int.ofNat 1)=((i+1:Nat):Int):=rV (by omega)
   have hst:ib (eN l z P) j f (i+1) S=nk (eN l z P) j f i (ib (eN l z P) j f i S):=rfl
   have ha:=BH l z P h f j
   have hQ:Od m f j:=⟨⟨hf.1,by omega⟩,hj⟩
   generalize ib (eN l z P) j f (i+1) S=S2 at *
   generalize ib (eN l z P) j f i S=S1 at *
   refine aD (Nw (n+3) s l m (oY z l) P (eN l z P) (Od m) K j f (i:Nat) S1.h S1.g S1.c S1.h2 S1.g2 S1.c2 H) (cP _ (n+3) 0 (fun q=>?_)) (af _ _) (ag _ _) ?_
   · rw[show n+3+q=n+q+3 by omega]
     exact Fq h (by omega) (aO _)
   · rw[e1]
     have hjj:((i+1:Nat):Int)=(i:Int)+1:=rfl
     rw[hjj]
     show Tr.all _ (fun x=>_∧tidy _ _ _=(pA s l m (oY z l) P K j f ((i:Int)+1),kx S2 []::H))
     cases c1:S1.h [f,(i:Int)] with
     | false =>
       have e2:S2=S1:=by rw[hst];unfold nk;rw[if_neg (by rw[c1];decide)]
       subst e2
       exact wF
     | true =>
       obtain ⟨b1,b2,b3⟩:=hB2 f i c1
       have ea:aK .i64 (S1.g [f,(i:Int)]) (eN l z P f j)=S1.g [f,(i:Int)]+eN l z P f j:=by rw[bH];exact cr (by omega) (by omega)
       rw[ea]
       cases c2:Jr (eN l z P) j f i S1 with
       | false =>
         have e2:S2=S1:=by rw[hst];unfold nk;rw[if_pos c1,if_neg (by rw[c2];decide)]
         subst e2
         unfold Jr at c2
         rw[Bool.or_eq_false_iff,Bool.not_eq_false',decide_eq_false_iff_not] at c2
         obtain ⟨c3,c4⟩:=c2
         rw[c3]
         generalize eN l z P f j=A at *
         exact wF
       | true =>
         have e2:S2=⟨dz S1.h [j,(i:Int)+1] true,fD S1.g [j,(i:Int)+1] (S1.g [f,(i:Int)]+eN l z P f j),pe (S1.h [j,(i:Int)+1]) S1.c,dz (dz S1.h2 [j,(i:Int)+1] false) [j,(i:Int)+1] true,fD (fD S1.g2 [j,(i:Int)+1] 0) [j,(i:Int)+1] f,pe (dz S1.h2 [j,(i:Int)+1] false [j,(i:Int)+1]) (yp (S1.h2 [j,(i:Int)+1]) S1.c2)⟩:=by
          rw[hst];unfold nk;rw[if_pos c1,if_pos c2]
         subst e2
         unfold Jr at c2
         rw[Bool.or_eq_true,Bool.not_eq_true',decide_eq_true_eq] at c2
         simp only[pW,pX,sZ,yq]
         generalize eN l z P f j=A at *
         cases c3:S1.h [j,(i:Int)+1] with
         | false =>
           exact wF
         | true =>
           have c4:=c2.resolve_left (by rw[c3];decide)
           exact wF
 · obtain ⟨x,h1,rfl⟩:=aD (Q:=fun x=>x=(.exit 4,pA s l m (oY z l) P K j f K++[(43,.bool false)],kx (ib (eN l z P) j f K S) []::H)) (Nw (n+3) s l m (oY z l) P (eN l z P) (Od m) K j f K (ib (eN l z P) j f K S).h (ib (eN l z P) j f K S).g (ib (eN l z P) j f K S).c (ib (eN l z P) j f K S).h2 (ib (eN l z P) j f K S).g2 (ib (eN l z P) j f K S).c2 H) (cP _ (n+3) 0 (fun q=>by rw[show n+3+q=n+q+3 by omega];exact Fq h (by omega) (aO _))) (af _ _) (ag _ _) (by
    refine Tr.al (fun hc=>?_) (fun hc=>Tr.av rfl)
    simp (disch:=omega) only[nV,nW] at hc;omega)
   exact h1
end
end Go.Eng
end
