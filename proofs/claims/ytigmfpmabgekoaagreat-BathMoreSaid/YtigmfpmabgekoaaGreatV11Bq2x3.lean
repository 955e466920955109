/- Bath: the points: the first births of the orders that have any, sorted, each once. -/
import Derived.Test.YtigmfpmabgekoaaGreatV11Bq1x2
import Derived.Test.YtigmfpmabgekoaaGreatV11Bc5x23
set_option linter.unusedVariables false
set_option linter.unusedSimpArgs false
set_option maxRecDepth 100000
section
namespace Go.Eng
open Go.Proofs
noncomputable def s5 (s l m:Nat) (y g:Nat→Int) (L:AV) (j:Int):av:=[(0,iJ (s+1) l y),(3,L),(7,cI m g false),(8,.int .i64 (Int.ofNat m)),(9,.int .i64 j)]
noncomputable def N8 (v k:Nat) (a b:Nat→Int) (args:List AV) (H:aa):Tr (AV×aa) :=
 match args with
 | [.slc 0 0 v' 0 1 k' none]=>match H with
   | ⟨lk,[(v2,.row (.M [.arr .i64 a' k2]))]⟩::r=>.reqP (lk=false∧v'=v∧k'=k∧v2=v∧k2=k∧a'=a) (.ok (.tup [],⟨false,[(v,.row (.M [.arr .i64 b k]))]⟩::r))
   | _=>.bad
 | _=>.bad
noncomputable def N9 (v k k3:Nat) (a b:Nat→Int) (args:List AV) (H:aa):Tr (AV×aa) :=
 match args with
 | [.slc 0 0 v' 0 1 k' none]=>match H with
   | ⟨lk,[(v2,.row (.M [.arr .i64 a' k2]))]⟩::r=>.reqP (lk=false∧v'=v∧k'=k∧v2=v∧k2=k∧a'=a) (.ok (.slc 0 0 v 0 1 k3 none,⟨false,[(v,.row (.M [.arr .i64 b k]))]⟩::r))
   | _=>.bad
 | _=>.bad
theorem MB (n s l m:Nat) (y g:Nat→Int) (H:aa) (j:Int):aX (bz n 81 32) (il aU n 0) aZ a6 (part Tryz.f81 [1,1,0,1,0,0]) (hints (s5 s l m y g .nils j)) (aB::H) =
 Tr.ite (dq j (Int.ofNat m)) (Tr.req (dF j m) (Tr.req (bA (ar 0 j 1) m) (Tr.req (dF (g (ar 0 j 1)) l) (Tr.req (bA (af (ar 0 (g (ar 0 j 1)) 7) 5) (aD l 7)) (Tr.req (dU 0 1 8) (Tr.req (bX 0 0) (Tr.req (dG 1 1) (Tr.ok (Ex.normal,[(0,AV.ptrT (some (Nat.succ s)) (Row.G [aJ 7 l y]) 0,none),(3,AV.slc 0 1 0 0 1 1 none,none),(7,AV.slcT none (Row.M [aW.arr .i64 g m]) 1 m false,none),(8,AV.int .i64 (Int.ofNat m),none),(9,AV.int .i64 (a8 .i64 j (Int.ofNat 1)),none)],{ lock:=false,bs:=[(0,ak.row (Row.I .i64 [y (af (ar 0 (g (ar 0 j 1)) 7) 5)])),(0,ak.row (Row.M [aW.arr .i64 (an [y (af (ar 0 (g (ar 0 j 1)) 7) 5)]) 1]))] } :: H))))))))) (Tr.ok (Ex.exit 0,[(0,AV.ptrT (some (Nat.succ s)) (Row.G [aJ 7 l y]) 0,none),(3,AV.nils,none),(7,AV.slcT none (Row.M [aW.arr .i64 g m]) 1 m false,none),(8,AV.int .i64 (Int.ofNat m),none),(9,AV.int .i64 j,none),(10,AV.bool false,some 1)],aB::H)):=by kernel_rfl
theorem MC (n s l m v k:Nat) (y g b:Nat→Int) (H:aa) (j:Int):aX (bz n 81 32) (il aU n 0) aZ a6 (part Tryz.f81 [1,1,0,1,0,0]) (hints (s5 s l m y g (.slc 0 0 v 0 1 k none) j)) (⟨false,[(v,.row (.M [.arr .i64 b k]))]⟩::H) =
 Tr.ite (dq j (Int.ofNat m)) (Tr.req (dF j m) (Tr.req (bA (ar 0 j 1) m) (Tr.req (dF (g (ar 0 j 1)) l) (Tr.req (bA (af (ar 0 (g (ar 0 j 1)) 7) 5) (aD l 7)) (Tr.req (dU k 1 8) (Tr.req (bX 0 0) (Tr.req (dG 1 1) (Tr.req (bX v v) (Tr.req (bX (af 0 k) k) (Tr.ok (Ex.normal,[(0,AV.ptrT (some (Nat.succ s)) (Row.G [aJ 7 l y]) 0,none),(3,AV.slc 0 0 (Nat.succ v) 0 1 (af k 1) none,none),(7,AV.slcT none (Row.M [aW.arr .i64 g m]) 1 m false,none),(8,AV.int .i64 (Int.ofNat m),none),(9,AV.int .i64 (a8 .i64 j (Int.ofNat 1)),none)],{ lock:=false,bs:=[(Nat.succ v,ak.row (Row.M [aW.arr .i64 (bF (g7 b 0) k (an [y (af (ar 0 (g (ar 0 j 1)) 7) 5)])) (af k 1)])),(0,ak.row (Row.I .i64 [y (af (ar 0 (g (ar 0 j 1)) 7) 5)]))] } :: H))))))))))) (Tr.ok (Ex.exit 0,[(0,AV.ptrT (some (Nat.succ s)) (Row.G [aJ 7 l y]) 0,none),(3,AV.slc 0 0 v 0 1 k none,none),(7,AV.slcT none (Row.M [aW.arr .i64 g m]) 1 m false,none),(8,AV.int .i64 (Int.ofNat m),none),(9,AV.int .i64 j,none),(10,AV.bool false,some 1)],{ lock:=false,bs:=[(v,ak.row (Row.M [aW.arr .i64 b k]))] } :: H)):=by kernel_rfl
theorem Qw (n s l m v k k3:Nat) (y g a b c:Nat→Int) (H:aa):bw Tryz.prog (cd (n+1)) 100000 81 Tryz.f81 (KtB.kt 81) (il (jc (jc (lg aU 64 (gO (iJ (s+1) l y) (cI m g false))) 96 (N8 v k a b)) 97 (N9 v k k3 b c)) n 1) (gf aZ 0 (s5 s l m y g .nils (Int.ofNat 0)) (aB::H) (.ok (.normal,hints (s5 s l m y g (.slc 0 0 v 0 1 k none) (Int.ofNat m)++[(10,.bool false)]),⟨false,[(v,.row (.M [.arr .i64 a k]))]⟩::H))) a6 [(iJ s l y,none)] H =
 (fun (Z0:av)=>Tr.reqP (AV.ptrT (some (Nat.succ s)) (Row.G [aJ 7 l y]) 0=AV.ptrT (some (Nat.succ s)) (Row.G [aJ 7 l y]) 0) (Tr.reqP (Z0=Z0∧aB::H=aB::H) (Tr.reqP (false=false∧v=v∧k=k∧v=v∧k=k∧a=a) (Tr.reqP (false=false∧v=v∧k=k∧v=v∧k=k∧b=b) (Tr.req (bX v v) (Tr.req (lX 0 k3 0 k) (Tr.ok ((AV.fn (Fn.func 112) [] [AV.ptrT (some 0) (Row.G [AV.slcT none (Row.M [aW.arr .i64 (g7 c 0) k3]) 1 k3 false]) 0],none),H)))))))) [(0,AV.ptrT (some (Nat.succ s)) (Row.G [aJ 7 l y]) 0),(3,AV.nils),(7,AV.slcT none (Row.M [aW.arr .i64 g m]) 1 m false),(8,AV.int .i64 (Int.ofNat m)),(9,AV.int .i64 (Int.ofNat 0))]:=by kernel_rfl
theorem Qv (n s l:Nat) (y:Nat→Int) (H:aa):bw Tryz.prog (cd (n+1)) 100000 81 Tryz.f81 (KtB.kt 81) (il (lg (lg aU 64 (gO (iJ (s+1) l y) .nils)) 96 (gO .nils (.tup []))) n 1) aZ a6 [(iJ s l y,none)] H =
 Tr.reqP (AV.ptrT (some (Nat.succ s)) (Row.G [aJ 7 l y]) 0=AV.ptrT (some (Nat.succ s)) (Row.G [aJ 7 l y]) 0) (Tr.reqP (AV.nils=AV.nils) (Tr.ok ((AV.fn (Fn.func 112) [] [AV.ptrT (some 0) (Row.G [AV.nils]) 0],none),H))):=by kernel_rfl
theorem Q8:∀ b,(0,b) ∈ bo (ct Tryz.f81)→b=.loop (part Tryz.f81 [1,1,0,1,0,0]):=kX (by kernel_rfl)
def zw (z g:Nat→Int):Nat→List Int
 | 0=>[]
 | j+1=>zw z g j++[cQ z (g j).toNat]
theorem r9 (z g:Nat→Int):∀ j,(zw z g j).length=j
 | 0=>rfl
 | j+1=>by
   show (zw z g j++[_]).length=j+1
   rw[List.length_append,r9 z g j];rfl
theorem NU (n:Nat) (H:aa):cd (n+6) (.fn 96) [.nils] H=some (.tup [],H):=by kernel_rfl
theorem Rv (n v k:Nat) (a:Nat→Int) (H:aa) (h1:0<k) (h2:k<4611686018427387904):cd (n+1) (.fn 96) [.slc 0 0 v 0 1 k none] (⟨false,[(v,.row (.M [.arr .i64 a k]))]⟩::H)=some (.tup [],⟨false,[(v,.row (.M [.arr .i64 (DR gV a 0 k) k]))]⟩::H):=by
 have hr:di (⟨false,[(v,.row (.M [.arr .i64 a k]))]⟩::H) 0 0 v=some (.M [.arr .i64 a k]):=by
  show (if Nat.beq v v then some (Row.M [.arr .i64 a k]) else none)=_
  rw[if_pos (Nat.beq_refl v)]
 have:l7 (cd n) 96 [.slc 0 0 v 0 1 k none] (⟨false,[(v,.row (.M [.arr .i64 a k]))]⟩::H)=some (.tup [],⟨false,[(v,.row (.M [.arr .i64 (DR gV a 0 k) k]))]⟩::H):=by
  show DC gV [.slc 0 0 v 0 1 k none] (⟨false,[(v,.row (.M [.arr .i64 a k]))]⟩::H)=_
  simp only[DC,hr]
  rw[if_pos ⟨rfl,h1,h2,by omega⟩]
  rfl
 unfold cd
 rw[show cJ Tryz.prog l7 KtB.kt 100000 (n+1) (.fn 96) [.slc 0 0 v 0 1 k none] (⟨false,[(v,.row (.M [.arr .i64 a k]))]⟩::H)=(match l7 (cd n) 96 [.slc 0 0 v 0 1 k none] (⟨false,[(v,.row (.M [.arr .i64 a k]))]⟩::H) with
  | some r=>some r
  | none=>_) from rfl,this]
theorem JJ {n v k:Nat} {a b:Nat→Int} {t:mb} (ht:t.Ok (cd (n+1))) (h:∀ H,cd (n+1) (.fn 96) [.slc 0 0 v 0 1 k none] (⟨false,[(v,.row (.M [.arr .i64 a k]))]⟩::H)=some (.tup [],⟨false,[(v,.row (.M [.arr .i64 b k]))]⟩::H)):(jc t 96 (N8 v k a b)).Ok (cd (n+1)):=by
 refine jd ht (fun args H x hx=>?_)
 unfold N8 at hx
 split at hx
 · split at hx
   · obtain ⟨⟨rfl,rfl,rfl,rfl,rfl,rfl⟩,h2⟩:=Tr.c7 hx
     rw[← Tr.ab h2]
     exact h _
   · exact (Tr.ae hx).elim
 · exact (Tr.ae hx).elim
theorem JK {n v k k3:Nat} {a b:Nat→Int} {t:mb} (ht:t.Ok (cd (n+1))) (h:∀ H,cd (n+1) (.fn 97) [.slc 0 0 v 0 1 k none] (⟨false,[(v,.row (.M [.arr .i64 a k]))]⟩::H)=some (.slc 0 0 v 0 1 k3 none,⟨false,[(v,.row (.M [.arr .i64 b k]))]⟩::H)):(jc t 97 (N9 v k k3 a b)).Ok (cd (n+1)):=by
 refine jd ht (fun args H x hx=>?_)
 unfold N9 at hx
 split at hx
 · split at hx
   · obtain ⟨⟨rfl,rfl,rfl,rfl,rfl,rfl⟩,h2⟩:=Tr.c7 hx
     rw[← Tr.ab h2]
     exact h _
   · exact (Tr.ae hx).elim
 · exact (Tr.ae hx).elim
section
variable (n s l m:Nat) (z g:Nat→Int) (H:aa)
theorem Tc (hl:l≤14) (hm:m≤14) (hg:∀ j,j<m→0≤g j∧g j<l):exec (bz n 81 32) (.block 0 (.loop (part Tryz.f81 [1,1,0,1,0,0]))) (s5 s l m (oY z l) g .nils (Int.ofNat 0)) (aB::H)=some (.normal,s5 s l m (oY z l) g (dW (zw z g m)) (Int.ofNat m)++[(10,.bool false)],KE (zw z g m)::H):=by
 refine nD 0 (fun j=>s5 s l m (oY z l) g (dW (zw z g j)) (j:Int)) (fun j=>KE (zw z g j)::H) m (s5 s l m (oY z l) g (dW (zw z g m)) (Int.ofNat m)++[(10,.bool false)],KE (zw z g m)::H) (by omega) (fun j hj=>?_) ?_
 · have ej:a8 .i64 (j:Int) (Int.ofNat 1)=((j+1:Nat):Int):=wx (by omega)
   have ei:ar 0 (j:Int) 1=j:=GV j
   have eg:ar 0 (g j) 7=(g j).toNat*7:=by rw[bC];omega
   have hgj:=hg j hj
   have h5:oY z l ((g j).toNat*7+5)=cQ z (g j).toNat:=nL z (by omega) (by omega)
   have hd:zw z g (j+1)=zw z g j++[cQ z (g j).toNat]:=rfl
   have hlen:=r9 z g j
   cases e:zw z g j with
   | nil =>
     rw[e] at hd
     refine aG (MB n s l m (oY z l) g H (j:Int)) (aO n) (ag _ _) (ah _ _) ?_
     simp only[ei,eg,aQ]
     rw[ej,h5]
     rw[hd]
     clear hd
     generalize cQ z (g j).toNat=lo at *
     exact wF
   | cons a r =>
     rw[e] at hd hlen
     have e1:=nm (a::r) (cQ z (g j).toNat)
     simp only[List.length_cons] at hlen e1
     have e3:af (r.length+1) 1=r.length+1+1:=by rw[aQ]
     refine aG (MC n s l m r.length (r.length+1) (oY z l) g (an (a::r)) H (j:Int)) (aO n) (ag _ _) (ah _ _) ?_
     simp only[ei,eg,aQ] at e1 e3 ⊢
     rw[ej,h5,e1]
     have e4:(r++[cQ z (g j).toNat]).length=r.length+1:=by simp
     rw[hd]
     clear hd
     generalize cQ z (g j).toNat=lo at *
     repeat' first | (refine Tr.al (fun hc=>?_) (fun hc=>?_)<;>(try simp (disch:=omega) only[nV,nW] at hc)<;>(try (exfalso;omega))) | (refine Tr.bf ?_ ?_;· ((try simp (disch:=omega) only[nV,nW]);try omega)) | (refine Tr.ay ?_ ?_;· first | exact trivial | rfl | exact ⟨rfl,rfl⟩ | exact ⟨trivial,rfl⟩ | exact ⟨rfl,by assumption⟩ | exact ⟨trivial,by assumption⟩ | exact ⟨rfl,rfl,rfl⟩ | (simp (disch:=omega) only[nV,nW];done) | ((try simp (disch:=omega) only[nV,nW]);omega)) | fail
     all_goals first
      | (refine Tr.aw ⟨rfl,?_⟩
         show _=(s5 s l m (oY z l) g (.slc 0 0 (r++[lo]).length 0 1 ((r++[lo]).length+1) none) ((j+1:Nat):Int),(⟨false,[((r++[lo]).length,.row (.M [.arr .i64 (an (a::r++[lo])) ((r++[lo]).length+1)]))]⟩:bn)::H)
         rw[e4];rfl)
      | fail
 · cases e:zw z g m with
   | nil =>
     obtain ⟨x,h1,rfl⟩:=aG (Q:=fun x=>x=(.exit 0,s5 s l m (oY z l) g .nils (Int.ofNat m)++[(10,.bool false)],aB::H)) (MB n s l m (oY z l) g H (Int.ofNat m)) (aO n) (ag _ _) (ah _ _) (by
      exact wF)
     exact h1
   | cons a r =>
     obtain ⟨x,h1,rfl⟩:=aG (Q:=fun x=>x=(.exit 0,s5 s l m (oY z l) g (.slc 0 0 r.length 0 1 (r.length+1) none) (Int.ofNat m)++[(10,.bool false)],(⟨false,[(r.length,.row (.M [.arr .i64 (an (a::r)) (r.length+1)]))]⟩:bn)::H)) (MC n s l m r.length (r.length+1) (oY z l) g (an (a::r)) H (Int.ofNat m)) (aO n) (ag _ _) (ah _ _) (by
      exact wF)
     exact h1
end
noncomputable def AN (l:Nat) (z:Nat→Int):List Int:=zw z (an (dl (gE z) l)) (dl (gE z) l).length
noncomputable def cX (l:Nat) (z:Nat→Int):List Int:=oK (an (gV (AN l z))) (dl (gE z) l).length
noncomputable def TL (A:AV):AV:=.fn (.func 112) [] [.ptrT (some 0) (.G [A]) 0]
theorem Rp (l:Nat) (z:Nat→Int) (h:bp l z=0):∃ P,(∀ i,i<(cX l z).length→P i=(cX l z).getD i 0)∧∀ n s H,cd (n+8) (.fn 81) [iJ s l (oY z l)] H=some (TL (if (cX l z).length=0 then .nils else cI (cX l z).length P false),H):=by
 obtain ⟨hl,_⟩:=bM h
 have hlen:=sK (gE z) l
 cases e:dl (gE z) l with
 | nil =>
   have e2:cX l z=[]:=by unfold cX;rw[e];rfl
   rw[e2]
   refine ⟨fun _=>0,fun i hi=>by simp at hi,fun n s H=>?_⟩
   rw[if_pos (show ([]:List Int).length=0 from rfl)]
   refine ba (n:=n+7) Tryz.func81 rfl rfl rfl (Qv (n+6) s l (oY z l) H) (cS _ (n+6) 1 (fun q=>sJ (sJ (aT _) (fun H=>by
    have:=KW (n+2+q) (s+1) l z H h
    rw[e] at this
    rw[show n+6+q=n+2+q+4 by omega]
    exact this)) (fun H=>by rw[show n+6+q=n+q+6 by omega];exact NU _ H))) (ag _ _) (ah _ _) ?_
   exact wF
 | cons a0 r0 =>
   have em:(dl (gE z) l).length=r0.length+1:=by rw[e];rfl
   have hg:∀ j,j<r0.length+1→0≤an (dl (gE z) l) j∧an (dl (gE z) l) j<l:=fun j hj=>by
    have:=np (dl (gE z) l) j (by omega)
    obtain ⟨i,h1,h2,_⟩:=(p8 _ _ _).1 this
    omega
   have hx:=fun n s H=>Tc (n+7) s l (r0.length+1) z (an (dl (gE z) l)) H (by omega) (by omega) hg
   have hlw:AN l z=zw z (an (dl (gE z) l)) (r0.length+1):=by unfold AN;rw[em]
   have hA:=r9 z (an (dl (gE z) l)) (r0.length+1)
   have hpt:cX l z=oK (an (gV (AN l z))) (r0.length+1):=by unfold cX;rw[em]
   rw[← hlw] at hx hA
   generalize hAA:AN l z=A at *
   cases A with
   | nil=>simp at hA
   | cons a r =>
     simp only[List.length_cons,Nat.add_right_cancel_iff] at hA
     obtain ⟨P,hP,hcp⟩:∃ P,(∀ i,i<(cX l z).length→P i=(cX l z).getD i 0)∧∀ q v H,cd (q+1) (.fn 97) [.slc 0 0 v 0 1 (r.length+1) none] (⟨false,[(v,.row (.M [.arr .i64 (an (gV (a::r))) (r.length+1)]))]⟩::H)=some (.slc 0 0 v 0 1 (cX l z).length none,⟨false,[(v,.row (.M [.arr .i64 P (r.length+1)]))]⟩::H):=by
      rw[hpt,← hA]
      exact NV _ _ (by omega) (by omega)
     refine ⟨P,hP,fun n s H=>?_⟩
     have hk:1≤(cX l z).length:=by
      rw[hpt]
      have:oK (an (gV (a::r))) (r0.length+1)≠[]:=by
       have:∀ j,oK (an (gV (a::r))) (j+1)≠[]:=by
        intro j
        induction j with
        | zero=>simp[oK]
        | succ j ih =>
          show (if _ then _ else _)≠[]
          split
          · simp
          · exact ih
       exact this _
      have:=List.length_pos_iff.2 this
      omega
     have hle:(cX l z).length≤r.length+1:=by rw[hpt,← hA];exact wu _ _
     rw[if_neg (by omega)]
     have hs0:P=g7 P 0:=(df P).symm
     have hrw:=Kl (a::r)
     simp only[List.length_cons] at hrw
     refine ba (n:=n+7) Tryz.func81 rfl rfl rfl (Qw (n+6) s l (r0.length+1) r.length (r.length+1) (cX l z).length (oY z l) (an (dl (gE z) l)) (an (a::r)) (an (gV (a::r))) P H) (cS _ (n+6) 1 (fun q=>by
      rw[show n+6+q=n+5+q+1 by omega]
      refine JK (JJ (sJ (aT _) (fun H=>?_)) (fun H=>?_)) (fun H=>hcp _ _ H)
      · have:=KW (n+2+q) (s+1) l z H h
        rw[show n+5+q+1=n+2+q+4 by omega]
        rw[this,e]
        show _=some (cI (r0.length+1) (an (a0::r0)) false,H)
        rfl
      · rw[← hrw]
        exact Rv _ _ _ _ H (by omega) (by omega))) (bL (ag _ _) Q8 (fun x hx2=>by rw[← Tr.ab hx2];simp only[gY.st,aY];exact hx n s H)) (ah _ _) ?_
     rw[df]
     generalize cX l z=Q at *
     exact wF
end Go.Eng
end
section
namespace Go.Eng
open Go.Proofs
noncomputable def x0 (n f nt d i:Nat):Cx:=⟨Tryz.prog,cd n,100000,f,nt,KtB.kt f,some (d,i)⟩
noncomputable def sY (k:Nat) (P:Nat→Int) (j:Int):av:=[(0,.yld 1 1),(5,cI k P false),(6,.int .i64 (Int.ofNat k)),(7,.int .i64 j)]
noncomputable def Ai (s:Nat) (A:AV):AV:=.fn (.func 112) [] [.ptrT (some s) (.G [A]) 0]
noncomputable def mB (s:Nat) (A:AV):av:=[(2,.ptr 0 0 0 0),(6,Ai (s+1) A)]
noncomputable def KH (b:Nat×ak):bn:=⟨false,[(0,.row (.G [.nils])),b]⟩
noncomputable def IK (v k:Nat) (a:Nat→Int) (b:Nat×ak):bn:=⟨false,[(0,.row (.G [.slc 0 2 v 0 1 k none])),b,(v,.row (.M [.arr .i64 a k]))]⟩
theorem t112 (n k:Nat) (P:Nat→Int) (G G':aa) (j x:Int):aX (bz n 112 16) (PJ (il aU n 0) 1 1 [.int .i64 x] (aB::G) (.ok (.bool true,aB::G'))) aZ a6 (part Tryz.f112 [1,0,0]) (hints (sY k P j)) (aB::G) =
 (fun (Z0:Nat×AV×Option Nat)=>Tr.ite (dq j (Int.ofNat k)) (Tr.req (dF j k) (Tr.req (bA (ar 0 j 1) k) (Tr.reqP ([AV.int .i64 (P (ar 0 j 1))]=[AV.int .i64 x]∧aB::G=aB::G) (Tr.ite (b8 true) (Tr.ok (Ex.ret,[(0,AV.yld 1 1,none),Z0,(6,AV.int .i64 (Int.ofNat k),none),(7,AV.int .i64 j,none),(14,AV.bool true,some 1)],aB::G')) (Tr.ok (Ex.normal,[(0,AV.yld 1 1,none),Z0,(6,AV.int .i64 (Int.ofNat k),none),(7,AV.int .i64 (a8 .i64 j (Int.ofNat 1)),none)],aB::G')))))) (Tr.ok (Ex.exit 0,[(0,AV.yld 1 1,none),Z0,(6,AV.int .i64 (Int.ofNat k),none),(7,AV.int .i64 j,none),(8,AV.bool false,some 1)],aB::G))) (5,AV.slcT none (Row.M [aW.arr .i64 P k]) 1 k false,none):=by kernel_rfl
theorem Mq (n k:Nat) (P:Nat→Int) (G:aa) (j:Int):aX (bz n 112 16) (il aU n 0) aZ a6 (part Tryz.f112 [1,0,0]) (hints (sY k P j)) (aB::G) =
 Tr.ite (dq j (Int.ofNat k)) (Tr.req (dF j k) (Tr.req (bA (ar 0 j 1) k) Tr.bad)) (Tr.ok (Ex.exit 0,[(0,AV.yld 1 1,none),(5,AV.slcT none (Row.M [aW.arr .i64 P k]) 1 k false,none),(6,AV.int .i64 (Int.ofNat k),none),(7,AV.int .i64 j,none),(8,AV.bool false,some 1)],aB::G)):=by kernel_rfl
theorem Qa (n s k:Nat) (P:Nat→Int) (G G':aa):bw Tryz.prog (cd n) 100000 112 Tryz.f112 (KtB.kt 112) (il aU n 0) (gf aZ 0 (sY k P (Int.ofNat 0)) (aB::G) (.ok (.normal,hints (sY k P (Int.ofNat k)++[(8,.bool false)]),aB::G'))) a6 [(.yld 0 1,none),(.ptrT (some s) (.G [cI k P false]) 0,none)] G =
 (fun (Z0:av)=>Tr.reqP (Z0=Z0∧aB::G=aB::G) (Tr.ok ((AV.tup [],none),G'))) [(0,AV.yld 1 1),(5,AV.slcT none (Row.M [aW.arr .i64 P k]) 1 k false),(6,AV.int .i64 (Int.ofNat k)),(7,AV.int .i64 (Int.ofNat 0))]:=by kernel_rfl
theorem MW (n s:Nat) (G:aa):bw Tryz.prog (cd n) 100000 112 Tryz.f112 (KtB.kt 112) (il aU n 0) aZ a6 [(.yld 0 1,none),(.ptrT (some s) (.G [.nils]) 0,none)] G =
 Tr.ok ((AV.tup [],none),G):=by kernel_rfl
theorem IV (n s k:Nat) (P:Nat→Int) (bs:List (Nat×ak)) (H:aa) (x:Int):aX (x0 n 110 13 2 1) (il aU n 0) aZ a6 (part Tryz.f110 [1,0,1,0,0]) (hints [(2,.ptr 2 0 0 0),(6,Ai (s+3) (cI k P false)),(7,.int .i64 x)]) (aB::aB::⟨false,bs⟩::H) =
 Tr.ok (Ex.normal,[(2,AV.ptr 2 0 0 0,none),(5,AV.int .i64 x,none)],aB::aB::{ lock:=false,bs:=bs } :: H):=by kernel_rfl
theorem Mn (n:Nat) (L:ma) (H:aa) (x:Int):aX (x0 n 110 13 2 1) (il aU n 0) aZ a6 (part Tryz.f110 [1,0,1,0,1]) (hints [(2,.ptr 2 0 0 0),(5,.int .i64 x)]) (aB::aB::KH (0,.loop L)::H) =
 Tr.req (dU 0 1 8) (Tr.req (bX 0 0) (Tr.req (dG 1 1) (Tr.ok (Ex.normal,[],{ lock:=false,bs:=[(0,ak.row (Row.I .i64 [x])),(0,ak.dead)] } :: aB::{ lock:=false,bs:=[(0,ak.row (Row.G [AV.slc 0 2 0 0 1 1 none])),(0,ak.loop L),(0,ak.row (Row.M [aW.arr .i64 (an [x]) 1]))] } :: H)))):=by kernel_rfl
theorem Mp (n v k:Nat) (b:Nat→Int) (L:ma) (H:aa) (x:Int):aX (x0 n 110 13 2 1) (il aU n 0) aZ a6 (part Tryz.f110 [1,0,1,0,1]) (hints [(2,.ptr 2 0 0 0),(5,.int .i64 x)]) (aB::aB::IK v k b (0,.loop L)::H) =
 Tr.req (dU k 1 8) (Tr.req (bX 0 0) (Tr.req (dG 1 1) (Tr.req (bX v v) (Tr.req (bX (af 0 k) k) (Tr.ok (Ex.normal,[],{ lock:=false,bs:=[(0,ak.row (Row.I .i64 [x]))] } :: aB::{ lock:=false,bs:=[(0,ak.row (Row.G [AV.slc 0 2 (Nat.succ v) 0 1 (af k 1) none])),(0,ak.loop L),(Nat.succ v,ak.row (Row.M [aW.arr .i64 (bF (g7 b 0) k (an [x])) (af k 1)]))] } :: H)))))):=by kernel_rfl
theorem P9 (n s v k m:Nat) (P b:Nat→Int) (H:aa):bw Tryz.prog (cd n) 100000 110 Tryz.f110 (KtB.kt 110) (il aU n 0) aZ (Nv a6 (fun _=>true) (mB s (cI k P false)) (⟨false,[(0,.row (.G [.nils]))]⟩::H) (.ok (.normal,hints (mB s (cI k P false)),IK v m b (0,.dead)::H))) [(.nils,none),(Ai s (cI k P false),none)] H =
 (fun (Z0:av)=>Tr.reqP (Z0=Z0∧{ lock:=false,bs:=[(0,ak.row (Row.G [AV.nils]))] } :: H={ lock:=false,bs:=[(0,ak.row (Row.G [AV.nils]))] } :: H) (Tr.req (bX v v) (Tr.req (lX 0 m 0 m) (Tr.ok ((AV.slcT none (Row.M [aW.arr .i64 (g7 b 0) m]) 1 m false,none),H))))) [(2,AV.ptr 0 0 0 0),(6,AV.fn (Fn.func 112) [] [AV.ptrT (some (Nat.succ s)) (Row.G [AV.slcT none (Row.M [aW.arr .i64 P k]) 1 k false]) 0])]:=by kernel_rfl
theorem MV (n s:Nat) (H:aa):bw Tryz.prog (cd n) 100000 110 Tryz.f110 (KtB.kt 110) (il aU n 0) aZ (Nv a6 (fun _=>true) (mB s .nils) (⟨false,[(0,.row (.G [.nils]))]⟩::H) (.ok (.normal,hints (mB s .nils),KH (0,.dead)::H))) [(.nils,none),(Ai s .nils,none)] H =
 (fun (Z0:av)=>Tr.reqP (Z0=Z0∧{ lock:=false,bs:=[(0,ak.row (Row.G [AV.nils]))] } :: H={ lock:=false,bs:=[(0,ak.row (Row.G [AV.nils]))] } :: H) (Tr.ok ((AV.nils,none),H))) [(2,AV.ptr 0 0 0 0),(6,AV.fn (Fn.func 112) [] [AV.ptrT (some (Nat.succ s)) (Row.G [AV.nils]) 0])]:=by kernel_rfl
theorem TI (n s k m:Nat) (P b:Nat→Int) (H:aa):bw Tryz.prog (cd n) 100000 92 Tryz.f92 (KtB.kt 92) (il (tX aU 110 [.nils,Ai (s+1) (cI k P false)] (cI m b false)) n 0) aZ a6 [(Ai s (cI k P false),none)] H =
 (fun (Z0:List AV)=>Tr.reqP (Z0=Z0) (Tr.ok ((AV.slcT none (Row.M [aW.arr .i64 b m]) 1 m false,none),H))) [AV.nils,AV.fn (Fn.func 112) [] [AV.ptrT (some (Nat.succ s)) (Row.G [AV.slcT none (Row.M [aW.arr .i64 P k]) 1 k false]) 0]]:=by kernel_rfl
theorem Qz (n s:Nat) (H:aa):bw Tryz.prog (cd n) 100000 92 Tryz.f92 (KtB.kt 92) (il (tX aU 110 [.nils,Ai (s+1) .nils] .nils) n 0) aZ a6 [(Ai s .nils,none)] H =
 Tr.reqP ([AV.nils,AV.fn (Fn.func 112) [] [AV.ptrT (some (Nat.succ s)) (Row.G [AV.nils]) 0]]=[AV.nils,AV.fn (Fn.func 112) [] [AV.ptrT (some (Nat.succ s)) (Row.G [AV.nils]) 0]]) (Tr.ok ((AV.nils,none),H)):=by kernel_rfl
theorem ND:∀ b,(0,b) ∈ bo (ct Tryz.f112)→b=.loop (part Tryz.f112 [1,0,0]):=kX (by kernel_rfl)
section
variable (n s k:Nat) (P:Nat→Int)
theorem NL (St:Nat→aa) (hk:k≤1000) (hr:∀ j,j<k→cd n (.round 1 1) [.int .i64 (P j)] (aB::St j)=some (.bool true,aB::St (j+1))) :
 cd (n+1) (.fn 112) [.yld 0 1,.ptrT (some s) (.G [cI k P false]) 0] (St 0)=some (.tup [],St k):=by
 have hx:=nD (n:=n) (f:=112) (nt:=16) (c:=part Tryz.f112 [1,0,0]) 0 (fun j=>sY k P (j:Int)) (fun j=>aB::St j) k (sY k P (Int.ofNat k)++[(8,.bool false)],aB::St k) (by omega) (fun j hj=>?_) ?_
 · refine ba (n:=n) Tryz.func112 rfl rfl rfl (Qa n s k P (St 0) (St k)) (aO _) (bL (ag _ _) ND (fun x h=>by rw[← Tr.ab h];simp only[gY.st,aY];exact hx)) (ah _ _) ?_
   exact Tr.ay ⟨rfl,rfl⟩ (Tr.aw ⟨rfl,rfl⟩)
 · refine aG (t112 n k P (St j) (St (j+1)) (j:Int) (P j)) (Ki (aO n) (fun x hy=>by rw[← Tr.ab hy];exact hr j hj)) (ag _ _) (ah _ _) ?_
   rw[GV,wx (by omega)]
   generalize St (j+1)=G' at *
   generalize St j=G at *
   exact wF
 · obtain ⟨x,h1,rfl⟩:=aG (Q:=fun x=>x=(.exit 0,sY k P (Int.ofNat k)++[(8,.bool false)],aB::St k)) (Mq n k P (St k) (Int.ofNat k)) (aO n) (ag _ _) (ah _ _) (by
    refine Tr.al (fun hc=>?_) (fun hc=>Tr.aw rfl)
    simp (disch:=omega) only[nV,nW] at hc;omega)
   exact h1
theorem KV (H:aa):cd (n+1) (.fn 112) [.yld 0 1,.ptrT (some s) (.G [.nils]) 0] H=some (.tup [],H):=by
 refine ba (n:=n) Tryz.func112 rfl rfl rfl (MW n s H) (aO _) (ag _ _) (ah _ _) ?_
 exact wF
end
theorem zO {n d i:Nat} {args:List AV} {H H2 R:aa} {l l2:ma} {fr fr1 fr2:av} {lv:bn}
 (hg:au H d i=(0,.loop l)) (hl:aA H d=false) (hs:l.state=.ready) (hp:kK l.nt (l5 (d+1) l.fr) l.params (args.map (gF 1))=some fr)
 (h1:exec (x0 n l.fn l.nt (d+1) i) l.assign fr (aB::H)=some (.normal,fr1,aB::H))
 (h2:exec (x0 n l.fn l.nt (d+1) i) l.body fr1 (dB (aB::H) (d+1) i (0,.loop { l with state:=.busy }))=some (.normal,fr2,lv::H2)) (hg2:au H2 d i=(0,.loop l2)) (hR:R=dB H2 d i (0,.loop { l2 with state:=.ready,pending:=none })) :
 cd (n+1) (.round d i) args H=some (.bool true,R):=by
 rw[hR]
 exact FK (P:=Tryz.prog) (ora:=l7) (KT:=KtB.kt) (fu:=100000) (e:=.normal) hg hl hs hp h1 (by rw[show au (aB::H) (d+1) i=au H d i from rfl];exact hg) hs h2 hg2
theorem Ep {n f nt d i:Nat} {c:Code} {callR:bE} {bl:g9} {rg:sk} {fr:av} {H:aa} {T:Tr gY} (e:aX (x0 n f nt d i) callR bl rg c (hints fr) H=T) (hC:callR.Ok (cd n)) (hB:bl.Ok (x0 n f nt d i) c) (hR:rg.Ok (x0 n f nt d i) c) {y:Ex×av×aa} (h:T.all fun x=>x.st=y):exec (x0 n f nt d i) c fr H=some y:=by
 obtain ⟨x,h1,rfl⟩:=h
 have:=my (cx:=x0 n f nt d i) hC c hB hR (hints fr) H x (by rw[e];exact h1)
 rw[aY] at this;exact this
theorem Eo {n f nt d i:Nat} {c:Code} {callR:bE} {bl:g9} {rg:sk} {fr:av} {H:aa} {T:Tr gY} {Q:Ex×av×aa→Prop} (e:aX (x0 n f nt d i) callR bl rg c (hints fr) H=T) (hC:callR.Ok (cd n)) (hB:bl.Ok (x0 n f nt d i) c) (hR:rg.Ok (x0 n f nt d i) c) (h:T.all fun x=>Q x.st):∃ y,exec (x0 n f nt d i) c fr H=some y∧Q y:=by
 obtain ⟨x,h1,h2⟩:=h
 have:=my (cx:=x0 n f nt d i) hC c hB hR (hints fr) H x (by rw[e];exact h1)
 rw[aY] at this;exact ⟨_,this,h2⟩
noncomputable def qq:Code:=part Tryz.f110 [1,0,1,0,0]
noncomputable def wU:Code:=part Tryz.f110 [1,0,1,0,1]
theorem L9:eX (ct Tryz.f110)=[(.tmp 6,#[7],qq,wU)]:=by kernel_rfl
noncomputable def dN (s:Nat) (A:AV):ma:={ state:=.ready,pending:=none,fn:=110,nt:=13,fr:=mB s A,params:=[7],assign:=qq,body:=wU }
noncomputable def LL (b:Nat×ak):List Int→bn
 | []=>KH b
 | a::r=>IK r.length (r.length+1) (an (a::r)) b
theorem Ma (n s k:Nat) (P:Nat→Int) (L:List Int) (H:aa) (x:Int) (hL:L.length≤1000) :
 cd (n+1) (.round 1 1) [.int .i64 x] (aB::LL (0,.loop (dN s (cI k P false))) L::H)=some (.bool true,aB::LL (0,.loop (dN s (cI k P false))) (L++[x])::H):=by
 cases L with
 | nil =>
   have h1:exec (x0 n 110 13 2 1) qq [(2,.ptr 2 0 0 0),(6,Ai (s+3) (cI k P false)),(7,.int .i64 x)] (aB::aB::KH (0,.loop (dN s (cI k P false)))::H)=some (.normal,[(2,.ptr 2 0 0 0),(5,.int .i64 x)],aB::aB::KH (0,.loop (dN s (cI k P false)))::H) :=
    Ep (IV n s k P _ H x) (aO n) (ag _ _) (ah _ _) (Tr.aw rfl)
   obtain ⟨y,h2,h3⟩:=Eo (Q:=fun y=>y=(.normal,[],⟨false,[(0,.row (.I .i64 [x])),(0,.dead)]⟩::aB::IK 0 1 (an [x]) (0,.loop { dN s (cI k P false) with state:=.busy })::H)) (Mn n { dN s (cI k P false) with state:=.busy } H x) (aO n) (ag _ _) (ah _ _) (by
    generalize dN s (cI k P false)=L at *
    exact wF)
   subst h3
   exact zO (l:=dN s (cI k P false)) (l2:={ dN s (cI k P false) with state:=.busy }) rfl rfl rfl rfl h1 h2 rfl rfl
 | cons a r =>
   simp only[List.length_cons] at hL
   have h1:exec (x0 n 110 13 2 1) qq [(2,.ptr 2 0 0 0),(6,Ai (s+3) (cI k P false)),(7,.int .i64 x)] (aB::aB::IK r.length (r.length+1) (an (a::r)) (0,.loop (dN s (cI k P false)))::H)=some (.normal,[(2,.ptr 2 0 0 0),(5,.int .i64 x)],aB::aB::IK r.length (r.length+1) (an (a::r)) (0,.loop (dN s (cI k P false)))::H) :=
    Ep (IV n s k P _ H x) (aO n) (ag _ _) (ah _ _) (Tr.aw rfl)
   have e1:=nm (a::r) x
   simp only[List.length_cons] at e1
   have e3:af (r.length+1) 1=r.length+1+1:=by rw[aQ]
   obtain ⟨y,h2,h3⟩:=Eo (Q:=fun y=>y=(.normal,[],⟨false,[(0,.row (.I .i64 [x]))]⟩::aB::IK (r.length+1) (r.length+1+1) (an (a::r++[x])) (0,.loop { dN s (cI k P false) with state:=.busy })::H)) (Mp n r.length (r.length+1) (an (a::r)) { dN s (cI k P false) with state:=.busy } H x) (aO n) (ag _ _) (ah _ _) (by
    rw[e1,e3]
    generalize dN s (cI k P false)=L at *
    generalize an (a::r++[x])=Y at *
    exact wF)
   subst h3
   have e4:(r++[x]).length=r.length+1:=by simp
   refine zO (l:=dN s (cI k P false)) (l2:={ dN s (cI k P false) with state:=.busy }) rfl rfl rfl rfl h1 h2 rfl ?_
   show aB::IK (r++[x]).length ((r++[x]).length+1) (an (a::(r++[x]))) _::H=_
   rw[e4];rfl
def qI (P:Nat→Int) (k:Nat):List Int:=(List.range k).map P
theorem Co (P:Nat→Int) (k:Nat):qI P (k+1)=qI P k++[P k]:=by unfold qI;rw[List.range_succ,List.map_append];rfl
theorem lK (P:Nat→Int) (k:Nat):(qI P k).length=k:=by simp[qI]
theorem NK (n s k:Nat) (P:Nat→Int) (H:aa) (hk:k≤1000):cd (n+3) (.fn 110) [.nils,Ai s (if k=0 then .nils else cI k P false)] H=some (dA (qI P k),H):=by
 cases k with
 | zero =>
   rw[if_pos rfl]
   have hx:exec (bz (n+2) 110 13) (.rangeFunc (.tmp 6) #[7] qq wU) (mB s .nils) (⟨false,[(0,.row (.G [.nils]))]⟩::H)=some (.normal,mB s .nils,KH (0,.dead)::H) :=
    zG (cx:=bz (n+2) 110 13) (l:=dN s .nils) (f:=.tmp 6) (ps:=#[7]) (fr:=mB s .nils) (H:=⟨false,[(0,.row (.G [.nils]))]⟩::H) (g:=112) (a:=[]) (b:=[.ptrT (some (s+1)) (.G [.nils]) 0]) rfl rfl rfl (KV (n+1) (s+1) _) rfl rfl rfl
   refine ba (n:=n+2) Tryz.func110 rfl rfl rfl (MV (n+2) s H) (aO _) (ag _ _) (FH (ah _ _) (fun f ps a b _ hm x hx2=>by
    rw[L9] at hm
    simp only[List.mem_cons,Prod.mk.injEq,List.not_mem_nil,or_false] at hm
    obtain ⟨rfl,rfl,rfl,rfl⟩:=hm
    rw[← Tr.ab hx2];simp only[gY.st,aY];exact hx)) ?_
   exact wF
 | succ k =>
   rw[if_neg (by omega)]
   have hx:exec (bz (n+2) 110 13) (.rangeFunc (.tmp 6) #[7] qq wU) (mB s (cI (k+1) P false)) (⟨false,[(0,.row (.G [.nils]))]⟩::H)=some (.normal,mB s (cI (k+1) P false),cC (LL (0,.loop (dN s (cI (k+1) P false))) (qI P (k+1))::H) 0 1) :=
    zG (cx:=bz (n+2) 110 13) (l:=dN s (cI (k+1) P false)) (f:=.tmp 6) (ps:=#[7]) (fr:=mB s (cI (k+1) P false)) (H:=⟨false,[(0,.row (.G [.nils]))]⟩::H) (g:=112) (a:=[]) (b:=[.ptrT (some (s+1)) (.G [cI (k+1) P false]) 0]) rfl rfl rfl
     (NL (n+1) (s+1) (k+1) P (fun j=>LL (0,.loop (dN s (cI (k+1) P false))) (qI P j)::H) hk (fun j hj=>by
       show _=some (_,aB::LL _ (qI P (j+1))::H)
       rw[Co]
       exact Ma n s (k+1) P (qI P j) H (P j) (by rw[lK];omega))) (by
       cases e:qI P (k+1) with
       | nil=>have:=lK P (k+1);rw[e] at this;cases this
       | cons a r=>rfl) rfl rfl
   have hl:=lK P (k+1)
   cases e:qI P (k+1) with
   | nil=>rw[e] at hl;cases hl
   | cons a r =>
     rw[e] at hx
     refine ba (n:=n+2) Tryz.func110 rfl rfl rfl (P9 (n+2) s r.length (k+1) (r.length+1) P (an (a::r)) H) (aO _) (ag _ _) (FH (ah _ _) (fun f ps a b _ hm x hx2=>by
      rw[L9] at hm
      simp only[List.mem_cons,Prod.mk.injEq,List.not_mem_nil,or_false] at hm
      obtain ⟨rfl,rfl,rfl,rfl⟩:=hm
      rw[← Tr.ab hx2];simp only[gY.st,aY];exact hx)) ?_
     rw[df]
     exact wF
theorem Rs (n s k:Nat) (P:Nat→Int) (H:aa) (hk:k≤1000):cd (n+4) (.fn 92) [Ai s (if k=0 then .nils else cI k P false)] H=some (dA (qI P k),H):=by
 have h:=fun q H=>NK (n+q) (s+1) k P H hk
 cases k with
 | zero =>
   rw[if_pos rfl] at h ⊢
   refine ba (n:=n+3) Tryz.func92 rfl rfl rfl (Qz (n+3) s H) (cS _ (n+3) 0 (fun q=>dP (aT _) (fun H=>by rw[show n+3+q=n+q+3 by omega];exact h q H))) (ag _ _) (ah _ _) ?_
   exact wF
 | succ k =>
   rw[if_neg (by omega)] at h ⊢
   have hl:=lK P (k+1)
   cases e:qI P (k+1) with
   | nil=>rw[e] at hl;cases hl
   | cons a r =>
     rw[e] at h
     refine ba (n:=n+3) Tryz.func92 rfl rfl rfl (TI (n+3) s (k+1) (r.length+1) P (an (a::r)) H) (cS _ (n+3) 0 (fun q=>dP (aT _) (fun H=>by rw[show n+3+q=n+q+3 by omega];exact h q H))) (ag _ _) (ah _ _) ?_
     exact wF
end Go.Eng
end
section
namespace Go.Eng
open Go.Proofs
noncomputable def dM (h:List Int→Bool) (g:List Int→Int) (c:Nat) (h2:List Int→Bool) (g2:List Int→Int) (c2:Nat) (bs:List (Nat×ak)):bn:=⟨false,(0,.fmap (.str 2) h g c)::(0,.fmap (.str 2) h2 g2 c2)::bs⟩
noncomputable def sZ (s l m:Nat) (y P:Nat→Int) (K j:Int):av:=[(0,iJ (s+1) l y),(1,.int .i64 K),(6,cI m P false),(7,.map 0 0),(8,.map 0 1),(32,.int .i64 (Int.ofNat m)),(33,.int .i64 j)]
noncomputable def pf (s l m:Nat) (y P:Nat→Int) (K j f:Int):av:=[(0,iJ (s+1) l y),(1,.int .i64 K),(6,cI m P false),(7,.map 0 0),(8,.map 0 1),(9,.int .i64 j),(10,.int .i64 f),(32,.int .i64 (Int.ofNat m)),(33,.int .i64 j)]
noncomputable def pg (s l m:Nat) (y P:Nat→Int) (K j f n:Int):av:=[(0,iJ (s+1) l y),(1,.int .i64 K),(6,cI m P false),(7,.map 0 0),(8,.map 0 1),(9,.int .i64 j),(10,.int .i64 f),(32,.int .i64 (Int.ofNat m)),(33,.int .i64 j),(41,.int .i64 K),(42,.int .i64 n)]
noncomputable def N7 (Q:Int→Int→Prop) (B A:AV) (a:Int→Int→Int):List AV→Option (Prop×AV)
 | [B',A',.int .i64 f,.int .i64 p]=>some ([B',A']=[B,A]∧Q f p,.int .i64 (a f p))
 | _=>none
theorem LS (n s l:Nat) (y:Nat→Int) (K:Int) (H:aa):aX (bz n 79 156) (il aU n 0) aZ a6 (part Tryz.f79 [0]) (hints [(0,iJ (s+1) l y),(1,.int .i64 K)]) (aB::H) =
 Tr.ok (Ex.normal,[(0,AV.ptrT (some (Nat.succ s)) (Row.G [aJ 7 l y]) 0,none),(1,AV.int .i64 K,none)],aB::H):=by kernel_rfl
theorem P5 (n s l m:Nat) (y P:Nat→Int) (K j:Int) (h:List Int→Bool) (g:List Int→Int) (c:Nat) (h2:List Int→Bool) (g2:List Int→Int) (c2:Nat) (h':List Int→Bool) (g':List Int→Int) (c':Nat) (h2':List Int→Bool) (g2':List Int→Int) (c2':Nat) (H:aa):aX (bz n 79 156) (il aU n 0) (gf aZ 2 (pf s l m y P K j (-1)) (dM h g c h2 g2 c2 []::H) (.ok (.normal,hints (pf s l m y P K j j++[(38,.bool false)]),dM h' g' c' h2' g2' c2' []::H))) a6 (part Tryz.f79 [1,1,1,1,0,1,0,0]) (hints (sZ s l m y P K j)) (dM h g c h2 g2 c2 []::H) =
 (fun (Z0:av)=>((fun (Z1:bn)=>Tr.ite (dq j (Int.ofNat m)) (Tr.reqP (Z0=Z0∧Z1::H=Z1::H) (Tr.ok (Ex.normal,[(0,AV.ptrT (some (Nat.succ s)) (Row.G [aJ 7 l y]) 0,none),(1,AV.int .i64 K,none),(6,AV.slcT none (Row.M [aW.arr .i64 P m]) 1 m false,none),(7,AV.map 0 0,none),(8,AV.map 0 1,none),(32,AV.int .i64 (Int.ofNat m),none),(33,AV.int .i64 (a8 .i64 j (Int.ofNat 1)),none)],{ lock:=false,bs:=[(0,ak.fmap (KK.str 2) h' g' c'),(0,ak.fmap (KK.str 2) h2' g2' c2')] } :: H))) (Tr.ok (Ex.exit 0,[(0,AV.ptrT (some (Nat.succ s)) (Row.G [aJ 7 l y]) 0,none),(1,AV.int .i64 K,none),(6,AV.slcT none (Row.M [aW.arr .i64 P m]) 1 m false,none),(7,AV.map 0 0,none),(8,AV.map 0 1,none),(32,AV.int .i64 (Int.ofNat m),none),(33,AV.int .i64 j,none),(34,AV.bool false,some 1)],Z1::H))) { lock:=false,bs:=[(0,ak.fmap (KK.str 2) h g c),(0,ak.fmap (KK.str 2) h2 g2 c2)] })) [(0,AV.ptrT (some (Nat.succ s)) (Row.G [aJ 7 l y]) 0),(1,AV.int .i64 K),(6,AV.slcT none (Row.M [aW.arr .i64 P m]) 1 m false),(7,AV.map 0 0),(8,AV.map 0 1),(9,AV.int .i64 j),(10,AV.int .i64 (Int.negSucc 0)),(32,AV.int .i64 (Int.ofNat m)),(33,AV.int .i64 j)]:=by kernel_rfl
theorem P6 (n s l m:Nat) (y P:Nat→Int) (K j f:Int) (h:List Int→Bool) (g:List Int→Int) (c:Nat) (h2:List Int→Bool) (g2:List Int→Int) (c2:Nat) (h':List Int→Bool) (g':List Int→Int) (c':Nat) (h2':List Int→Bool) (g2':List Int→Int) (c2':Nat) (H:aa):aX (bz n 79 156) (il aU n 0) (gf aZ 4 (pg s l m y P K j f (Int.ofNat 0)) (dM h g c h2 g2 c2 []::H) (.ok (.normal,hints (pg s l m y P K j f K++[(43,.bool false)]),dM h' g' c' h2' g2' c2' []::H))) a6 (part Tryz.f79 [1,1,1,1,0,1,0,0,1,1,0,0,1,1,0,0]) (hints (pf s l m y P K j f)) (dM h g c h2 g2 c2 []::H) =
 (fun (Z0:av)=>((fun (Z1:bn)=>Tr.ite (dq f j) (Tr.reqP (Z0=Z0∧Z1::H=Z1::H) (Tr.ok (Ex.normal,[(0,AV.ptrT (some (Nat.succ s)) (Row.G [aJ 7 l y]) 0,none),(1,AV.int .i64 K,none),(6,AV.slcT none (Row.M [aW.arr .i64 P m]) 1 m false,none),(7,AV.map 0 0,none),(8,AV.map 0 1,none),(9,AV.int .i64 j,none),(10,AV.int .i64 (a8 .i64 f (Int.ofNat 1)),none),(32,AV.int .i64 (Int.ofNat m),none),(33,AV.int .i64 j,none)],{ lock:=false,bs:=[(0,ak.fmap (KK.str 2) h' g' c'),(0,ak.fmap (KK.str 2) h2' g2' c2')] } :: H))) (Tr.ok (Ex.exit 2,[(0,AV.ptrT (some (Nat.succ s)) (Row.G [aJ 7 l y]) 0,none),(1,AV.int .i64 K,none),(6,AV.slcT none (Row.M [aW.arr .i64 P m]) 1 m false,none),(7,AV.map 0 0,none),(8,AV.map 0 1,none),(9,AV.int .i64 j,none),(10,AV.int .i64 f,none),(32,AV.int .i64 (Int.ofNat m),none),(33,AV.int .i64 j,none),(38,AV.bool false,some 1)],Z1::H))) { lock:=false,bs:=[(0,ak.fmap (KK.str 2) h g c),(0,ak.fmap (KK.str 2) h2 g2 c2)] })) [(0,AV.ptrT (some (Nat.succ s)) (Row.G [aJ 7 l y]) 0),(1,AV.int .i64 K),(6,AV.slcT none (Row.M [aW.arr .i64 P m]) 1 m false),(7,AV.map 0 0),(8,AV.map 0 1),(9,AV.int .i64 j),(10,AV.int .i64 f),(32,AV.int .i64 (Int.ofNat m)),(33,AV.int .i64 j),(41,AV.int .i64 K),(42,AV.int .i64 (Int.ofNat 0))]:=by kernel_rfl
theorem My (n s l m:Nat) (y P:Nat→Int) (a:Int→Int→Int) (Q:Int→Int→Prop) (K j f x:Int) (h:List Int→Bool) (g:List Int→Int) (c:Nat) (h2:List Int→Bool) (g2:List Int→Int) (c2:Nat) (H:aa):aX (bz n 79 156) (il (lg aU 93 (N7 Q (iJ (s+1) l y) (cI m P false) a)) n 0) aZ a6 (part Tryz.f79 [1,1,1,1,0,1,0,0,1,1,0,0,1,1,0,0,1,0,0,1,0,0]) (hints (pg s l m y P K j f x)) (dM h g c h2 g2 c2 []::H) =
 (fun (Z0:aM)=>((fun (Z1:bn)=>((fun (Z2:List AV)=>((fun (Z3:bn)=>Tr.ite (dq x K) (Tr.ite (b8 (h [f,x])) (Tr.ok (Ex.normal,Z0,Z3::H)) (Tr.reqP (Z2=Z2∧Q f j) (Tr.ite (b8 (h [j,a8 .i64 x (Int.ofNat 1)])) (Tr.req (fa (dG 0 0) (dG 0 1)) (Tr.req (fa (dG 0 0) (dG 0 1)) (Tr.ok (Ex.normal,Z0,Z1::H)))) (Tr.ite (dq (g [j,a8 .i64 x (Int.ofNat 1)]) (a8 .i64 (g [f,x]) (a f j))) (Tr.req (fa (dG 0 0) (dG 0 1)) (Tr.req (fa (dG 0 0) (dG 0 1)) (Tr.ok (Ex.normal,Z0,Z1::H)))) (Tr.ok (Ex.normal,Z0,{ lock:=false,bs:=[(0,ak.fmap (KK.str 2) h g c),(0,ak.fmap (KK.str 2) h2 g2 c2),(0,ak.row (Row.I .i64 [j,a8 .i64 x (Int.ofNat 1)]))] } :: H)))))) (Tr.ok (Ex.exit 4,[(0,AV.ptrT (some (Nat.succ s)) (Row.G [aJ 7 l y]) 0,none),(1,AV.int .i64 K,none),(6,AV.slcT none (Row.M [aW.arr .i64 P m]) 1 m false,none),(7,AV.map 0 0,none),(8,AV.map 0 1,none),(9,AV.int .i64 j,none),(10,AV.int .i64 f,none),(32,AV.int .i64 (Int.ofNat m),none),(33,AV.int .i64 j,none),(41,AV.int .i64 K,none),(42,AV.int .i64 x,none),(43,AV.bool false,some 1)],Z3::H))) { lock:=false,bs:=[(0,ak.fmap (KK.str 2) h g c),(0,ak.fmap (KK.str 2) h2 g2 c2)] })) [AV.ptrT (some (Nat.succ s)) (Row.G [aJ 7 l y]) 0,AV.slcT none (Row.M [aW.arr .i64 P m]) 1 m false])) { lock:=false,bs:=[(0,ak.fmap (KK.str 2) (m7 h [j,a8 .i64 x (Int.ofNat 1)] true) (nQ g [j,a8 .i64 x (Int.ofNat 1)] (a8 .i64 (g [f,x]) (a f j))) (qR (h [j,a8 .i64 x (Int.ofNat 1)]) c)),(0,ak.fmap (KK.str 2) (m7 (m7 h2 [j,a8 .i64 x (Int.ofNat 1)] false) [j,a8 .i64 x (Int.ofNat 1)] true) (nQ (nQ g2 [j,a8 .i64 x (Int.ofNat 1)] (Int.ofNat 0)) [j,a8 .i64 x (Int.ofNat 1)] f) (qR (m7 h2 [j,a8 .i64 x (Int.ofNat 1)] false [j,a8 .i64 x (Int.ofNat 1)]) (BC (h2 [j,a8 .i64 x (Int.ofNat 1)]) c2))),(0,ak.row (Row.I .i64 [j,a8 .i64 x (Int.ofNat 1)]))] })) [(0,AV.ptrT (some (Nat.succ s)) (Row.G [aJ 7 l y]) 0,none),(1,AV.int .i64 K,none),(6,AV.slcT none (Row.M [aW.arr .i64 P m]) 1 m false,none),(7,AV.map 0 0,none),(8,AV.map 0 1,none),(9,AV.int .i64 j,none),(10,AV.int .i64 f,none),(32,AV.int .i64 (Int.ofNat m),none),(33,AV.int .i64 j,none),(41,AV.int .i64 K,none),(42,AV.int .i64 (a8 .i64 x (Int.ofNat 1)),none)]:=by kernel_rfl
theorem NG:∀ b,(4,b) ∈ bo (part Tryz.f79 [1,1,1,1,0,1,0,0,1,1,0,0,1,1,0,0])→b=.loop (part Tryz.f79 [1,1,1,1,0,1,0,0,1,1,0,0,1,1,0,0,1,0,0,1,0,0]):=kX (by kernel_rfl)
theorem NF:∀ b,(2,b) ∈ bo (part Tryz.f79 [1,1,1,1,0,1,0,0])→b=.loop (part Tryz.f79 [1,1,1,1,0,1,0,0,1,1,0,0,1,1,0,0]):=kX (by kernel_rfl)
theorem NH:∀ b,(0,b) ∈ bo (part Tryz.f79 [1,1,1,1,0])→b=.loop (part Tryz.f79 [1,1,1,1,0,1,0,0]):=kX (by kernel_rfl)
noncomputable def kf (s:MS) (bs:List (Nat×ak)):bn:=dM s.h s.g s.c s.h2 s.g2 s.c2 bs
def Nt (m:Nat) (f p:Int):Prop:=(-1≤f∧f<m)∧0≤p∧p<m
theorem EH {n s l m:Nat} {z P:Nat→Int} {t:mb} (h:bp l z=0) (hm:m≤1000) (ht:t.Ok (cd (n+3))):(lg t 93 (N7 (Nt m) (iJ s l (oY z l)) (cI m P false) (eM l z P))).Ok (cd (n+3)):=by
 refine fI ht (fun args p v hg hp H=>?_)
 unfold N7 at hg
 split at hg
 · simp only[nP] at hg
   obtain ⟨rfl,rfl⟩:=hg
   obtain ⟨e,h1,h2⟩:=hp
   simp only[List.cons.injEq,and_true] at e
   obtain ⟨rfl,rfl⟩:=e
   exact Rt n s l m z P H _ _ h hm h1 h2
 · cases hg
section
variable (n s l m:Nat) (z P:Nat→Int) (H:aa)
theorem Bo (h:bp l z=0) (f p:Int):0≤eM l z P f p∧eM l z P f p≤1400000:=by
 obtain ⟨hl,hz⟩:=bM h
 have hw:∀ i,i<l→0≤gI z i∧gI z i≤100000:=fun i hi=>by
  have:=hz i hi
  unfold gI;omega
 obtain ⟨h1,h2⟩:=DV (N:=l) (lo:=cQ z) (hi:=bU z) (P:=P) (fun i hi=>(hw i hi).1) f p
 have h3:∀ j,j≤l→rF (gI z) j≤(j:Int)*100000:=by
  intro j
  induction j with
  | zero=>intro _;show (0:Int)≤_;omega
  | succ j ih =>
    intro hj
    have:=ih (by omega)
    have:=hw j (by omega)
    show rF (gI z) j+gI z j≤_
    omega
 have:=h3 l (Nat.le_refl _)
 unfold eM
 omega
theorem O8 (K:Nat) (j f:Int) (S:MS) (h:bp l z=0) (hK:K≤15) (hm:m≤14) (hf:-1≤f∧f<j) (hj:0≤j∧j<m) (hB:Gk 1400000 S):exec (bz (n+3) 79 156) (.block 4 (.loop (part Tryz.f79 [1,1,1,1,0,1,0,0,1,1,0,0,1,1,0,0,1,0,0,1,0,0]))) (pg s l m (oY z l) P K j f (Int.ofNat 0)) (kf S []::H)=some (.normal,pg s l m (oY z l) P K j f K++[(43,.bool false)],kf (g8 (eM l z P) j f K S) []::H):=by
 refine nD 4 (fun i=>pg s l m (oY z l) P K j f (i:Nat)) (fun i=>kf (g8 (eM l z P) j f i S) []::H) K (pg s l m (oY z l) P K j f K++[(43,.bool false)],kf (g8 (eM l z P) j f K S) []::H) (by omega) (fun i hi=>?_) ?_
 · have hB2:=Jg (a:=eM l z P) (W:=1400000) (fun f p=>Bo l z P h f p) (p:=j) (f:=f) hB i
   have e1:a8 .i64 (i:Int) (Int.ofNat 1)=((i+1:Nat):Int):=wx (by omega)
   have hst:g8 (eM l z P) j f (i+1) S=m9 (eM l z P) j f i (g8 (eM l z P) j f i S):=rfl
   have ha:=Bo l z P h f j
   have hQ:Nt m f j:=⟨⟨hf.1,by omega⟩,hj⟩
   generalize g8 (eM l z P) j f (i+1) S=S2 at *
   generalize g8 (eM l z P) j f i S=S1 at *
   refine aG (My (n+3) s l m (oY z l) P (eM l z P) (Nt m) K j f (i:Nat) S1.h S1.g S1.c S1.h2 S1.g2 S1.c2 H) (cS _ (n+3) 0 (fun q=>?_)) (ag _ _) (ah _ _) ?_
   · rw[show n+3+q=n+q+3 by omega]
     exact EH h (by omega) (aT _)
   · rw[e1]
     have hjj:((i+1:Nat):Int)=(i:Int)+1:=rfl
     rw[hjj]
     show Tr.all _ (fun x=>_∧tidy _ _ _=(pg s l m (oY z l) P K j f ((i:Int)+1),kf S2 []::H))
     cases c1:S1.h [f,(i:Int)] with
     | false =>
       have e2:S2=S1:=by rw[hst];unfold m9;rw[if_neg (by rw[c1];decide)]
       subst e2
       exact wF
     | true =>
       obtain ⟨b1,b2,b3⟩:=hB2 f i c1
       have ea:a8 .i64 (S1.g [f,(i:Int)]) (eM l z P f j)=S1.g [f,(i:Int)]+eM l z P f j:=by rw[bV];exact cK (by omega) (by omega)
       rw[ea]
       cases c2:IU (eM l z P) j f i S1 with
       | false =>
         have e2:S2=S1:=by rw[hst];unfold m9;rw[if_pos c1,if_neg (by rw[c2];decide)]
         subst e2
         unfold IU at c2
         rw[Bool.or_eq_false_iff,Bool.not_eq_false',decide_eq_false_iff_not] at c2
         obtain ⟨c3,c4⟩:=c2
         rw[c3]
         generalize eM l z P f j=A at *
         exact wF
       | true =>
         have e2:S2=⟨dE S1.h [j,(i:Int)+1] true,fB S1.g [j,(i:Int)+1] (S1.g [f,(i:Int)]+eM l z P f j),oV (S1.h [j,(i:Int)+1]) S1.c,dE (dE S1.h2 [j,(i:Int)+1] false) [j,(i:Int)+1] true,fB (fB S1.g2 [j,(i:Int)+1] 0) [j,(i:Int)+1] f,oV (dE S1.h2 [j,(i:Int)+1] false [j,(i:Int)+1]) (xY (S1.h2 [j,(i:Int)+1]) S1.c2)⟩:=by
          rw[hst];unfold m9;rw[if_pos c1,if_pos c2]
         subst e2
         unfold IU at c2
         rw[Bool.or_eq_true,Bool.not_eq_true',decide_eq_true_eq] at c2
         simp only[pK,pL,sH,xZ]
         generalize eM l z P f j=A at *
         cases c3:S1.h [j,(i:Int)+1] with
         | false =>
           exact wF
         | true =>
           have c4:=c2.resolve_left (by rw[c3];decide)
           exact wF
 · obtain ⟨x,h1,rfl⟩:=aG (Q:=fun x=>x=(.exit 4,pg s l m (oY z l) P K j f K++[(43,.bool false)],kf (g8 (eM l z P) j f K S) []::H)) (My (n+3) s l m (oY z l) P (eM l z P) (Nt m) K j f K (g8 (eM l z P) j f K S).h (g8 (eM l z P) j f K S).g (g8 (eM l z P) j f K S).c (g8 (eM l z P) j f K S).h2 (g8 (eM l z P) j f K S).g2 (g8 (eM l z P) j f K S).c2 H) (cS _ (n+3) 0 (fun q=>by rw[show n+3+q=n+q+3 by omega];exact EH h (by omega) (aT _))) (ag _ _) (ah _ _) (by
    refine Tr.al (fun hc=>?_) (fun hc=>Tr.aw rfl)
    simp (disch:=omega) only[nV,nW] at hc;omega)
   exact h1
end
end Go.Eng
end
