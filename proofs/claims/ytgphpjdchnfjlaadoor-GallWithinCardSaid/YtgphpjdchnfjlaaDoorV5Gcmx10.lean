/- Gall: the places of a colour: the walk. -/
import Derived.Test.YtgphpjdchnfjlaaDoorV5Gp15x7
import Derived.Test.YtgphpjdchnfjlaaDoorV5Gp14x7
set_option linter.unusedVariables false
set_option linter.unusedSimpArgs false
set_option maxRecDepth 100000
section
namespace Go.Eng
open Go.Proofs Go.Eng.Gall
theorem Oh:∀ b,(0,b) ∈ aI (aW Tryd.f90)→b=.loop (part Tryd.f90 [1,0,0]):=dJ (by kernel_rfl)
noncomputable def ri:Code:=part Tryd.f30 [1,1,1,1,0,1,0,0]
noncomputable def yX:Code:=part Tryd.f30 [1,1,1,1,0,1,0,1]
theorem Ye:dH (aW Tryd.f30)=[(.tmp 25,#[26],ri,yX)]:=by kernel_rfl
noncomputable def c9 (R:Row):gu:={ state:=.ready,pending:=none,fn:=30,nt:=60,fr:=sR R,params:=[26],assign:=ri,body:=yX }
noncomputable def KG (r0 R:Row) (c:Int) (K:Nat×al):List Nat→bC
 | []=>BL r0 R c K
 | p::r=>Fw r0 R c K r.length (r.length+1) (az (gZ (p::r)))
section
variable (n:Nat) (O:Int) (U:Nat) (Z:Nat→Int) (V:Nat) (J:Nat→Int) (W:Nat→Int) (g:Nat→Nat) (H:aa) (r0:Row)
theorem Ol (B:Nat→Int) (c k:Nat) (G:aa) (bs:List (Nat×al)) (hc:c<10):cd (n+1) (.fn 71) [.ptr 0 0 0 0,.int .i64 (c:Int),.int .i64 (k:Int)] (⟨false,(0,.row (shR O U Z V J W B))::bs⟩::G)=some (.bool (oT W (c:Int) (k:Int)),⟨false,(0,.row (shR O U Z V J W B))::bs⟩::G):=by
 have T:=Uh n O U Z V J W B (c:Int) (k:Int) G bs;have e2:bQ (aq 3 (c:Int) 2) 3=2*c:=by rw[bo,cw];omega
 have e3:bQ (au (aq 3 (c:Int) 2) 1) 3=2*c+1:=by rw[bo,aH,cw];omega
 have ej:aq 3 (c:Int) 2=3+c*2:=by rw[bo];omega
 rw[e2,e3,ej] at T;refine bp (n:=n) Tryd.func71 rfl rfl rfl T (aw _) (ah _ _) (aj _ _) ?_;rw[KV];refine Tr.ab wG (Tr.ab wG (Tr.ab wG (Tr.ab wG (Tr.ae (fun q=>Tr.ag ⟨?_,rfl⟩) (fun q=>Tr.ag ⟨?_,rfl⟩)))))
 · rw[q];rfl
 · rw[q];rfl
noncomputable def DB (c k:Nat):List Nat:=(List.range k).filter fun j=>ES U g W c j
theorem DD (c k:Nat):DB U W g c (k+1)=if ES U g W c k=true then DB U W g c k++[k] else DB U W g c k:=by
 unfold DB;rw[List.range_succ,List.filter_append];by_cases h:ES U g W c k=true
 · rw[if_pos h,List.filter_cons_of_pos (by simpa using h)];rfl
 · rw[if_neg h,List.filter_cons_of_neg (by simpa using h)];simp
theorem DC (c k:Nat):(DB U W g c k).length≤k:=by
 unfold DB;have:=List.length_filter_le (fun j=>ES U g W c j) (List.range k);rwa [List.length_range] at this
theorem PK (hS:eN U W g) (c k:Nat) (hc:c<U) (hk:k<U) (hw:¬ (W (2*c)=(k:Int)∧W (2*c+1)=(k:Int))) :
 cd (n+5) (.round 1 7) [.int .i64 (k:Int)] (ao::KG r0 (shR O U Z V J W (bI g)) c (0,.loop (c9 (shR O U Z V J W (bI g)))) (DB U W g c k)::H)=some (.bool true,ao::KG r0 (shR O U Z V J W (bI g)) c (0,.loop (c9 (shR O U Z V J W (bI g)))) (DB U W g c (k+1))::H):=by
 have hlc:=hS.len
 have h71:=fun (L:bC)=>Ol (n+3) O U Z V J W (bI g) c k (ao::L::H) [] wO
 have h65:=fun (L:bC)=>DM n O U Z V J (u0 W c k) g (⟨false,[(0,.row (shR O U Z V J (u0 W c k) (bI g))),(0,.row (.I .i64 [(k:Int),(k:Int)]))]⟩::ao::L::H) 0 rfl (Gf hS hc hk)
 have e2:bQ (aq 3 (c:Int) 2) 3=2*c:=by rw[bo,cw];omega
 have e3:bQ (au (aq 3 (c:Int) 2) 1) 3=2*c+1:=by rw[bo,aH,cw];omega
 have ej:aq 3 (c:Int) 2=3+c*2:=by rw[bo];omega
 have ew:bT (cq (W (2*c)) (k:Int)) (cq (W (2*c+1)) (k:Int))=false:=by
  rw[ct,aQ,aQ,Bool.and_eq_false_iff];by_cases q:W (2*c)=(k:Int)
  · right;exact beq_false_of_ne fun h=>hw ⟨q,h⟩
  · left;exact beq_false_of_ne q
 have hpb:ES U g W c k=(oT W (c:Int) (k:Int) && vt U g (u0 W c k)):=rfl
 rw[DD,hpb]
 have hlen:=DC U W g c k
 generalize DB U W g c k=P at *
 generalize oT W (c:Int) (k:Int)=s at *
 generalize vt U g (u0 W c k)=q at *
 have e1:=lu (gZ P) (k:Int)
 cases P with
 | nil =>
   obtain ⟨f,t,h65⟩:=h65 (BL r0 (shR O U Z V J W (bI g)) c (0,.loop { c9 (shR O U Z V J W (bI g)) with state:=.busy }))
   have h1:exec (gw (n+4) 30 60 2 7) ri [(3,.ptr 2 1 0 0),(4,.ptr 2 2 0 0),(5,.ptr 2 3 0 0),(6,.ptr 2 5 0 0),(8,.ptr 2 6 0 0),(25,Cn 2 (shR O U Z V J W (bI g))),(26,.int .i64 (k:Int))] (ao::ao::BL r0 (shR O U Z V J W (bI g)) c (0,.loop (c9 (shR O U Z V J W (bI g))))::H)=some (.normal,Gi k,ao::ao::BL r0 (shR O U Z V J W (bI g)) c (0,.loop (c9 (shR O U Z V J W (bI g))))::H) :=
    fW (NB (n+4) _ _ H (k:Int)) (aw _) (ah _ _) (aj _ _) (Tr.ag rfl)
   have T:=PY (n+4) O U Z V J W (bI g) H r0 (k:Int) (c:Int) (0,.loop { c9 (shR O U Z V J W (bI g)) with state:=.busy }) s (!q) f t
   rw[e2,e3,Bq,ew,ej] at T
   obtain ⟨y,h2,h3⟩:=j0 (Q:=fun y=>y.1=.normal∧∃ lv,y.2.2=lv::ao::KG r0 (shR O U Z V J W (bI g)) c (0,.loop { c9 (shR O U Z V J W (bI g)) with state:=.busy }) (if (s && q)=true then []++[k] else [])::H) T (bw _ _ (bN (bN (aR _) (fun x hy=>by rw[← Tr.af hy];exact h71 _)) (fun x hy=>by rw[← Tr.af hy];exact h65))) (ah _ _) (aj _ _) (by
    clear T h1 h71 h65;generalize c9 (shR O U Z V J W (bI g))=L at *;refine Tr.ak ⟨rfl,rfl⟩ ?_;cases s with
    | false=>exact Tr.ae (fun _=>Tr.ag ⟨rfl,_,rfl⟩) (fun h=>by simp[av] at h)
    | true =>
      refine Tr.ae (fun h=>by simp[av] at h) (fun _=>?_);refine Tr.ab wG (Tr.ab wG (Tr.ab wG (Tr.ab wG (Tr.ae (fun h=>by cases h) (fun _=>Tr.ab wG (Tr.ab wG (Tr.ab wG (Tr.ab wG (Tr.ak ⟨rfl,rfl⟩ ?_)))))))));cases q with
      | true =>
        refine Tr.ae (fun _=>?_) (fun h=>by simp[av] at h);exact Tr.ab wG (Tr.ab wG (Tr.ab wG (Tr.ag ⟨rfl,_,rfl⟩)))
      | false=>exact Tr.ae (fun h=>by simp[av] at h) (fun _=>Tr.ag ⟨rfl,_,rfl⟩))
   obtain ⟨ey,fy,hy⟩:=y
   obtain ⟨h3,lv,h4⟩:=h3
   dsimp only at h3 h4
   subst h3 h4
   refine pP (l:=c9 (shR O U Z V J W (bI g))) (l2:={ c9 (shR O U Z V J W (bI g)) with state:=.busy }) rfl rfl rfl rfl h1 h2 ?_ ?_
   · split<;>rfl
   · split<;>rfl
 | cons x r =>
   have e5:au (r.length+1) 1=r.length+1+1:=by rw[aH]
   have e4:(r++[k]).length=r.length+1:=by simp
   have e1':qb (qO (az (gZ (x::r))) 0) (r.length+1) (az [(k:Int)])=az (gZ (x::r++[k])):=by
    have:(gZ (x::r)).length=r.length+1:=by simp[gZ]
    rw[this] at e1;rw[e1];simp[gZ]
   have eL:∀ K,KG r0 (shR O U Z V J W (bI g)) c K (x::r++[k])=Fw r0 (shR O U Z V J W (bI g)) c K (r.length+1) (r.length+1+1) (az (gZ (x::r++[k]))):=fun K=>by
    show Fw _ _ _ _ (r++[k]).length ((r++[k]).length+1) (az (gZ (x::(r++[k]))))=_;rw[e4];rfl
   simp only[List.length_cons] at hlen
   obtain ⟨f,t,h65⟩:=h65 (Fw r0 (shR O U Z V J W (bI g)) c (0,.loop { c9 (shR O U Z V J W (bI g)) with state:=.busy }) r.length (r.length+1) (az (gZ (x::r))))
   have h1:exec (gw (n+4) 30 60 2 7) ri [(3,.ptr 2 1 0 0),(4,.ptr 2 2 0 0),(5,.ptr 2 3 0 0),(6,.ptr 2 5 0 0),(8,.ptr 2 6 0 0),(25,Cn 2 (shR O U Z V J W (bI g))),(26,.int .i64 (k:Int))] (ao::ao::Fw r0 (shR O U Z V J W (bI g)) c (0,.loop (c9 (shR O U Z V J W (bI g)))) r.length (r.length+1) (az (gZ (x::r)))::H)=some (.normal,Gi k,ao::ao::Fw r0 (shR O U Z V J W (bI g)) c (0,.loop (c9 (shR O U Z V J W (bI g)))) r.length (r.length+1) (az (gZ (x::r)))::H) :=
    fW (NB (n+4) _ _ H (k:Int)) (aw _) (ah _ _) (aj _ _) (Tr.ag rfl)
   have T:=TD (n+4) O U Z V J W (bI g) H r0 (k:Int) (c:Int) (0,.loop { c9 (shR O U Z V J W (bI g)) with state:=.busy }) s (!q) f t r.length (r.length+1) (az (gZ (x::r)))
   rw[e2,e3,Bq,ew,ej,e1',e5] at T
   obtain ⟨y,h2,h3⟩:=j0 (Q:=fun y=>y.1=.normal∧∃ lv,y.2.2=lv::ao::KG r0 (shR O U Z V J W (bI g)) c (0,.loop { c9 (shR O U Z V J W (bI g)) with state:=.busy }) (if (s && q)=true then x::r++[k] else x::r)::H) T (bw _ _ (bN (bN (aR _) (fun x hy=>by rw[← Tr.af hy];exact h71 _)) (fun x hy=>by rw[← Tr.af hy];exact h65))) (ah _ _) (aj _ _) (by
    clear T h1 h71 h65;generalize c9 (shR O U Z V J W (bI g))=L at *;refine Tr.ak ⟨rfl,rfl⟩ ?_;cases s with
    | false=>exact Tr.ae (fun _=>Tr.ag ⟨rfl,_,rfl⟩) (fun h=>by simp[av] at h)
    | true =>
      refine Tr.ae (fun h=>by simp[av] at h) (fun _=>?_);refine Tr.ab wG (Tr.ab wG (Tr.ab wG (Tr.ab wG (Tr.ae (fun h=>by cases h) (fun _=>Tr.ab wG (Tr.ab wG (Tr.ab wG (Tr.ab wG (Tr.ak ⟨rfl,rfl⟩ ?_)))))))));cases q with
      | true =>
        refine Tr.ae (fun _=>?_) (fun h=>by simp[av] at h);refine Tr.ab wG (Tr.ab wG (Tr.ab wG ?_));refine Tr.ab wG (Tr.ab (by simp (disch:=omega) only[nV,nW]<;>omega) (Tr.ag ⟨rfl,?_⟩));show ∃ lv,_=lv::ao::KG r0 (shR O U Z V J W (bI g)) c _ (x::r++[k])::H;rw[eL];exact ⟨_,rfl⟩
      | false=>exact Tr.ae (fun h=>by simp[av] at h) (fun _=>Tr.ag ⟨rfl,_,rfl⟩))
   obtain ⟨ey,fy,hy⟩:=y
   obtain ⟨h3,lv,h4⟩:=h3
   dsimp only at h3 h4
   subst h3 h4
   refine pP (l:=c9 (shR O U Z V J W (bI g))) (l2:={ c9 (shR O U Z V J W (bI g)) with state:=.busy }) rfl rfl rfl rfl h1 h2 ?_ ?_
   · split<;>rfl
   · split<;>rfl
end
end Go.Eng
end
section
namespace Go.Eng
open Go.Proofs Go.Eng.Gall
section
variable (n:Nat) (O:Int) (U:Nat) (Z:Nat→Int) (V:Nat) (J:Nat→Int) (W:Nat→Int) (g:Nat→Nat) (H:aa) (r0:Row)
theorem Rg (B:Nat→Int) (St:Nat→aa) (hk:U≤1000) (hr:∀ j,j<U→cd n (.round 1 7) [.int .i64 (j:Int)] (ao::St j)=some (.bool true,ao::St (j+1))) :
 cd (n+1) (.fn 90) [.yld 0 7,.ptrT (some 0) (.G [shV O U Z V J W B]) 0] (St 0)=some (.tup [],St U):=by
 have hx:=jh (n:=n) (f:=90) (nt:=18) (c:=part Tryd.f90 [1,0,0]) 0 (fun j=>lT U (j:Int)) (fun j=>ao::St j) U (lT U (Int.ofNat U)++[(11,.bool false)],ao::St U) wO (fun j hj=>?_) ?_
 · refine bp (n:=n) Tryd.func90 rfl rfl rfl (Um n O U Z V J W B (St 0) (St U)) (aw _) (aU (ah _ _) Oh (fun x h=>by rw[← Tr.af h];simp only[ev.st,aN];exact hx)) (aj _ _) ?_
   exact Tr.ak ⟨rfl,rfl⟩ (Tr.ag ⟨rfl,rfl⟩)
 · refine aA (NG n U (j:Int) (St j) (St (j+1)) true) (qJ (aw n) (fun x hy=>by rw[← Tr.af hy];exact hr j hj)) (ah _ _) (aj _ _) ?_
   rw[dO wO]
   generalize St (j+1)=G' at *
   generalize St j=G at *
   exact wF
 · obtain ⟨x,h1,rfl⟩:=aA (Q:=fun x=>x=(.exit 0,lT U (Int.ofNat U)++[(11,.bool false)],ao::St U)) (TQ n U (Int.ofNat U) (St U)) (aw n) (ah _ _) (aj _ _) (by
    refine Tr.ae (fun hc=>?_) (fun hc=>Tr.ag rfl);simp (disch:=omega) only[nV,nW] at hc;omega)
   exact h1
theorem Rh (B:Nat→Int) (S S':aa) (K:Nat) (hK:K<U) (hk:U≤1000) (hr:∀ j,j<K→cd n (.round 1 7) [.int .i64 (j:Int)] (ao::S)=some (.bool true,ao::S)) (hx:cd n (.round 1 7) [.int .i64 (K:Int)] (ao::S)=some (.bool false,ao::S')) :
 cd (n+1) (.fn 90) [.yld 0 7,.ptrT (some 0) (.G [shV O U Z V J W B]) 0] S=some (.tup [],S'):=by
 obtain ⟨y,h1,rfl⟩:=Ph (n:=n) (f:=90) (nt:=18) (c:=part Tryd.f90 [1,0,0]) 0 (fun j fr H=>j≤K∧fr=lT U (j:Int)∧H=ao::S) (fun y=>y=(lT U (K:Int)++[(16,.bool true)],ao::S')) U wO (fr0:=lT U (Int.ofNat 0)) (H0:=ao::S) ⟨Nat.zero_le _,rfl,rfl⟩ (fun j fr H hI=>by
  obtain ⟨hj,rfl,rfl⟩:=hI;by_cases e:j=K
  · subst e;refine aA (NG n U (j:Int) S S' false) (qJ (aw n) (fun x hy=>by rw[← Tr.af hy];exact hx)) (ah _ _) (aj _ _) ?_;refine Tr.ae (fun _=>Tr.ak ⟨rfl,rfl⟩ (Tr.ae (fun _=>Tr.ag (.inr ⟨rfl,rfl⟩)) (fun q=>by simp[av] at q))) wJ
  · refine aA (NG n U (j:Int) S S true) (qJ (aw n) (fun x hy=>by rw[← Tr.af hy];exact hr j wO)) (ah _ _) (aj _ _) ?_;rw[dO wO];refine Tr.ae (fun _=>Tr.ak ⟨rfl,rfl⟩ (Tr.ae (fun q=>by simp[av] at q) (fun _=>Tr.ag (.inl ⟨rfl,by omega,by omega,rfl,rfl⟩)))) wJ)
 refine bp (n:=n) Tryd.func90 rfl rfl rfl (Un n O U Z V J W B S S' (K:Int)) (aw _) (aU (ah _ _) Oh (fun x h=>by rw[← Tr.af h];simp only[ev.st,aN];exact h1)) (aj _ _) ?_
 exact Tr.ak ⟨rfl,rfl⟩ (Tr.ag ⟨rfl,rfl⟩)
theorem Hv {n d i:Nat} {args:List AV} {H H2 R:aa} {l l2:gu} {fr fr1 fr2:aD} {lv:bC}
 (hg:aB H d i=(0,.loop l)) (hl:aM H d=false) (hs:l.state=.ready) (hp:ju l.nt (jU (d+1) l.fr) l.params (args.map (mf 1))=some fr)
 (h1:exec (gw n l.fn l.nt (d+1) i) l.assign fr (ao::H)=some (.normal,fr1,ao::H))
 (h2:exec (gw n l.fn l.nt (d+1) i) l.body fr1 (dD (ao::H) (d+1) i (0,.loop { l with state:=.busy }))=some (.ret,fr2,lv::H2)) (hg2:aB H2 d i=(0,.loop l2)) (hR:R=dD H2 d i (0,.loop { l2 with state:=.done,pending:=cM .ret })) :
 cd (n+1) (.round d i) args H=some (.bool false,R):=by
 rw[hR]
 exact uo (P:=Tryd.prog) (ora:=gL) (KT:=KtG.kt) (fu:=100000) (e:=.ret) hg hl hs hp h1 (by rw[show aB (ao::H) (d+1) i=aB H d i from rfl];exact hg) hs h2 hg2
theorem Ty (hS:eN U W g) (c k:Nat) (hc:c<U) (hk:k<U) (hw:W (2*c)=(k:Int)∧W (2*c+1)=(k:Int)) :
 cd (n+5) (.round 1 7) [.int .i64 (k:Int)] (ao::BL r0 (shR O U Z V J W (bI g)) c (0,.loop (c9 (shR O U Z V J W (bI g))))::H)=some (.bool false,ao::Pj r0 (shR O U Z V J W (bI g)) c (0,.loop { c9 (shR O U Z V J W (bI g)) with state:=.done,pending:=cM .ret }) (k:Int)::H):=by
 have hlc:=hS.len
 have h71:=fun (L:bC)=>Ol (n+3) O U Z V J W (bI g) c k (ao::L::H) [] wO
 have h65:=fun (L:bC)=>DM n O U Z V J (u0 W c k) g (⟨false,[(0,.row (shR O U Z V J (u0 W c k) (bI g))),(0,.row (.I .i64 [(k:Int),(k:Int)]))]⟩::ao::L::H) 0 rfl (Gf hS hc hk)
 have e2:bQ (aq 3 (c:Int) 2) 3=2*c:=by rw[bo,cw];omega
 have e3:bQ (au (aq 3 (c:Int) 2) 1) 3=2*c+1:=by rw[bo,aH,cw];omega
 have ej:aq 3 (c:Int) 2=3+c*2:=by rw[bo];omega
 have ew:bT (cq (W (2*c)) (k:Int)) (cq (W (2*c+1)) (k:Int))=true:=by
  rw[ct,aQ,aQ,hw.1,hw.2];simp
 have hs:oT W (c:Int) (k:Int)=true:=(Ac W c k).2 ⟨by omega,by omega⟩
 obtain ⟨f,t,h65⟩:=h65 (BL r0 (shR O U Z V J W (bI g)) c (0,.loop { c9 (shR O U Z V J W (bI g)) with state:=.busy }))
 have h1:exec (gw (n+4) 30 60 2 7) ri [(3,.ptr 2 1 0 0),(4,.ptr 2 2 0 0),(5,.ptr 2 3 0 0),(6,.ptr 2 5 0 0),(8,.ptr 2 6 0 0),(25,Cn 2 (shR O U Z V J W (bI g))),(26,.int .i64 (k:Int))] (ao::ao::BL r0 (shR O U Z V J W (bI g)) c (0,.loop (c9 (shR O U Z V J W (bI g))))::H)=some (.normal,Gi k,ao::ao::BL r0 (shR O U Z V J W (bI g)) c (0,.loop (c9 (shR O U Z V J W (bI g))))::H) :=
  fW (NB (n+4) _ _ H (k:Int)) (aw _) (ah _ _) (aj _ _) (Tr.ag rfl)
 rw[hs] at h71
 have T:=PY (n+4) O U Z V J W (bI g) H r0 (k:Int) (c:Int) (0,.loop { c9 (shR O U Z V J W (bI g)) with state:=.busy }) true (!vt U g (u0 W c k)) f t
 rw[e2,e3,Bq,ew,ej] at T
 obtain ⟨y,h2,h3⟩:=j0 (Q:=fun y=>y.1=.ret∧∃ lv,y.2.2=lv::ao::Pj r0 (shR O U Z V J W (bI g)) c (0,.loop { c9 (shR O U Z V J W (bI g)) with state:=.busy }) (k:Int)::H) T (bw _ _ (bN (bN (aR _) (fun x hy=>by rw[← Tr.af hy];exact h71 _)) (fun x hy=>by rw[← Tr.af hy];exact h65))) (ah _ _) (aj _ _) (by
  clear T h1 h71 h65;generalize c9 (shR O U Z V J W (bI g))=L at *;refine Tr.ak ⟨rfl,rfl⟩ (Tr.ae (fun h=>by simp[av] at h) (fun _=>?_));exact Tr.ab wG (Tr.ab wG (Tr.ab wG (Tr.ab wG (Tr.ae (fun _=>Tr.ag ⟨rfl,_,rfl⟩) (fun h=>by cases h))))))
 obtain ⟨ey,fy,hy⟩:=y
 obtain ⟨h3,lv,h4⟩:=h3
 dsimp only at h3 h4
 subst h3 h4
 exact Hv (l:=c9 (shR O U Z V J W (bI g))) (l2:={ c9 (shR O U Z V J W (bI g)) with state:=.busy }) rfl rfl rfl rfl h1 h2 rfl rfl
end
end Go.Eng
end
section
namespace Go.Eng
open Go.Proofs Go.Eng.Gall
section
variable (n:Nat) (O:Int) (U:Nat) (Z:Nat→Int) (V:Nat) (J:Nat→Int) (H:aa)
theorem Jt {c:Nat} {fr:aD} {G:aa} {Y:ev} (hx:exec (bJ c 30 60) (.rangeFunc (.tmp 25) #[26] ri yX) fr G=some Y.st):(EY aJ (fun _=>true) fr G (.ok Y)).Ok (bJ c 30 60) (aW Tryd.f30) :=
 xL (aj _ _) (fun f ps a b _ hm x hx2=>by
  rw[Ye] at hm;simp only[List.mem_cons,Prod.mk.injEq,List.not_mem_nil,or_false] at hm;obtain ⟨rfl,rfl,rfl,rfl⟩:=hm;rw[← Tr.af hx2];exact hx)
theorem Y4 (W:Nat→Int) (g:Nat→Nat) (r0:Row) (hS:eN U W g) (c:Nat) (hc:c<U) (hw:∀ k,k<U→¬ (W (2*c)=(k:Int)∧W (2*c+1)=(k:Int))):exec (bJ (n+6) 30 60) (.rangeFunc (.tmp 25) #[26] ri yX) (sR (shR O U Z V J W (bI g))) (⟨false,wP r0 (shR O U Z V J W (bI g)) c .nils .nils⟩::H)=some (.normal,sR (shR O U Z V J W (bI g)),dR (KG r0 (shR O U Z V J W (bI g)) c (0,.loop (c9 (shR O U Z V J W (bI g)))) (DB U W g c U)::H) 0 7):=by
 have h:=Rg (n+5) O U Z V J W (bI g) (fun k=>KG r0 (shR O U Z V J W (bI g)) c (0,.loop (c9 (shR O U Z V J W (bI g)))) (DB U W g c k)::H) (by have:=hS.len;omega) (fun j hj=>PK n O U Z V J W g H r0 hS c j hc hj (hw j hj));have h':cd (n+6) (.fn 90) [.yld 0 7,.ptrT (some 0) (.G [shV O U Z V J W (bI g)]) 0] (BL r0 (shR O U Z V J W (bI g)) c (0,.loop (c9 (shR O U Z V J W (bI g))))::H)=_:=h;refine mV (cx:=bJ (n+6) 30 60) (l:=c9 (shR O U Z V J W (bI g))) (f:=.tmp 25) (ps:=#[26]) (fr:=sR (shR O U Z V J W (bI g))) (H:=⟨false,wP r0 (shR O U Z V J W (bI g)) c .nils .nils⟩::H) (g:=90) (a:=[]) (b:=[.ptrT (some 0) (.G [shV O U Z V J W (bI g)]) 0]) rfl rfl rfl h' ?_ rfl rfl;cases DB U W g c U with
 | nil=>rfl
 | cons x r=>rfl
theorem Uv (W:Nat→Int) (g:Nat→Nat) (r0:Row) (hS:eN U W g) (c k:Nat) (hc:c<U) (hk:k<U) (hw:W (2*c)=(k:Int)∧W (2*c+1)=(k:Int)):exec (bJ (n+6) 30 60) (.rangeFunc (.tmp 25) #[26] ri yX) (sR (shR O U Z V J W (bI g))) (⟨false,wP r0 (shR O U Z V J W (bI g)) c .nils .nils⟩::H)=some (.ret,sR (shR O U Z V J W (bI g)),Pj r0 (shR O U Z V J W (bI g)) c (0,.dead) (k:Int)::H):=by
 have hn:∀ j,j<U→j≠k→ES U g W c j=false:=fun j hj hne=>by
  unfold ES;cases hs:oT W (c:Int) (j:Int) with
  | false=>rfl
  | true=>have:=(Ac W c j).1 hs;omega
 have hp:∀ j,j≤k→DB U W g c j=[]:=by
  intro j;induction j with
  | zero=>intro _;rfl
  | succ j ih=>intro hj;rw[DD,hn j wO wO,ih wO];rfl
 have h:=Rh (n+5) O U Z V J W (bI g) (BL r0 (shR O U Z V J W (bI g)) c (0,.loop (c9 (shR O U Z V J W (bI g))))::H) (Pj r0 (shR O U Z V J W (bI g)) c (0,.loop { c9 (shR O U Z V J W (bI g)) with state:=.done,pending:=cM .ret }) (k:Int)::H) k hk (by have:=hS.len;omega) (fun j hj=>by
  have:=PK n O U Z V J W g H r0 hS c j hc wO wO;rw[hp j wO,hp (j+1) wO] at this;exact this) (Ty n O U Z V J W g H r0 hS c k hc hk hw)
 exact mV (cx:=bJ (n+6) 30 60) (l:={ c9 (shR O U Z V J W (bI g)) with state:=.done,pending:=cM .ret }) (f:=.tmp 25) (ps:=#[26]) (fr:=sR (shR O U Z V J W (bI g))) (H:=⟨false,wP r0 (shR O U Z V J W (bI g)) c .nils .nils⟩::H) (g:=90) (a:=[]) (b:=[.ptrT (some 0) (.G [shV O U Z V J W (bI g)]) 0]) rfl rfl rfl h rfl rfl rfl
noncomputable def nT (c:Nat):List Nat:=Na U (fun c=>dq J c V) (bR O U Z) c
noncomputable def Tn (c:Int):AV:=if jG O U Z V J c=0 then (if ya O U Z V J=none then .tup [aP (nT O U Z V J c.toNat).length (az (gZ (nT O U Z V J c.toNat))) false,.int .i64 0] else .tup [.nils,.int .i64 13]) else .tup [.nils,.int .i64 (jG O U Z V J c)]
theorem VY (c:Int) (hl:U≤1000) (hb:V≤1000):cd (n+14) (.fn 30) [bt O U Z V J,.int .i64 c] H=some (Tn O U Z V J c,H):=by
 have h69:cd (n+13) (.fn 69) [bt O U Z V J,sE 0] (BN O U Z V J c::H)=_:=Re n O U Z V J H (0,.row (.G [.int .i64 O,slA 4 U Z,slA 2 V J])) (0,.row (.I .i64 [c])) (0,.row (.G [.nils])) (0,.row (.I .i64 [Int.ofNat 0])) c hl hb;unfold To at h69;unfold Tn;by_cases he:jG O U Z V J c=0
 · rw [if_pos he] at h69 ⊢;obtain ⟨h0,hc0,hc1⟩:=Gc he;obtain ⟨h1,h2,h3,h4,h5,h6⟩:=kr h0;have hS:=Ca O U Z V J h1.2 h3 h4 h5 h6;obtain ⟨c,rfl⟩:∃ c':Nat,c=(c':Int):=⟨c.toNat,by omega⟩
   have hc:c<U:=by omega
   rw[Int.toNat_natCast];unfold Tp at h69;by_cases ho:ya O U Z V J=none
   · rw [if_pos ho] at h69 ⊢;have hnb:vt U (fun c=>dq J c V) (bR O U Z)=true:=by show (ya O U Z V J).isNone=true;rw[ho];rfl
     have h70:∀ H,cd (n+13) (.fn 70) [shV O U Z V J (bR O U Z) (gv V J)] H=some (Cn 0 (shR O U Z V J (bR O U Z) (gv V J)),H):=fun H=>by
      refine bp (n:=n+12) Tryd.func70 rfl rfl rfl (Ug (n+12) O U Z V J (bR O U Z) (gv V J) H) (aw _) (ah _ _) (aj _ _) ?_;exact Tr.ag ⟨rfl,rfl⟩
     by_cases hw:∃ k,k<U∧bR O U Z (2*c)=(k:Int)∧bR O U Z (2*c+1)=(k:Int)
     · obtain ⟨k,hk,w1,w2⟩:=hw;have hx:=Uv (n+7) O U Z V J H (bR O U Z) (fun c=>dq J c V) (.G [.int .i64 O,slA 4 U Z,slA 2 V J]) hS c k hc hk ⟨w1,w2⟩;have hpl:nT O U Z V J c=[k]:=Nd hnb hk w1 w2;rw[hpl];refine qi (n:=n+13) (.inl rfl) Tryd.func30 rfl rfl (T2 (n+13) O U Z V J (bR O U Z) (gv V J) H (c:Int) (k:Int)) (bw _ _ (bN (bW (aR _) h70) (fun x hy=>by rw[← Tr.af hy];exact h69))) (ah _ _) (Jt (by simp only[ev.st,aN];exact hx)) ?_;refine Tr.ak ⟨rfl,rfl⟩ (Tr.ae (fun q=>by simp[av,aQ] at q) (fun _=>Tr.ak rfl (Tr.ak ⟨rfl,rfl⟩ (Tr.ab wG (Tr.ag ⟨?_,rfl⟩)))));show AV.tup [.slcT none (.M [.arr .i64 (fun j=>[(k:Int)].getD j 0) 1]) 1 1 false,.int .i64 (Int.ofNat 0)]=.tup [aP 1 (az [(k:Int)]) false,.int .i64 0];rw[fa];rfl
     · have hx:=Y4 (n+7) O U Z V J H (bR O U Z) (fun c=>dq J c V) (.G [.int .i64 O,slA 4 U Z,slA 2 V J]) hS c hc (fun k hk h=>hw ⟨k,hk,h⟩);have hne:∃ k,k ∈ nT O U Z V J c:=by
        obtain ⟨R,hR⟩:=(wM hS pX).1 ho;exact ⟨R.idxOf c,(BZ hS pX hc).2 ⟨R,hR,rfl⟩⟩
       have hpk:DB U (bR O U Z) (fun c=>dq J c V) c U=nT O U Z V J c:=rfl;have hle:(nT O U Z V J c).length≤U:=by rw[← hpk];exact DC _ _ _ _ _
       rw[hpk] at hx;cases hP:nT O U Z V J c with
       | nil=>rw[hP] at hne;obtain ⟨k,hk⟩:=hne;cases hk
       | cons x r =>
         rw[hP] at hx hle;simp only[List.length_cons] at hle;have T:=TZ (n+13) O U Z V J (bR O U Z) (gv V J) H (c:Int) r.length (r.length+1) (az (gZ (x::r)));rw[iz] at T;refine qi (n:=n+13) (.inl rfl) Tryd.func30 rfl rfl T (bw _ _ (bN (bW (aR _) h70) (fun x hy=>by rw[← Tr.af hy];exact h69))) (ah _ _) (Jt (by simp only[ev.st,aN];exact hx)) ?_;clear T hx h69 h70;refine Tr.ak ⟨rfl,rfl⟩ (Tr.ae (fun q=>by simp[av,aQ] at q) (fun _=>Tr.ak rfl (Tr.ak ⟨rfl,rfl⟩ (Tr.ab wG (Tr.ab wG (Tr.ag ⟨rfl,rfl⟩))))))
   · rw[if_neg ho] at h69 ⊢;refine qi (n:=n+13) (.inl rfl) Tryd.func30 rfl rfl (Qx (n+13) O U Z V J H (c:Int) (Int.ofNat 13)) (bw _ _ (bN (uG (aR _)) (fun x hy=>by rw[← Tr.af hy];exact h69))) (ah _ _) (aj _ _) ?_;exact Tr.ak ⟨rfl,rfl⟩ (Tr.ae (fun _=>Tr.ag ⟨rfl,rfl⟩) (fun q=>by simp[av,aQ] at q))
 · rw[if_neg he] at h69 ⊢;refine qi (n:=n+13) (.inl rfl) Tryd.func30 rfl rfl (Qx (n+13) O U Z V J H c (jG O U Z V J c)) (bw _ _ (bN (uG (aR _)) (fun x hy=>by rw[← Tr.af hy];exact h69))) (ah _ _) (aj _ _) ?_;refine Tr.ak ⟨rfl,rfl⟩ (Tr.ae (fun _=>Tr.ag ⟨rfl,rfl⟩) (fun q=>?_));rw[av,aQ] at q;exact absurd (by simpa using q) he
end
end Go.Eng
end
section
namespace Go.Eng
open Go.Proofs Go.Eng.Gall
section
variable (n:Nat) (O:Int) (U:Nat) (Z:Nat→Int) (V:Nat) (J:Nat→Int) (H:aa) (f t:Int) (m:Nat) (z:Nat→Int)
end
end Go.Eng
end
section
namespace Go.Eng
open Go.Proofs Go.Eng.Gall
end Go.Eng
end
section
namespace Go.Eng
open Go.Proofs Go.Eng.Gall
theorem b6:∀ b,(0,b) ∈ aI (aW Tryd.f6)→b=.loop (part Tryd.f6 [1,1,1,1,1,1,1,0,1,0,1,1,1,0,1,0,0]):=dJ (by kernel_rfl)
section
variable (O:Int) (U:Nat) (Z:Nat→Int) (V:Nat) (J:Nat→Int)
def Sy (x:List AV):Prop:=∃ m y,x=[bt O U Z V J,aP m y false]∧m≤1000
variable (n:Nat) (H:aa) (mo:Nat) (zo:Nat→Int) (f t:Int) (m:Nat) (z y:Nat→Int)
end
end Go.Eng
end
section
namespace Go.Eng
open Go.Proofs Go.Eng.Gall
section
variable (O:Int) (U:Nat) (Z:Nat→Int) (V:Nat) (J:Nat→Int) (n:Nat) (H:aa) (mo:Nat) (zo:Nat→Int) (f t:Int) (m:Nat) (z:Nat→Int)
theorem MI (h0:dm O U Z V J=0) (q:Nat) (A:List AV) (H:aa) (hA:Sy O U Z V J A):cd (n+16+q) (.fn 40) A H=some (.int .i64 (Md O U Z V J A),H):=by
 obtain ⟨h1,h2,_⟩:=kr h0;obtain ⟨m,y,rfl,hm⟩:=hA;rw[show n+16+q=n+12+q+4 by omega];exact Q8 (n+12+q) O U Z V J H m y wO h0 hm
end
end Go.Eng
end
section
namespace Go.Eng
open Go.Proofs Go.Eng.Gall
section
variable (O:Int) (U:Nat) (Z:Nat→Int) (V:Nat) (J:Nat→Int) (n:Nat) (H:aa) (mo:Nat) (zo:Nat→Int) (f t:Int) (m:Nat) (z:Nat→Int)
end
end Go.Eng
end
section
namespace Go.Eng
open Int (ofNat)
open Go.Proofs Go.Eng.Gall
noncomputable def Ik (m:Nat) (z:Nat→Int):AV:=.slcT none (.M [.arr .u16 z m]) 1 m false
noncomputable def Fs (mb:Nat) (zy:Nat→Int) (m:Nat) (z:Nat→Int) (k:Int):aD:=[(2,Ik mb zy),(3,.ptr 0 0 0 0),(7,aP m z false),(10,.int .i64 k)]
noncomputable def Mh (mb:Nat) (zy:Nat→Int) (m:Nat) (z:Nat→Int) (k:Int) (K:Nat) (Y:Nat→Int) (j:Int):aD:=[(2,Ik mb zy),(3,.ptr 0 0 0 0),(7,aP m z false),(10,.int .i64 k),(18,.ptr 0 4 0 0),(20,aP K Y false),(22,.int .i64 j)]
noncomputable def BO (R C A B D:Row):bC:=⟨false,[(0,.row R),(0,.row C),(0,.row A),(0,.row B),(0,.row D)]⟩
theorem YO (n:Nat) (O:Int) (U:Nat) (Z:Nat→Int) (V:Nat) (J:Nat→Int) (H:aa) (mo:Nat) (zo:Nat→Int) (mb:Nat) (zy:Nat→Int):aZ Tryd.prog (cd (n+2)) 100000 7 Tryd.f7 (KtG.kt 7) (il (tX (tX (tN (tX (mc aC 15 Ic) 23 [bt O U Z V J] (.int .i64 (ofNat 0))) 38) 40 [bt O U Z V J,aP mo zo false] (.int .i64 (ofNat 0))) 39 [bt O U Z V J,aP mo zo false] (.int .i64 (ofNat 0))) n 2) (cE aK 0 (Fs mb zy mo zo (ofNat 0)) (bU O U Z V J::H) (.ok (.normal,hints (Fs mb zy mo zo (ofNat mo)++[(68,.bool false)]),bU O U Z V J::H))) aJ [(bt O U Z V J,none),(aP mo zo false,none),(Ik mb zy,none)] H =
 (fun (Z0:List AV)=>((fun (Z1:aD)=>Tr.ite (bF (ofNat 15) (ofNat U)) (Tr.reqP True (Tr.ok ((AV.bool true,none),H))) (Tr.ite (bf (bF (ofNat 60) (ofNat V))) (Tr.reqP ([bt O U Z V J]=[bt O U Z V J]) (Tr.ite (bf (cq (ofNat 0) (ofNat 0))) (Tr.reqP True (Tr.ok ((AV.bool true,none),H))) (Tr.ite (bF (ofNat 20) (ofNat mo)) (Tr.reqP True (Tr.ok ((AV.bool true,none),H))) (Tr.ite (bF (ofNat 40) (ofNat mb)) (Tr.reqP True (Tr.ok ((AV.bool true,none),H))) (Tr.reqP (Z0=Z0) (Tr.ite (bf (cq (ofNat 0) (ofNat 0))) Tr.bad (Tr.reqP (Z0=Z0) (Tr.ite (bf (cq (ofNat 0) (ofNat 0))) (Tr.ok ((AV.bool false,some 1),H)) (Tr.reqP (Z0=Z0) (Tr.ite (bf (cq (ofNat 0) (ofNat 0))) (Tr.ok ((AV.bool false,some 1),H)) (Tr.reqP (Z1=Z1∧(bm [(0,dc O U Z V J)])::H=(bm [(0,dc O U Z V J)])::H) (Tr.reqP True (Tr.ok ((AV.bool true,none),H)))))))))))))) (Tr.reqP True (Tr.ok ((AV.bool true,none),H))))) [(2,AV.slcT none (Row.M [da.arr IntKind.u16 zy mb]) 1 mb false),(3,AV.ptr 0 0 0 0),(7,aP mo zo false),(10,iI 0)])) [bt O U Z V J,aP mo zo false]:=by kernel_rfl
theorem YP (n:Nat) (O:Int) (U:Nat) (Z:Nat→Int) (V:Nat) (J:Nat→Int) (H:aa) (mo:Nat) (zo:Nat→Int) (mb:Nat) (zy:Nat→Int) (y:Nat→Int) (E:List AV→Int) (C:List AV→Prop):aZ Tryd.prog (cd (n+2)) 100000 7 Tryd.f7 (KtG.kt 7) (il (tX (tV (tX (tX (mc aC 15 Ic) 23 [bt O U Z V J] (.int .i64 (ofNat 0))) 38 [bt O U Z V J] (.tup [aP U y false,.int .i64 (ofNat 0)])) 40 C (fun x=>.int .i64 (E x))) 39 [bt O U Z V J,aP U y false] (.int .i64 (ofNat 0))) n 2) (cE aK 0 (Fs mb zy U y (ofNat 0)) (bU O U Z V J::H) (.ok (.normal,hints (Fs mb zy U y (ofNat U)++[(68,.bool false)]),bU O U Z V J::H))) aJ [(bt O U Z V J,none),(aP mo zo false,none),(Ik mb zy,none)] H =
 (fun (Z0:aD)=>((fun (Z1:List AV)=>((fun (Z2:List AV)=>((fun (Z3:bC)=>Tr.ite (bF (ofNat 15) (ofNat U)) (Tr.reqP True (Tr.ok ((AV.bool true,none),H))) (Tr.ite (bf (bF (ofNat 60) (ofNat V))) (Tr.reqP ([bt O U Z V J]=[bt O U Z V J]) (Tr.ite (bf (cq (ofNat 0) (ofNat 0))) (Tr.reqP True (Tr.ok ((AV.bool true,none),H))) (Tr.ite (bF (ofNat 20) (ofNat mo)) (Tr.reqP True (Tr.ok ((AV.bool true,none),H))) (Tr.ite (bF (ofNat 40) (ofNat mb)) (Tr.reqP True (Tr.ok ((AV.bool true,none),H))) (Tr.reqP (C Z1) (Tr.ite (bf (cq (E Z1) (ofNat 0))) (Tr.reqP ([bt O U Z V J]=[bt O U Z V J]) (Tr.ite (bf (cq (ofNat 0) (ofNat 0))) (Tr.ite (cq (ofNat 0) (ofNat 13)) (Tr.reqP True (Tr.ok ((AV.bool true,none),H))) (Tr.ok ((AV.bool false,some 1),H))) (Tr.reqP (Z2=Z2) (Tr.ite (bf (cq (ofNat 0) (ofNat 0))) (Tr.ok ((AV.bool false,some 1),H)) (Tr.reqP (C Z2) (Tr.ite (bf (cq (E Z2) (ofNat 0))) (Tr.ok ((AV.bool false,some 1),H)) (Tr.reqP (Z0=Z0∧Z3::H=Z3::H) (Tr.reqP True (Tr.ok ((AV.bool true,none),H)))))))))) (Tr.reqP (Z1=Z2) (Tr.ite (bf (cq (ofNat 0) (ofNat 0))) (Tr.ok ((AV.bool false,some 1),H)) (Tr.reqP (C Z1) (Tr.ite (bf (cq (E Z1) (ofNat 0))) (Tr.ok ((AV.bool false,some 1),H)) (Tr.reqP ([(2,AV.slcT none (Row.M [da.arr IntKind.u16 zy mb]) 1 mb false),(3,AV.ptr 0 0 0 0),(7,aP mo zo false),(10,iI 0)]=Z0∧Z3::H=Z3::H) (Tr.reqP True (Tr.ok ((AV.bool true,none),H)))))))))))))) (Tr.reqP True (Tr.ok ((AV.bool true,none),H))))) (bm [(0,dc O U Z V J)]))) [bt O U Z V J,aP U y false])) [bt O U Z V J,aP mo zo false])) [(2,AV.slcT none (Row.M [da.arr IntKind.u16 zy mb]) 1 mb false),(3,AV.ptr 0 0 0 0),(7,aP U y false),(10,iI 0)]:=by kernel_rfl
theorem YQ (n:Nat) (O:Int) (U:Nat) (Z:Nat→Int) (V:Nat) (J:Nat→Int) (H:aa) (mo:Nat) (zo:Nat→Int) (mb:Nat) (zy:Nat→Int) (e:Int):aZ Tryd.prog (cd (n+2)) 100000 7 Tryd.f7 (KtG.kt 7) (il (tN (tX (tX (tX (mc aC 15 Ic) 23 [bt O U Z V J] (.int .i64 (ofNat 0))) 38 [bt O U Z V J] (.tup [.nils,.int .i64 (ofNat 13)])) 40 [bt O U Z V J,aP mo zo false] (.int .i64 e)) 39) n 2) (eI aK 0) aJ [(bt O U Z V J,none),(aP mo zo false,none),(Ik mb zy,none)] H =
 Tr.ite (bF (ofNat 15) (ofNat U)) (Tr.reqP True (Tr.ok ((AV.bool true,none),H))) (Tr.ite (bf (bF (ofNat 60) (ofNat V))) (Tr.reqP ([bt O U Z V J]=[bt O U Z V J]) (Tr.ite (bf (cq (ofNat 0) (ofNat 0))) (Tr.reqP True (Tr.ok ((AV.bool true,none),H))) (Tr.ite (bF (ofNat 20) (ofNat mo)) (Tr.reqP True (Tr.ok ((AV.bool true,none),H))) (Tr.ite (bF (ofNat 40) (ofNat mb)) (Tr.reqP True (Tr.ok ((AV.bool true,none),H))) (Tr.reqP ([bt O U Z V J,aP mo zo false]=[bt O U Z V J,aP mo zo false]) (Tr.ite (bf (cq e (ofNat 0))) (Tr.reqP ([bt O U Z V J]=[bt O U Z V J]) (Tr.ite (bf (cq (ofNat 13) (ofNat 0))) (Tr.ite (cq (ofNat 13) (ofNat 13)) (Tr.reqP True (Tr.ok ((AV.bool true,none),H))) (Tr.ok ((AV.bool false,some 1),H))) Tr.bad)) Tr.bad)))))) (Tr.reqP True (Tr.ok ((AV.bool true,none),H)))):=by kernel_rfl
theorem YR (n:Nat) (O:Int) (U:Nat) (Z:Nat→Int) (V:Nat) (J:Nat→Int) (H:aa) (mo:Nat) (zo:Nat→Int) (mb:Nat) (zy:Nat→Int) (e:Int) (C:List AV→Prop):aZ Tryd.prog (cd (n+2)) 100000 7 Tryd.f7 (KtG.kt 7) (il (tN (mc (mc aC 15 Ic) 23 (fun x=>some (C x,.int .i64 e))) 40) n 2) (eI aK 0) aJ [(bt O U Z V J,none),(aP mo zo false,none),(Ik mb zy,none)] H =
 Tr.ite (bF (ofNat 15) (ofNat U)) (Tr.reqP True (Tr.ok ((AV.bool true,none),H))) (Tr.ite (bf (bF (ofNat 60) (ofNat V))) (Tr.reqP (C [bt O U Z V J]) (Tr.ite (bf (cq e (ofNat 0))) (Tr.reqP True (Tr.ok ((AV.bool true,none),H))) (Tr.ite (bF (ofNat 20) (ofNat mo)) (Tr.reqP True (Tr.ok ((AV.bool true,none),H))) (Tr.ite (bF (ofNat 40) (ofNat mb)) (Tr.reqP True (Tr.ok ((AV.bool true,none),H))) Tr.bad)))) (Tr.reqP True (Tr.ok ((AV.bool true,none),H)))):=by kernel_rfl
theorem s7 (n:Nat) (O:Int) (U:Nat) (Z:Nat→Int) (V:Nat) (J:Nat→Int) (H:aa) (mb:Nat) (zy:Nat→Int) (m:Nat) (z:Nat→Int) (k c a1 a2 b1 b2 d1 d2:Int) (K:Nat) (Y:Nat→Int) (q:Bool):aF (bJ (n+1) 7 247) (il (tX (tX (tX (tX (tX aC 16 [bt O U Z V J,.int .i64 c,.int .i64 k] (rT a1 a2 (ofNat 0))) 18 [bt O U Z V J,.int .i64 c] (rT b1 b2 (ofNat 0))) 20 [bt O U Z V J,.int .i64 c] (rT d1 d2 (ofNat 0))) 30 [bt O U Z V J,.int .i64 c] (.tup [aP K Y false,.int .i64 (ofNat 0)])) 42 [aP K Y false,.int .i64 k] (.bool q)) n 1) (cE aK 2 (Mh mb zy m z k K Y (ofNat 0)) (BO (.G [.int .i64 O,slA 4 U Z,slA 2 V J]) (.I .i64 [Z (aq 0 (z (aq 0 k 1)) 4),Z (au (aq 0 (z (aq 0 k 1)) 4) 1),Z (au (aq 0 (z (aq 0 k 1)) 4) 2),Z (au (aq 0 (z (aq 0 k 1)) 4) 3)]) (.I .i64 [a1,a2]) (.I .i64 [b1,b2]) (.I .i64 [d1,d2])::H) (.ok (.normal,hints (Mh mb zy m z k K Y (ofNat K)++[(220,.bool false)]),BO (.G [.int .i64 O,slA 4 U Z,slA 2 V J]) (.I .i64 [Z (aq 0 (z (aq 0 k 1)) 4),Z (au (aq 0 (z (aq 0 k 1)) 4) 1),Z (au (aq 0 (z (aq 0 k 1)) 4) 2),Z (au (aq 0 (z (aq 0 k 1)) 4) 3)]) (.I .i64 [a1,a2]) (.I .i64 [b1,b2]) (.I .i64 [d1,d2])::H))) aJ (part Tryd.f7 [1,1,1,1,1,0,1,0,0]) (hints (Fs mb zy m z k)) (bU O U Z V J::H) =
 (fun (Z0:bC)=>((fun (Z1:aD)=>((fun (Z2:List AV)=>((fun (Z3:aT)=>((fun (Z4:List AV)=>Tr.ite (bF k (ofNat m)) (Tr.req (cu k m) (Tr.req (bX (aq 0 k 1) m) (Tr.req (cu (z (aq 0 k 1)) U) (Tr.req (bX (aq 0 (z (aq 0 k 1)) 4) (cr U 4)) (Tr.req (bX (au (aq 0 (z (aq 0 k 1)) 4) 1) (cr U 4)) (Tr.req (bX (au (aq 0 (z (aq 0 k 1)) 4) 2) (cr U 4)) (Tr.req (bX (au (aq 0 (z (aq 0 k 1)) 4) 3) (cr U 4)) (Tr.req (bT (dW 0 0) (dW 0 1)) (Tr.ite (bF (ofNat 0) (ofNat mb)) (Tr.req (bf (cq (ofNat mb) (ofNat 0))) (Tr.req (cu (iT IntKind.i64 k (ofNat mb)) mb) (Tr.req (bX (aq 0 (iT IntKind.i64 k (ofNat mb)) 1) mb) (Tr.req (bf (cq (bj .i64 (bL .i64 (Z (au (aq 0 (z (aq 0 k 1)) 4) 1)) (Z (aq 0 (z (aq 0 k 1)) 4))) (ofNat 1)) (ofNat 0))) (Tr.req (cu k m) (Tr.req (bX (aq 0 k 1) m) (Tr.reqP ([bt O U Z V J,AV.int .i64 (z (aq 0 k 1)),AV.int .i64 k]=[bt O U Z V J,AV.int .i64 c,AV.int .i64 k]) (Tr.req (bT (dW 0 0) (dW 0 1)) (Tr.req (cu k m) (Tr.req (bX (aq 0 k 1) m) (Tr.reqP (Z2=Z4) (Tr.req (bT (dW 0 0) (dW 0 1)) (Tr.req (cu k m) (Tr.req (bX (aq 0 k 1) m) (Tr.reqP (Z2=Z4) (Tr.req (bT (dW 0 0) (dW 0 1)) (Tr.req (cu k m) (Tr.req (bX (aq 0 k 1) m) (Tr.reqP (Z2=Z4) (Tr.ite (bf (cq (ofNat 0) (ofNat 0))) (Tr.ok (Ex.ret,[(6,AV.bool false,some 1)],Z0::H)) (Tr.ite (bf (cq (ofNat 0) (ofNat 0))) (Tr.ok (Ex.ret,[(6,AV.bool false,some 1)],Z0::H)) (Tr.ite (bf (cq (ofNat 0) (ofNat 0))) (Tr.ok (Ex.ret,[(6,AV.bool false,some 1)],Z0::H)) (Tr.ite (bf (cq (ofNat 0) (ofNat 0))) (Tr.ok (Ex.ret,[(6,AV.bool false,some 1)],Z0::H)) (Tr.ite (bF (bL .i64 (bj .i64 (Z (aq 0 (z (aq 0 k 1)) 4)) (iT IntKind.i64 (Kc IntKind.i64 (zy (aq 0 (iT IntKind.i64 k (ofNat mb)) 1))) (bj .i64 (bL .i64 (Z (au (aq 0 (z (aq 0 k 1)) 4) 1)) (Z (aq 0 (z (aq 0 k 1)) 4))) (ofNat 1)))) (ly .i64 k O)) a1) (Tr.ok (Ex.ret,[(6,AV.bool false,some 1)],Z0::H)) (Tr.ite (bF a2 (bL .i64 (bj .i64 (Z (aq 0 (z (aq 0 k 1)) 4)) (iT IntKind.i64 (Kc IntKind.i64 (zy (aq 0 (iT IntKind.i64 k (ofNat mb)) 1))) (bj .i64 (bL .i64 (Z (au (aq 0 (z (aq 0 k 1)) 4) 1)) (Z (aq 0 (z (aq 0 k 1)) 4))) (ofNat 1)))) (ly .i64 k O))) (Tr.ok (Ex.ret,[(6,AV.bool false,some 1)],Z0::H)) (Tr.ite (bF (bL .i64 (bj .i64 (Z (aq 0 (z (aq 0 k 1)) 4)) (iT IntKind.i64 (Kc IntKind.i64 (zy (aq 0 (iT IntKind.i64 k (ofNat mb)) 1))) (bj .i64 (bL .i64 (Z (au (aq 0 (z (aq 0 k 1)) 4) 1)) (Z (aq 0 (z (aq 0 k 1)) 4))) (ofNat 1)))) (ly .i64 k O)) (Z (au (aq 0 (z (aq 0 k 1)) 4) 2))) (Tr.ok (Ex.ret,[(6,AV.bool false,some 1)],Z0::H)) (Tr.ite (bF (Z (au (aq 0 (z (aq 0 k 1)) 4) 3)) (bL .i64 (bj .i64 (Z (aq 0 (z (aq 0 k 1)) 4)) (iT IntKind.i64 (Kc IntKind.i64 (zy (aq 0 (iT IntKind.i64 k (ofNat mb)) 1))) (bj .i64 (bL .i64 (Z (au (aq 0 (z (aq 0 k 1)) 4) 1)) (Z (aq 0 (z (aq 0 k 1)) 4))) (ofNat 1)))) (ly .i64 k O))) (Tr.ok (Ex.ret,[(6,AV.bool false,some 1)],Z0::H)) (Tr.ite (di b1 k) (Tr.ite (bf (di k b2)) (Tr.ok (Ex.ret,[(6,AV.bool false,some 1)],Z0::H)) (Tr.ite (di d1 k) (Tr.ite (bf (di k d2)) (Tr.ok (Ex.ret,[(6,AV.bool false,some 1)],Z0::H)) (Tr.ite (bF d1 b1) (Tr.ok (Ex.ret,[(6,AV.bool false,some 1)],Z0::H)) (Tr.ite (bF b2 d2) (Tr.ok (Ex.ret,[(6,AV.bool false,some 1)],Z0::H)) (Tr.reqP ([aP K Y false,AV.int .i64 k]=[aP K Y false,AV.int .i64 k]) (Tr.ite (bf q) (Tr.ok (Ex.ret,[(6,AV.bool false,some 1)],Z0::H)) (Tr.reqP (Z1=Z1∧Z0::H=Z0::H) (Tr.ok (Ex.normal,Z3,Z0::H)))))))) (Tr.ok (Ex.ret,[(6,AV.bool false,some 1)],Z0::H)))) (Tr.ok (Ex.ret,[(6,AV.bool false,some 1)],Z0::H)))))))))))))))))))))))))))))) (Tr.req (cu k m) (Tr.req (bX (aq 0 k 1) m) (Tr.reqP ([bt O U Z V J,AV.int .i64 (z (aq 0 k 1)),AV.int .i64 k]=[bt O U Z V J,AV.int .i64 c,AV.int .i64 k]) (Tr.req (bT (dW 0 0) (dW 0 1)) (Tr.req (cu k m) (Tr.req (bX (aq 0 k 1) m) (Tr.reqP (Z2=Z4) (Tr.req (bT (dW 0 0) (dW 0 1)) (Tr.req (cu k m) (Tr.req (bX (aq 0 k 1) m) (Tr.reqP (Z2=Z4) (Tr.req (bT (dW 0 0) (dW 0 1)) (Tr.req (cu k m) (Tr.req (bX (aq 0 k 1) m) (Tr.reqP (Z2=Z4) (Tr.ite (bf (cq (ofNat 0) (ofNat 0))) (Tr.ok (Ex.ret,[(6,AV.bool false,some 1)],Z0::H)) (Tr.ite (bf (cq (ofNat 0) (ofNat 0))) (Tr.ok (Ex.ret,[(6,AV.bool false,some 1)],Z0::H)) (Tr.ite (bf (cq (ofNat 0) (ofNat 0))) (Tr.ok (Ex.ret,[(6,AV.bool false,some 1)],Z0::H)) (Tr.ite (bf (cq (ofNat 0) (ofNat 0))) (Tr.ok (Ex.ret,[(6,AV.bool false,some 1)],Z0::H)) (Tr.ite (bF (bL .i64 (Z (aq 0 (z (aq 0 k 1)) 4)) (ly .i64 k O)) a1) (Tr.ok (Ex.ret,[(6,AV.bool false,some 1)],Z0::H)) (Tr.ite (bF a2 (bL .i64 (Z (aq 0 (z (aq 0 k 1)) 4)) (ly .i64 k O))) (Tr.ok (Ex.ret,[(6,AV.bool false,some 1)],Z0::H)) (Tr.ite (bF (bL .i64 (Z (aq 0 (z (aq 0 k 1)) 4)) (ly .i64 k O)) (Z (au (aq 0 (z (aq 0 k 1)) 4) 2))) (Tr.ok (Ex.ret,[(6,AV.bool false,some 1)],Z0::H)) (Tr.ite (bF (Z (au (aq 0 (z (aq 0 k 1)) 4) 3)) (bL .i64 (Z (aq 0 (z (aq 0 k 1)) 4)) (ly .i64 k O))) (Tr.ok (Ex.ret,[(6,AV.bool false,some 1)],Z0::H)) (Tr.ite (di b1 k) (Tr.ite (bf (di k b2)) (Tr.ok (Ex.ret,[(6,AV.bool false,some 1)],Z0::H)) (Tr.ite (di d1 k) (Tr.ite (bf (di k d2)) (Tr.ok (Ex.ret,[(6,AV.bool false,some 1)],Z0::H)) (Tr.ite (bF d1 b1) (Tr.ok (Ex.ret,[(6,AV.bool false,some 1)],Z0::H)) (Tr.ite (bF b2 d2) (Tr.ok (Ex.ret,[(6,AV.bool false,some 1)],Z0::H)) (Tr.reqP ([aP K Y false,AV.int .i64 k]=[aP K Y false,AV.int .i64 k]) (Tr.ite (bf q) (Tr.ok (Ex.ret,[(6,AV.bool false,some 1)],Z0::H)) (Tr.reqP (Z1=Z1∧Z0::H=Z0::H) (Tr.ok (Ex.normal,Z3,Z0::H)))))))) (Tr.ok (Ex.ret,[(6,AV.bool false,some 1)],Z0::H)))) (Tr.ok (Ex.ret,[(6,AV.bool false,some 1)],Z0::H))))))))))))))))))))))))))))))))))) (Tr.ok (Ex.exit 0,[(2,AV.slcT none (Row.M [da.arr IntKind.u16 zy mb]) 1 mb false,none),(3,AV.ptr 0 0 0 0,none),(7,aP m z false,none),(10,AV.int .i64 k,none),(68,AV.bool false,some 1)],(bm [(0,dc O U Z V J)])::H))) [bt O U Z V J,AV.int .i64 c])) [(2,AV.slcT none (Row.M [da.arr IntKind.u16 zy mb]) 1 mb false,none),(3,AV.ptr 0 0 0 0,none),(7,aP m z false,none),(10,AV.int .i64 (bj .i64 k (ofNat 1)),none)])) [bt O U Z V J,AV.int .i64 (z (aq 0 k 1))])) [(2,AV.slcT none (Row.M [da.arr IntKind.u16 zy mb]) 1 mb false),(3,AV.ptr 0 0 0 0),(7,aP m z false),(10,AV.int .i64 k),(18,AV.ptr 0 4 0 0),(20,aP K Y false),(22,iI 0)])) (bm [(0,dc O U Z V J),(0,al.row (Row.I .i64 [Z (aq 0 (z (aq 0 k 1)) 4),Z (au (aq 0 (z (aq 0 k 1)) 4) 1),Z (au (aq 0 (z (aq 0 k 1)) 4) 2),Z (au (aq 0 (z (aq 0 k 1)) 4) 3)])),(0,al.row (Row.I .i64 [a1,a2])),(0,al.row (Row.I .i64 [b1,b2])),(0,al.row (Row.I .i64 [d1,d2]))]):=by kernel_rfl
theorem Ym (n:Nat) (O:Int) (U:Nat) (Z:Nat→Int) (V:Nat) (J:Nat→Int) (H:aa) (mb:Nat) (zy:Nat→Int) (m:Nat) (z:Nat→Int) (k:Int):aF (bJ (n+1) 7 247) (il aC n 1) aK aJ (part Tryd.f7 [1,1,1,1,1,0,1,0,0]) (hints (Fs mb zy m z k)) (bU O U Z V J::H) =
 Tr.ite (bF k (ofNat m)) (Tr.req (cu k m) (Tr.req (bX (aq 0 k 1) m) (Tr.req (cu (z (aq 0 k 1)) U) (Tr.req (bX (aq 0 (z (aq 0 k 1)) 4) (cr U 4)) (Tr.req (bX (au (aq 0 (z (aq 0 k 1)) 4) 1) (cr U 4)) (Tr.req (bX (au (aq 0 (z (aq 0 k 1)) 4) 2) (cr U 4)) (Tr.req (bX (au (aq 0 (z (aq 0 k 1)) 4) 3) (cr U 4)) (Tr.req (bT (dW 0 0) (dW 0 1)) (Tr.ite (bF (ofNat 0) (ofNat mb)) (Tr.req (bf (cq (ofNat mb) (ofNat 0))) (Tr.req (cu (iT IntKind.i64 k (ofNat mb)) mb) (Tr.req (bX (aq 0 (iT IntKind.i64 k (ofNat mb)) 1) mb) (Tr.req (bf (cq (bj .i64 (bL .i64 (Z (au (aq 0 (z (aq 0 k 1)) 4) 1)) (Z (aq 0 (z (aq 0 k 1)) 4))) (ofNat 1)) (ofNat 0))) (Tr.req (cu k m) (Tr.req (bX (aq 0 k 1) m) Tr.bad)))))) (Tr.req (cu k m) (Tr.req (bX (aq 0 k 1) m) Tr.bad))))))))))) (Tr.ok (Ex.exit 0,[(2,AV.slcT none (Row.M [da.arr IntKind.u16 zy mb]) 1 mb false,none),(3,AV.ptr 0 0 0 0,none),(7,aP m z false,none),(10,AV.int .i64 k,none),(68,AV.bool false,some 1)],(bm [(0,dc O U Z V J)])::H)):=by kernel_rfl
theorem i7 (n:Nat) (mb:Nat) (zy:Nat→Int) (m:Nat) (z:Nat→Int) (k d1 d2:Int) (K:Nat) (Y:Nat→Int) (j:Int) (R C A B:Row) (H:aa):aF (bJ (n+1) 7 247) (il aC n 1) aK aJ (part Tryd.f7 [1,1,1,1,1,0,1,0,0,1,0,0,1,1,1,1,1,1,1,1,1,1,0,0]) (hints (Mh mb zy m z k K Y j)) (BO R C A B (.I .i64 [d1,d2])::H) =
 (fun (Z0:bC)=>((fun (Z1:aT)=>Tr.ite (bF j (ofNat K)) (Tr.req (cu j K) (Tr.req (bX (aq 0 j 1) K) (Tr.ite (di d1 (Y (aq 0 j 1))) (Tr.ite (bf (di (Y (aq 0 j 1)) d2)) (Tr.ok (Ex.ret,[(6,AV.bool false,some 1)],Z0::H)) (Tr.ite (bF (ofNat 0) j) (Tr.req (cu j K) (Tr.req (bX (aq 0 j 1) K) (Tr.req (cu (bL .i64 j (ofNat 1)) K) (Tr.req (bX (aq 0 (bL .i64 j (ofNat 1)) 1) K) (Tr.ite (di (Y (aq 0 j 1)) (Y (aq 0 (bL .i64 j (ofNat 1)) 1))) (Tr.ok (Ex.ret,[(6,AV.bool false,some 1)],Z0::H)) (Tr.ok (Ex.normal,Z1,Z0::H))))))) (Tr.ok (Ex.normal,Z1,Z0::H)))) (Tr.ok (Ex.ret,[(6,AV.bool false,some 1)],Z0::H))))) (Tr.ok (Ex.exit 2,[(2,AV.slcT none (Row.M [da.arr IntKind.u16 zy mb]) 1 mb false,none),(3,AV.ptr 0 0 0 0,none),(7,aP m z false,none),(10,AV.int .i64 k,none),(18,AV.ptr 0 4 0 0,none),(20,aP K Y false,none),(22,AV.int .i64 j,none),(220,AV.bool false,some 1)],Z0::H))) [(2,AV.slcT none (Row.M [da.arr IntKind.u16 zy mb]) 1 mb false,none),(3,AV.ptr 0 0 0 0,none),(7,aP m z false,none),(10,AV.int .i64 k,none),(18,AV.ptr 0 4 0 0,none),(20,aP K Y false,none),(22,AV.int .i64 (bj .i64 j (ofNat 1)),none)])) (bm [(0,al.row R),(0,al.row C),(0,al.row A),(0,al.row B),(0,al.row (Row.I .i64 [d1,d2]))]):=by kernel_rfl
end Go.Eng
end
section
namespace Go.Eng
open Go.Proofs Go.Eng.Gall Go.Eng.Q
section
variable {O:Int} {U:Nat} {Z:Nat→Int} {V:Nat} {J:Nat→Int} {m:Nat} {z:Nat→Int} {k:Nat}
theorem GF (h0:dm O U Z V J=0) (hz:uY U (bR O U Z) V J m z=0) (hk:k<m):∃ c:Nat,z k=c∧c<U∧bR O U Z (2*c)≤k∧(k:Int)≤bR O U Z (2*c+1)∧bR O U Z (2*c)≤eU U (fun c=>dq J c V) (bR O U Z) (2*c)∧eU U (fun c=>dq J c V) (bR O U Z) (2*c)≤k∧(k:Int)≤eU U (fun c=>dq J c V) (bR O U Z) (2*c+1)∧eU U (fun c=>dq J c V) (bR O U Z) (2*c+1)≤bR O U Z (2*c+1)∧k ∈ nT O U Z V J c∧∀ x ∈ nT O U Z V J c,eU U (fun c=>dq J c V) (bR O U Z) (2*c)≤(x:Int)∧(x:Int)≤eU U (fun c=>dq J c V) (bR O U Z) (2*c+1):=by
 obtain ⟨h1,h2,h3,h4,h5,h6⟩:=kr h0;have hb:∀ c,c<U→dq J c V<2 ^ U:=fun c _=>qc J c U V fun i hi=>(h5 i hi).1;have hS:=Ca O U Z V J h1.2 h3 h4 h5 h6;obtain ⟨hp,hR⟩:=(CI h0).1 hz;obtain ⟨p1,p2⟩:=gk.1 hp;have hr:=(fw h1.2 hb).1 hR;have hki:k<(l9 z m).length:=by rw[jP];exact hk
 have hzk:=(p2 k hk).1;have hc:(z k).toNat<U:=by omega
 have e1:=(Kl (z k).toNat hc (fun c=>dq J c V) (bR O U Z)).1;have e2:=(Kl (z k).toNat hc (fun c=>dq J c V) (bR O U Z)).2;rw[Nat.mul_comm] at e1;rw[Nat.mul_comm (z k).toNat] at e2;have hg:(l9 z m)[k]=(z k).toNat:=lK hki;have hix:(l9 z m).idxOf (z k).toNat=k:=by rw[← hg];exact tc hr.2.1 hki
 have hm:(z k).toNat ∈ l9 z m:=by rw[← hg];exact List.getElem_mem hki
 have hw:=(hr.2.2.2 k hki).2;rw[hg] at hw;have a1:=za (b:=fun c=>dq J c V) (W:=bR O U Z) hr U _ hm;have a2:=yL (b:=fun c=>dq J c V) (W:=bR O U Z) hr U _ hm;rw[hix] at a1 a2;have b1:=lo_le (n:=U) (b:=fun c=>dq J c V) (w:=bR O U Z) 0 U (z k).toNat
 have b2:=yK (n:=U) (b:=fun c=>dq J c V) (w:=bR O U Z) 0 U (z k).toNat
 rw[Nat.zero_add] at b1 b2;have b1:bR O U Z (2*(z k).toNat)≤_:=b1;have b2:-bR O U Z (2*(z k).toNat+1)≤_:=b2;refine ⟨(z k).toNat,by omega,hc,hw.1,hw.2,by omega,by omega,by omega,by omega,(BZ hS pX hc).2 ⟨_,hR,hix⟩,fun x hx=>?_⟩;obtain ⟨R,hR',he⟩:=(BZ hS pX hc).1 hx;have hr':=(fw h1.2 hb).1 hR';have hm':(z k).toNat ∈ R:=gb hr'.2.1 hr'.1 hr'.2.2.1 hc;have c1:=za (b:=fun c=>dq J c V) (W:=bR O U Z) hr' U _ hm';have c2:=yL (b:=fun c=>dq J c V) (W:=bR O U Z) hr' U _ hm';rw[he] at c1 c2;omega
theorem Nc (c:Nat):(nT O U Z V J c).length≤U:=by
 unfold nT Na;have:=List.length_filter_le (fun k=>ES U (fun c=>dq J c V) (bR O U Z) c k) (List.range U);rwa [List.length_range] at this
theorem Mf {c:Nat} (hd:1≤O) (hc:c<U) (h1:bR O U Z (2*c)≤k) (h2:(k:Int)≤bR O U Z (2*c+1)):Z (c*4+1)-k*O≤Z (c*4+3)∧Z (c*4+2)≤Z (c*4)-k*O:=by
 unfold bR at h1 h2;rw[if_pos wO,if_pos wO,show 2*c / 2=c by omega] at h1;rw[if_pos wO,if_neg wO,show (2*c+1) / 2=c by omega] at h2;have q1:-(k:Int)≤(Z (c*4+3)-Z (c*4+1)) / O:=by omega
 have q2:(k:Int)≤(Z (c*4)-Z (c*4+2)) / O:=by omega
 rw[Int.le_ediv_iff_mul_le wO] at q1 q2;have:-(k:Int)*O=-(k*O):=Int.neg_mul _ _;omega
theorem r6 {L:List Nat} {j:Nat} (hj:j<L.length):∃ x ∈ L,az (gZ L) j=(x:Int)∧x=L[j]:=⟨L[j],List.getElem_mem hj,by rw[xp,List.getD_eq_getElem?_getD,List.getElem?_eq_getElem hj];rfl,rfl⟩
theorem PG {c:Nat} (h:k ∈ nT O U Z V J c):dk (fun j=>decide (az (gZ (nT O U Z V J c)) j=(k:Int))) (nT O U Z V J c).length=true:=by
 obtain ⟨j,hj,he⟩:=List.mem_iff_getElem.1 h;refine (cQ _ _).2 ⟨j,hj,decide_eq_true ?_⟩;obtain ⟨x,_,e,e2⟩:=r6 hj;rw[e,e2,he]
theorem PH {c j:Nat} (hj:j+1<(nT O U Z V J c).length):az (gZ (nT O U Z V J c)) j<az (gZ (nT O U Z V J c)) (j+1):=by
 obtain ⟨x,_,e,e2⟩:=r6 (show j<(nT O U Z V J c).length by omega);obtain ⟨y,_,d,d2⟩:=r6 hj;rw[e,d,e2,d2];have:=(List.pairwise_iff_getElem.1 (Nb (n:=U) (g:=fun c=>dq J c V) (W:=bR O U Z) c)) j (j+1) (by show _<(nT O U Z V J c).length;omega) hj wO;have:(nT O U Z V J c)[j]<(nT O U Z V J c)[j+1]:=this;omega
end
end Go.Eng
end
