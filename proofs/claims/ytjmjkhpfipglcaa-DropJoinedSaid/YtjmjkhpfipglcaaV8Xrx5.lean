/- Drop: the law DropJoined. -/
import Derived.Test.YtjmjkhpfipglcaaV8Xpx7
import Derived.Test.YtjmjkhpfipglcaaV8DrMx13
import Derived.Test.YtjmjkhpfipglcaaV8EngTgx4
import Derived.Test.YtjmjkhpfipglcaaRows
import Derived.Test.YtjmjkhpfipglcaaChecked
import Derived.ProofKit
import Derived.Test.YtjmjkhpfipglcaaV8EngXx4
import Derived.Test.YtjmjkhpfipglcaaProg
import Derived.KernelRfl
section
namespace Go.Eng
open Go.Proofs
set_option linter.unusedVariables false
set_option linter.unusedSimpArgs false
set_option maxRecDepth 100000
theorem b13:((blocksOf (bodyOf Try.f13)).filter fun x=>Nat.beq x.1 0 || Nat.beq x.1 4)=[(0,.loop (part Try.f13 [1,1,1,1,1,1,1,1,0,1,0,0])),(4,.loop (part Try.f13 [1,1,1,1,1,1,1,1,1,0,1,0,0]))]:=by kernel_rfl
theorem b13v:∀ b,(0,b) ∈ blocksOf (bodyOf Try.f13)→b=.loop (part Try.f13 [1,1,1,1,1,1,1,1,0,1,0,0]):=by
 intro b hb
 have hm:(0,b) ∈ ((blocksOf (bodyOf Try.f13)).filter fun x=>Nat.beq x.1 0 || Nat.beq x.1 4):=List.mem_filter.2 ⟨hb,rfl⟩
 rw[b13] at hm;simpa using hm
theorem b13i:∀ b,(4,b) ∈ blocksOf (bodyOf Try.f13)→b=.loop (part Try.f13 [1,1,1,1,1,1,1,1,1,0,1,0,0]):=by
 intro b hb
 have hm:(4,b) ∈ ((blocksOf (bodyOf Try.f13)).filter fun x=>Nat.beq x.1 0 || Nat.beq x.1 4):=List.mem_filter.2 ⟨hb,rfl⟩
 rw[b13] at hm;simpa using hm
theorem b13d:∀ b,(2,b) ∈ blocksOf (part Try.f13 [1,1,1,1,1,1,1,1,0,1,0,0])→b=.loop (part Try.f13 [1,1,1,1,1,1,1,1,0,1,0,0,1,0,0,1,0,1,0,0]):=by
 have:((blocksOf (part Try.f13 [1,1,1,1,1,1,1,1,0,1,0,0])).filter fun x=>Nat.beq x.1 2)=[(2,.loop (part Try.f13 [1,1,1,1,1,1,1,1,0,1,0,0,1,0,0,1,0,1,0,0]))]:=by kernel_rfl
 intro b hb
 have hm:(2,b) ∈ ((blocksOf (part Try.f13 [1,1,1,1,1,1,1,1,0,1,0,0])).filter fun x=>Nat.beq x.1 2):=List.mem_filter.2 ⟨hb,rfl⟩
 rw[this] at hm;simpa using hm
theorem b13k:∀ b,(6,b) ∈ blocksOf (part Try.f13 [1,1,1,1,1,1,1,1,1,0,1,0,0])→b=.loop (part Try.f13 [1,1,1,1,1,1,1,1,1,0,1,0,0,1,0,0,1,1,0,0]):=by
 have:((blocksOf (part Try.f13 [1,1,1,1,1,1,1,1,1,0,1,0,0])).filter fun x=>Nat.beq x.1 6)=[(6,.loop (part Try.f13 [1,1,1,1,1,1,1,1,1,0,1,0,0,1,0,0,1,1,0,0]))]:=by kernel_rfl
 intro b hb
 have hm:(6,b) ∈ ((blocksOf (part Try.f13 [1,1,1,1,1,1,1,1,1,0,1,0,0])).filter fun x=>Nat.beq x.1 6):=List.mem_filter.2 ⟨hb,rfl⟩
 rw[this] at hm;simpa using hm
def zOfL:AV→Nat→Int
 | .slcT _ (.M [.arr _ z _]) _ _ _=>z
 | _=>fun _=>0
def mOfL:AV→Nat
 | .slcT _ _ _ m _=>m
 | _=>0
def fmF:AV→Int→Int
 | .slcT _ (.F g _) _ m _=>fun v=>(mN (fun j=>zOfL (g j)) (fun j=>mOfL (g j)) v m:Int)
 | _=>fun _=>0
def fgF:AV→Int→Int
 | .slcT _ (.F g _) _ m _=>fun v=>cond (exN (fun i=>inN (zOfL (g i)) (mOfL (g i)) v) m) ((fN (fun i=>inN (zOfL (g i)) (mOfL (g i)) v) m 0:Nat):Int) (-1)
 | _=>fun _=>0
def isLs (l:AV):Prop:=∃ m f1 f2,m≤1000∧(∀ i,i<m→f2 i≤1000)∧l=slF m f1 f2
noncomputable def gV (w:Int) (ls ld:Nat) (zs zd:Nat→Int) (sure:Bool):AV:=slF (grL w ls ld zs zd sure (ls+2)).length (el1 (grL w ls ld zs zd sure (ls+2))) (el2 (grL w ls ld zs zd sure (ls+2)))
theorem exN_snoc (f:Nat→Bool) (d:Nat):exN f (d+1)=(exN f d || f d):=by
 rw[Bool.eq_iff_iff,Bool.or_eq_true,exN_iff,exN_iff]
 constructor
 · rintro ⟨i,h1,h2⟩
   by_cases e:i=d
   · subst e;exact .inr h2
   · exact .inl ⟨i,by omega,h2⟩
 · rintro (⟨i,h1,h2⟩ | h)
   · exact ⟨i,by omega,h2⟩
   · exact ⟨d,by omega,h⟩
section
variable (n:Nat) (w:Int) (ls ld:Nat) (zs zd:Nat→Int) (H:Heap) (a b p q e1 e2:Int) (sure:Bool)
theorem gV_ls (h:chkB w ls ld zs zd=0):isLs (gV w ls ld zs zd sure):=by
 have hc:=chk_drops h
 have h1:=grL_len w ls ld zs zd sure (ls+2)
 refine ⟨_,_,_,by omega,fun i hi=>?_,rfl⟩
 obtain ⟨g,g1,_⟩:=gr_get (sure:=sure) h
 rw[← (g1 i hi).2.2.2.2]
 have:(jnL w ls ld zs zd sure (g i)).length≤ls+2:=plL_len _ _
 omega
theorem fm_gV (h:chkB w ls ld zs zd=0) {v:Int} (hv:-2≤v∧v<ls):fmF (gV w ls ld zs zd sure) v=if thr ld zd v=true then 1 else 0:=by
 have:=gr_many (sure:=sure) h hv
 show ((mN (el1 (grL w ls ld zs zd sure (ls+2))) (el2 (grL w ls ld zs zd sure (ls+2))) v (grL w ls ld zs zd sure (ls+2)).length:Nat):Int)=_
 rw[this]
 split<;>rfl
theorem fg_gV (h:chkB w ls ld zs zd=0) {v:Int} (hv:-2≤v∧v<ls) (ht:thr ld zd v=true):fgF (gV w ls ld zs zd sure) v=(gpI w ls ld zs zd sure v:Int):=by
 obtain ⟨he,_⟩:=gpI_ok (sure:=sure) h hv ht
 show cond (exN (fun i=>inN (el1 (grL w ls ld zs zd sure (ls+2)) i) (el2 (grL w ls ld zs zd sure (ls+2)) i) v) (grL w ls ld zs zd sure (ls+2)).length) _ _=_
 rw[he];rfl
theorem ct53 {k:Nat} {t:Ctr} (ht:t.Ok (cd (k+1))):(ctG t 53 (gLv isLs fmF)).Ok (cd (k+1)):=by
 refine ctG_ok ht (fun args x v hg hp H=>?_)
 unfold gLv at hg
 split at hg
 · simp only[nP] at hg
   obtain ⟨rfl,rfl⟩:=hg
   obtain ⟨m,f1,f2,hm,h2,rfl⟩:=hp
   exact c53 _ H m f1 f2 _ hm h2
 · cases hg
theorem ct54 {k:Nat} {t:Ctr} (ht:t.Ok (cd (k+2))):(ctG t 54 (gLv isLs fgF)).Ok (cd (k+2)):=by
 refine ctG_ok ht (fun args x v hg hp H=>?_)
 unfold gLv at hg
 split at hg
 · simp only[nP] at hg
   obtain ⟨rfl,rfl⟩:=hg
   obtain ⟨m,f1,f2,hm,h2,rfl⟩:=hp
   exact c54 _ H m f1 f2 _ hm h2
 · cases hg
noncomputable def fG (w:Int) (ls ld:Nat) (zs zd:Nat→Int) (p q e1 e2:Int):Frm:=fr13 (grL w ls ld zs zd true (ls+2)).length (grL w ls ld zs zd false (ls+2)).length (el1 (grL w ls ld zs zd true (ls+2))) (el1 (grL w ls ld zs zd false (ls+2))) (el2 (grL w ls ld zs zd true (ls+2))) (el2 (grL w ls ld zs zd false (ls+2))) p q e1 e2
noncomputable def fGb (w:Int) (ls ld:Nat) (zs zd:Nat→Int) (p q e1 e2:Int):Frm:=fr13b (grL w ls ld zs zd true (ls+2)).length (grL w ls ld zs zd false (ls+2)).length (el1 (grL w ls ld zs zd true (ls+2))) (el1 (grL w ls ld zs zd false (ls+2))) (el2 (grL w ls ld zs zd true (ls+2))) (el2 (grL w ls ld zs zd false (ls+2))) p q e1 e2
noncomputable def thD (zd:Nat→Int) (v:Int) (d:Nat):Bool:=ltI v (Int.ofNat 0) || exN (fun i=>decide (zd (i*3)=v)) d
theorem thD_thr (v:Int):thD zd v ld=thr ld zd v:=by unfold thD thr;rw[ltI_eq];rfl
theorem l13d (h:chkB w ls ld zs zd=0) (v:Int):exec (cxD (n+20) 13 237) (.block 2 (.loop (part Try.f13 [1,1,1,1,1,1,1,1,0,1,0,0,1,0,0,1,0,1,0,0]))) (fG w ls ld zs zd p q e1 e2++[(15,.int .i64 v),(16,.bool (ltI v (Int.ofNat 0))),(17,.int .i64 0)]) (lv9 w ls ld zs zd a b::H)=some (.normal,fG w ls ld zs zd p q e1 e2++[(15,.int .i64 v),(16,.bool (thr ld zd v)),(17,.int .i64 (Int.ofNat ld)),(81,.bool false)],lv9 w ls ld zs zd a b::H):=by
 have ck:=chk_ok h
 have h0:thD zd v 0=ltI v (Int.ofNat 0):=by
  unfold thD;rw[exN_off (fun i hi=>absurd hi (by omega)),Bool.or_false]
 have:=forX (n:=n+20) (f:=13) (nt:=237) (c:=part Try.f13 [1,1,1,1,1,1,1,1,0,1,0,0,1,0,0,1,0,1,0,0]) 2 (fun d=>fG w ls ld zs zd p q e1 e2++[(15,.int .i64 v),(16,.bool (thD zd v d)),(17,.int .i64 (d:Int))]) (fun _=>lv9 w ls ld zs zd a b::H) ld (fG w ls ld zs zd p q e1 e2++[(15,.int .i64 v),(16,.bool (thr ld zd v)),(17,.int .i64 (Int.ofNat ld)),(81,.bool false)],lv9 w ls ld zs zd a b::H) (by omega) (fun d hd=>?_) ?_
 · rw[h0] at this
   exact this
 · have ej:addI .i64 (d:Int) (Int.ofNat 1)=((d+1:Nat):Int):=by rw[addI_eq,show Int.ofNat 1=1 from rfl];exact wr_64 (by omega) (by omega)
   have ei:idO 0 (d:Int) 3=d*3:=by rw[idO_eq];omega
   have hs:thD zd v (d+1)=(thD zd v d || decide (zd (d*3)=v)):=by unfold thD;rw[exN_snoc,Bool.or_assoc]
   refine ex_all (t13d (n:=n) (w:=w) (ls:=ls) (ld:=ld) (zs:=zs) (zd:=zd) (H:=H) (a:=a) (b:=b) (v:=v) (d:=(d:Int)) (t:=thD zd v d) (k:=(grL w ls ld zs zd true (ls+2)).length) (l:=(grL w ls ld zs zd false (ls+2)).length) (f1:=el1 (grL w ls ld zs zd true (ls+2))) (g1:=el1 (grL w ls ld zs zd false (ls+2))) (f2:=el2 (grL w ls ld zs zd true (ls+2))) (g2:=el2 (grL w ls ld zs zd false (ls+2))) (p:=p) (q:=q) (e1:=e1) (e2:=e2)) (il_no0 (n+20)) (noBT_ok _ _) (noRT_ok _ _) ?_
   rw[ej,ei]
   refine Tr.all_ite (fun hc=>?_) (fun hc=>?_)
   · refine Tr.all_ite (fun hc=>?_) (fun hc=>?_)
     · rw[hc,Bool.true_or] at hs
       refine Tr.all_ok ⟨rfl,?_⟩
       rw[hs];rfl
     · rw[hc,Bool.false_or,← eqI_dec] at hs
       refine Tr.all_req (by rw[inI_t];omega) (Tr.all_req (by rw[ltN_t,mulO_eq];omega) (Tr.all_ok ⟨rfl,?_⟩))
       rw[hs];rfl
   · exfalso;rw[ltI_f,ofNat_cast] at hc;omega
 · obtain ⟨x,h1,rfl⟩:=ex_all (Q:=fun x=>x=(.exit 2,fG w ls ld zs zd p q e1 e2++[(15,.int .i64 v),(16,.bool (thr ld zd v)),(17,.int .i64 (Int.ofNat ld)),(81,.bool false)],lv9 w ls ld zs zd a b::H)) (t13d (n:=n) (w:=w) (ls:=ls) (ld:=ld) (zs:=zs) (zd:=zd) (H:=H) (a:=a) (b:=b) (v:=v) (d:=Int.ofNat ld) (t:=thr ld zd v) (k:=(grL w ls ld zs zd true (ls+2)).length) (l:=(grL w ls ld zs zd false (ls+2)).length) (f1:=el1 (grL w ls ld zs zd true (ls+2))) (g1:=el1 (grL w ls ld zs zd false (ls+2))) (f2:=el2 (grL w ls ld zs zd true (ls+2))) (g2:=el2 (grL w ls ld zs zd false (ls+2))) (p:=p) (q:=q) (e1:=e1) (e2:=e2)) (il_no0 (n+20)) (noBT_ok _ _) (noRT_ok _ _) (by
    refine Tr.all_ite (fun hc=>?_) (fun hc=>?_)
    · exfalso;rw[ltI_t] at hc;omega
    · exact Tr.all_ok rfl)
   rw[thD_thr]
   exact h1
theorem l13v (h:chkB w ls ld zs zd=0):exec (cxD (n+20) 13 237) (.block 0 (.loop (part Try.f13 [1,1,1,1,1,1,1,1,0,1,0,0]))) (fG w ls ld zs zd p q e1 e2++[(15,.int .i64 (-2))]) (lv9 w ls ld zs zd a b::H)=some (.normal,fG w ls ld zs zd p q e1 e2++[(15,.int .i64 (Int.ofNat ls)),(72,.bool false)],lv9 w ls ld zs zd a b::H):=by
 have ck:=chk_ok h
 have:=forX (n:=n+20) (f:=13) (nt:=237) (c:=part Try.f13 [1,1,1,1,1,1,1,1,0,1,0,0]) 0 (fun j=>fG w ls ld zs zd p q e1 e2++[(15,.int .i64 ((j:Int)-2))]) (fun _=>lv9 w ls ld zs zd a b::H) (ls+2) (fG w ls ld zs zd p q e1 e2++[(15,.int .i64 (Int.ofNat ls)),(72,.bool false)],lv9 w ls ld zs zd a b::H) (by omega) (fun j hj=>?_) ?_
 · exact this
 · have ej : addI .i64 ((j:Int)-2) (Int.ofNat 1)=((j+1:Nat):Int)-2:=by rw[addI_eq,show Int.ofNat 1=1 from rfl,wr_64 (by omega) (by omega)];omega
   have hil:(il (ctG noCt 53 (gLv isLs fmF)) (n+20) 0).Ok (cd (n+20)):=il_ok _ (n+20) 0 (fun k=>by
    have:=ct53 (k:=n+19+k) (noCt_ok _)
    rwa [show n+19+k+1=n+20+k by omega] at this)
   have v1:=fm_gV w ls ld zs zd true h (v:=(j:Int)-2) ⟨by omega,by omega⟩
   have v2:=fm_gV w ls ld zs zd false h (v:=(j:Int)-2) ⟨by omega,by omega⟩
   have s1:=gV_ls w ls ld zs zd true h
   have s2:=gV_ls w ls ld zs zd false h
   unfold gV at v1 v2 s1 s2
   refine ex_all (t13v (n:=n) (w:=w) (ls:=ls) (ld:=ld) (zs:=zs) (zd:=zd) (H:=H) (a:=a) (b:=b) (v:=(j:Int)-2) (t:=thr ld zd ((j:Int)-2)) (P:=isLs) (fm:=fmF) (k:=(grL w ls ld zs zd true (ls+2)).length) (l:=(grL w ls ld zs zd false (ls+2)).length) (f1:=el1 (grL w ls ld zs zd true (ls+2))) (g1:=el1 (grL w ls ld zs zd false (ls+2))) (f2:=el2 (grL w ls ld zs zd true (ls+2))) (g2:=el2 (grL w ls ld zs zd false (ls+2))) (p:=p) (q:=q) (e1:=e1) (e2:=e2)) hil (blkE_ok (noBT_ok _ _) b13d (fun x hx=>by rw[← Tr.ok_some hx];simp only[Res.st,hints_eq];exact l13d n w ls ld zs zd H a b p q e1 e2 h ((j:Int)-2))) (noRT_ok _ _) ?_
   rw[ej,v1,v2]
   refine Tr.all_ite (fun hc=>?_) (fun hc=>?_)
   · refine Tr.all_reqP ⟨rfl,rfl⟩ (Tr.all_reqP s1 (Tr.all_reqP s2 (Tr.all_ite (fun hc=>?_) (fun hc=>?_))))
     · exfalso;rw[notB_t,eqI_f] at hc;exact hc rfl
     · refine Tr.all_reqP s2 (Tr.all_ite (fun hc=>?_) (fun hc=>?_))
       · exfalso
         rw[notB_t,eqB_eq,eqI_dec] at hc
         revert hc
         cases thr ld zd ((j:Int)-2)<;>simp
       · refine Tr.all_reqP s2 (Tr.all_ite (fun hc=>?_) (fun hc=>?_))
         · exfalso
           rw[ltI_t,show Int.ofNat 1=1 from rfl] at hc
           split at hc<;>omega
         · exact Tr.all_ok ⟨rfl,rfl⟩
   · exfalso;rw[ltI_f,ofNat_cast] at hc;omega
 · obtain ⟨x,h1,rfl⟩:=ex_all (Q:=fun x=>x=(.exit 0,fG w ls ld zs zd p q e1 e2++[(15,.int .i64 (Int.ofNat ls)),(72,.bool false)],lv9 w ls ld zs zd a b::H)) (t13ve (n:=n) (w:=w) (ls:=ls) (ld:=ld) (zs:=zs) (zd:=zd) (H:=H) (a:=a) (b:=b) (v:=Int.ofNat ls) (k:=(grL w ls ld zs zd true (ls+2)).length) (l:=(grL w ls ld zs zd false (ls+2)).length) (f1:=el1 (grL w ls ld zs zd true (ls+2))) (g1:=el1 (grL w ls ld zs zd false (ls+2))) (f2:=el2 (grL w ls ld zs zd true (ls+2))) (g2:=el2 (grL w ls ld zs zd false (ls+2))) (p:=p) (q:=q) (e1:=e1) (e2:=e2)) (il_no0 (n+20)) (stopB_ok (noBT_ok _ _) 2) (noRT_ok _ _) (by
    refine Tr.all_ite (fun hc=>?_) (fun hc=>?_)
    · exfalso;rw[ltI_t] at hc;omega
    · exact Tr.all_ok rfl)
   rw[show (((ls+2:Nat):Int))-2=Int.ofNat ls by rw[ofNat_cast];omega]
   exact h1
theorem l13k (h:chkB w ls ld zs zd=0) (i:Nat) (hi:i<(grL w ls ld zs zd true (ls+2)).length):exec (cxD (n+20) 13 237) (.block 6 (.loop (part Try.f13 [1,1,1,1,1,1,1,1,1,0,1,0,0,1,0,0,1,1,0,0]))) (fGb w ls ld zs zd p q e1 e2++[(18,.int .i64 (i:Int)),(19,.int .i64 1)]) (lv9 w ls ld zs zd a b::H)=some (.normal,fGb w ls ld zs zd p q e1 e2++[(18,.int .i64 (i:Int)),(19,.int .i64 ((el2 (grL w ls ld zs zd true (ls+2)) i-1:Nat)+1:Int)),(154,.bool false)],lv9 w ls ld zs zd a b::H):=by
 have ck:=chk_ok h
 have hc:=chk_drops h
 have hlen:=grL_len w ls ld zs zd true (ls+2)
 obtain ⟨g,g1,g2,g3⟩:=gr_get (sure:=true) h
 obtain ⟨k1,k2,k3,k4,k5⟩:=g1 i hi
 have hpos:=jn_pos (w:=w) (ld:=ld) (zs:=zs) (zd:=zd) (sure:=true) k1
 have hlj:(jnL w ls ld zs zd true (g i)).length≤ls+2:=plL_len _ _
 have s2:=gV_ls w ls ld zs zd false h
 unfold gV at s2
 have hhd:el1 (grL w ls ld zs zd true (ls+2)) i 0=g i:=by rw[← k4];exact k3
 have hmem:∀ j,j<el2 (grL w ls ld zs zd true (ls+2)) i→fgF (slF (grL w ls ld zs zd false (ls+2)).length (el1 (grL w ls ld zs zd false (ls+2))) (el2 (grL w ls ld zs zd false (ls+2)))) (el1 (grL w ls ld zs zd true (ls+2)) i j)=fgF (slF (grL w ls ld zs zd false (ls+2)).length (el1 (grL w ls ld zs zd false (ls+2))) (el2 (grL w ls ld zs zd false (ls+2)))) (g i):=fun j hj=>by
  rw[← k5] at hj
  rw[← k4]
  have hm:=lst_mem hj
  generalize lstO (jnL w ls ld zs zd true (g i)) j=x at *
  obtain ⟨x1,x2⟩:=(jn_iff k1).1 hm
  have tx:thr ld zd x=true:=by
   by_cases e:x=g i
   · rw[e];exact k2
   · exact jn_thr h k1 hm e
  have a1:=fg_gV w ls ld zs zd false h x1 tx
  have a2:=fg_gV w ls ld zs zd false h k1 k2
  unfold gV at a1 a2
  rw[a1,a2,(gpI_iff (sure:=false) h k1 x1 k2 tx).2 (jn_mono h k1 hm)]
 have hlt:∀ j,0<j→j<el2 (grL w ls ld zs zd true (ls+2)) i→el1 (grL w ls ld zs zd true (ls+2)) i (j-1)<el1 (grL w ls ld zs zd true (ls+2)) i j:=fun j h0 hj=>by
  rw[← k5] at hj
  rw[← k4]
  exact jn_lt (by omega) hj
 rw[k5] at hpos hlj
 have ei:idO 0 (i:Int) 1=i:=by rw[idO_eq];omega
 have hil:(il (ctG noCt 54 (gLv isLs fgF)) (n+20) 0).Ok (cd (n+20)):=il_ok _ (n+20) 0 (fun k=>by
  have:=ct54 (k:=n+18+k) (noCt_ok _)
  rwa [show n+18+k+2=n+20+k by omega] at this)
 have:=forX (n:=n+20) (f:=13) (nt:=237) (c:=part Try.f13 [1,1,1,1,1,1,1,1,1,0,1,0,0,1,0,0,1,1,0,0]) 6 (fun j=>fGb w ls ld zs zd p q e1 e2++[(18,.int .i64 (i:Int)),(19,.int .i64 ((j:Int)+1))]) (fun _=>lv9 w ls ld zs zd a b::H) (el2 (grL w ls ld zs zd true (ls+2)) i-1) (fGb w ls ld zs zd p q e1 e2++[(18,.int .i64 (i:Int)),(19,.int .i64 ((el2 (grL w ls ld zs zd true (ls+2)) i-1:Nat)+1:Int)),(154,.bool false)],lv9 w ls ld zs zd a b::H) (by omega) (fun j hj=>?_) ?_
 · exact this
 · have ej:addI .i64 ((j:Int)+1) (Int.ofNat 1)=((j+1:Nat):Int)+1:=by rw[addI_eq,show Int.ofNat 1=1 from rfl,wr_64 (by omega) (by omega)];omega
   have es:subI .i64 ((j:Int)+1) (Int.ofNat 1)=(j:Int):=by rw[subI_eq,show Int.ofNat 1=1 from rfl,wr_64 (by omega) (by omega)];omega
   have e3:idO 0 ((j:Int)+1) 1=j+1:=by rw[idO_eq];omega
   have e4:idO 0 (j:Int) 1=j:=by rw[idO_eq];omega
   have v1:=hmem (j+1) (by omega)
   have v2:=hlt (j+1) (by omega) (by omega)
   rw[Nat.add_sub_cancel] at v2
   refine ex_all (t13k (n:=n) (w:=w) (ls:=ls) (ld:=ld) (zs:=zs) (zd:=zd) (H:=H) (a:=a) (b:=b) (i:=(i:Int)) (j:=(j:Int)+1) (P:=isLs) (fg:=fgF) (k:=(grL w ls ld zs zd true (ls+2)).length) (l:=(grL w ls ld zs zd false (ls+2)).length) (f1:=el1 (grL w ls ld zs zd true (ls+2))) (g1:=el1 (grL w ls ld zs zd false (ls+2))) (f2:=el2 (grL w ls ld zs zd true (ls+2))) (g2:=el2 (grL w ls ld zs zd false (ls+2))) (p:=p) (q:=q) (e1:=e1) (e2:=e2)) hil (noBT_ok _ _) (noRT_ok _ _) ?_
   rw[ej,es,e3,e4,ei,hhd,v1]
   generalize fgF _ (g i)=G
   refine Tr.all_req (by rw[inI_t];omega) (Tr.all_req (by rw[ltN_t];omega) (Tr.all_ite (fun hc=>?_) (fun hc=>?_)))
   · refine Tr.all_req (by rw[inI_t];omega) (Tr.all_req (by rw[ltN_t];omega) (Tr.all_req (by rw[inI_t];omega) (Tr.all_req (by rw[ltN_t];omega) (Tr.all_req (by rw[inI_t];omega) (Tr.all_req (by rw[ltN_t];omega) (Tr.all_req (by rw[inI_t];omega) (Tr.all_req (by rw[ltN_t];omega) (Tr.all_ite (fun hc=>?_) (fun hc=>?_)))))))))
     · exfalso;rw[leI_t] at hc;omega
     · refine Tr.all_req (by rw[inI_t];omega) (Tr.all_req (by rw[ltN_t];omega) (Tr.all_req (by rw[inI_t];omega) (Tr.all_req (by rw[ltN_t];omega) (Tr.all_reqP s2 (Tr.all_req (by rw[inI_t];omega) (Tr.all_req (by rw[ltN_t];omega) (Tr.all_req (by rw[inI_t,show Int.ofNat 0=0 from rfl];omega) (Tr.all_req (by rw[ltN_t];omega) (Tr.all_reqP s2 (Tr.all_ite (fun hc=>?_) (fun hc=>?_)))))))))))
       · exfalso;rw[notB_t,eqI_f] at hc;exact hc rfl
       · exact Tr.all_ok ⟨rfl,rfl⟩
   · exfalso;rw[ltI_f,ofNat_cast] at hc;omega
 · obtain ⟨x,h1,rfl⟩:=ex_all (Q:=fun x=>x=(.exit 6,fGb w ls ld zs zd p q e1 e2++[(18,.int .i64 (i:Int)),(19,.int .i64 ((el2 (grL w ls ld zs zd true (ls+2)) i-1:Nat)+1:Int)),(154,.bool false)],lv9 w ls ld zs zd a b::H)) (t13k (n:=n) (w:=w) (ls:=ls) (ld:=ld) (zs:=zs) (zd:=zd) (H:=H) (a:=a) (b:=b) (i:=(i:Int)) (j:=((el2 (grL w ls ld zs zd true (ls+2)) i-1:Nat)+1:Int)) (P:=isLs) (fg:=fgF) (k:=(grL w ls ld zs zd true (ls+2)).length) (l:=(grL w ls ld zs zd false (ls+2)).length) (f1:=el1 (grL w ls ld zs zd true (ls+2))) (g1:=el1 (grL w ls ld zs zd false (ls+2))) (f2:=el2 (grL w ls ld zs zd true (ls+2))) (g2:=el2 (grL w ls ld zs zd false (ls+2))) (p:=p) (q:=q) (e1:=e1) (e2:=e2)) hil (noBT_ok _ _) (noRT_ok _ _) (by
    rw[ei]
    refine Tr.all_req (by rw[inI_t];omega) (Tr.all_req (by rw[ltN_t];omega) (Tr.all_ite (fun hc=>?_) (fun hc=>?_)))
    · exfalso;rw[ltI_t,ofNat_cast] at hc;omega
    · exact Tr.all_ok rfl)
   exact h1
theorem l13i (h:chkB w ls ld zs zd=0):exec (cxD (n+20) 13 237) (.block 4 (.loop (part Try.f13 [1,1,1,1,1,1,1,1,1,0,1,0,0]))) (fGb w ls ld zs zd p q e1 e2++[(18,.int .i64 0)]) (lv9 w ls ld zs zd a b::H)=some (.normal,fGb w ls ld zs zd p q e1 e2++[(18,.int .i64 (Int.ofNat (grL w ls ld zs zd true (ls+2)).length)),(119,.bool false)],lv9 w ls ld zs zd a b::H):=by
 have ck:=chk_ok h
 have hlen:=grL_len w ls ld zs zd true (ls+2)
 obtain ⟨g,g1,g2,g3⟩:=gr_get (sure:=true) h
 have hf:∀ i,i<(grL w ls ld zs zd true (ls+2)).length→el1 (grL w ls ld zs zd true (ls+2)) i 0=g i∧0<el2 (grL w ls ld zs zd true (ls+2)) i:=fun i hi=>by
  obtain ⟨k1,k2,k3,k4,k5⟩:=g1 i hi
  have hpos:=jn_pos (w:=w) (ld:=ld) (zs:=zs) (zd:=zd) (sure:=true) k1
  rw[← k4,← k5]
  exact ⟨k3,hpos⟩
 have:=forX (n:=n+20) (f:=13) (nt:=237) (c:=part Try.f13 [1,1,1,1,1,1,1,1,1,0,1,0,0]) 4 (fun i=>fGb w ls ld zs zd p q e1 e2++[(18,.int .i64 (i:Int))]) (fun _=>lv9 w ls ld zs zd a b::H) (grL w ls ld zs zd true (ls+2)).length (fGb w ls ld zs zd p q e1 e2++[(18,.int .i64 (Int.ofNat (grL w ls ld zs zd true (ls+2)).length)),(119,.bool false)],lv9 w ls ld zs zd a b::H) (by omega) (fun i hi=>?_) ?_
 · exact this
 · have ej:addI .i64 (i:Int) (Int.ofNat 1)=((i+1:Nat):Int):=by rw[addI_eq,show Int.ofNat 1=1 from rfl,wr_64 (by omega) (by omega)];omega
   have es:0<i→subI .i64 (i:Int) (Int.ofNat 1)=((i-1:Nat):Int):=fun x=>by rw[subI_eq,show Int.ofNat 1=1 from rfl,wr_64 (by omega) (by omega)];omega
   have ei:idO 0 (i:Int) 1=i:=by rw[idO_eq];omega
   have e4:idO 0 ((i-1:Nat):Int) 1=i-1:=by rw[idO_eq];omega
   obtain ⟨f1,f2⟩:=hf i hi
   have l6:=l13k n w ls ld zs zd H a b p q e1 e2 h i hi
   refine ex_all (t13i (n:=n) (w:=w) (ls:=ls) (ld:=ld) (zs:=zs) (zd:=zd) (H:=H) (a:=a) (b:=b) (i:=(i:Int)) (j2:=((el2 (grL w ls ld zs zd true (ls+2)) i-1:Nat)+1:Int)) (k:=(grL w ls ld zs zd true (ls+2)).length) (l:=(grL w ls ld zs zd false (ls+2)).length) (f1:=el1 (grL w ls ld zs zd true (ls+2))) (g1:=el1 (grL w ls ld zs zd false (ls+2))) (f2:=el2 (grL w ls ld zs zd true (ls+2))) (g2:=el2 (grL w ls ld zs zd false (ls+2))) (p:=p) (q:=q) (e1:=e1) (e2:=e2)) (il_no0 (n+20)) (blkE_ok (noBT_ok _ _) b13k (fun x hx=>by rw[← Tr.ok_some hx];simp only[Res.st,hints_eq];exact l6)) (noRT_ok _ _) ?_
   rw[ej,ei,f1]
   refine Tr.all_ite (fun hc=>?_) (fun hc=>?_)
   · refine Tr.all_req (by rw[inI_t];omega) (Tr.all_req (by rw[ltN_t];omega) (Tr.all_ite (fun hc=>?_) (fun hc=>?_)))
     · exfalso;rw[eqI_t,ofNat_cast,show Int.ofNat 0=0 from rfl] at hc;omega
     · refine Tr.all_ite (fun hc=>?_) (fun hc=>?_)
       · rw[ltI_t,show Int.ofNat 0=0 from rfl] at hc
         obtain ⟨f3,f4⟩:=hf (i-1) (by omega)
         have f5:=g2 (i-1) i (by omega) hi
         rw[es (by omega),e4,f3]
         refine Tr.all_req (by rw[inI_t];omega) (Tr.all_req (by rw[ltN_t];omega) (Tr.all_req (by rw[inI_t,show Int.ofNat 0=0 from rfl];omega) (Tr.all_req (by rw[ltN_t];omega) (Tr.all_req (by rw[inI_t];omega) (Tr.all_req (by rw[ltN_t];omega) (Tr.all_req (by rw[inI_t,show Int.ofNat 0=0 from rfl];omega) (Tr.all_req (by rw[ltN_t];omega) (Tr.all_ite (fun hc=>?_) (fun hc=>?_)))))))))
         · exfalso;rw[leI_t] at hc;omega
         · exact Tr.all_reqP ⟨rfl,rfl⟩ (Tr.all_ok ⟨rfl,rfl⟩)
       · exact Tr.all_reqP ⟨rfl,rfl⟩ (Tr.all_ok ⟨rfl,rfl⟩)
   · exfalso;rw[ltI_f,ofNat_cast] at hc;omega
 · obtain ⟨x,h1,rfl⟩:=ex_all (Q:=fun x=>x=(.exit 4,fGb w ls ld zs zd p q e1 e2++[(18,.int .i64 (Int.ofNat (grL w ls ld zs zd true (ls+2)).length)),(119,.bool false)],lv9 w ls ld zs zd a b::H)) (t13ie (n:=n) (w:=w) (ls:=ls) (ld:=ld) (zs:=zs) (zd:=zd) (H:=H) (a:=a) (b:=b) (i:=Int.ofNat (grL w ls ld zs zd true (ls+2)).length) (k:=(grL w ls ld zs zd true (ls+2)).length) (l:=(grL w ls ld zs zd false (ls+2)).length) (f1:=el1 (grL w ls ld zs zd true (ls+2))) (g1:=el1 (grL w ls ld zs zd false (ls+2))) (f2:=el2 (grL w ls ld zs zd true (ls+2))) (g2:=el2 (grL w ls ld zs zd false (ls+2))) (p:=p) (q:=q) (e1:=e1) (e2:=e2)) (il_no0 (n+20)) (stopB_ok (noBT_ok _ _) 6) (noRT_ok _ _) (by
    refine Tr.all_ite (fun hc=>?_) (fun hc=>?_)
    · exfalso;rw[ltI_t] at hc;omega
    · exact Tr.all_ok rfl)
   exact h1
theorem way_kind (he:plE w ls ld zs zd p q=0):∃ e A,(∀ k H,cd (k+16) (.fn 29) [bathA w ls zs ld zd,.int .i64 p,.int .i64 q,.bool sure] H=some (.tup [A,.int .i64 e],H))∧((e=5∧stZ w ls ld zs zd sure q (p+2).toNat=0)∨(e=0∧0<stZ w ls ld zs zd sure q (p+2).toNat)):=by
 rcases way_full w ls ld zs zd p q sure he with ⟨z0,hw⟩ | ⟨M,y,hM,hy,hw⟩
 · exact ⟨5,_,hw,.inl ⟨rfl,z0⟩⟩
 · exact ⟨0,_,hw,.inr ⟨rfl,by omega⟩⟩
theorem c13 (ha:0≤a∧a≤255) (hbb:0≤b∧b≤255):cd (n+21) (.fn 13) [bathA w ls zs ld zd,.agg (.I .u8 [a,b])] H=some (.bool true,H):=by
 have c20:∀ k:Nat,(ctG (ctG noCt 16 g16) 20 (g20 (bathA w ls zs ld zd) (chkB w ls ld zs zd))).Ok (cd (n+18+k)):=fun k=>by
  have h1:(ctG noCt 16 g16).Ok (cd (n+17+k+1)):=ctW (noCt_ok _)
  have:=ct20 (n+16) w ls ld zs zd k _ (by rw[show n+16+2+k=n+17+k+1 by omega];exact h1)
  rwa [show n+16+2+k=n+18+k by omega] at this
 by_cases h:chkB w ls ld zs zd=0
 · have ck:=chk_ok h
   obtain ⟨t1,t2,t3⟩:=two_ok (ls:=ls) (a:=a) (b:=b) (by omega) ha.1 hbb.1
   have e0:=(pl_ok h t1 t2 t3).1
   have c43:∀ (k:Nat) {t:Ctr},t.Ok (cd (n+18+k))→(ctG t 43 (g43t (bathA w ls zs ld zd) a b (plN ls a) (twoP ls a b))).Ok (cd (n+18+k)):=fun k t ht=>by
    rw[show n+18+k=n+15+k+3 by omega] at ht ⊢
    exact ct43 w ls ld zs zd a b _ _ ht (by omega) ha hbb rfl rfl
   generalize plN ls a=P at *
   generalize twoP ls a b=Q at *
   obtain ⟨e1,A1,w1,r1⟩:=way_kind w ls ld zs zd P Q true e0
   obtain ⟨e2,A2,w2,r2⟩:=way_kind w ls ld zs zd P Q false e0
   have f1:=fm_gV w ls ld zs zd false h t1
   have f2:=fm_gV w ls ld zs zd false h t2
   have s1:=gV_ls w ls ld zs zd true h
   have s2:=gV_ls w ls ld zs zd false h
   -- with a way both are there
   have hth:∀ s,0<stZ w ls ld zs zd s Q (P+2).toNat→thr ld zd P=true∧thr ld zd Q=true:=fun s hz=>by
    have m1:P ∈ jnL w ls ld zs zd s Q:=(jn_iff t2).2 ⟨t1,hz⟩
    have m2:Q ∈ jnL w ls ld zs zd s P:=(jn_iff t1).2 ⟨t2,st_sym h t2 t1 hz⟩
    exact ⟨jn_thr h t2 m1 t3,jn_thr h t1 m2 (fun x=>t3 x.symm)⟩
   have hmo:0<stZ w ls ld zs zd true Q (P+2).toNat→0<stZ w ls ld zs zd false Q (P+2).toNat:=fun hz =>
    ((jn_iff t2).1 (jn_mono h t2 ((jn_iff t2).2 ⟨t1,hz⟩))).2
   have hg:∀ s,thr ld zd P=true→thr ld zd Q=true→(fgF (gV w ls ld zs zd s) P=fgF (gV w ls ld zs zd s) Q↔0<stZ w ls ld zs zd s Q (P+2).toNat):=fun s a1 a2=>by
    rw[fg_gV w ls ld zs zd s h t1 a1,fg_gV w ls ld zs zd s h t2 a2,Int.ofNat_inj,gpI_iff h t1 t2 a1 a2,jn_iff t1]
    constructor
    · rintro ⟨_,x⟩;exact st_sym h t1 t2 x
    · intro x;exact ⟨t2,st_sym h t2 t1 x⟩
   have hct:∀ k,(ctG (ctG (ctG (ctG (ctG (ctG (ctG noCt 16 g16) 20 (g20 (bathA w ls zs ld zd) (chkB w ls ld zs zd))) 43 (g43t (bathA w ls zs ld zd) a b P Q)) 36 (g36s (bathA w ls zs ld zd) (gV w ls ld zs zd true) (gV w ls ld zs zd false))) 29 (g29s (bathA w ls zs ld zd) A1 A2 P Q e1 e2)) 53 (gLv isLs fmF)) 54 (gLv isLs fgF)).Ok (cd (n+18+k)):=fun k=>by
    have g:=c43 k (c20 k)
    have g36:(ctG (ctG (ctG (ctG noCt 16 g16) 20 (g20 (bathA w ls zs ld zd) (chkB w ls ld zs zd))) 43 (g43t (bathA w ls zs ld zd) a b P Q)) 36 (g36s (bathA w ls zs ld zd) (gV w ls ld zs zd true) (gV w ls ld zs zd false))).Ok (cd (n+18+k)):=ctG_ok g (fun args x v hg hp H=>by
     unfold g36s at hg
     split at hg
     · rename_i s
       simp only[nP] at hg
       obtain ⟨rfl,rfl⟩:=hg
       obtain rfl:=hp
       have:=c36 (n+2+k) w ls ld zs zd H s
       rw[gpA_groA,show n+2+k+16=n+18+k by omega] at this
       unfold groA at this
       rw[if_neg (fun x=>x h)] at this
       cases s<;>exact this
     · cases hg)
    have g29:(ctG (ctG (ctG (ctG (ctG noCt 16 g16) 20 (g20 (bathA w ls zs ld zd) (chkB w ls ld zs zd))) 43 (g43t (bathA w ls zs ld zd) a b P Q)) 36 (g36s (bathA w ls zs ld zd) (gV w ls ld zs zd true) (gV w ls ld zs zd false))) 29 (g29s (bathA w ls zs ld zd) A1 A2 P Q e1 e2)).Ok (cd (n+18+k)):=ctG_ok g36 (fun args x v hg hp H=>by
     unfold g29s at hg
     split at hg
     · rename_i s
       simp only[nP] at hg
       obtain ⟨rfl,rfl⟩:=hg
       obtain ⟨rfl,rfl,rfl⟩:=hp
       rw[show n+18+k=n+2+k+16 by omega]
       cases s
       · exact w2 _ H
       · exact w1 _ H
     · cases hg)
    rw[show n+18+k=n+17+k+1 by omega] at g29
    have g53:=ct53 g29
    rw[show n+17+k+1=n+16+k+2 by omega] at g53
    have g54:=ct54 g53
    rw[show n+16+k+2=n+18+k by omega] at g54
    exact g54
   have l0:=l13v n w ls ld zs zd H a b P Q e1 e2 h
   have l4:=l13i n w ls ld zs zd H a b P Q e1 e2 h
   refine fn_all (n:=n+20) Try.func13 rfl rfl rfl (u13 (n:=n) (w:=w) (ls:=ls) (ld:=ld) (k:=(grL w ls ld zs zd true (ls+2)).length) (l:=(grL w ls ld zs zd false (ls+2)).length) (zs:=zs) (zd:=zd) (H:=H) (a:=a) (b:=b) (e0:=chkB w ls ld zs zd) (p:=P) (q:=Q) (e1:=e1) (e2:=e2) (f1:=el1 (grL w ls ld zs zd true (ls+2))) (g1:=el1 (grL w ls ld zs zd false (ls+2))) (f2:=el2 (grL w ls ld zs zd true (ls+2))) (g2:=el2 (grL w ls ld zs zd false (ls+2))) (A1:=A1) (A2:=A2) (P:=isLs) (fm:=fmF) (fg:=fgF)) (il_ok _ (n+18) 2 hct) (blkE_ok (blkE_ok (noBT_ok _ _) b13i (fun x hx=>by rw[← Tr.ok_some hx];simp only[Res.st,hints_eq];exact l4)) b13v (fun x hx=>by rw[← Tr.ok_some hx];simp only[Res.st,hints_eq];exact l0)) (noRT_ok _ _) ?_
   have q1:=hg true
   have q2:=hg false
   have h1:=hth true
   have h2:=hth false
   unfold gV at f1 f2 s1 s2 q1 q2
   clear hct l0 l4 hg hth w1 w2 c43 c20
   generalize stZ w ls ld zs zd true Q (P+2).toNat=Z1 at *
   generalize stZ w ls ld zs zd false Q (P+2).toNat=Z2 at *
   generalize slF (grL w ls ld zs zd true (ls+2)).length (el1 (grL w ls ld zs zd true (ls+2))) (el2 (grL w ls ld zs zd true (ls+2)))=G1 at *
   generalize slF (grL w ls ld zs zd false (ls+2)).length (el1 (grL w ls ld zs zd false (ls+2))) (el2 (grL w ls ld zs zd false (ls+2)))=G2 at *
   have k1:e1=0→e2=0:=by omega
   have k2:thr ld zd P=false∨thr ld zd Q=false→e1=5∧e2=5:=fun x=>by
    have:Z1=0∧Z2=0:=by
     refine ⟨Classical.byContradiction fun y=>?_,Classical.byContradiction fun y=>?_⟩
     · obtain ⟨a1,a2⟩:=h1 (by omega)
       rw[a1,a2] at x;simp at x
     · obtain ⟨a1,a2⟩:=h2 (by omega)
       rw[a1,a2] at x;simp at x
    omega
   have k3:thr ld zd P=true→thr ld zd Q=true→eqB (eqI e1 (Int.ofNat 0)) (eqI (fgF G1 P) (fgF G1 Q))=true∧eqB (eqI e2 (Int.ofNat 0)) (eqI (fgF G2 P) (fgF G2 Q))=true:=fun a1 a2=>by
    have q1:=q1 a1 a2
    have q2:=q2 a1 a2
    rw[eqB_eq,eqB_eq,eqI_dec,eqI_dec,eqI_dec,eqI_dec,show Int.ofNat 0=0 from rfl,beq_iff_eq,beq_iff_eq,decide_eq_decide,decide_eq_decide,q1,q2]
    omega
   cases a1:thr ld zd P with
   | false =>
     rw[a1] at f1
     obtain ⟨rfl,rfl⟩:=k2 (.inl a1)
     repeat' first | (refine Tr.all_ite (fun hc=>?_) (fun hc=>?_)<;>(try simp (disch:=omega) only[nV,nW,h,s1,s2,f1,and_self] at hc)<;>try omega) | (refine Tr.all_req ?_ ?_;· (try simp (disch:=omega) only[nV,nW,h,s1,s2,f1,and_self]);try omega) | (refine Tr.all_reqP ?_ ?_;· first | exact trivial | rfl | exact ⟨rfl,rfl⟩ | exact ⟨rfl,rfl,rfl⟩ | (simp (disch:=omega) only[nV,nW,h,s1,s2,f1,and_self];done) | ((try simp (disch:=omega) only[nV,nW,h,s1,s2,f1,and_self]);omega)) | fail
     all_goals first
      | exact Tr.all_ok ⟨rfl,rfl⟩
      | (exfalso;simp_all;done)
      | fail
   | true =>
     cases a2:thr ld zd Q with
     | false =>
       rw[a2] at f2
       rw[a1] at f1
       obtain ⟨rfl,rfl⟩:=k2 (.inr a2)
       repeat' first | (refine Tr.all_ite (fun hc=>?_) (fun hc=>?_)<;>(try simp (disch:=omega) only[nV,nW,h,s1,s2,f1,f2,and_self] at hc)<;>try omega) | (refine Tr.all_req ?_ ?_;· (try simp (disch:=omega) only[nV,nW,h,s1,s2,f1,f2,and_self]);try omega) | (refine Tr.all_reqP ?_ ?_;· first | exact trivial | rfl | exact ⟨rfl,rfl⟩ | exact ⟨rfl,rfl,rfl⟩ | (simp (disch:=omega) only[nV,nW,h,s1,s2,f1,f2,and_self];done) | ((try simp (disch:=omega) only[nV,nW,h,s1,s2,f1,f2,and_self]);omega)) | fail
       all_goals first
        | exact Tr.all_ok ⟨rfl,rfl⟩
        | (exfalso;simp_all;done)
        | fail
     | true =>
       rw[a2] at f2
       rw[a1] at f1
       obtain ⟨x1,x2⟩:=k3 a1 a2
       rw[f1,f2,x1,x2]
       repeat' first | (refine Tr.all_ite (fun hc=>?_) (fun hc=>?_)<;>(try simp (disch:=omega) only[nV,nW,h,s1,s2,f1,f2,and_self] at hc)<;>try omega) | (refine Tr.all_req ?_ ?_;· (try simp (disch:=omega) only[nV,nW,h,s1,s2,f1,f2,and_self]);try omega) | (refine Tr.all_reqP ?_ ?_;· first | exact trivial | rfl | exact ⟨rfl,rfl⟩ | exact ⟨rfl,rfl,rfl⟩ | (simp (disch:=omega) only[nV,nW,h,s1,s2,f1,f2,and_self];done) | ((try simp (disch:=omega) only[nV,nW,h,s1,s2,f1,f2,and_self]);omega)) | fail
       all_goals first
        | exact Tr.all_ok ⟨rfl,rfl⟩
        | (exfalso;simp_all;done)
        | fail
 · refine fn_all (n:=n+20) Try.func13 rfl rfl rfl (u13x n w ls ld zs zd H a b (chkB w ls ld zs zd)) (il_ok _ (n+18) 2 (fun k=>ctG_ok (c20 k) (fun args p v hg hp H=>by cases hg))) (noBT_ok _ _) (noRT_ok _ _) ?_
   repeat' first | (refine Tr.all_ite (fun hc=>?_) (fun hc=>?_)<;>(try simp (disch:=omega) only[nV,nW] at hc)<;>try omega) | (refine Tr.all_req ?_ ?_;· (try simp (disch:=omega) only[nV,nW]);try omega) | (refine Tr.all_reqP ?_ ?_;· first | exact trivial | rfl | exact ⟨rfl,rfl⟩ | exact ⟨rfl,rfl,rfl⟩ | (simp (disch:=omega) only[nV,nW];done) | ((try simp (disch:=omega) only[nV,nW]);omega)) | fail
   all_goals exact Tr.all_ok ⟨rfl,rfl⟩
end
end Go.Eng
end
section
namespace Go.Eng
open Go.Proofs Go.ChangeShapes
set_option linter.unusedVariables false
set_option maxRecDepth 100000

theorem toM {p:Pst} {M:Mu} {k:IntKind} {z:Nat→Int} {N sz len:Nat} {full:Bool} {v:Value} (h:VRel p M (.slcT none (.F (fun j=>.int k (z j)) N) sz len full) v):VRel p M (.slcT none (.M [.arr k z N]) sz len full) v:=by
 cases h with
 | slcN=>exact .slcN
 | slcT vs h0 h1 hv hl hf hx =>
   have e:∀ j,j<(Row.M [Seg.arr k z N]).len→j<N:=fun j hj=>by simpa[Row.len,lenM,segLen] using hj
   refine .slcT vs (fun j hj=>h0 j (e j hj)) (fun j hj=>h1 j (e j hj)) (fun j hj=>?_) hl hf hx
   have:=hv j (e j hj)
   simp only[Row.get,getM,if_pos (e j hj)] at this ⊢
   exact this.anyInt _ _
theorem flat2:FlatI Try.prog 2 1:=flat_int Try.underlying2
theorem flat3:FlatI Try.prog 3 1:=flat_int Try.underlying3
theorem flat74:FlatI Try.prog 74 2:=flat_struct2 Try.underlying74 flat2 flat2 rfl rfl (by kernel_rfl) (by kernel_rfl) (by kernel_rfl)
theorem flat29:FlatI Try.prog 29 2:=flat_struct2 Try.underlying29 flat2 flat2 rfl rfl (by kernel_rfl) (by kernel_rfl) (by kernel_rfl)
theorem flat62:FlatI Try.prog 62 3:=flat_struct2 Try.underlying62 flat3 flat29 rfl rfl (by kernel_rfl) (by kernel_rfl) (by kernel_rfl)

theorem slice_spot {P:Program} {w:World} {r:Reach} {base:Nat} {t e:TypeId} {v:Value} (ht:P.underlying t=some (.slice e)) (h:Cell.okWide P w r base t v):∀ a l c,v=.slice (some a) l c→a.spot=none:=by
 rintro a l c rfl
 simp only[Cell.okWide,ht,Cell.ok] at h
 exact h.2.2.2.1

theorem slice_arg {t e n:Nat} (ht:Try.prog.underlying t=some (.slice e)) (he:FlatI Try.prog e n) (hn:0<n) (hc:Try.prog.cellsOf e=n) {H:Type} {enc:TypeId×Value→H} {w:World} {r:Reach} {b0 base:Nat} {sp:Nat→Bool} {held:Bool} {fuel:Nat} {v:Value} {x:DataW H×List MemPlace}
 (hv:Cell.okWide Try.prog w r b0 t v) (h:DataW.trod enc Try.prog w base sp held fuel t [v]=some x):∃ len z,VRel (Pw w) Mu.no (slA n len z) v∧v.oneCell'=true:=by
 rcases slice_flat ht he hn hc (slice_spot ht hv) h with rfl | ⟨zs,len,h1,h2⟩
 · exact ⟨0,fun _=>0,.slcN,rfl⟩
 · refine ⟨len,zs,?_,?_⟩
   · unfold slA
     rw[mulS_eq]
     exact toM h1
   · cases h1<;>rfl

theorem bath_arg {H:Type} {enc:TypeId×Value→H} {w:World} {r:Reach} {b0 base:Nat} {sp:Nat→Bool} {held:Bool} {v:Value} {d:DataW H} {ps:List MemPlace} (hv:Value.okWide Try.prog w r b0 25 v) (h:DataW.Trod enc Try.prog w base sp held 25 v d ps) :
 ∃ (wd:Int) (ls:Nat) (zs:Nat→Int) (ld:Nat) (zd:Nat→Int),VRel (Pw w) Mu.no (bathA wd ls zs ld zd) v:=by
 have hts:Try.prog.cellTypes Try.prog.depth 25=some [2,22,23]:=by kernel_rfl
 have hc25:Try.prog.cellsOf 25=3:=by kernel_rfl
 have hc2:Try.prog.cellsOf 2=1:=by kernel_rfl
 have hc22:Try.prog.cellsOf 22=1:=by kernel_rfl
 have hc23:Try.prog.cellsOf 23=1:=by kernel_rfl
 have hc74:Try.prog.cellsOf 74=2:=by kernel_rfl
 have hc62:Try.prog.cellsOf 62=3:=by kernel_rfl
 simp only[Value.okWide,Try.underlying25] at hv
 obtain ⟨cs,rfl,hsz,ts,ht,_,hcell⟩:=hv
 rw[hts] at ht
 obtain rfl:=Option.some.inj ht
 rw[hc25] at hsz
 obtain ⟨fuel,hf⟩:=h
 obtain ⟨xs,n,_,_,_,hxl,hfield⟩:=DataW.trod_struct Try.underlying25 hf
 have e3:∃ c0 c1 c2,cs=#[c0,c1,c2]:=by
  refine ⟨cs[0],cs[1],cs[2],?_⟩
  apply Array.ext
  · simpa using hsz
  · intro i h1 h2
    simp at h2
    match i,h2 with
    | 0,_=>rfl
    | 1,_=>rfl
    | 2,_=>rfl
 obtain ⟨c0,c1,c2,rfl⟩:=e3
 have some_of:∀ i,i<3→∃ y,xs[i]?=some y:=fun i hi=>by
  have:i<xs.length:=by rw[hxl];simpa using hi
  exact ⟨xs[i],List.getElem?_eq_getElem this⟩
 obtain ⟨y0,hy0⟩:=some_of 0 (by omega)
 obtain ⟨y1,hy1⟩:=some_of 1 (by omega)
 obtain ⟨y2,hy2⟩:=some_of 2 (by omega)
 have f0:=hfield 0 _ rfl
 have f1:=hfield 1 _ rfl
 have f2:=hfield 2 _ rfl
 rw[hy0] at f0
 rw[hy1] at f1
 rw[hy2] at f2
 simp only[Value.cells] at f0 f1 f2
 have g0:DataW.trod enc Try.prog w base sp held n 2 [c0]=some y0:=by simpa[hc2] using f0
 have g1:DataW.trod enc Try.prog w base sp held n 22 [c1]=some y1:=by simpa[hc22] using f1
 have g2:DataW.trod enc Try.prog w base sp held n 23 [c2]=some y2:=by simpa[hc23] using f2
 obtain ⟨wd,e0,_,hw⟩:=DataW.trod_int Try.underlying2 g0
 simp only[List.cons.injEq,and_true] at e0
 subst e0
 obtain ⟨u1,hu1,k1⟩:=hcell 1 c1 rfl
 obtain ⟨u2,hu2,k2⟩:=hcell 2 c2 rfl
 simp at hu1 hu2
 subst hu1;subst hu2
 obtain ⟨ls,zs,r1,o1⟩:=slice_arg Try.underlying22 flat74 (by omega) hc74 k1 g1
 obtain ⟨ld,zd,r2,o2⟩:=slice_arg Try.underlying23 flat62 (by omega) hc62 k2 g2
 refine ⟨wd,ls,zs,ld,zd,?_⟩
 refine .agg rfl (fun j hj=>?_) (fun j hj=>?_)
 · have hj':j<3:=hj
   match j,hj' with
   | 0,_=>rfl
   | 1,_=>exact o1
   | 2,_=>exact o2
 · have hj':j<3:=hj
   match j,hj' with
   | 0,_=>exact .int _ _
   | 1,_=>exact r1
   | 2,_=>exact r2

end Go.Eng
end
section
namespace Go.Proofs.Ytjmjkhpfipglcaa.Known
open Go.Eng Go.Proofs
set_option maxRecDepth 100000
theorem named:Named Try.prog:=by
 have h:(Try.prog.funcs.toList.all fun fn=>fn.body.isNone || !(fn.name == "runtime.NumGoroutine"))=true:=by kernel_rfl
 intro f fn hf hb
 have:=List.all_eq_true.1 h fn (by simpa using Array.mem_of_getElem? hf)
 rw[hb] at this
 simpa using this
theorem mixed:Try.prog.follows .mixedOrders=true:=by kernel_rfl
def bathB:AV:=.agg (.G [.int .i64 100,.slcT none (.I .i64 [20,50,50,50,80,50]) 2 3 true,.slcT none (.I .i64 [0,100,144,1,225,400,0,200,300,2,100,100]) 3 4 true])
def bathC:AV:=.agg (.G [.int .i64 100,.slcT none (.I .i64 [20,50,50,50,80,50]) 2 3 true,.slcT none (.I .i64 [0,100,144,2,100,100]) 3 2 true])
def E0:Ora:=⟨77,[bathB],.ptrT (some 0) (.G [.int .i64 100,.slcT none (.I .i64 [20,50,50,50,80,50]) 2 3 true,.slcT none (.I .i64 [0,100,144,1,225,400,0,200,300,2,100,100]) 3 4 true,.slcT none (.I .i64 [300,444,225,400,100,100]) 2 3 true,.int .i64 0,.int .i64 0,.int .i64 0,.int .i64 0,.int .i64 0,.int .i64 0,.int .i64 0,.int .i64 0,.int .i64 0,.int .i64 0,.int .i64 0,.int .i64 0,.int .i64 0,.int .i64 0,.int .i64 1,.int .i64 0,.int .i64 0,.int .i64 0,.int .i64 0,.int .i64 0,.int .i64 0,.int .i64 0,.int .i64 0,.int .i64 0,.int .i64 0,.int .i64 1,.int .i64 0,.int .i64 2,.int .i64 0,.int .i64 0,.int .i64 0,.int .i64 0,.int .i64 0,.int .i64 0,.int .i64 0,.int .i64 0,.int .i64 0,.int .i64 0,.int .i64 2,.int .i64 0,.int .i64 1,.int .i64 0,.int .i64 0,.int .i64 0,.int .i64 0,.int .i64 0,.int .i64 0,.int .i64 0,.int .i64 0,.int .i64 0,.int .i64 0,.int .i64 1,.int .i64 0,.int .i64 0,.int .i64 0,.int .i64 0,.int .i64 0,.int .i64 0,.int .i64 0,.int .i64 0,.int .i64 0,.int .i64 0,.int .i64 0,.int .i64 0,.int .i64 0,.int .i64 0,.int .i64 0,.int .i64 0,.int .i64 0,.int .i64 0,.int .i64 0,.int .i64 0,.int .i64 0,.int .i64 0,.int .i64 0,.int .i64 0,.int .i64 0,.int .i64 0,.int .i64 0,.int .i64 0,.int .i64 0,.int .i64 0,.int .i64 0,.int .i64 0,.int .i64 0,.int .i64 0,.int .i64 0,.int .i64 0,.int .i64 0,.int .i64 0,.int .i64 0,.int .i64 0,.int .i64 0,.int .i64 0,.int .i64 0,.int .i64 0,.int .i64 0,.int .i64 0,.int .i64 0,.int .i64 0,.int .i64 0,.int .i64 0,.int .i64 0,.int .i64 0,.int .i64 0,.int .i64 0,.int .i64 0,.int .i64 0,.int .i64 0,.int .i64 0,.int .i64 0,.int .i64 0,.int .i64 0,.int .i64 0,.int .i64 0,.int .i64 0,.int .i64 0,.int .i64 0,.int .i64 0,.int .i64 0,.int .i64 0,.int .i64 0,.int .i64 0,.int .i64 0,.int .i64 0,.int .i64 0,.int .i64 0,.int .i64 0,.int .i64 0,.int .i64 0,.int .i64 0,.int .i64 0,.int .i64 0,.int .i64 0,.int .i64 0,.int .i64 0,.int .i64 0,.int .i64 0,.int .i64 0,.int .i64 0,.int .i64 0,.int .i64 0,.int .i64 0,.int .i64 0]) 0⟩
def E1:Ora:=⟨77,[bathC],.ptrT (some 0) (.G [.int .i64 100,.slcT none (.I .i64 [20,50,50,50,80,50]) 2 3 true,.slcT none (.I .i64 [0,100,144,2,100,100]) 3 2 true,.slcT none (.I .i64 [100,144,0,0,100,100]) 2 3 true,.int .i64 0,.int .i64 0,.int .i64 0,.int .i64 0,.int .i64 0,.int .i64 0,.int .i64 0,.int .i64 0,.int .i64 0,.int .i64 0,.int .i64 0,.int .i64 0,.int .i64 0,.int .i64 0,.int .i64 0,.int .i64 0,.int .i64 0,.int .i64 0,.int .i64 0,.int .i64 0,.int .i64 0,.int .i64 0,.int .i64 0,.int .i64 0,.int .i64 0,.int .i64 0,.int .i64 0,.int .i64 0,.int .i64 0,.int .i64 0,.int .i64 0,.int .i64 0,.int .i64 0,.int .i64 0,.int .i64 0,.int .i64 0,.int .i64 0,.int .i64 0,.int .i64 0,.int .i64 0,.int .i64 0,.int .i64 0,.int .i64 0,.int .i64 0,.int .i64 0,.int .i64 0,.int .i64 0,.int .i64 0,.int .i64 0,.int .i64 0,.int .i64 0,.int .i64 0,.int .i64 0,.int .i64 0,.int .i64 0,.int .i64 0,.int .i64 0,.int .i64 0,.int .i64 0,.int .i64 0,.int .i64 0,.int .i64 0,.int .i64 0,.int .i64 0,.int .i64 0,.int .i64 0,.int .i64 0,.int .i64 0,.int .i64 0,.int .i64 0,.int .i64 0,.int .i64 0,.int .i64 0,.int .i64 0,.int .i64 0,.int .i64 0,.int .i64 0,.int .i64 0,.int .i64 0,.int .i64 0,.int .i64 0,.int .i64 0,.int .i64 0,.int .i64 0,.int .i64 0,.int .i64 0,.int .i64 0,.int .i64 0,.int .i64 0,.int .i64 0,.int .i64 0,.int .i64 0,.int .i64 0,.int .i64 0,.int .i64 0,.int .i64 0,.int .i64 0,.int .i64 0,.int .i64 0,.int .i64 0,.int .i64 0,.int .i64 0,.int .i64 0,.int .i64 0,.int .i64 0,.int .i64 0,.int .i64 0,.int .i64 0,.int .i64 0,.int .i64 0,.int .i64 0,.int .i64 0,.int .i64 0,.int .i64 0,.int .i64 0,.int .i64 0,.int .i64 0,.int .i64 0,.int .i64 0,.int .i64 0,.int .i64 0,.int .i64 0,.int .i64 0,.int .i64 0,.int .i64 0,.int .i64 0,.int .i64 0,.int .i64 0,.int .i64 0,.int .i64 0,.int .i64 0,.int .i64 0,.int .i64 0,.int .i64 0,.int .i64 0,.int .i64 0,.int .i64 0,.int .i64 0,.int .i64 0,.int .i64 0,.int .i64 0,.int .i64 0,.int .i64 0,.int .i64 0]) 0⟩
theorem none_ok:∀ e ∈ ([]:List Ora),OneOk Try.prog e:=fun e h=>by cases h
theorem ok0:OneOk Try.prog E0:=one_of named mixed none_ok Kt.kt 100000 40 (H':=[⟨true,[]⟩]) (by kernel_rfl) (by kernel_rfl)
theorem ok1:OneOk Try.prog E1:=one_of named mixed none_ok Kt.kt 100000 40 (H':=[⟨true,[]⟩]) (by kernel_rfl) (by kernel_rfl)
def tab1:List Ora:=[E0,E1]
theorem tab1_ok:∀ e ∈ tab1,OneOk Try.prog e:=by
 intro e h
 simp only[tab1,List.mem_cons,List.not_mem_nil,or_false] at h
 rcases h with rfl | rfl
 · exact ok0
 · exact ok1
end Go.Proofs.Ytjmjkhpfipglcaa.Known
end
section
namespace Go.Proofs.Ytjmjkhpfipglcaa.Known
open Go.Eng Go.Proofs
set_option maxRecDepth 100000
def E2:Ora:=⟨17,[bathB,.int .i64 0],.tup [.agg (.I .i64 [300,444]),.int .i64 0]⟩
theorem ok2:OneOk Try.prog E2:=one_of named mixed tab1_ok Kt.kt 100000 40 (H':=[⟨true,[]⟩]) (by kernel_rfl) (by kernel_rfl)
def E3:Ora:=⟨21,[bathB,.int .i64 1,.int .i64 2],.tup [.int .i64 1,.int .i64 0]⟩
theorem ok3:OneOk Try.prog E3:=one_of named mixed tab1_ok Kt.kt 100000 40 (H':=[⟨true,[]⟩]) (by kernel_rfl) (by kernel_rfl)
def E4:Ora:=⟨23,[bathB,.int .i64 0,.int .i64 2],.tup [.int .i64 2,.int .i64 0]⟩
theorem ok4:OneOk Try.prog E4:=one_of named mixed tab1_ok Kt.kt 100000 40 (H':=[⟨true,[]⟩]) (by kernel_rfl) (by kernel_rfl)
def E7:Ora:=⟨27,[bathC,.int .i64 1],.tup [.int .i64 323,.int .i64 0]⟩
theorem ok7:OneOk Try.prog E7:=one_of named mixed tab1_ok Kt.kt 100000 40 (H':=[⟨true,[]⟩]) (by kernel_rfl) (by kernel_rfl)
def E8:Ora:=⟨27,[bathB,.int .i64 2],.tup [.int .i64 0,.int .i64 10]⟩
theorem ok8:OneOk Try.prog E8:=one_of named mixed tab1_ok Kt.kt 100000 40 (H':=[⟨true,[]⟩]) (by kernel_rfl) (by kernel_rfl)
def E9:Ora:=⟨29,[bathB,.int .i64 (-1),.int .i64 2,.bool false],.tup [.slcT none (.I .i64 [-1,0,1,2]) 1 4 true,.int .i64 0]⟩
theorem ok9:OneOk Try.prog E9:=one_of named mixed tab1_ok Kt.kt 100000 40 (H':=[⟨true,[]⟩]) (by kernel_rfl) (by kernel_rfl)
def E10:Ora:=⟨29,[bathB,.int .i64 (-1),.int .i64 2,.bool true],.tup [.nils,.int .i64 5]⟩
theorem ok10:OneOk Try.prog E10:=one_of named mixed tab1_ok Kt.kt 100000 40 (H':=[⟨true,[]⟩]) (by kernel_rfl) (by kernel_rfl)
def E11:Ora:=⟨34,[bathB,.int .i64 0,.int .i64 2,.bool true],.tup [.slcT none (.I .i64 [0,1]) 1 2 false,.int .i64 0]⟩
theorem ok11:OneOk Try.prog E11:=one_of named mixed tab1_ok Kt.kt 100000 40 (H':=[⟨true,[]⟩]) (by kernel_rfl) (by kernel_rfl)
def E12:Ora:=⟨34,[bathB,.int .i64 0,.int .i64 2,.bool false],.tup [.nils,.int .i64 11]⟩
theorem ok12:OneOk Try.prog E12:=one_of named mixed tab1_ok Kt.kt 100000 40 (H':=[⟨true,[]⟩]) (by kernel_rfl) (by kernel_rfl)
def E13:Ora:=⟨36,[bathB,.bool true],.tup [.slcT (some 0) (.G [.slcT none (.I .i64 [-2]) 1 1 true,.slcT none (.I .i64 [-1]) 1 1 true,.slcT none (.I .i64 [0,1]) 1 2 false,.slcT none (.I .i64 [2]) 1 1 true]) 1 4 false,.int .i64 0]⟩
theorem ok13:OneOk Try.prog E13:=one_of named mixed tab1_ok Kt.kt 100000 40 (H':=[⟨true,[]⟩]) (by kernel_rfl) (by kernel_rfl)
end Go.Proofs.Ytjmjkhpfipglcaa.Known
end
section
namespace Go.Proofs.Ytjmjkhpfipglcaa.Known
open Go.Eng Go.Proofs
set_option maxRecDepth 100000
def E5:Ora:=⟨25,[bathB,.int .i64 0,.int .i64 1],.tup [.agg (.I .i64 [2,3]),.int .i64 0]⟩
theorem ok5:OneOk Try.prog E5:=one_of named mixed tab1_ok Kt.kt 100000 40 (H':=[⟨true,[]⟩]) (by kernel_rfl) (by kernel_rfl)
end Go.Proofs.Ytjmjkhpfipglcaa.Known
end
