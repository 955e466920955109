/- Drop: Side of the program. -/
import Derived.Test.YtjmjkhpfipglcaaV7Kix3
import Derived.Test.YtjmjkhpfipglcaaV7DrVx8
import Derived.Test.YtjmjkhpfipglcaaV7DrAx4
section
namespace Go.Eng
open Go.Proofs
set_option linter.unusedVariables false
set_option linter.unusedSimpArgs false
set_option maxRecDepth 100000
noncomputable def dR (w:Int) (ls ld:Nat) (zs zd:Nat→Int):Nat→Int:=rK w ls zs (ft zd ld) (ls+2)
noncomputable def Ep (w:Int) (ls ld:Nat) (zs zd:Nat→Int) (sure:Bool) (p:Int):List Int:=uH (dR w ls ld zs zd) sure ls p
noncomputable def Hm (p:Int) (q:Int):List Int→Bool
 | []=>decide (q=p)
 | y::r=>iA (fZ (bE (p::y::r)) (r.length+1)) (r.length+2) q
noncomputable def xA (w:Int) (ls ld:Nat) (zs zd:Nat→Int) (sure:Bool) (p q:Int):AV :=
 if ij w ls ld zs zd p q≠0 then .tup [.nils,.int .i64 (ij w ls ld zs zd p q)]
 else if Hm p q (Ep w ls ld zs zd sure p)=true then .tup [.nils,.int .i64 11]
 else .tup [AU p (Ep w ls ld zs zd sure p),.int .i64 0]
theorem Cj {kd:Nat→Int} {sure:Bool} {ls:Nat} {p:Int} (hp:-2≤p∧p<ls):(uH kd sure ls p).length≤ls+2 :=
 (mT ls kd p sure (mD p) hp (vC kd sure ls p (mD p))).len
section
variable (n:Nat) (w:Int) (ls ld:Nat) (zs zd:Nat→Int) (H:ae) (p q:Int) (sure:Bool)
theorem qY (k:Nat) (t:AV) (e:Int) (ht:t=z7 w ls ld zs zd p q) (he:e=ij w ls ld zs zd p q):(b7 aG 68 (AT (aa w ls zs ld zd) p q t e)).Ok (cd (n+14+k)):=by
 subst ht;subst he
 refine bI (bB _) (fun args p v hg hp H=>?_)
 unfold AT at hg
 split at hg
 · simp only[nP] at hg
   obtain ⟨rfl,rfl⟩:=hg
   obtain ⟨rfl,rfl,rfl⟩:=hp
   rw[show n+14+k=n+k+14 by omega]
   exact PQ _ w ls ld zs zd H _ _
 · cases hg
theorem F6 (k:Nat) (hp:-2≤p∧p<ls) (hls:ls≤10) {c:lR} (hc:c.Ok (cd (n+14+k))) (l:AV) (hl:l=AU p (Ep w ls ld zs zd sure p)):(b7 c 88 (Lr (gu w ls ld zs zd (ft zd ld) (dR w ls ld zs zd)) p sure l)).Ok (cd (n+14+k)):=by
 subst hl
 refine bI hc (fun args p' v hg hp' H=>?_)
 unfold Lr at hg
 split at hg
 · simp only[nP] at hg
   obtain ⟨rfl,rfl⟩:=hg
   obtain ⟨rfl,rfl,rfl⟩:=hp'
   rw[show n+14+k=n+8+k+6 by omega]
   exact PS _ 0 w ls ld zs zd _ _ H _ _ hp hls
 · cases hg
theorem F5 (k:Nat) (a:AV) (b:Bool) {c:lR} (hc:c.Ok (cd (n+14+k))) (h:∀ H,cd (n+14+k) (.fn 85) [a,.int .i64 q] H=some (.bool b,H)):(b7 c 85 (Lq a q b)).Ok (cd (n+14+k)):=by
 refine bI hc (fun args p' v hg hp' H=>?_)
 unfold Lq at hg
 split at hg
 · simp only[nP] at hg
   obtain ⟨rfl,rfl⟩:=hg
   obtain ⟨rfl,rfl⟩:=hp'
   exact h H
 · cases hg
theorem LY:cd (n+15) (.fn 34) [aa w ls zs ld zd,.int .i64 p,.int .i64 q,.bool sure] H=some (xA w ls ld zs zd sure p q,H):=by
 by_cases h1:ij w ls ld zs zd p q=0
 · obtain ⟨a1,a2,a3,a4⟩:=g7 h1
   simp only[bx,Bool.and_eq_true,decide_eq_true_eq] at a2 a3
   have hc:=eY a1
   have hpT:gu w ls ld zs zd (ft zd ld) (dR w ls ld zs zd)=z7 w ls ld zs zd p q:=by unfold z7 dR;rw[if_neg (fun h=>h h1)]
   have hlen:(Ep w ls ld zs zd sure p).length≤ls+2:=Cj (by omega)
   unfold xA
   rw[if_neg (fun h=>h h1)]
   have hl:AU p (Ep w ls ld zs zd sure p)=AU p (Ep w ls ld zs zd sure p):=rfl
   generalize hL:Ep w ls ld zs zd sure p=L at *
   cases L with
   | nil =>
     refine bp (n:=n+14) Try.func34 rfl rfl rfl (OG n w ls ld zs zd (ft zd ld) (dR w ls ld zs zd) H p q sure (decide (q=p))) (bQ _ (n+14) 0 (fun k=>F5 n q k _ _ (F6 n w ls ld zs zd p sure k (by omega) (by omega) (qY n w ls ld zs zd p q k _ 0 hpT h1.symm) _ (by rw[hL];rfl)) (fun H=>by rw[show n+14+k=n+12+k+2 by omega];exact Jb _ H p q))) (ah _ _) (ai _ _) ?_
     repeat' first | (refine Tr.an (fun hc=>?_) (fun hc=>?_)<;>(try simp (disch:=omega) only[nV,nW] at hc)<;>try omega) | (refine Tr.ao ?_ ?_;· (try simp (disch:=omega) only[nV,nW]);try omega) | (refine Tr.ak ?_ ?_;· first | exact trivial | rfl | exact ⟨rfl,rfl⟩ | exact ⟨rfl,rfl,rfl⟩ | (simp (disch:=omega) only[nV,nW];done) | ((try simp (disch:=omega) only[nV,nW]);omega)) | fail
     all_goals refine Tr.aq ⟨?_,rfl⟩
     · rw[show Hm p q []=true from hc];rfl
     · rw[show Hm p q []=false from hc];rfl
   | cons y r =>
     have hlen':r.length+1≤ls+2:=by simpa using hlen
     refine bp (n:=n+14) Try.func34 rfl rfl rfl (OH n w ls ld (r.length+2) zs zd (ft zd ld) (dR w ls ld zs zd) (fZ (bE (p::y::r)) (r.length+1)) H p q sure (Hm p q (y::r))) (bQ _ (n+14) 0 (fun k=>F5 n q k _ _ (F6 n w ls ld zs zd p sure k (by omega) (by omega) (qY n w ls ld zs zd p q k _ 0 hpT h1.symm) _ (by rw[hL];rfl)) (fun H=>by rw[show n+14+k=n+12+k+2 by omega];exact Mc _ H _ _ _ q (by omega)))) (ah _ _) (ai _ _) ?_
     repeat' first | (refine Tr.an (fun hc=>?_) (fun hc=>?_)<;>(try simp (disch:=omega) only[nV,nW] at hc)<;>try omega) | (refine Tr.ao ?_ ?_;· (try simp (disch:=omega) only[nV,nW]);try omega) | (refine Tr.ak ?_ ?_;· first | exact trivial | rfl | exact ⟨rfl,rfl⟩ | exact ⟨rfl,rfl,rfl⟩ | (simp (disch:=omega) only[nV,nW];done) | ((try simp (disch:=omega) only[nV,nW]);omega)) | fail
     all_goals refine Tr.aq ⟨?_,rfl⟩
     · rw[hc];rfl
     · rw[hc];rfl
 · refine bp (n:=n+14) Try.func34 rfl rfl rfl (OI n w ls ld zs zd H p q (ij w ls ld zs zd p q) sure) (bQ _ (n+14) 0 (fun k=>bI (qY n w ls ld zs zd p q k _ _ (by unfold z7;rw[if_pos h1]) rfl) (fun args p v hg hp H=>by cases hg))) (ah _ _) (ai _ _) ?_
   unfold xA
   rw[if_pos h1]
   repeat' first | (refine Tr.an (fun hc=>?_) (fun hc=>?_)<;>(try simp (disch:=omega) only[nV,nW] at hc)<;>try omega) | (refine Tr.ao ?_ ?_;· (try simp (disch:=omega) only[nV,nW]);try omega) | (refine Tr.ak ?_ ?_;· first | exact trivial | rfl | exact ⟨rfl,rfl⟩ | exact ⟨rfl,rfl,rfl⟩ | (simp (disch:=omega) only[nV,nW];done) | ((try simp (disch:=omega) only[nV,nW]);omega)) | fail
   exact Tr.aq ⟨rfl,rfl⟩
end
end Go.Eng
end
section
namespace Go.Eng
open Go.Proofs
set_option linter.unusedVariables false
set_option linter.unusedSimpArgs false
set_option maxRecDepth 100000
def Ek (B:AV) (t:AV) (e:Int):List AV→Option (Prop×AV)
 | [b]=>some (b=B,.tup [t,.int .i64 e])
 | _=>none
theorem RT (n:Nat) (w:Int) (ls ld:Nat) (zs zd sz kd:Nat→Int) (H:ae) (e:Int) (side:Prop):aW Try.prog (cd (n+13)) 100000 58 Try.f58 (Kt.kt 58) (il (b7 (b7 aG 19 (vB (aa w ls zs ld zd) e)) 77 (Lo (aa w ls zs ld zd) side (gu w ls ld zs zd sz kd))) (n+11) 2) aJ aK [(aa w ls zs ld zd,none)] H =
 Tr.reqP (aa w ls zs ld zd=aa w ls zs ld zd) (Tr.ite (aD (aF e (Int.ofNat 0))) (Tr.ok ((AV.tup [AV.nilp,AV.int .i64 e],none),H)) (Tr.reqP (aa w ls zs ld zd=aa w ls zs ld zd∧side) (Tr.ok ((AV.tup [AV.ptrT (some 0) (Row.M [aC.one (AV.int .i64 w),aC.one (aU 2 ls zs),aC.one (aU 3 ld zd),aC.one (AV.slcT none (Row.M [aC.arr .i64 sz (aI ls 2)]) 2 ls true),aC.arr .i64 kd 144]) 0,AV.int .i64 (Int.ofNat 0)],none),H)))):=by kernel_rfl
end Go.Eng
end
section
namespace Go.Eng
open Go.Proofs
set_option linter.unusedVariables false
set_option linter.unusedSimpArgs false
set_option maxRecDepth 100000
noncomputable def kT (p:Int):List Int→List Int
 | []=>[p]
 | y::r=>(List.range (r.length+2)).map (fZ (bE (p::y::r)) (r.length+1))
theorem rG:∀ (j:Nat) (z:Nat→Int) (i:Nat),j<i→kR z j i=z i
 | 0,_,_,_=>rfl
 | j + 1,z,i,h=>by
   unfold kR
   split
   · rw[rG j _ i (by omega)]
     unfold An
     rw[eF]
     simp only[]
     rw[if_neg (by omega),if_neg (by omega)]
   · rfl
theorem sv:∀ (k:Nat) (z:Nat→Int) (i:Nat),k<i→fZ z k i=z i
 | 0,_,_,_=>rfl
 | k+1,z,i,h=>by
   unfold fZ
   rw[rG (k+1) _ i h,sv k z i (by omega)]
theorem fb (L:List Int) (i:Nat):bE L i=L.getD i 0:=by rw[gL]
theorem zO (p y:Int) (r:List Int):bE (kT p (y::r))=fZ (bE (p::y::r)) (r.length+1):=by
 funext i
 rw[fb]
 unfold kT
 by_cases h:i<r.length+2
 · simp[h]
 · rw[sv _ _ _ (by omega),fb,List.getD_eq_getElem?_getD,List.getD_eq_getElem?_getD,List.getElem?_eq_none (by simp;omega),List.getElem?_eq_none (by simp;omega)]
theorem xB (p:Int) (L:List Int):(kT p L).length=L.length+1:=by
 cases L<;>simp[kT]
theorem AW (p y:Int) (r:List Int):AU p (y::r)=bn (kT p (y::r)).length (bE (kT p (y::r))) false:=by
 rw[zO,xB];rfl
noncomputable def Po (kd:Nat→Int) (sure:Bool) (ls:Nat) (p:Int):List Int:=kT p (uH kd sure ls p)
section
variable (n:Nat) (w:Int) (ls ld:Nat) (zs zd sz kd:Nat→Int) (H:ae) (sure:Bool)
end
end Go.Eng
end
section
namespace Go.Eng
open Go.Proofs
set_option linter.unusedVariables false
set_option linter.unusedSimpArgs false
set_option maxRecDepth 100000
section
variable (n:Nat) (w:Int) (ls ld:Nat) (zs zd sz kd:Nat→Int) (H:ae) (sure:Bool)
theorem L6:cd (n+14) (.fn 58) [aa w ls zs ld zd] H=some (.tup [if bN w ls ld zs zd≠0 then .nilp else gu w ls ld zs zd (ft zd ld) (dR w ls ld zs zd),.int .i64 (bN w ls ld zs zd)],H):=by
 refine bp (n:=n+13) Try.func58 rfl rfl rfl (RT n w ls ld zs zd (ft zd ld) (dR w ls ld zs zd) H (bN w ls ld zs zd) (ls≤10∧ld≤40∧∀ j,j<ld→0≤zd (j*3)∧zd (j*3)<ls)) (bQ _ (n+11) 2 (fun k=>bI (Jg n w ls ld zs zd k _ (bB _)) (fun args p v h hp H=>?_))) (ah _ _) (ai _ _) ?_
 · unfold Lo at h
   split at h
   · simp only[nP] at h
     obtain ⟨rfl,rfl⟩:=h
     obtain ⟨rfl,h1,h2,h3⟩:=hp
     rw[show n+11+k=n+3+k+8 by omega]
     exact Pk _ w ls ld zs zd H h1 h2 h3
   · cases h
 · by_cases e:bN w ls ld zs zd=0
   · have hc:=eY e
     rw[if_neg (fun h=>h e),e]
     refine Tr.ak rfl (Tr.an (fun h=>?_) (fun _=>Tr.ak ⟨rfl,hc⟩ (Tr.aq ⟨rfl,rfl⟩)))
     simp[cL,aP] at h
   · rw[if_pos e]
     refine Tr.ak rfl (Tr.an (fun _=>Tr.aq ⟨rfl,rfl⟩) (fun h=>?_))
     simp[cL,aP] at h
     exact absurd h e
end
end Go.Eng
end
section
namespace Go.Eng
open Go.Proofs
set_option linter.unusedVariables false
set_option linter.unusedSimpArgs false
set_option maxRecDepth 100000
theorem RR (n:Nat) (w:Int) (ls ld:Nat) (zs zd:Nat→Int) (H:ae) (a b:Int):aW Try.prog (cd (n+2)) 100000 43 Try.f43 (Kt.kt 43) (il aG n 2) aJ aK [(aa w ls zs ld zd,none),(.agg (.I .u8 [a,b]),none)] H =
 Tr.req (br (Int.ofNat 0) 2) (Tr.req (aD (aF (ay .i64 (Int.ofNat ls) (Int.ofNat 2)) (Int.ofNat 0))) (Tr.req (br (Int.ofNat 1) 2) (Tr.req (aD (aF (ay .i64 (Int.ofNat ls) (Int.ofNat 2)) (Int.ofNat 0))) (Tr.ite (aF (az .i64 (gn IntKind.i64 (qH IntKind.i64 a) (ay .i64 (Int.ofNat ls) (Int.ofNat 2))) (Int.ofNat 2)) (az .i64 (gn IntKind.i64 (qH IntKind.i64 b) (ay .i64 (Int.ofNat ls) (Int.ofNat 2))) (Int.ofNat 2))) (Tr.req (aD (aF (ay .i64 (Int.ofNat ls) (Int.ofNat 2)) (Int.ofNat 0))) (Tr.req (aD (aF (ay .i64 (Int.ofNat ls) (Int.ofNat 2)) (Int.ofNat 0))) (Tr.ok ((AV.tup [AV.int .i64 (az .i64 (gn IntKind.i64 (qH IntKind.i64 a) (ay .i64 (Int.ofNat ls) (Int.ofNat 2))) (Int.ofNat 2)),AV.int .i64 (az .i64 (gn IntKind.i64 (qH IntKind.i64 (qH IntKind.u8 (gn IntKind.i64 (ay .i64 (ay .i64 (az .i64 (gn IntKind.i64 (qH IntKind.i64 a) (ay .i64 (Int.ofNat ls) (Int.ofNat 2))) (Int.ofNat 2)) (Int.ofNat 2)) (Int.ofNat 1)) (ay .i64 (Int.ofNat ls) (Int.ofNat 2))))) (ay .i64 (Int.ofNat ls) (Int.ofNat 2))) (Int.ofNat 2))],none),H)))) (Tr.ok ((AV.tup [AV.int .i64 (az .i64 (gn IntKind.i64 (qH IntKind.i64 a) (ay .i64 (Int.ofNat ls) (Int.ofNat 2))) (Int.ofNat 2)),AV.int .i64 (az .i64 (gn IntKind.i64 (qH IntKind.i64 b) (ay .i64 (Int.ofNat ls) (Int.ofNat 2))) (Int.ofNat 2))],none),H)))))):=by kernel_rfl
def pX (ls:Nat) (a:Int):Int:=a % ((ls:Int)+2)-2
def tn (ls:Nat) (a b:Int):Int:=if pX ls a=pX ls b then pX ls ((pX ls a+3) % ((ls:Int)+2)) else pX ls b
theorem Dl {ls:Nat} {a b:Int} (hl:ls≤15) (ha:0≤a) (hb:0≤b):(-2≤pX ls a∧pX ls a<ls)∧(-2≤tn ls a b∧tn ls a b<ls)∧pX ls a≠tn ls a b:=by
 have r:∀ x:Int,-2≤pX ls x∧pX ls x<ls:=fun x=>by
  unfold pX
  have h1:=Int.emod_nonneg x (show ((ls:Int)+2)≠0 by omega)
  have h2:=Int.emod_lt_of_pos x (show 0<((ls:Int)+2) by omega)
  omega
 refine ⟨r a,?_,?_⟩
 · unfold tn;split
   · exact r _
   · exact r _
 · unfold tn
   split
   · intro h
     have h0:=r a
     generalize pX ls a=p at h h0
     by_cases e:p+3<(ls:Int)+2
     · have e1:(p+3) % ((ls:Int)+2)=p+3:=Int.emod_eq_of_lt (by omega) e
       unfold pX at h
       rw[e1,e1] at h;omega
     · have e1:(p+3) % ((ls:Int)+2)=0:=by
        rw[show p+3=(ls:Int)+2 by omega,Int.emod_self]
       unfold pX at h
       rw[e1,Int.zero_emod] at h;omega
   · assumption
theorem oD {x:Int} {m:Int} (h0:0≤x):gn .i64 x m=x % m:=by rw[Ad,Int.tmod_eq_emod_of_nonneg h0]
theorem Dn {x:Int} (h0:-9223372036854775808≤x) (h1:x≤9223372036854775807):qH .i64 x=x:=by rw[sH,bX h0 h1]
theorem O6 {x:Int} (h0:0≤x) (h1:x≤255):qH .u8 x=x:=by
 rw[sH]
 simp only[IntKind.wrap,IntKind.signed,IntKind.bits]
 simp
 omega
theorem I9 (n:Nat) (w:Int) (ls ld:Nat) (zs zd:Nat→Int) (H:ae) (a b:Int) (hl:ls≤15) (ha:0≤a∧a≤255) (hb:0≤b∧b≤255):cd (n+3) (.fn 43) [aa w ls zs ld zd,.agg (.I .u8 [a,b])] H=some (.tup [.int .i64 (pX ls a),.int .i64 (tn ls a b)],H):=by
 refine bp (n:=n+2) Try.func43 rfl rfl rfl (RR n w ls ld zs zd H a b) (bU n 2) (ah _ _) (ai _ _) ?_
 obtain ⟨k1,-,-⟩:=Dl (a:=a) (b:=b) hl ha.1 hb.1
 have m0:∀ x:Int,0≤x % ((ls:Int)+2)∧x % ((ls:Int)+2)<(ls:Int)+2:=fun x=>⟨Int.emod_nonneg x (by omega),Int.emod_lt_of_pos x (by omega)⟩
 have eL:ay .i64 (Int.ofNat ls) (Int.ofNat 2)=(ls:Int)+2:=by simp (disch:=omega) only[nV,nW]
 have eP:∀ x:Int,0≤x→x≤255→az .i64 (gn .i64 (qH .i64 x) ((ls:Int)+2)) (Int.ofNat 2)=pX ls x:=fun x h0 h1=>by
  rw[Dn (by omega) (by omega),oD h0,aQ]
  have:=m0 x
  unfold pX
  exact bX (by rw[show Int.ofNat 2=2 from rfl];omega) (by rw[show Int.ofNat 2=2 from rfl];omega)
 have eQ:qH .u8 (gn .i64 (ay .i64 (ay .i64 (pX ls a) (Int.ofNat 2)) (Int.ofNat 1)) ((ls:Int)+2))=(pX ls a+3) % ((ls:Int)+2):=by
  have e:ay .i64 (ay .i64 (pX ls a) (Int.ofNat 2)) (Int.ofNat 1)=pX ls a+3:=by
   simp (disch:=omega) only[nV,nW]
   omega
  have:=m0 (pX ls a+3)
  rw[e,oD (by omega),O6 this.1 (by omega)]
 have:=m0 (pX ls a+3)
 rw[eL,eP a ha.1 ha.2,eP b hb.1 hb.2,eQ,eP _ this.1 (by omega)]
 unfold tn
 repeat' first | (refine Tr.an (fun hc=>?_) (fun hc=>?_)<;>(try simp (disch:=omega) only[nV,nW] at hc)<;>try omega) | (refine Tr.ao ?_ ?_;· (try simp (disch:=omega) only[nV,nW]);try omega) | (refine Tr.ak ?_ ?_;· first | exact trivial | rfl | exact ⟨rfl,rfl⟩ | exact ⟨rfl,rfl,rfl⟩ | (simp (disch:=omega) only[nV,nW];done) | ((try simp (disch:=omega) only[nV,nW]);omega)) | fail
 · rw[if_pos hc];exact Tr.aq ⟨rfl,rfl⟩
 · rw[if_neg hc];exact Tr.aq ⟨rfl,rfl⟩
theorem J2 {w:Int} {ls ld:Nat} {zs zd:Nat→Int} {p q:Int} (h:bN w ls ld zs zd=0) (hp:-2≤p∧p<ls) (hq:-2≤q∧q<ls) (hpq:p≠q):ij w ls ld zs zd p q=0∧K6 w ls ld zs zd p q=jZ w ld zs zd p q:=by
 have e:ij w ls ld zs zd p q=0:=by
  unfold ij
  rw[if_neg (fun x=>x h),if_pos ⟨by simp[bx];omega,by simp[bx];omega,hpq⟩]
 refine ⟨e,?_⟩
 unfold K6
 rw[if_neg (fun x=>x e)]
end Go.Eng
end
section
namespace Go.Eng
open Go.Proofs
set_option linter.unusedVariables false
set_option linter.unusedSimpArgs false
set_option maxRecDepth 100000
noncomputable def vG (len:Nat) (z:Nat→Int):AV:=.slcT none (.M [.arr .u16 z len]) 1 len false
theorem KW (n:Nat) (w:Int) (ls ld lb:Nat) (zs zd zb:Nat→Int) (H:ae) (j:Int):aH (bF n 42 49) (il aG n 0) aJ aK (part Try.f42 [1,1,0,1,0,0]) (hints [(1,vG lb zb),(2,AV.ptr 0 0 0 0),(5,AV.nils),(6,AV.int IntKind.i64 j)]) (a6 w ls ld zs zd::H) =
 (fun (Z0:a8)=>Tr.ite (bA j (Int.ofNat ld)) (Tr.req (br j ld) (Tr.req (bt (au (al 0 j 3) 1) (aI ld 3)) (Tr.req (bt (au (au (al 0 j 3) 1) 1) (aI ld 3)) (Tr.ite (bA (Int.ofNat 0) (Int.ofNat lb)) (Tr.req (aD (aF (Int.ofNat lb) (Int.ofNat 0))) (Tr.req (br (gn IntKind.i64 j (Int.ofNat lb)) lb) (Tr.req (bt (al 0 (gn IntKind.i64 j (Int.ofNat lb)) 1) lb) (Tr.req (aD (aF (ay .i64 (az .i64 (zd (au (au (al 0 j 3) 1) 1)) (zd (au (al 0 j 3) 1))) (Int.ofNat 1)) (Int.ofNat 0))) (Tr.req (gx 0 1 8) (Tr.req (cB 1 1) (Tr.ok (Ex.normal,Z0,{ lock:=false,bs:=[(0,aj.row (Row.G [AV.int .i64 w,aU 2 ls zs,aU 3 ld zd])),(0,aj.row (Row.I .i64 [zd (au (al 0 j 3) 1),zd (au (au (al 0 j 3) 1) 1)])),(0,aj.row (Row.I .i64 [ay .i64 (zd (au (al 0 j 3) 1)) (gn IntKind.i64 (qH IntKind.i64 (zb (al 0 (gn IntKind.i64 j (Int.ofNat lb)) 1))) (ay .i64 (az .i64 (zd (au (au (al 0 j 3) 1) 1)) (zd (au (al 0 j 3) 1))) (Int.ofNat 1)))])),(0,aj.row (Row.M [aC.arr .i64 (bE [ay .i64 (zd (au (al 0 j 3) 1)) (gn IntKind.i64 (qH IntKind.i64 (zb (al 0 (gn IntKind.i64 j (Int.ofNat lb)) 1))) (ay .i64 (az .i64 (zd (au (au (al 0 j 3) 1) 1)) (zd (au (al 0 j 3) 1))) (Int.ofNat 1)))]) 1]))] } :: H)))))))) (Tr.req (gx 0 1 8) (Tr.req (cB 1 1) (Tr.ok (Ex.normal,Z0,{ lock:=false,bs:=[(0,aj.row (Row.G [AV.int .i64 w,aU 2 ls zs,aU 3 ld zd])),(0,aj.row (Row.I .i64 [zd (au (al 0 j 3) 1),zd (au (au (al 0 j 3) 1) 1)])),(0,aj.row (Row.I .i64 [zd (au (al 0 j 3) 1)])),(0,aj.row (Row.M [aC.arr .i64 (bE [zd (au (al 0 j 3) 1)]) 1]))] } :: H)))))))) (Tr.ok (Ex.exit 0,[(1,AV.slcT none (Row.M [aC.arr IntKind.u16 zb lb]) 1 lb false,none),(2,AV.ptr 0 0 0 0,none),(5,AV.nils,none),(6,AV.int .i64 j,none),(13,AV.bool false,some 1)],a6 w ls ld zs zd::H))) [(1,AV.slcT none (Row.M [aC.arr IntKind.u16 zb lb]) 1 lb false,none),(2,AV.ptr 0 0 0 0,none),(5,AV.slc 0 3 0 0 1 1 none,none),(6,AV.int .i64 (ay .i64 j (Int.ofNat 1)),none)]:=by kernel_rfl
theorem KX (n:Nat) (w:Int) (ls ld lb:Nat) (zs zd zb:Nat→Int) (H:ae) (j:Int) (z:Nat→Int) (v m:Nat):aH (bF n 42 49) (il aG n 0) aJ aK (part Try.f42 [1,1,0,1,0,0]) (hints [(1,vG lb zb),(2,AV.ptr 0 0 0 0),(5,AV.slc 0 1 v 0 1 m none),(6,AV.int IntKind.i64 j)]) (II w ls ld zs zd v m z::H) =
 (fun (Z0:a8)=>((fun (Z1:Nat×aj)=>Tr.ite (bA j (Int.ofNat ld)) (Tr.req (br j ld) (Tr.req (bt (au (al 0 j 3) 1) (aI ld 3)) (Tr.req (bt (au (au (al 0 j 3) 1) 1) (aI ld 3)) (Tr.ite (bA (Int.ofNat 0) (Int.ofNat lb)) (Tr.req (aD (aF (Int.ofNat lb) (Int.ofNat 0))) (Tr.req (br (gn IntKind.i64 j (Int.ofNat lb)) lb) (Tr.req (bt (al 0 (gn IntKind.i64 j (Int.ofNat lb)) 1) lb) (Tr.req (aD (aF (ay .i64 (az .i64 (zd (au (au (al 0 j 3) 1) 1)) (zd (au (al 0 j 3) 1))) (Int.ofNat 1)) (Int.ofNat 0))) (Tr.req (gx m 1 8) (Tr.req (cB 1 1) (Tr.req (dH v v) (Tr.req (dH (au 0 m) m) (Tr.ok (Ex.normal,Z0,{ lock:=false,bs:=[Z1,(Nat.succ v,aj.row (Row.M [aC.arr .i64 (qe (nv z 0) m (bE [ay .i64 (zd (au (al 0 j 3) 1)) (gn IntKind.i64 (qH IntKind.i64 (zb (al 0 (gn IntKind.i64 j (Int.ofNat lb)) 1))) (ay .i64 (az .i64 (zd (au (au (al 0 j 3) 1) 1)) (zd (au (al 0 j 3) 1))) (Int.ofNat 1)))])) (au m 1)])),(0,aj.row (Row.I .i64 [zd (au (al 0 j 3) 1),zd (au (au (al 0 j 3) 1) 1)])),(0,aj.row (Row.I .i64 [ay .i64 (zd (au (al 0 j 3) 1)) (gn IntKind.i64 (qH IntKind.i64 (zb (al 0 (gn IntKind.i64 j (Int.ofNat lb)) 1))) (ay .i64 (az .i64 (zd (au (au (al 0 j 3) 1) 1)) (zd (au (al 0 j 3) 1))) (Int.ofNat 1)))]))] } :: H)))))))))) (Tr.req (gx m 1 8) (Tr.req (cB 1 1) (Tr.req (dH v v) (Tr.req (dH (au 0 m) m) (Tr.ok (Ex.normal,Z0,{ lock:=false,bs:=[Z1,(Nat.succ v,aj.row (Row.M [aC.arr .i64 (qe (nv z 0) m (bE [zd (au (al 0 j 3) 1)])) (au m 1)])),(0,aj.row (Row.I .i64 [zd (au (al 0 j 3) 1),zd (au (au (al 0 j 3) 1) 1)])),(0,aj.row (Row.I .i64 [zd (au (al 0 j 3) 1)]))] } :: H)))))))))) (Tr.ok (Ex.exit 0,[(1,AV.slcT none (Row.M [aC.arr IntKind.u16 zb lb]) 1 lb false,none),(2,AV.ptr 0 0 0 0,none),(5,AV.slc 0 1 v 0 1 m none,none),(6,AV.int .i64 j,none),(13,AV.bool false,some 1)],{ lock:=false,bs:=[Z1,(v,aj.row (Row.M [aC.arr .i64 z m]))] } :: H))) (0,aj.row (Row.G [AV.int .i64 w,aU 2 ls zs,aU 3 ld zd])))) [(1,AV.slcT none (Row.M [aC.arr IntKind.u16 zb lb]) 1 lb false,none),(2,AV.ptr 0 0 0 0,none),(5,AV.slc 0 1 (Nat.succ v) 0 1 (au m 1) none,none),(6,AV.int .i64 (ay .i64 j (Int.ofNat 1)),none)]:=by kernel_rfl
def jH (lb:Nat) (zb zd:Nat→Int) (i:Nat):Int:=if lb=0 then zd (i*3+1) else zd (i*3+1)+zb (i % lb) % (zd (i*3+2)-zd (i*3+1)+1)
noncomputable def Gb (lb:Nat) (zb:Nat→Int):Nat→aO
 | 0=>[(1,vG lb zb),(2,AV.ptr 0 0 0 0),(5,AV.nils),(6,AV.int IntKind.i64 ((0:Nat):Int))]
 | j+1=>[(1,vG lb zb),(2,AV.ptr 0 0 0 0),(5,AV.slc 0 1 j 0 1 (j+1) none),(6,AV.int IntKind.i64 ((j+1:Nat):Int))]
noncomputable def Hi (w:Int) (ls ld lb:Nat) (zs zd zb:Nat→Int) (H:ae):Nat→ae
 | 0=>a6 w ls ld zs zd::H
 | j+1=>II w ls ld zs zd j (j+1) (upto (jH lb zb zd) (j+1))::H
noncomputable def yM (lb:Nat) (zb zd:Nat→Int):Nat→AV
 | 0=>.nils
 | j+1=>aU 1 (j+1) (upto (jH lb zb zd) (j+1))
theorem Dj {lb:Nat} {zb zd:Nat→Int} {j:Nat} (hb:∀ i,0≤zb i∧zb i≤65535) (hd:1≤zd (j*3+1)∧zd (j*3+1)≤zd (j*3+2)∧zd (j*3+2)≤10000) (hl:0<lb) :
 ay .i64 (zd (j*3+1)) (gn .i64 (qH .i64 (zb (j % lb))) (ay .i64 (az .i64 (zd (j*3+2)) (zd (j*3+1))) (Int.ofNat 1)))=jH lb zb zd j∧zd (j*3+1)≤jH lb zb zd j∧jH lb zb zd j≤zd (j*3+2):=by
 have b:=hb (j % lb)
 unfold jH
 rw[if_neg (by omega),Dn (by omega) (by omega),oD b.1]
 simp (disch:=omega) only[nV,nW,Int.ofNat_eq_natCast,Int.natCast_one]
 have h1:=Int.emod_nonneg (zb (j % lb)) (show zd (j*3+2)-zd (j*3+1)+1≠0 by omega)
 have h2:=Int.emod_lt_of_pos (zb (j % lb)) (show 0<zd (j*3+2)-zd (j*3+1)+1 by omega)
 rw[cA (by omega) (by omega)]
 omega
theorem Dk {lb:Nat} {zb zd:Nat→Int} {j:Nat} (hb:∀ i,0≤zb i∧zb i≤65535) (hd:1≤zd (j*3+1)∧zd (j*3+1)≤zd (j*3+2)∧zd (j*3+2)≤10000):zd (j*3+1)≤jH lb zb zd j∧jH lb zb zd j≤zd (j*3+2):=by
 by_cases hl:0<lb
 · exact (Dj hb hd hl).2
 · unfold jH;rw[if_pos (by omega)];omega
theorem xo (x:Int):gn .i64 0 x=0:=by rw[oD (by omega),Int.zero_emod]
theorem oE (j lb:Nat):gn .i64 (j:Int) (lb:Int)=((j % lb:Nat):Int):=by
 rw[oD (by omega)];rfl
section
variable (n:Nat) (w:Int) (ls ld lb:Nat) (zs zd zb:Nat→Int) (H:ae)
theorem Rs (hl:ld≤40) (hlb:lb<2 ^ 40) (hb:∀ i,0≤zb i∧zb i≤65535) (hd:∀ j,j<ld→fF ls zd j=false):exec (bF n 42 49) (.block 0 (.loop (part Try.f42 [1,1,0,1,0,0]))) (Gb lb zb 0) (a6 w ls ld zs zd::H)=some (.normal,Gb lb zb ld++[(13,AV.bool false)],Hi w ls ld lb zs zd zb H ld):=by
 refine Jx (bk n) (ah _ _) (ai _ _) 0 (Gb lb zb) (Hi w ls ld lb zs zd zb H) ld (Gb lb zb ld++[(13,AV.bool false)],Hi w ls ld lb zs zd zb H ld) (by omega) (fun j hj=>?_) ?_
 · have b:=hd j hj
   simp only[fF,Bool.or_eq_false_iff,decide_eq_false_iff_not] at b
   have b':1≤zd (j*3+1)∧zd (j*3+1)≤zd (j*3+2)∧zd (j*3+2)≤10000:=by omega
   have e0:=fun (x:0<lb)=>(Dj (j:=j) (lb:=lb) (zb:=zb) (zd:=zd) hb b' x).1
   have em:0<lb→j % lb<lb:=fun x=>Nat.mod_lt _ x
   have ez:lb=0→jH lb zb zd j=zd (j*3+1):=fun x=>by unfold jH;rw[if_pos x]
   cases j with
   | zero =>
     simp only[Gb,Hi]
     rw[KW]
     simp only[Nat.zero_mul,Nat.zero_add] at b'
     repeat' first | (refine Tr.an (fun hc=>?_) (fun hc=>?_)<;>(try simp (disch:=omega) only[nV,nW,xo,Nat.add_assoc,Nat.zero_add,Int.natCast_zero,Nat.reduceAdd] at hc)<;>try omega) | (refine Tr.ao ?_ ?_;· (try simp (disch:=omega) only[nV,nW,xo,Nat.add_assoc,Nat.zero_add,Int.natCast_zero,Nat.reduceAdd]);try omega) | (refine Tr.ak ?_ ?_;· first | exact trivial | rfl | exact ⟨rfl,rfl⟩ | exact ⟨rfl,rfl,rfl⟩ | (simp (disch:=omega) only[nV,nW,xo,Nat.add_assoc,Nat.zero_add,Int.natCast_zero,Nat.reduceAdd];done) | ((try simp (disch:=omega) only[nV,nW,xo,Nat.add_assoc,Nat.zero_add,Int.natCast_zero,Nat.reduceAdd]);omega)) | fail
     all_goals
      refine Tr.aq ⟨rfl,?_⟩
      simp (disch:=omega) only[nV,Int.cast_ofNat_Int,eq_self,xo,← xK,lQ,Nat.zero_mul,Nat.zero_mod,Nat.mul_one,Int.toNat_natCast,Int.natCast_zero,Int.toNat_zero,Nat.zero_add,Nat.add_assoc,Nat.reduceAdd] at e0 ez ⊢
      first | rw[e0 (by omega)] | rw[ez (by omega)]
      rfl
   | succ j =>
     simp only[Gb,Hi]
     rw[KX]
     have hu:=xJ (jH lb zb zd) (j+1)
     repeat' first | (refine Tr.an (fun hc=>?_) (fun hc=>?_)<;>(try simp (disch:=omega) only[nV,nW,oE,Nat.add_assoc,Nat.reduceAdd] at hc)<;>try omega) | (refine Tr.ao ?_ ?_;· (try simp (disch:=omega) only[nV,nW,oE,Nat.add_assoc,Nat.reduceAdd]);try omega) | (refine Tr.ak ?_ ?_;· first | exact trivial | rfl | exact ⟨rfl,rfl⟩ | exact ⟨rfl,rfl,rfl⟩ | (simp (disch:=omega) only[nV,nW,oE,Nat.add_assoc,Nat.reduceAdd];done) | ((try simp (disch:=omega) only[nV,nW,oE,Nat.add_assoc,Nat.reduceAdd]);omega)) | fail
     all_goals
      refine Tr.aq ⟨rfl,?_⟩
      simp (disch:=omega) only[nV,Int.cast_ofNat_Int,eq_self,oE,lQ,Nat.zero_mul,Nat.mul_one,Int.toNat_natCast,Nat.zero_add,Nat.add_assoc,Nat.reduceAdd] at e0 ez hu ⊢
      first | rw[e0 (by omega),hu] | rw[← ez (by omega),hu]
      rfl
 · cases ld with
   | zero =>
     simp only[Gb,Hi]
     rw[KW]
     repeat' first | (refine Tr.an (fun hc=>?_) (fun hc=>?_)<;>(try simp (disch:=omega) only[nV,nW] at hc)<;>try omega) | (refine Tr.ao ?_ ?_;· (try simp (disch:=omega) only[nV,nW]);try omega) | (refine Tr.ak ?_ ?_;· first | exact trivial | rfl | exact ⟨rfl,rfl⟩ | exact ⟨rfl,rfl,rfl⟩ | (simp (disch:=omega) only[nV,nW];done) | ((try simp (disch:=omega) only[nV,nW]);omega)) | fail
     exact Tr.aq ⟨rfl,rfl,rfl⟩
   | succ j =>
     simp only[Gb,Hi]
     rw[KX]
     repeat' first | (refine Tr.an (fun hc=>?_) (fun hc=>?_)<;>(try simp (disch:=omega) only[nV,nW] at hc)<;>try omega) | (refine Tr.ao ?_ ?_;· (try simp (disch:=omega) only[nV,nW]);try omega) | (refine Tr.ak ?_ ?_;· first | exact trivial | rfl | exact ⟨rfl,rfl⟩ | exact ⟨rfl,rfl,rfl⟩ | (simp (disch:=omega) only[nV,nW];done) | ((try simp (disch:=omega) only[nV,nW]);omega)) | fail
     exact Tr.aq ⟨rfl,rfl,rfl⟩
theorem OQ (n:Nat) (w:Int) (ls ld lb:Nat) (zs zd zb:Nat→Int) (H:ae):aW Try.prog (cd n) 100000 42 Try.f42 (Kt.kt 42) (il aG n 0) (dc aJ 0 [(1,vG lb zb),(2,AV.ptr 0 0 0 0),(5,AV.nils),(6,AV.int IntKind.i64 (Int.ofNat 0))] (a6 w ls ld zs zd::H) (.ok (.normal,hints [(1,vG lb zb),(2,AV.ptr 0 0 0 0),(5,AV.nils),(6,AV.int IntKind.i64 (Int.ofNat 0)),(13,AV.bool false)],a6 w ls ld zs zd::H))) aK [(aa w ls zs ld zd,none),(vG lb zb,none)] H =
 (fun (Z0:aO)=>Tr.reqP (Z0=Z0∧a6 w ls ld zs zd::H=a6 w ls ld zs zd::H) (Tr.ok ((AV.nils,none),H))) [(1,AV.slcT none (Row.M [aC.arr IntKind.u16 zb lb]) 1 lb false),(2,AV.ptr 0 0 0 0),(5,AV.nils),(6,AV.int .i64 (Int.ofNat 0))]:=by kernel_rfl
theorem OR (n:Nat) (w:Int) (ls ld lb:Nat) (zs zd zb:Nat→Int) (H:ae) (j:Int) (z:Nat→Int) (v m:Nat):aW Try.prog (cd n) 100000 42 Try.f42 (Kt.kt 42) (il aG n 0) (dc aJ 0 [(1,vG lb zb),(2,AV.ptr 0 0 0 0),(5,AV.nils),(6,AV.int IntKind.i64 (Int.ofNat 0))] (a6 w ls ld zs zd::H) (.ok (.normal,hints [(1,vG lb zb),(2,AV.ptr 0 0 0 0),(5,AV.slc 0 1 v 0 1 m none),(6,AV.int IntKind.i64 j),(13,AV.bool false)],II w ls ld zs zd v m z::H))) aK [(aa w ls zs ld zd,none),(vG lb zb,none)] H =
 (fun (Z0:aO)=>Tr.reqP (Z0=Z0∧a6 w ls ld zs zd::H=a6 w ls ld zs zd::H) (Tr.req (dH v v) (Tr.req (kO 0 m 0 m) (Tr.ok ((AV.slcT none (Row.M [aC.arr .i64 (nv z 0) m]) 1 m false,none),H))))) [(1,AV.slcT none (Row.M [aC.arr IntKind.u16 zb lb]) 1 lb false),(2,AV.ptr 0 0 0 0),(5,AV.nils),(6,AV.int .i64 (Int.ofNat 0))]:=by kernel_rfl
theorem Pz:av (aL Try.f42)=[(0,.loop (part Try.f42 [1,1,0,1,0,0])),(1,part Try.f42 [1,1,0,1,0,0,1,0,0])]:=by kernel_rfl
theorem PN (hl:ld≤40) (hlb:lb<2 ^ 40) (hb:∀ i,0≤zb i∧zb i≤65535) (hd:∀ j,j<ld→fF ls zd j=false):cd (n+1) (.fn 42) [aa w ls zs ld zd,vG lb zb] H=some (yM lb zb zd ld,H):=by
 have hl:=Rs n w ls ld lb zs zd zb H hl hlb hb hd
 have hb:∀ b,(0,b) ∈ av (aL Try.f42)→b=.loop (part Try.f42 [1,1,0,1,0,0]):=fun b hb=>by rw[Pz] at hb;simpa using hb
 cases ld with
 | zero =>
   refine bp (n:=n) Try.func42 rfl rfl rfl (OQ n w ls 0 lb zs zd zb H) (bk n) (bf (ah _ _) hb (fun x hx=>by rw[← Tr.ab hx];exact hl)) (ai _ _) ?_
   repeat' first | (refine Tr.an (fun hc=>?_) (fun hc=>?_)<;>(try simp (disch:=omega) only[nV,nW] at hc)<;>try omega) | (refine Tr.ao ?_ ?_;· (try simp (disch:=omega) only[nV,nW]);try omega) | (refine Tr.ak ?_ ?_;· first | exact trivial | rfl | exact ⟨rfl,rfl⟩ | exact ⟨rfl,rfl,rfl⟩ | (simp (disch:=omega) only[nV,nW];done) | ((try simp (disch:=omega) only[nV,nW]);omega)) | fail
   exact Tr.aq ⟨rfl,rfl⟩
 | succ m =>
   refine bp (n:=n) Try.func42 rfl rfl rfl (OR n w ls (m+1) lb zs zd zb H ((m+1:Nat):Int) (upto (jH lb zb zd) (m+1)) m (m+1)) (bk n) (bf (ah _ _) hb (fun x hx=>by rw[← Tr.ab hx];exact hl)) (ai _ _) ?_
   repeat' first | (refine Tr.an (fun hc=>?_) (fun hc=>?_)<;>(try simp (disch:=omega) only[nV,nW] at hc)<;>try omega) | (refine Tr.ao ?_ ?_;· (try simp (disch:=omega) only[nV,nW]);try omega) | (refine Tr.ak ?_ ?_;· first | exact trivial | rfl | exact ⟨rfl,rfl⟩ | exact ⟨rfl,rfl,rfl⟩ | (simp (disch:=omega) only[nV,nW];done) | ((try simp (disch:=omega) only[nV,nW]);omega)) | fail
   refine Tr.aq ⟨?_,rfl⟩
   rw[hJ];rfl
end
end Go.Eng
end
section
namespace Go.Eng
set_option linter.unusedVariables false
set_option linter.unusedSimpArgs false
theorem FE {a b:Int} (h0:0≤a) (h:a≤b):a*a≤b*b:=Int.mul_le_mul h h h0 (by omega)
theorem x7 {a c a' c' x y x' y':Int} (ha:0≤a) (hc:0≤c) (ha':a≤a'∧a'≤1000000) (hc':c≤c'∧c'≤1000000) (hx:0≤x∧x≤1000) (hy:0≤y∧y≤1000) (hx':0≤x'∧x'≤1000) (hy':0≤y'∧y'≤1000) (h:dk a c x y x' y'=true):dk a' c' x y x' y'=true:=by
 have s1:=qa (k:=x-x') (M:=1000) (by omega) (by omega)
 have s2:=qa (k:=y-y') (M:=1000) (by omega) (by omega)
 have e1:IntKind.i64.wrap (x-x')=x-x':=cA (by omega) (by omega)
 have e2:IntKind.i64.wrap (y-y')=y-y':=cA (by omega) (by omega)
 have pr:∀ u v:Int,0≤u→u≤1000000→0≤v→v≤1000000→0≤4*u*v∧4*u*v≤4000000000000:=fun u v h1 h2 h3 h4=>by
  constructor
  · exact Int.mul_nonneg (by omega) h3
  · exact Int.le_trans (Int.mul_le_mul (show 4*u≤4000000 by omega) h4 h3 (by omega)) (by omega)
 unfold dk at h ⊢
 simp only[e1,e2] at h ⊢
 generalize (x-x')*(x-x')=X at s1 h ⊢
 generalize (y-y')*(y-y')=Y at s2 h ⊢
 have q1:=pr a c ha (by omega) hc (by omega)
 have q2:=pr a' c' (by omega) (by omega) (by omega) (by omega)
 have b1:=qa (k:=X+Y-a-c) (M:=4000000) (by omega) (by omega)
 have b2:=qa (k:=X+Y-a'-c') (M:=4000000) (by omega) (by omega)
 simp only[Bool.or_eq_true,decide_eq_true_eq] at h ⊢
 rw[cA (k:=X) (by omega) (by omega),cA (k:=Y) (by omega) (by omega),cA (k:=X+Y) (by omega) (by omega)] at h ⊢
 rw[cA (k:=X+Y-a) (by omega) (by omega),cA (k:=X+Y-a-c) (by omega) (by omega),cA (k:=a+c) (by omega) (by omega),cA (k:=4*a) (by omega) (by omega),cA (k:=4*a*c) (by omega) (by omega),cA (k:=(X+Y-a-c)*(X+Y-a-c)) (by omega) (by omega)] at h
 rw[cA (k:=X+Y-a') (by omega) (by omega),cA (k:=X+Y-a'-c') (by omega) (by omega),cA (k:=a'+c') (by omega) (by omega),cA (k:=4*a') (by omega) (by omega),cA (k:=4*a'*c') (by omega) (by omega),cA (k:=(X+Y-a'-c')*(X+Y-a'-c')) (by omega) (by omega)]
 by_cases hd:X+Y≤a'+c'
 · exact .inl hd
 · rcases h with h | h
   · exact .inl (by omega)
   · right
     have m1:(X+Y-a'-c')*(X+Y-a'-c')≤(X+Y-a-c)*(X+Y-a-c):=FE (by omega) (by omega)
     have m2:4*a*c≤4*a'*c':=Int.mul_le_mul (by omega) hc'.1 hc (by omega)
     omega
theorem sD {w:Int} {ls:Nat} {zs:Nat→Int} {so so':Int→Int} {p q:Int} (hB:jA ls zs so p q) (hB':jA ls zs so' p q) (hle:∀ s,so s≤so' s) (h:aV w zs so p q=true):aV w zs so' p q=true:=by
 obtain ⟨h1,h2,h3,h4⟩:=hB
 obtain ⟨_,_,_,h4'⟩:=hB'
 unfold aV at h ⊢
 split
 · rename_i hn;rw[if_pos hn] at h;exact h
 · rename_i hn
   rw[if_neg hn] at h
   dsimp only at h ⊢
   generalize hs:(if p<0 then q else p)=s at h ⊢
   generalize ho:(if p<0 then p else q)=o at h ⊢
   have ls0:0≤s∧s<ls:=by split at hs<;>omega
   have lo:o<ls:=by split at ho<;>omega
   have a0:=h4 s
   have a1:=hle s
   have a2:=h4' s
   have nz:¬ so' s=0:=by
    intro e
    rw[if_pos (by omega)] at h;cases h
   by_cases z:so s=0
   · rw[if_pos z] at h;cases h
   rw[if_neg nz]
   rw[if_neg z] at h
   by_cases e1:o=-2
   · rw[if_pos e1] at h ⊢
     simp only[decide_eq_true_eq] at h ⊢
     omega
   · rw[if_neg e1] at h ⊢
     by_cases e2:0≤o
     · rw[if_pos e2] at h ⊢
       have g1:=h3 s.toNat (by omega)
       have g2:=h3 o.toNat (by omega)
       unfold Ak at g1 g2
       have c0:=h4 o
       have c1:=hle o
       have c2:=h4' o
       rw[nD a0 c0 (by omega) (by omega) (by omega) (by omega)] at h
       rw[nD a2 c2 (by omega) (by omega) (by omega) (by omega)]
       by_cases zo:so o=0
       · rw[if_pos zo] at h;cases h
       · rw[if_neg zo] at h
         rw[if_neg (by omega)]
         exact x7 a0.1 c0.1 ⟨a1,a2.2⟩ ⟨c1,c2.2⟩ (by omega) (by omega) (by omega) (by omega) h
     · rw[if_neg e2] at h ⊢
       simp only[decide_eq_true_eq] at h ⊢
       omega
end Go.Eng
end
section
namespace Go.Eng
open Go.Proofs
set_option linter.unusedVariables false
set_option linter.unusedSimpArgs false
set_option maxRecDepth 100000
def Aj (lb:Nat) (zb zd:Nat→Int) (ld:Nat) (s:Int):Int:=im zd (upto (jH lb zb zd) ld) s ld
theorem xF {zd tr tr':Nat→Int} {s:Int} {ld:Nat} (h:∀ j,j<ld→0≤tr j∧tr j≤tr' j∧tr' j≤10000) (hl:ld≤100):∀ j,j≤ld→0≤im zd (upto tr ld) s j∧im zd (upto tr ld) s j≤im zd (upto tr' ld) s j∧im zd (upto tr' ld) s j≤10000*j:=by
 intro j
 induction j with
 | zero=>intro _;exact ⟨Int.le_refl _,Int.le_refl _,Int.le_refl _⟩
 | succ j ih =>
   intro hj
   obtain ⟨i1,i2,i3⟩:=ih (by omega)
   have b:=h j (by omega)
   have u1:upto tr ld j=tr j:=by unfold upto;rw[if_pos (by omega)]
   have u2:upto tr' ld j=tr' j:=by unfold upto;rw[if_pos (by omega)]
   unfold im
   by_cases e:zd (j*3)=s
   · rw[if_pos e,if_pos e,u1,u2,cA (by omega) (by omega),cA (by omega) (by omega)];omega
   · rw[if_neg e,if_neg e];omega
theorem yG {ls ld lb:Nat} {zd zb:Nat→Int} (hd:∀ j,j<ld→fF ls zd j=false) (hl:ld≤100) (hb:∀ i,0≤zb i∧zb i≤65535) (s:Int):lN false zd ld s≤Aj lb zb zd ld s∧Aj lb zb zd ld s≤lN true zd ld s:=by
 have b:∀ j,j<ld→(1≤zd (j*3+1)∧zd (j*3+1)≤zd (j*3+2)∧zd (j*3+2)≤10000):=fun j hj=>by
  have:=hd j hj
  simp only[fF,Bool.or_eq_false_iff,decide_eq_false_iff_not] at this
  omega
 have h1:=xF (zd:=zd) (tr:=jb false zd) (tr':=jH lb zb zd) (s:=s) (ld:=ld) (fun j hj=>by
  have b1:=b j hj
  have:=Dk (lb:=lb) hb b1
  show 0≤zd (j*3+1)∧zd (j*3+1)≤_∧_
  omega) hl ld (Nat.le_refl _)
 have h2:=xF (zd:=zd) (tr:=jH lb zb zd) (tr':=jb true zd) (s:=s) (ld:=ld) (fun j hj=>by
  have b1:=b j hj
  have:=Dk (lb:=lb) hb b1
  show _∧_≤zd (j*3+2)∧zd (j*3+2)≤_
  omega) hl ld (Nat.le_refl _)
 exact ⟨h1.2.1,h2.2.1⟩
def Ir (w:Int) (ld:Nat) (zs zd:Nat→Int) (so:Int→Int) (p q k:Int):Bool :=
 if k=2 then aV w zs (lN false zd ld) p q && (aV w zs (lN true zd ld) p q && aV w zs so p q)
 else if k=1 then !aV w zs (lN false zd ld) p q && aV w zs (lN true zd ld) p q
 else if k=0 then !aV w zs (lN false zd ld) p q && (!aV w zs (lN true zd ld) p q && !aV w zs so p q)
 else false
theorem sE {w:Int} {ls ld lb:Nat} {zs zd zb:Nat→Int} {p q:Int} (h:bN w ls ld zs zd=0) (hb:∀ i,0≤zb i∧zb i≤65535) (hp:bx ls p=true) (hq:bx ls q=true):jA ls zs (Aj lb zb zd ld) p q:=by
 obtain ⟨h1,h2,h3,h4,h5,h6⟩:=iL h
 have k:=(pc (p:=p) (q:=q) h hp hq).2
 obtain ⟨a1,a2,a3,a4⟩:=k false
 obtain ⟨_,_,_,b4⟩:=k true
 refine ⟨a1,a2,a3,fun s=>?_⟩
 have:=yG (lb:=lb) h6 (by omega) hb s
 have:=a4 s
 have:=b4 s
 omega
theorem FN {w:Int} {ls ld lb:Nat} {zs zd zb:Nat→Int} {p q:Int} (h:bN w ls ld zs zd=0) (hb:∀ i,0≤zb i∧zb i≤65535) (hp:bx ls p=true) (hq:bx ls q=true):Ir w ld zs zd (Aj lb zb zd ld) p q (jZ w ld zs zd p q)=true:=by
 obtain ⟨h1,h2,h3,h4,h5,h6⟩:=iL h
 have k:=(pc (p:=p) (q:=q) h hp hq).2
 have kt:=sE (lb:=lb) (zb:=zb) h hb hp hq
 have m1:=sD (w:=w) (k false) kt (fun s=>(yG h6 (by omega) hb s).1)
 have m2:=sD (w:=w) kt (k true) (fun s=>(yG h6 (by omega) hb s).2)
 unfold Ir jZ
 revert m1 m2
 cases aV w zs (lN false zd ld) p q<;>cases aV w zs (lN true zd ld) p q<;>cases aV w zs (Aj lb zb zd ld) p q<;>simp
section
variable (n:Nat) (w:Int) (ls ld lb:Nat) (zs zd zb:Nat→Int) (H:ae) (p q:Int)
theorem L4 (s:Int) (h2:ld<2 ^ 16):cd (n+1) (.fn 45) [aa w ls zs ld zd,yM lb zb zd ld,.int .i64 s] H=some (.int .i64 (Aj lb zb zd ld s),H):=by
 cases ld with
 | zero=>exact Ja n w ls 0 zs zd H s false h2
 | succ m=>exact Pg n w ls (m+1) (m+1) zs zd (upto (jH lb zb zd) (m+1)) H s (Nat.le_refl _) h2
theorem JD (h2:ld<2 ^ 16):(il (b7 aG 45 (wh (aa w ls zs ld zd) (yM lb zb zd ld) True (Aj lb zb zd ld))) (n+1) 1).Ok (cd (n+2)):=by
 refine bQ _ (n+1) 1 (fun k=>bI (bB _) (fun args p v hg hp H=>?_))
 unfold wh at hg
 split at hg
 · simp only[nP] at hg
   obtain ⟨rfl,rfl⟩:=hg
   obtain ⟨rfl,rfl,_⟩:=hp
   rw[show n+1+k=n+k+1 by omega]
   exact L4 (n+k) w ls ld lb zs zd zb H _ h2
 · cases hg
theorem L5 (h2:ld<2 ^ 16) (hB:jA ls zs (Aj lb zb zd ld) p q):cd (n+3) (.fn 46) [aa w ls zs ld zd,yM lb zb zd ld,.int .i64 p,.int .i64 q] H=some (.bool (aV w zs (Aj lb zb zd ld) p q),H):=by
 rw[← xH w ls zs p q _ hB]
 have hi:=JD n w ls ld lb zs zd zb h2
 cases ld with
 | zero =>
   obtain ⟨y,hy1,hy2⟩:=C5 n w ls 0 zs zd H p q (Aj lb zb zd 0) hB
   have:=nN (n:=n+2) Try.func46 rfl rfl (args:=[(aa w ls zs 0 zd,none),(.nils,none),(.int .i64 p,none),(.int .i64 q,none)]) rfl hi (ah _ _) (ai _ _) hy1
   rw[hy2] at this
   exact this
 | succ m =>
   obtain ⟨y,hy1,hy2⟩:=C4 n w ls (m+1) zs zd H p q (Aj lb zb zd (m+1)) (m+1) (upto (jH lb zb zd) (m+1)) hB
   have:=nN (n:=n+2) Try.func46 rfl rfl (args:=[(aa w ls zs (m+1) zd,none),(aU 1 (m+1) (upto (jH lb zb zd) (m+1)),none),(.int .i64 p,none),(.int .i64 q,none)]) rfl hi (ah _ _) (ai _ _) hy1
   rw[hy2] at this
   exact this
end
end Go.Eng
end
section
namespace Go.Eng
open Go.Proofs
set_option linter.unusedVariables false
set_option linter.unusedSimpArgs false
set_option maxRecDepth 100000
section
variable (n:Nat) (H:ae)
end
end Go.Eng
end
section
namespace Go.Eng
open Go.Proofs
set_option linter.unusedVariables false
set_option linter.unusedSimpArgs false
set_option maxRecDepth 100000
section
variable (n:Nat) (w:Int) (ls ld:Nat) (zs zd:Nat→Int) (H:ae) (p q:Int)
end
end Go.Eng
end
section
namespace Go.Eng
open Go.Proofs
set_option linter.unusedVariables false
set_option linter.unusedSimpArgs false
set_option maxRecDepth 100000
noncomputable def IH (B U T:AV):List AV→Option (Prop×AV)
 | [b,u]=>some (b=B∧u=U,T)
 | _=>none
noncomputable def AS (B:AV) (a b p q:Int):List AV→Option (Prop×AV)
 | [x,.agg (.I .u8 [c,d])]=>some (x=B∧c=a∧d=b,.tup [.int .i64 p,.int .i64 q])
 | _=>none
section
variable (n:Nat) (w:Int) (ls ld lt:Nat) (zs zd tr:Nat→Int) (H:ae) (a b c d D F K:Int)
end
end Go.Eng
end
section
namespace Go.Eng
open Go.Proofs
set_option linter.unusedVariables false
set_option linter.unusedSimpArgs false
set_option maxRecDepth 100000
section
variable (n:Nat) (w:Int) (ls ld lb:Nat) (zs zd zb:Nat→Int) (H:ae) (a b c d:Int)
end
end Go.Eng
end
section
namespace Go.Eng
open Go.Proofs
set_option linter.unusedVariables false
set_option linter.unusedSimpArgs false
set_option maxRecDepth 100000
theorem AD {a c x y x' y':Int} (ha:0≤a∧a≤1000000) (hc:0≤c∧c≤1000000) (hx:0≤x∧x≤1000) (hy:0≤y∧y≤1000) (hx':0≤x'∧x'≤1000) (hy':0≤y'∧y'≤1000):dk a c x y x' y'=dk c a x' y' x y:=by
 have s1:=qa (k:=x-x') (M:=1000) (by omega) (by omega)
 have s2:=qa (k:=y-y') (M:=1000) (by omega) (by omega)
 have e1:IntKind.i64.wrap (x-x')=x-x':=cA (by omega) (by omega)
 have e2:IntKind.i64.wrap (y-y')=y-y':=cA (by omega) (by omega)
 have e3:IntKind.i64.wrap (x'-x)=-(x-x'):=by rw[cA (by omega) (by omega)];omega
 have e4:IntKind.i64.wrap (y'-y)=-(y-y'):=by rw[cA (by omega) (by omega)];omega
 have pr:∀ u v:Int,0≤u→u≤1000000→0≤v→v≤1000000→0≤4*u*v∧4*u*v≤4000000000000:=fun u v h1 h2 h3 h4=>by
  constructor
  · exact Int.mul_nonneg (by omega) h3
  · exact Int.le_trans (Int.mul_le_mul (show 4*u≤4000000 by omega) h4 h3 (by omega)) (by omega)
 have q1:=pr a c ha.1 ha.2 hc.1 hc.2
 have q2:4*c*a=4*a*c:=by rw[Int.mul_assoc,Int.mul_comm c a,← Int.mul_assoc]
 unfold dk
 simp only[e1,e2,e3,e4,Int.neg_mul_neg]
 generalize (x-x')*(x-x')=X at s1 ⊢
 generalize (y-y')*(y-y')=Y at s2 ⊢
 rw[cA (k:=X) (by omega) (by omega),cA (k:=Y) (by omega) (by omega),cA (k:=X+Y) (by omega) (by omega),cA (k:=X+Y-a) (by omega) (by omega),cA (k:=X+Y-c) (by omega) (by omega),cA (k:=X+Y-a-c) (by omega) (by omega),show X+Y-c-a=X+Y-a-c by omega,cA (k:=X+Y-a-c) (by omega) (by omega),Int.add_comm c a,cA (k:=4*a) (by omega) (by omega),cA (k:=4*c) (by omega) (by omega),q2]
theorem Br {w:Int} {ls:Nat} {zs:Nat→Int} {so:Int→Int} {p q:Int} (hB:jA ls zs so p q) (hp:0≤p) (hq:0≤q):aV w zs so p q=aV w zs so q p:=by
 obtain ⟨h1,h2,h3,h4⟩:=hB
 have g1:=h3 p.toNat (by omega)
 have g2:=h3 q.toNat (by omega)
 unfold Ak at g1 g2
 unfold aV
 simp only[show ¬ p<0 by omega,show ¬ q<0 by omega,and_self,if_false,show ¬ q=-2 by omega,show ¬ p=-2 by omega,if_pos hq,if_pos hp]
 rw[nD (h4 p) (h4 q) (by omega) (by omega) (by omega) (by omega),nD (h4 q) (h4 p) (by omega) (by omega) (by omega) (by omega),AD (h4 p) (h4 q) (by omega) (by omega) (by omega) (by omega)]
 by_cases z1:so p=0<;>by_cases z2:so q=0<;>simp[z1,z2]
end Go.Eng
end
