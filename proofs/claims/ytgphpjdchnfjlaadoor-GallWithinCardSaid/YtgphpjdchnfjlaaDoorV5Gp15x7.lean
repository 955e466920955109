/- Gall: right orders and right blocks (plain law): either the one or the other. -/
import Derived.Test.YtgphpjdchnfjlaaDoorV5Gp14x7
import Derived.Test.YtgphpjdchnfjlaaDoorV5Gaux9
set_option linter.unusedVariables false
set_option linter.unusedSimpArgs false
set_option maxRecDepth 100000
section
namespace Go.Eng
open Go.Proofs Go.Eng.Gall Go.Eng.Q
theorem xp (L:List Nat) (j:Nat):az (gZ L) j=((L.getD j 0:Nat):Int):=by
 rw[qC];unfold gZ;rw[List.getD_eq_getElem?_getD,List.getElem?_map,List.getD_eq_getElem?_getD];cases L[j]?<;>rfl
theorem lK {z:Nat→Int} {m i:Nat} (h:i<(l9 z m).length):(l9 z m)[i]=(z i).toNat:=by
 simp[l9]
theorem jP (z:Nat→Int) (m:Nat):(l9 z m).length=m:=by unfold l9;simp
theorem zU (z:Nat→Int) {m i:Nat} (h:i≤m):(l9 z m).take i=l9 z i:=by
 refine List.ext_getElem (by rw[List.length_take,jP,jP];omega) (fun j a b=>?_);rw[List.getElem_take,lK,lK]
theorem Nn (L:List Nat):l9 (az (gZ L)) L.length=L:=by
 refine List.ext_getElem (jP _ _) (fun j a b=>?_);rw[lK,xp,Int.toNat_natCast,List.getD_eq_getElem?_getD,List.getElem?_eq_getElem b];rfl
section
variable {O:Int} {U:Nat} {Z:Nat→Int} {V:Nat} {J:Nat→Int}
theorem CI (h0:dm O U Z V J=0) {m:Nat} {z:Nat→Int}:uY U (bR O U Z) V J m z=0↔zG z U m=true∧l9 z m ∈ ro U (okW (bR O U Z) (gv V J)) U:=by
 obtain ⟨h1,h2,h3,h4,h5,h6⟩:=kr h0;have hb:∀ c,c<U→dq J c V<2 ^ U:=fun c _=>qc J c U V fun i hi=>(h5 i hi).1;rw[show gv V J=bI (fun c=>dq J c V) from rfl,fw h1.2 hb,OC];constructor
 · rintro ⟨hp,hs,hb2⟩;obtain ⟨p1,p2⟩:=gk.1 hp;have hn:=qM hp m (Nat.le_refl m);refine ⟨hp,by rw[jP,p1],hn,fun x hx=>?_,fun i hi=>?_⟩
   · obtain ⟨i,hi,rfl⟩:=jQ.1 hx;have:=(p2 i hi).1;omega
   · have hi':i<m:=by rwa [jP] at hi
     have hr:=(p2 i hi').1;rw[lK,zU _ wO];refine ⟨fun a ha=>?_,?_⟩
     · have han:a<U:=by
        refine Nat.lt_of_not_le fun hge=>?_;rw[Nat.testBit_lt_two_pow (Nat.lt_of_lt_of_le (hb _ wO) (Nat.pow_le_pow_right wO hge))] at ha;cases ha
       obtain ⟨j,hj,hz⟩:=Hg hp han;rcases Nat.lt_trichotomy j i with q | q | q
       · exact jQ.2 ⟨j,q,by rw[hz];rfl⟩
       · subst q;have:=DG h0 (a:Int);rw[pJ h5] at this;rw[hz] at ha;have ha:(dq J a V).testBit a=true:=ha;rw[ha] at this;cases this
       · have:=hb2 j hj i q;rw[hz,show z i=((z i).toNat:Int) by omega,pJ h5,ha] at this;cases this
     · have:=hs i hi';unfold oT at this;rw[Bool.and_eq_true,decide_eq_true_iff,decide_eq_true_iff] at this;exact this
 · rintro ⟨hp,h⟩;obtain ⟨p1,p2⟩:=gk.1 hp;obtain ⟨r1,r2,r3,r4⟩:=h;refine ⟨hp,fun j hj=>?_,fun i hi j hj=>?_⟩
   · have:=(r4 j (by rw[jP];exact hj)).2;rw[lK] at this;unfold oT;rw[Bool.and_eq_true,decide_eq_true_iff,decide_eq_true_iff];exact this
   · have hi1:=(p2 i hi).1;have hj1:=(p2 j wO).1;cases e:pI V J (z i) (z j) with
     | false=>rfl
     | true =>
       exfalso;rw[show z i=((z i).toNat:Int) by omega,show z j=((z j).toNat:Int) by omega,pJ h5] at e;have:=(r4 j (by rw[jP];omega)).1;rw[lK,zU _ wO] at this;obtain ⟨k,hk,hz⟩:=jQ.1 (this _ e);have h3:=(p2 k wO).1;exact (p2 i hi).2 k wO wO
theorem PQ (h0:dm O U Z V J=0) {L:List Nat} (hL:L ∈ ro U (okW (bR O U Z) (gv V J)) U):uY U (bR O U Z) V J U (az (gZ L))=0:=by
 obtain ⟨h1,h2,h3⟩:=j9 hL;refine (CI h0).2 ⟨gk.2 ⟨rfl,fun i hi=>?_⟩,by rw[← h1,Nn,h1];exact hL⟩;have hi':i<L.length:=by omega
 have hg:∀ j,(hj:j<L.length)→L.getD j 0=L[j]:=fun j hj=>by rw[List.getD_eq_getElem?_getD,List.getElem?_eq_getElem hj];rfl
 rw[xp,hg i hi'];have:=h3 _ (List.getElem_mem hi');refine ⟨by omega,fun j hj=>?_⟩;rw[xp,hg j wO];have:=(List.pairwise_iff_getElem.1 h2) j i wO hi' hj;have:L[j]≠L[i]:=this;omega
theorem Kl (c:Nat) (hc:c<U) (b:Nat→Nat) (W:Nat→Int):eU U b W (c*2)=fC U b W U c∧eU U b W (c*2+1)=-fA U b W U c:=by
 unfold eU;rw[if_pos wO,if_pos wO,if_pos wO,if_neg wO,show c*2 / 2=c by omega,show (c*2+1) / 2=c by omega];exact ⟨rfl,rfl⟩
end
end Go.Eng
end
section
namespace Go.Eng
open Go.Proofs Go.Eng.Gall Go.Eng.Q
section
variable {O:Int} {U:Nat} {Z zx:Nat→Int}
end
end Go.Eng
end
section
namespace Go.Eng
open Go.Proofs Go.Eng.Gall Go.Eng.Q
def u0 (W:Nat→Int) (c k:Nat) (i:Nat):Int:=if i / 2=c then (k:Int) else W i
theorem Bq (W:Nat→Int) (c k:Nat):dh (dh W (2*c) (k:Int)) (2*c+1) (k:Int)=u0 W c k:=by
 rw[hJ,hJ];funext i;dsimp only;unfold u0;by_cases e1:i=2*c+1
 · rw[if_pos e1,if_pos wO]
 · rw[if_neg e1];by_cases e2:i=2*c
   · rw[if_pos e2,if_pos wO]
   · rw[if_neg e2,if_neg wO]
section
variable {n:Nat} {g:Nat→Nat} {W:Nat→Int} {c k:Nat}
theorem Gf (hS:eN n W g) (hc:c<n) (hk:k<n):eN n (u0 W c k) g:=by
 have hl:=hS.len;refine ⟨hS.len,fun j=>?_,fun j hj=>?_,hS.bef,hS.off,hS.nob⟩
 · unfold u0;split
   · omega
   · exact hS.win j
 · unfold u0;rw[if_neg wO];exact hS.zer j hj
theorem ON (hW:∀ c,c<n→0≤W (2*c)∧W (2*c+1)<n) (hk:k<n) (d:Nat) (hd:d<n):0≤u0 W c k (2*d)∧u0 W c k (2*d+1)<n:=by
 unfold u0;rw[show 2*d / 2=d by omega,show (2*d+1) / 2=d by omega];split
 · omega
 · exact hW d hd
theorem Ku (hn:n≤10) (hg:∀ c,c<n→g c<2 ^ n) (hc:c<n) (hs:W (2*c)≤(k:Int)∧(k:Int)≤W (2*c+1)) (R:List Nat):R ∈ ro n (okW (u0 W c k) (bI g)) n↔R ∈ ro n (okW W (bI g)) n∧R.idxOf c=k:=by
 rw[fw hn hg,fw hn hg];have hw:∀ d b,b<2→u0 W c k (2*d+b)=if d=c then (k:Int) else W (2*d+b):=fun d b hb=>by
  unfold u0;rw[show (2*d+b) / 2=d by omega]
 constructor
 · rintro ⟨h1,h2,h3,h4⟩;have hk:R.idxOf c=k:=by
    obtain ⟨hi,he⟩:=gz (gb h2 h1 h3 hc);have h5:=(h4 _ hi).2;rw[he] at h5;have e0:=hw c 0 wO;rw[Nat.add_zero] at e0;rw[e0,hw c 1 wO,if_pos rfl,if_pos rfl] at h5;omega
   refine ⟨⟨h1,h2,h3,fun i hi=>⟨(h4 i hi).1,?_⟩⟩,hk⟩;have h5:=(h4 i hi).2;have e0:=hw R[i] 0 wO;rw[Nat.add_zero] at e0;rw[e0,hw R[i] 1 wO] at h5;by_cases hm:R[i]=c
   · rw[if_pos hm,if_pos hm] at h5;rw[hm];have:i=k:=by omega
     rw[this];exact hs
   · rw[if_neg hm,if_neg hm] at h5;exact h5
 · rintro ⟨⟨h1,h2,h3,h4⟩,h5⟩;refine ⟨h1,h2,h3,fun i hi=>⟨(h4 i hi).1,?_⟩⟩;have e0:=hw R[i] 0 wO;rw[Nat.add_zero] at e0;rw[e0,hw R[i] 1 wO];by_cases hm:R[i]=c
   · rw[if_pos hm,if_pos hm];have:=tc h2 hi;rw[hm,h5] at this;omega
   · rw[if_neg hm,if_neg hm];exact (h4 i hi).2
variable (n g W) in
noncomputable def ES (c k:Nat):Bool:=oT W (c:Int) (k:Int) && vt n g (u0 W c k)
variable (n g W) in
noncomputable def Na (c:Nat):List Nat:=(List.range n).filter fun k=>ES n g W c k
theorem Ac (W:Nat→Int) (c k:Nat):oT W (c:Int) (k:Int)=true↔W (2*c)≤(k:Int)∧(k:Int)≤W (2*c+1):=by
 unfold oT;rw[Bool.and_eq_true,decide_eq_true_iff,decide_eq_true_iff];exact Iff.rfl
theorem Hf (hS:eN n W g) (hW:∀ c,c<n→0≤W (2*c)∧W (2*c+1)<n) (hc:c<n) (hk:k<n):ES n g W c k=true↔∃ R ∈ ro n (okW W (bI g)) n,R.idxOf c=k:=by
 unfold ES;rw[Bool.and_eq_true,Ac];unfold vt;rw[Option.isNone_iff_eq_none,wM (Gf hS hc hk) (ON hW hk)];constructor
 · rintro ⟨hs,R,hR⟩;exact ⟨R,(Ku hS.len hS.bef hc hs R).1 hR⟩
 · rintro ⟨R,hR,he⟩;have hs:W (2*c)≤(k:Int)∧(k:Int)≤W (2*c+1):=by
    obtain ⟨h1,h2,h3,h4⟩:=(fw hS.len hS.bef).1 hR;obtain ⟨hi,hx⟩:=gz (gb h2 h1 h3 hc);have:=(h4 _ hi).2;rw[hx,he] at this;exact this
   exact ⟨hs,R,(Ku hS.len hS.bef hc hs R).2 ⟨hR,he⟩⟩
theorem BZ (hS:eN n W g) (hW:∀ c,c<n→0≤W (2*c)∧W (2*c+1)<n) (hc:c<n):k ∈ Na n g W c↔∃ R ∈ ro n (okW W (bI g)) n,R.idxOf c=k:=by
 unfold Na;rw[List.mem_filter,List.mem_range];constructor
 · rintro ⟨h1,h2⟩;exact (Hf hS hW hc h1).1 h2
 · rintro ⟨R,hR,he⟩;obtain ⟨h1,h2,h3⟩:=j9 hR;have hk:k<n:=by
    have:=List.idxOf_lt_length_iff.2 (gb h2 h1 h3 hc);omega
   exact ⟨hk,(Hf hS hW hc hk).2 ⟨R,hR,he⟩⟩
theorem Nb (c:Nat):(Na n g W c).Pairwise (· < ·):=List.Pairwise.filter _ List.pairwise_lt_range
theorem Nd (h:vt n g W=true) (hk:k<n) (h1:W (2*c)=(k:Int)) (h2:W (2*c+1)=(k:Int)):Na n g W c=[k]:=by
 have e:u0 W c k=W:=by
  funext i;unfold u0;by_cases q:i / 2=c
  · rw[if_pos q];rcases Nat.mod_two_eq_zero_or_one i with r | r
    · rw[show i=2*c by omega,h1]
    · rw[show i=2*c+1 by omega,h2]
  · rw[if_neg q]
 have hp:∀ j,ES n g W c j=decide (j=k):=fun j=>by
  unfold ES;by_cases q:j=k
  · subst q;rw[e,h,Bool.and_true,decide_eq_true rfl];exact (Ac W c j).2 ⟨by omega,by omega⟩
  · rw[decide_eq_false q];cases hs:oT W (c:Int) (j:Int) with
    | false=>rfl
    | true=>have:=(Ac W c j).1 hs;omega
 unfold Na;rw[List.filter_congr (fun j _=>hp j)];refine (List.perm_singleton).1 ?_;refine (List.perm_ext_iff_of_nodup (List.Pairwise.filter _ List.nodup_range) (by simp)).2 fun a=>?_;rw[List.mem_filter,List.mem_range,decide_eq_true_iff,List.mem_singleton];exact ⟨fun h=>h.2,fun h=>⟨by omega,h⟩⟩
end
end Go.Eng
end
section
namespace Go.Eng
open Int (ofNat)
open Go.Proofs Go.Eng.Gall
noncomputable def sE (d:Nat):AV:=.slc d 4 0 0 1 1 (some 1)
noncomputable def gH (b0 b1 b2 b3:Nat×al) (c:Int):bC:=⟨false,[b0,b1,b2,b3,(0,.row (.I .i64 [c]))]⟩
noncomputable def qY (j:Int):aD:=[(0,sE 4),(1,lY 2),(7,.int .i64 (ofNat 1)),(8,.int .i64 j)]
theorem Qh (n:Nat) (O:Int) (U:Nat) (Z:Nat→Int) (V:Nat) (J:Nat→Int) (H:aa) (r2:Row) (b0 b1 b2 b3:Nat×al) (c:Int) (j:Int):aF (bJ (n+1) 89 19) (il aC n 1) aK aJ (part Tryd.f89 [1,0,1,0,0]) (hints (qY j)) (ao::ao::bU O U Z V J::⟨false,[(0,.row r2)]⟩::gH b0 b1 b2 b3 c::H) =
 (fun (Z0:bC)=>((fun (Z1:bC)=>Tr.ite (bF j (ofNat 1)) (Tr.req (cu j 1) (Tr.req (cH 0 0) (Tr.req (bX (aq 0 j 1) (EF [c])) (Tr.ite (bF (az [c] (aq 0 j 1)) (ofNat 0)) (Tr.ok (Ex.ret,[(4,AV.int .i64 j,none)],ao::ao::Z1::(bm [(0,al.row r2)])::Z0::H)) (Tr.ite (di (ofNat U) (az [c] (aq 0 j 1))) (Tr.ok (Ex.ret,[(4,AV.int .i64 j,none)],ao::ao::Z1::(bm [(0,al.row r2)])::Z0::H)) (Tr.ok (Ex.normal,[(0,AV.slc 4 4 0 0 1 1 (some 1),none),(1,AV.fn (Fn.func 80) [] [AV.ptr 2 0 0 0],none),(7,iI 1,none),(8,AV.int .i64 (bj .i64 j (ofNat 1)),none)],ao::ao::Z1::(bm [(0,al.row r2)])::Z0::H))))))) (Tr.ok (Ex.exit 0,[(0,AV.slc 4 4 0 0 1 1 (some 1),none),(1,AV.fn (Fn.func 80) [] [AV.ptr 2 0 0 0],none),(7,iI 1,none),(8,AV.int .i64 j,none),(9,AV.bool false,some 1)],ao::ao::Z1::(bm [(0,al.row r2)])::Z0::H))) (bm [(0,dc O U Z V J)]))) (bm [b0,b1,b2,b3,(0,al.row (Row.I .i64 [c]))]):=by kernel_rfl
theorem Uk (n:Nat) (e:Bool) (G:aa):aZ Tryd.prog (cd n) 100000 89 Tryd.f89 (KtG.kt 89) (il aC n 0) (cE aK 0 (qY (ofNat 0)) (ao::G) (.ite e (.ok (.ret,[(4,.int .i64 (ofNat 0),none)],ao::G)) (.ok (.normal,hints (qY (ofNat 1)++[(9,.bool false)]),ao::G)))) aJ [(sE 3,none),(lY 1,none)] G =
 (fun (Z0:aD)=>Tr.reqP (Z0=Z0∧ao::G=ao::G) (Tr.ite e (Tr.ok ((iI 0,none),G)) (Tr.ok ((AV.int .i64 (Int.negSucc 0),some 1),G)))) [(0,AV.slc 4 4 0 0 1 1 (some 1)),(1,AV.fn (Fn.func 80) [] [AV.ptr 2 0 0 0]),(7,iI 1),(8,iI 0)]:=by kernel_rfl
theorem Uc (n:Nat) (i:Int) (G:aa):aZ Tryd.prog (cd n) 100000 67 Tryd.f67 (KtG.kt 67) (il (kX aC 89 [sE 3,lY 1] (ao::G) (.ok (.int .i64 i,ao::G))) n 0) aK aJ [(sE 2,none),(lY 0,none)] G =
 Tr.reqP ([AV.slc 3 4 0 0 1 1 (some 1),AV.fn (Fn.func 80) [] [AV.ptr 1 0 0 0]]=[AV.slc 3 4 0 0 1 1 (some 1),AV.fn (Fn.func 80) [] [AV.ptr 1 0 0 0]]∧ao::G=ao::G) (Tr.ok ((AV.bool (di (ofNat 0) i),none),G)):=by kernel_rfl
theorem T7 (n:Nat) (O:Int) (U:Nat) (Z:Nat→Int) (V:Nat) (J:Nat→Int) (W B:Nat→Int) (G:aa) (e:Int) (q:Bool) (C:List AV→Prop):aZ Tryd.prog (cd n) 100000 49 Tryd.f49 (KtG.kt 49) (il (kX (mc (tX aC 22 [bt O U Z V J] (.int .i64 e)) 62 (fun x=>some (C x,shV O U Z V J W B))) 67 [sE 2,lY 0] (bU O U Z V J::G) (.ok (.bool q,bU O U Z V J::G))) n 0) aK aJ [(bt O U Z V J,none),(sE 1,none)] G =
 Tr.reqP ([bt O U Z V J]=[bt O U Z V J]) (Tr.ite (bf (cq e (ofNat 0))) (Tr.ok ((AV.tup [AV.nilp,AV.int .i64 e],none),G)) (Tr.reqP ([AV.slc 2 4 0 0 1 1 (some 1),AV.fn (Fn.func 80) [] [AV.ptr 0 0 0 0]]=[AV.slc 2 4 0 0 1 1 (some 1),AV.fn (Fn.func 80) [] [AV.ptr 0 0 0 0]]∧(bm [(0,dc O U Z V J)])::G=(bm [(0,dc O U Z V J)])::G) (Tr.ite q (Tr.ok ((AV.tup [AV.nilp,iI 2],none),G)) (Tr.reqP (C [bt O U Z V J]) (Tr.ok ((AV.tup [shV O U Z V J W B,iI 0],none),G)))))):=by kernel_rfl
theorem Ud (n:Nat) (O:Int) (U:Nat) (Z:Nat→Int) (V:Nat) (J:Nat→Int) (W B:Nat→Int) (G:aa) (f t:Int):aZ Tryd.prog (cd n) 100000 69 Tryd.f69 (KtG.kt 69) (il (kX (tX aC 65 [shV O U Z V J W B] (.tup [.agg (.G [.int .i64 f,.int .i64 t,.nils]),.bool false])) 49 [bt O U Z V J,sE 1] (bU O U Z V J::G) (.ok (.tup [shV O U Z V J W B,.int .i64 (ofNat 0)],bU O U Z V J::G))) n 0) aK aJ [(bt O U Z V J,none),(sE 0,none)] G =
 Tr.reqP ([bt O U Z V J,AV.slc 1 4 0 0 1 1 (some 1)]=[bt O U Z V J,AV.slc 1 4 0 0 1 1 (some 1)]∧(bm [(0,dc O U Z V J)])::G=(bm [(0,dc O U Z V J)])::G) (Tr.ite (bf (cq (ofNat 0) (ofNat 0))) (Tr.ok ((AV.tup [AV.nilp,iI 0],none),G)) (Tr.reqP ([shV O U Z V J W B]=[shV O U Z V J W B]) (Tr.ite false (Tr.ok ((AV.tup [AV.nilp,iI 13],none),G)) (Tr.ok ((AV.tup [shV O U Z V J W B,iI 0],none),G))))):=by kernel_rfl
theorem Ue (n:Nat) (O:Int) (U:Nat) (Z:Nat→Int) (V:Nat) (J:Nat→Int) (W B:Nat→Int) (G:aa) (f t:Int) (m:Nat) (y:Nat→Int):aZ Tryd.prog (cd n) 100000 69 Tryd.f69 (KtG.kt 69) (il (kX (tX aC 65 [shV O U Z V J W B] (.tup [.agg (.G [.int .i64 f,.int .i64 t,aP m y false]),.bool true])) 49 [bt O U Z V J,sE 1] (bU O U Z V J::G) (.ok (.tup [shV O U Z V J W B,.int .i64 (ofNat 0)],bU O U Z V J::G))) n 0) aK aJ [(bt O U Z V J,none),(sE 0,none)] G =
 Tr.reqP ([bt O U Z V J,AV.slc 1 4 0 0 1 1 (some 1)]=[bt O U Z V J,AV.slc 1 4 0 0 1 1 (some 1)]∧(bm [(0,dc O U Z V J)])::G=(bm [(0,dc O U Z V J)])::G) (Tr.ite (bf (cq (ofNat 0) (ofNat 0))) (Tr.ok ((AV.tup [AV.nilp,iI 0],none),G)) (Tr.reqP ([shV O U Z V J W B]=[shV O U Z V J W B]) (Tr.ite true (Tr.ok ((AV.tup [AV.nilp,iI 13],none),G)) (Tr.ok ((AV.tup [shV O U Z V J W B,iI 0],none),G))))):=by kernel_rfl
theorem Uf (n:Nat) (O:Int) (U:Nat) (Z:Nat→Int) (V:Nat) (J:Nat→Int) (G:aa) (e:Int):aZ Tryd.prog (cd n) 100000 69 Tryd.f69 (KtG.kt 69) (il (tN (kX aC 49 [bt O U Z V J,sE 1] (bU O U Z V J::G) (.ok (.tup [.nilp,.int .i64 e],bU O U Z V J::G))) 65) n 0) aK aJ [(bt O U Z V J,none),(sE 0,none)] G =
 Tr.reqP ([bt O U Z V J,AV.slc 1 4 0 0 1 1 (some 1)]=[bt O U Z V J,AV.slc 1 4 0 0 1 1 (some 1)]∧(bm [(0,dc O U Z V J)])::G=(bm [(0,dc O U Z V J)])::G) (Tr.ite (bf (cq e (ofNat 0))) (Tr.ok ((AV.tup [AV.nilp,AV.int .i64 e],none),G)) Tr.bad):=by kernel_rfl
end Go.Eng
end
section
namespace Go.Eng
open Int (ofNat)
open Go.Proofs Go.Eng.Gall
section
variable (n:Nat) (O:Int) (U:Nat) (Z:Nat→Int) (V:Nat) (J:Nat→Int) (H:aa)
theorem Rc (r2:Row) (b0 b1 b2 b3:Nat×al) (c:Int) (hl:U≤1000):cd (n+3) (.fn 67) [sE 2,lY 0] (bU O U Z V J::⟨false,[(0,.row r2)]⟩::gH b0 b1 b2 b3 c::H)=some (.bool (decide (c<0) || decide ((U:Int)≤c)),bU O U Z V J::⟨false,[(0,.row r2)]⟩::gH b0 b1 b2 b3 c::H):=by
 have i0:aq 0 (ofNat 0) 1=0:=by rw[bo];rfl
 have l0:az [c] 0=c:=by rw[fa];rfl
 have s1:bj .i64 (ofNat 0) (ofNat 1)=ofNat 1:=dO (j:=0) wO;have hp:∀ e,(decide (c<0) || decide ((U:Int)≤c))=e→exec (bJ (n+1) 89 19) (.block 0 (.loop (part Tryd.f89 [1,0,1,0,0]))) (qY (ofNat 0)) (ao::ao::bU O U Z V J::⟨false,[(0,.row r2)]⟩::gH b0 b1 b2 b3 c::H)=some (cond e (.ret,[(4,.int .i64 (ofNat 0))],ao::ao::bU O U Z V J::⟨false,[(0,.row r2)]⟩::gH b0 b1 b2 b3 c::H) (.normal,qY (ofNat 1)++[(9,.bool false)],ao::ao::bU O U Z V J::⟨false,[(0,.row r2)]⟩::gH b0 b1 b2 b3 c::H)):=by
  intro e he;have hx:=ff (n:=n+1) (f:=89) (nt:=19) (c:=part Tryd.f89 [1,0,1,0,0]) 0 (fun j=>qY (j:Int)) (fun _=>ao::ao::bU O U Z V J::⟨false,[(0,.row r2)]⟩::gH b0 b1 b2 b3 c::H) 1 (fun _=>e) (fun _=>([(4,.int .i64 (ofNat 0))],ao::ao::bU O U Z V J::⟨false,[(0,.row r2)]⟩::gH b0 b1 b2 b3 c::H)) (qY (ofNat 1)++[(9,.bool false)],ao::ao::bU O U Z V J::⟨false,[(0,.row r2)]⟩::gH b0 b1 b2 b3 c::H) wO (fun j hj=>?_) ?_
  · have ee:dk (fun _=>e) 1=e:=by
     cases e with
     | true=>exact (cQ _ _).2 ⟨0,by omega,rfl⟩
     | false=>exact wV (fun _ _=>rfl)
    rw[ee] at hx;cases e with
    | true=>exact hx
    | false=>exact hx
  · have:j=0:=by omega
    subst this;have T:=Qh n O U Z V J H r2 b0 b1 b2 b3 c (ofNat 0);rw[i0,l0,s1] at T;refine aA T (dT n 1) (ah _ _) (aj _ _) ?_;refine Tr.ae (fun h0=>?_) wJ;refine Tr.ab wG (Tr.ab wG (Tr.ab (by simp (disch:=omega) only[nV,nW];rw[xo];exact Nat.zero_lt_one) (Tr.ae (fun q=>Tr.ag ?_) (fun q=>Tr.ae (fun r=>Tr.ag ?_) (fun r=>Tr.ag ?_)))))
    · rw[bD] at q;have q:decide (c<0)=true:=q;rw[if_pos (by rw[← he,q];rfl)];rfl
    · rw[bk] at r;have r:decide ((U:Int)≤c)=true:=r;rw[if_pos (by rw[← he,r];simp)];rfl
    · rw[bD] at q;rw[bk] at r;have q:decide (c<0)=false:=q;have r:decide ((U:Int)≤c)=false:=r;rw[if_neg (by rw[← he,q,r];decide)];exact ⟨rfl,rfl⟩
  · obtain ⟨x,h1,rfl⟩:=aA (Q:=fun x=>x=(.exit 0,qY (ofNat 1)++[(9,.bool false)],ao::ao::bU O U Z V J::⟨false,[(0,.row r2)]⟩::gH b0 b1 b2 b3 c::H)) (Qh n O U Z V J H r2 b0 b1 b2 b3 c (ofNat 1)) (dT n 1) (ah _ _) (aj _ _) (by
     refine Tr.ae wJ (fun h0=>Tr.ag rfl))
    exact h1
 have h89:cd (n+2) (.fn 89) [sE 3,lY 1] (ao::bU O U Z V J::⟨false,[(0,.row r2)]⟩::gH b0 b1 b2 b3 c::H)=some (.int .i64 (cond (decide (c<0) || decide ((U:Int)≤c)) 0 (-1)),ao::bU O U Z V J::⟨false,[(0,.row r2)]⟩::gH b0 b1 b2 b3 c::H):=by
  refine bp (n:=n+1) Tryd.func89 rfl rfl rfl (Uk (n+1) (decide (c<0) || decide ((U:Int)≤c)) (ao::bU O U Z V J::⟨false,[(0,.row r2)]⟩::gH b0 b1 b2 b3 c::H)) (aw _) (aU (ah _ _) Vh (fun x h=>cK h (hp _ rfl))) (aj _ _) ?_;refine Tr.ak ⟨rfl,rfl⟩ (Tr.ae (fun q=>Tr.ag ⟨?_,rfl⟩) (fun q=>Tr.ag ⟨?_,rfl⟩))
  · rw[q];rfl
  · rw[q];rfl
 refine bp (n:=n+2) Tryd.func67 rfl rfl rfl (Uc (n+2) (cond (decide (c<0) || decide ((U:Int)≤c)) 0 (-1)) (bU O U Z V J::⟨false,[(0,.row r2)]⟩::gH b0 b1 b2 b3 c::H)) (bw _ _ (bN (aR _) (fun x hy=>by rw[← Tr.af hy];exact h89))) (ah _ _) (aj _ _) ?_;refine Tr.ak ⟨rfl,rfl⟩ (Tr.ag ⟨?_,rfl⟩);rw[bk];cases (decide (c<0) || decide ((U:Int)≤c))<;>rfl
theorem Ra (r2:Row) (b0 b1 b2 b3:Nat×al) (c:Int) (hl:U≤1000) (hb:V≤1000):cd (n+12) (.fn 49) [bt O U Z V J,sE 1] (⟨false,[(0,.row r2)]⟩::gH b0 b1 b2 b3 c::H)=some (uT O U Z V J c,⟨false,[(0,.row r2)]⟩::gH b0 b1 b2 b3 c::H):=by
 have h22:=fun H=>Q6 n O U Z V J H hl hb;have h67:cd (n+11) (.fn 67) [sE 2,lY 0] (bU O U Z V J::⟨false,[(0,.row r2)]⟩::gH b0 b1 b2 b3 c::H)=_:=Rc (n+8) O U Z V J H r2 b0 b1 b2 b3 c hl;have ht:(kX (mc (tX aC 22 [bt O U Z V J] (.int .i64 (dm O U Z V J))) 62 (fun x=>some (x=[bt O U Z V J]∧dm O U Z V J=0,shV O U Z V J (bR O U Z) (gv V J)))) 67 [sE 2,lY 0] (bU O U Z V J::⟨false,[(0,.row r2)]⟩::gH b0 b1 b2 b3 c::H) (.ok (.bool (decide (c<0) || decide ((U:Int)≤c)),bU O U Z V J::⟨false,[(0,.row r2)]⟩::gH b0 b1 b2 b3 c::H))).Ok (cd (n+11)) :=
  bN (yD (bW (aR _) h22) (fun A H hA=>by
   obtain ⟨rfl,h0⟩:=hA;obtain ⟨h1,h2,h3,h4,h5,_⟩:=kr h0;exact QF (n+4) O U Z V J H h1.2 hb h3 h4 h5)) (fun x hy=>by rw[← Tr.af hy];exact h67)
 refine bp (n:=n+11) Tryd.func49 rfl rfl rfl (T7 (n+11) O U Z V J (bR O U Z) (gv V J) (⟨false,[(0,.row r2)]⟩::gH b0 b1 b2 b3 c::H) (dm O U Z V J) (decide (c<0) || decide ((U:Int)≤c)) (fun x=>x=[bt O U Z V J]∧dm O U Z V J=0)) (bw _ _ ht) (ah _ _) (aj _ _) ?_;refine Tr.ak rfl (Tr.ae (fun q=>Tr.ag ⟨?_,rfl⟩) (fun q=>Tr.ak ⟨rfl,rfl⟩ (Tr.ae (fun r=>Tr.ag ⟨?_,rfl⟩) (fun r=>Tr.ak ⟨rfl,?_⟩ (Tr.ag ⟨?_,rfl⟩)))))
 · rw[av,aQ] at q;have h:¬ dm O U Z V J=0:=by simpa using q
   have e:jG O U Z V J c=dm O U Z V J:=by unfold jG;rw[if_neg h]
   unfold uT;rw[e,if_neg h]
 all_goals rw[av,aQ] at q
 all_goals have h:dm O U Z V J=0:=by simpa using q
 · rw[Bool.or_eq_true,decide_eq_true_iff,decide_eq_true_iff] at r;have e:jG O U Z V J c=2:=by unfold jG;rw[if_pos h,if_pos r]
   unfold uT;rw[e];rfl
 · exact h
 · rw[Bool.or_eq_false_iff,decide_eq_false_iff_not,decide_eq_false_iff_not] at r;have e:jG O U Z V J c=0:=by unfold jG;rw[if_pos h,if_neg wO]
   unfold uT;rw[e,if_pos rfl];rfl
noncomputable def To (c:Int):AV:=if jG O U Z V J c=0 then Tp O U Z V J else .tup [.nilp,.int .i64 (jG O U Z V J c)]
theorem Re (b0 b1 b2 b3:Nat×al) (c:Int) (hl:U≤1000) (hb:V≤1000):cd (n+13) (.fn 69) [bt O U Z V J,sE 0] (gH b0 b1 b2 b3 c::H)=some (To O U Z V J c,gH b0 b1 b2 b3 c::H):=by
 have vh:cd (n+12) (.fn 49) [bt O U Z V J,sE 1] (bU O U Z V J::gH b0 b1 b2 b3 c::H)=_:=Ra n O U Z V J H (.G [.int .i64 O,slA 4 U Z,slA 2 V J]) b0 b1 b2 b3 c hl hb;unfold To;unfold uT at vh;by_cases he:jG O U Z V J c=0
 · rw[if_pos he] at vh ⊢;obtain ⟨h0,_⟩:=Gc he;obtain ⟨h1,h2,h3,h4,h5,h6⟩:=kr h0;have hS:=Ca O U Z V J h1.2 h3 h4 h5 h6;have h65:=fun H=>Vl (n+9) O U Z V J (bR O U Z) H (fun c=>dq J c V) hS;unfold Tp ya;generalize qB (eU U (fun c=>dq J c V) (bR O U Z))=q at *;generalize kS q U U=d at *;cases d with
   | none =>
     rw[if_pos rfl];refine bp (n:=n+12) Tryd.func69 rfl rfl rfl (Ud (n+12) O U Z V J (bR O U Z) (gv V J) (gH b0 b1 b2 b3 c::H) (ofNat 0) (ofNat 0)) (bw _ _ (bN (bW (aR _) h65) (fun x hy=>by rw[← Tr.af hy];exact vh))) (ah _ _) (aj _ _) ?_;exact Tr.ak ⟨rfl,rfl⟩ (Tr.ae (fun q=>by simp[av,aQ] at q) (fun _=>Tr.ak rfl (Tr.ae (fun q=>by cases q) (fun _=>Tr.ag ⟨rfl,rfl⟩))))
   | some v =>
     obtain ⟨f,t⟩:=v;rw[if_neg (by intro h;cases h)];refine bp (n:=n+12) Tryd.func69 rfl rfl rfl (Ue (n+12) O U Z V J (bR O U Z) (gv V J) (gH b0 b1 b2 b3 c::H) f t (dV q f t U).length (az (dV q f t U))) (bw _ _ (bN (bW (aR _) h65) (fun x hy=>by rw[← Tr.af hy];exact vh))) (ah _ _) (aj _ _) ?_;exact Tr.ak ⟨rfl,rfl⟩ (Tr.ae (fun q=>by simp[av,aQ] at q) (fun _=>Tr.ak rfl (Tr.ae (fun _=>Tr.ag ⟨rfl,rfl⟩) (fun q=>by cases q))))
 · rw[if_neg he] at vh ⊢;refine bp (n:=n+12) Tryd.func69 rfl rfl rfl (Uf (n+12) O U Z V J (gH b0 b1 b2 b3 c::H) (jG O U Z V J c)) (bw _ _ (uG (bN (aR _) (fun x hy=>by rw[← Tr.af hy];exact vh)))) (ah _ _) (aj _ _) ?_;refine Tr.ak ⟨rfl,rfl⟩ (Tr.ae (fun _=>Tr.ag ⟨rfl,rfl⟩) (fun q=>?_));rw[av,aQ] at q;exact absurd (by simpa using q) he
end
end Go.Eng
end
section
namespace Go.Eng
open Int (ofNat)
open Go.Proofs Go.Eng.Gall
noncomputable def BN (O:Int) (U:Nat) (Z:Nat→Int) (V:Nat) (J:Nat→Int) (c:Int):bC:=gH (0,.row (.G [.int .i64 O,slA 4 U Z,slA 2 V J])) (0,.row (.I .i64 [c])) (0,.row (.G [.nils])) (0,.row (.I .i64 [ofNat 0])) c
noncomputable def sR (R:Row):aD:=[(3,.ptr 0 1 0 0),(4,.ptr 0 2 0 0),(5,.ptr 0 3 0 0),(6,.ptr 0 5 0 0),(8,.ptr 0 6 0 0),(25,Cn 0 R)]
noncomputable def wP (r0 R:Row) (c:Int) (D A:AV):List (Nat×al):=[(0,.row r0),(0,.row (.I .i64 [c])),(0,.row (.G [D])),(0,.row (.I .i64 [ofNat 0])),(0,.row (.I .i64 [c])),(0,.row (.G [.ptrT none R 0])),(0,.row (.G [A]))]
noncomputable def BL (r0 R:Row) (c:Int) (k:Nat×al):bC:=⟨false,wP r0 R c .nils .nils++[k]⟩
noncomputable def Fw (r0 R:Row) (c:Int) (k:Nat×al) (v m:Nat) (y:Nat→Int):bC:=⟨false,wP r0 R c .nils (.slc 0 8 v 0 1 m none)++[k,(v,.row (.M [.arr .i64 y m]))]⟩
noncomputable def Pj (r0 R:Row) (c:Int) (k:Nat×al) (x:Int):bC:=⟨false,wP r0 R c (.slc 0 8 0 0 1 1 (some 1)) .nils++[k,(0,.row (.I .i64 [x]))]⟩
noncomputable def Gi (k:Int):aD:=[(3,.ptr 2 1 0 0),(4,.ptr 2 2 0 0),(5,.ptr 2 3 0 0),(6,.ptr 2 5 0 0),(8,.ptr 2 6 0 0),(9,.int .i64 k)]
noncomputable def lT (U:Nat) (j:Int):aD:=[(0,.yld 1 7),(9,.int .i64 (ofNat U)),(10,.int .i64 j)]
theorem NG (n:Nat) (U:Nat) (j:Int) (G G':aa) (q:Bool):aF (bJ n 90 18) (NY (il aC n 0) 1 7 [.int .i64 j] (ao::G) (.ok (.bool q,ao::G'))) aK aJ (part Tryd.f90 [1,0,0]) (hints (lT U j)) (ao::G) =
 Tr.ite (bF j (ofNat U)) (Tr.reqP ([AV.int .i64 j]=[AV.int .i64 j]∧ao::G=ao::G) (Tr.ite (bf q) (Tr.ok (Ex.ret,[(0,AV.yld 1 7,none),(9,iI U,none),(10,AV.int .i64 j,none),(16,AV.bool true,some 1)],ao::G')) (Tr.ok (Ex.normal,[(0,AV.yld 1 7,none),(9,iI U,none),(10,AV.int .i64 (bj .i64 j (ofNat 1)),none)],ao::G')))) (Tr.ok (Ex.exit 0,[(0,AV.yld 1 7,none),(9,iI U,none),(10,AV.int .i64 j,none),(11,AV.bool false,some 1)],ao::G)):=by kernel_rfl
theorem TQ (n:Nat) (U:Nat) (j:Int) (G:aa):aF (bJ n 90 18) (il aC n 0) aK aJ (part Tryd.f90 [1,0,0]) (hints (lT U j)) (ao::G) =
 Tr.ite (bF j (ofNat U)) Tr.bad (Tr.ok (Ex.exit 0,[(0,AV.yld 1 7,none),(9,iI U,none),(10,AV.int .i64 j,none),(11,AV.bool false,some 1)],ao::G)):=by kernel_rfl
theorem Um (n:Nat) (O:Int) (U:Nat) (Z:Nat→Int) (V:Nat) (J:Nat→Int) (W B:Nat→Int) (G G':aa):aZ Tryd.prog (cd n) 100000 90 Tryd.f90 (KtG.kt 90) (il aC n 0) (cE aK 0 (lT U (ofNat 0)) (ao::G) (.ok (.normal,hints (lT U (ofNat U)++[(11,.bool false)]),ao::G'))) aJ [(.yld 0 7,none),(.ptrT (some 0) (.G [shV O U Z V J W B]) 0,none)] G =
 Tr.reqP ([(0,AV.yld 1 7),(9,iI U),(10,iI 0)]=[(0,AV.yld 1 7),(9,iI U),(10,iI 0)]∧ao::G=ao::G) (Tr.ok ((AV.tup [],none),G')):=by kernel_rfl
theorem Un (n:Nat) (O:Int) (U:Nat) (Z:Nat→Int) (V:Nat) (J:Nat→Int) (W B:Nat→Int) (G G':aa) (k:Int):aZ Tryd.prog (cd n) 100000 90 Tryd.f90 (KtG.kt 90) (il aC n 0) (cE aK 0 (lT U (ofNat 0)) (ao::G) (.ok (.ret,hints (lT U k++[(16,.bool true)]),ao::G'))) aJ [(.yld 0 7,none),(.ptrT (some 0) (.G [shV O U Z V J W B]) 0,none)] G =
 Tr.reqP ([(0,AV.yld 1 7),(9,iI U),(10,iI 0)]=[(0,AV.yld 1 7),(9,iI U),(10,iI 0)]∧ao::G=ao::G) (Tr.ok ((AV.tup [],none),G')):=by kernel_rfl
theorem NB (n:Nat) (R:Row) (L:bC) (H:aa) (k:Int):aF (gw n 30 60 2 7) (il aC n 0) aK aJ (part Tryd.f30 [1,1,1,1,0,1,0,0]) (hints [(3,.ptr 2 1 0 0),(4,.ptr 2 2 0 0),(5,.ptr 2 3 0 0),(6,.ptr 2 5 0 0),(8,.ptr 2 6 0 0),(25,Cn 2 R),(26,.int .i64 k)]) (ao::ao::L::H) =
 Tr.ok (Ex.normal,[(3,AV.ptr 2 1 0 0,none),(4,AV.ptr 2 2 0 0,none),(5,AV.ptr 2 3 0 0,none),(6,AV.ptr 2 5 0 0,none),(8,AV.ptr 2 6 0 0,none),(9,AV.int .i64 k,none)],ao::ao::L::H):=by kernel_rfl
theorem PY (n:Nat) (O:Int) (U:Nat) (Z:Nat→Int) (V:Nat) (J:Nat→Int) (W B:Nat→Int) (H:aa) (r0:Row) (k c:Int) (K:Nat×al) (s q:Bool) (f t:Int):aF (gw n 30 60 2 7) (il (kX (kX aC 71 [.ptr 0 0 0 0,.int .i64 c,.int .i64 k] (⟨false,[(0,.row (shR O U Z V J W B))]⟩::ao::BL r0 (shR O U Z V J W B) c K::H) (.ok (.bool s,⟨false,[(0,.row (shR O U Z V J W B))]⟩::ao::BL r0 (shR O U Z V J W B) c K::H))) 65 [.ptr 0 0 0 0] (⟨false,[(0,.row (shR O U Z V J (dh (dh W (bQ (aq 3 c 2) 3) k) (bQ (au (aq 3 c 2) 1) 3) k) B)),(0,.row (.I .i64 [k,k]))]⟩::ao::BL r0 (shR O U Z V J W B) c K::H) (.ok (.tup [.agg (.G [.int .i64 f,.int .i64 t,.undef]),.bool q],⟨false,[(0,.row (shR O U Z V J (dh (dh W (bQ (aq 3 c 2) 3) k) (bQ (au (aq 3 c 2) 1) 3) k) B)),(0,.row (.I .i64 [k,k]))]⟩::ao::BL r0 (shR O U Z V J W B) c K::H))) n 0) aK aJ (part Tryd.f30 [1,1,1,1,0,1,0,1]) (hints (Gi k)) (ao::ao::BL r0 (shR O U Z V J W B) c K::H) =
 (fun (Z0:bC)=>((fun (Z1:Nat×al)=>((fun (Z2:Nat×al)=>((fun (Z3:Nat×al)=>Tr.reqP ([AV.ptr 0 0 0 0,AV.int .i64 c,AV.int .i64 k]=[AV.ptr 0 0 0 0,AV.int .i64 c,AV.int .i64 k]∧(bm [Z3])::ao::Z0::H=(bm [Z3])::ao::Z0::H) (Tr.ite (bf s) (Tr.ok (Ex.normal,[(3,AV.ptr 2 1 0 0,none),(4,AV.ptr 2 2 0 0,none),(5,AV.ptr 2 3 0 0,none),(8,AV.ptr 2 6 0 0,none),(9,AV.int .i64 k,none),(10,AV.ptr 0 0 0 0,none),(33,AV.bool true,some 1)],(bm [Z3])::ao::Z0::H)) (Tr.req (cu c 10) (Tr.req (cH 0 0) (Tr.req (dP (aq 3 c 2) 1 3 20) (Tr.req (dP (au (aq 3 c 2) 1) 1 3 20) (Tr.ite (bT (cq (W (bQ (aq 3 c 2) 3)) k) (cq (W (bQ (au (aq 3 c 2) 1) 3)) k)) (Tr.ok (Ex.ret,[],(bm [Z3,Z2,(0,al.dead)])::ao::(bm [(0,al.row r0),(0,al.row (Row.I .i64 [c])),(0,al.row (Row.G [AV.slc 0 8 0 0 1 1 (some 1)])),(0,al.row (Row.I .i64 [ofNat 0])),(0,al.row (Row.I .i64 [c])),(0,al.row (Row.G [shV O U Z V J W B])),(0,al.row (Row.G [AV.nils])),K,(0,al.row (Row.I .i64 [k]))])::H)) (Tr.req (cu c 10) (Tr.req (cH 0 0) (Tr.req (dP (aq 3 c 2) 1 3 20) (Tr.req (dP (au (aq 3 c 2) 1) 1 3 20) (Tr.reqP ([AV.ptr 0 0 0 0]=[AV.ptr 0 0 0 0]∧(bm [Z1,Z2])::ao::Z0::H=(bm [Z1,Z2])::ao::Z0::H) (Tr.ite (bf q) (Tr.req (iv 0 1 8) (Tr.req (cH 0 0) (Tr.req (dW 1 1) (Tr.ok (Ex.normal,[],(bm [Z1,Z2,(0,al.row (Row.G [AV.int .i64 f,AV.int .i64 t,AV.undef])),(0,al.row (Row.I .i64 [k])),(0,al.dead)])::ao::(bm [(0,al.row r0),(0,al.row (Row.I .i64 [c])),(0,al.row (Row.G [AV.nils])),(0,al.row (Row.I .i64 [ofNat 0])),(0,al.row (Row.I .i64 [c])),(0,al.row (Row.G [shV O U Z V J W B])),(0,al.row (Row.G [AV.slc 0 8 0 0 1 1 none])),K,(0,al.row (rM (az [k]) 1))])::H))))) (Tr.ok (Ex.normal,[(8,AV.ptr 2 6 0 0,none),(9,AV.int .i64 k,none),(54,AV.bool false,some 1)],(bm [Z1,Z2,(0,al.row (Row.G [AV.int .i64 f,AV.int .i64 t,AV.undef]))])::ao::Z0::H))))))))))))))) (0,al.row (shR O U Z V J W B)))) (0,al.row (Row.I .i64 [k,k])))) (0,al.row (shR O U Z V J (dh (dh W (bQ (aq 3 c 2) 3) k) (bQ (au (aq 3 c 2) 1) 3) k) B)))) (bm [(0,al.row r0),(0,al.row (Row.I .i64 [c])),(0,al.row (Row.G [AV.nils])),(0,al.row (Row.I .i64 [ofNat 0])),(0,al.row (Row.I .i64 [c])),(0,al.row (Row.G [shV O U Z V J W B])),(0,al.row (Row.G [AV.nils])),K]):=by kernel_rfl
theorem TD (n:Nat) (O:Int) (U:Nat) (Z:Nat→Int) (V:Nat) (J:Nat→Int) (W B:Nat→Int) (H:aa) (r0:Row) (k c:Int) (K:Nat×al) (s q:Bool) (f t:Int) (v m:Nat) (y:Nat→Int):aF (gw n 30 60 2 7) (il (kX (kX aC 71 [.ptr 0 0 0 0,.int .i64 c,.int .i64 k] (⟨false,[(0,.row (shR O U Z V J W B))]⟩::ao::Fw r0 (shR O U Z V J W B) c K v m y::H) (.ok (.bool s,⟨false,[(0,.row (shR O U Z V J W B))]⟩::ao::Fw r0 (shR O U Z V J W B) c K v m y::H))) 65 [.ptr 0 0 0 0] (⟨false,[(0,.row (shR O U Z V J (dh (dh W (bQ (aq 3 c 2) 3) k) (bQ (au (aq 3 c 2) 1) 3) k) B)),(0,.row (.I .i64 [k,k]))]⟩::ao::Fw r0 (shR O U Z V J W B) c K v m y::H) (.ok (.tup [.agg (.G [.int .i64 f,.int .i64 t,.undef]),.bool q],⟨false,[(0,.row (shR O U Z V J (dh (dh W (bQ (aq 3 c 2) 3) k) (bQ (au (aq 3 c 2) 1) 3) k) B)),(0,.row (.I .i64 [k,k]))]⟩::ao::Fw r0 (shR O U Z V J W B) c K v m y::H))) n 0) aK aJ (part Tryd.f30 [1,1,1,1,0,1,0,1]) (hints (Gi k)) (ao::ao::Fw r0 (shR O U Z V J W B) c K v m y::H) =
 (fun (Z0:bC)=>((fun (Z1:Nat×al)=>((fun (Z2:Nat×al)=>((fun (Z3:Nat×al)=>Tr.reqP ([AV.ptr 0 0 0 0,AV.int .i64 c,AV.int .i64 k]=[AV.ptr 0 0 0 0,AV.int .i64 c,AV.int .i64 k]∧(bm [Z3])::ao::Z0::H=(bm [Z3])::ao::Z0::H) (Tr.ite (bf s) (Tr.ok (Ex.normal,[(3,AV.ptr 2 1 0 0,none),(4,AV.ptr 2 2 0 0,none),(5,AV.ptr 2 3 0 0,none),(8,AV.ptr 2 6 0 0,none),(9,AV.int .i64 k,none),(10,AV.ptr 0 0 0 0,none),(33,AV.bool true,some 1)],(bm [Z3])::ao::Z0::H)) (Tr.req (cu c 10) (Tr.req (cH 0 0) (Tr.req (dP (aq 3 c 2) 1 3 20) (Tr.req (dP (au (aq 3 c 2) 1) 1 3 20) (Tr.ite (bT (cq (W (bQ (aq 3 c 2) 3)) k) (cq (W (bQ (au (aq 3 c 2) 1) 3)) k)) (Tr.ok (Ex.ret,[],(bm [Z3,Z2,(0,al.dead)])::ao::(bm [(0,al.row r0),(0,al.row (Row.I .i64 [c])),(0,al.row (Row.G [AV.slc 0 9 0 0 1 1 (some 1)])),(0,al.row (Row.I .i64 [ofNat 0])),(0,al.row (Row.I .i64 [c])),(0,al.row (Row.G [shV O U Z V J W B])),(0,al.row (Row.G [AV.slc 0 8 v 0 1 m none])),K,(v,al.row (rM y m)),(0,al.row (Row.I .i64 [k]))])::H)) (Tr.req (cu c 10) (Tr.req (cH 0 0) (Tr.req (dP (aq 3 c 2) 1 3 20) (Tr.req (dP (au (aq 3 c 2) 1) 1 3 20) (Tr.reqP ([AV.ptr 0 0 0 0]=[AV.ptr 0 0 0 0]∧(bm [Z1,Z2])::ao::Z0::H=(bm [Z1,Z2])::ao::Z0::H) (Tr.ite (bf q) (Tr.req (iv m 1 8) (Tr.req (cH 0 0) (Tr.req (dW 1 1) (Tr.req (cH v v) (Tr.req (cH (au 0 m) m) (Tr.ok (Ex.normal,[],(bm [Z1,Z2,(0,al.row (Row.G [AV.int .i64 f,AV.int .i64 t,AV.undef])),(0,al.row (Row.I .i64 [k]))])::ao::(bm [(0,al.row r0),(0,al.row (Row.I .i64 [c])),(0,al.row (Row.G [AV.nils])),(0,al.row (Row.I .i64 [ofNat 0])),(0,al.row (Row.I .i64 [c])),(0,al.row (Row.G [shV O U Z V J W B])),(0,al.row (Row.G [AV.slc 0 8 (Nat.succ v) 0 1 (au m 1) none])),K,(Nat.succ v,al.row (rM (qb (qO y 0) m (az [k])) (au m 1)))])::H))))))) (Tr.ok (Ex.normal,[(8,AV.ptr 2 6 0 0,none),(9,AV.int .i64 k,none),(54,AV.bool false,some 1)],(bm [Z1,Z2,(0,al.row (Row.G [AV.int .i64 f,AV.int .i64 t,AV.undef]))])::ao::Z0::H))))))))))))))) (0,al.row (shR O U Z V J W B)))) (0,al.row (Row.I .i64 [k,k])))) (0,al.row (shR O U Z V J (dh (dh W (bQ (aq 3 c 2) 3) k) (bQ (au (aq 3 c 2) 1) 3) k) B)))) (bm [(0,al.row r0),(0,al.row (Row.I .i64 [c])),(0,al.row (Row.G [AV.nils])),(0,al.row (Row.I .i64 [ofNat 0])),(0,al.row (Row.I .i64 [c])),(0,al.row (Row.G [shV O U Z V J W B])),(0,al.row (Row.G [AV.slc 0 8 v 0 1 m none])),K,(v,al.row (rM y m))]):=by kernel_rfl
theorem Uh (n:Nat) (O:Int) (U:Nat) (Z:Nat→Int) (V:Nat) (J:Nat→Int) (W B:Nat→Int) (c k:Int) (G:aa) (bs:List (Nat×al)):aZ Tryd.prog (cd n) 100000 71 Tryd.f71 (KtG.kt 71) (il aC n 0) aK aJ [(.ptr 0 0 0 0,none),(.int .i64 c,none),(.int .i64 k,none)] (⟨false,(0,.row (shR O U Z V J W B))::bs⟩::G) =
 Tr.req (cu c 10) (Tr.req (cH 0 0) (Tr.req (dP (aq 3 c 2) 1 3 20) (Tr.req (dP (au (aq 3 c 2) 1) 1 3 20) (Tr.ite (di (W (bQ (aq 3 c 2) 3)) k) (Tr.ok ((AV.bool (di k (W (bQ (au (aq 3 c 2) 1) 3))),none),(bm ((0,al.row (shR O U Z V J W B))::bs))::G)) (Tr.ok ((AV.bool false,some 1),(bm ((0,al.row (shR O U Z V J W B))::bs))::G)))))):=by kernel_rfl
theorem TZ (n:Nat) (O:Int) (U:Nat) (Z:Nat→Int) (V:Nat) (J:Nat→Int) (W B:Nat→Int) (H:aa) (c:Int) (v m:Nat) (y:Nat→Int):aZ Tryd.prog (cd n) 100000 30 Tryd.f30 (KtG.kt 30) (il (kX (tX aC 70 [shV O U Z V J W B] (Cn 0 (shR O U Z V J W B))) 69 [bt O U Z V J,sE 0] (BN O U Z V J c::H) (.ok (.tup [shV O U Z V J W B,.int .i64 (ofNat 0)],BN O U Z V J c::H))) n 0) aK (EY aJ (fun _=>true) (sR (shR O U Z V J W B)) (⟨false,wP (.G [.int .i64 O,slA 4 U Z,slA 2 V J]) (shR O U Z V J W B) c .nils .nils⟩::H) (.ok (.normal,hints (sR (shR O U Z V J W B)),Fw (.G [.int .i64 O,slA 4 U Z,slA 2 V J]) (shR O U Z V J W B) c (0,.dead) v m y::H))) [(bt O U Z V J,none),(.int .i64 c,none)] H =
 (fun (Z0:bC)=>((fun (Z1:aD)=>((fun (Z2:bC)=>Tr.reqP ([bt O U Z V J,AV.slc 0 4 0 0 1 1 (some 1)]=[bt O U Z V J,AV.slc 0 4 0 0 1 1 (some 1)]∧Z2::H=Z2::H) (Tr.ite (bf (cq (ofNat 0) (ofNat 0))) (Tr.ok ((AV.tup [AV.nils,iI 0],none),H)) (Tr.reqP ([shV O U Z V J W B]=[shV O U Z V J W B]) (Tr.reqP (Z1=Z1∧Z0::H=Z0::H) (Tr.req (cH v v) (Tr.req (dP 0 m 0 m) (Tr.ok ((AV.tup [aP m (qO y 0) false,iI 0],none),H)))))))) (bm [(0,dc O U Z V J),(0,al.row (Row.I .i64 [c])),(0,al.row (Row.G [AV.nils])),(0,al.row (Row.I .i64 [ofNat 0])),(0,al.row (Row.I .i64 [c]))]))) [(3,AV.ptr 0 1 0 0),(4,AV.ptr 0 2 0 0),(5,AV.ptr 0 3 0 0),(6,AV.ptr 0 5 0 0),(8,AV.ptr 0 6 0 0),(25,AV.fn (Fn.func 90) [] [AV.ptrT (some 0) (Row.G [shV O U Z V J W B]) 0])])) (bm [(0,dc O U Z V J),(0,al.row (Row.I .i64 [c])),(0,al.row (Row.G [AV.nils])),(0,al.row (Row.I .i64 [ofNat 0])),(0,al.row (Row.I .i64 [c])),(0,al.row (Row.G [shV O U Z V J W B])),(0,al.row (Row.G [AV.nils]))]):=by kernel_rfl
theorem T2 (n:Nat) (O:Int) (U:Nat) (Z:Nat→Int) (V:Nat) (J:Nat→Int) (W B:Nat→Int) (H:aa) (c:Int) (x:Int):aZ Tryd.prog (cd n) 100000 30 Tryd.f30 (KtG.kt 30) (il (kX (tX aC 70 [shV O U Z V J W B] (Cn 0 (shR O U Z V J W B))) 69 [bt O U Z V J,sE 0] (BN O U Z V J c::H) (.ok (.tup [shV O U Z V J W B,.int .i64 (ofNat 0)],BN O U Z V J c::H))) n 0) aK (EY aJ (fun _=>true) (sR (shR O U Z V J W B)) (⟨false,wP (.G [.int .i64 O,slA 4 U Z,slA 2 V J]) (shR O U Z V J W B) c .nils .nils⟩::H) (.ok (.ret,hints (sR (shR O U Z V J W B)),Pj (.G [.int .i64 O,slA 4 U Z,slA 2 V J]) (shR O U Z V J W B) c (0,.dead) x::H))) [(bt O U Z V J,none),(.int .i64 c,none)] H =
 (fun (Z0:bC)=>((fun (Z1:aD)=>((fun (Z2:bC)=>Tr.reqP ([bt O U Z V J,AV.slc 0 4 0 0 1 1 (some 1)]=[bt O U Z V J,AV.slc 0 4 0 0 1 1 (some 1)]∧Z2::H=Z2::H) (Tr.ite (bf (cq (ofNat 0) (ofNat 0))) (Tr.ok ((AV.tup [AV.nils,iI 0],none),H)) (Tr.reqP ([shV O U Z V J W B]=[shV O U Z V J W B]) (Tr.reqP (Z1=Z1∧Z0::H=Z0::H) (Tr.req (cH 0 0) (Tr.ok ((AV.tup [AV.slcT none (Row.I .i64 [x]) 1 1 (cH 1 1),iI 0],none),H))))))) (bm [(0,dc O U Z V J),(0,al.row (Row.I .i64 [c])),(0,al.row (Row.G [AV.nils])),(0,al.row (Row.I .i64 [ofNat 0])),(0,al.row (Row.I .i64 [c]))]))) [(3,AV.ptr 0 1 0 0),(4,AV.ptr 0 2 0 0),(5,AV.ptr 0 3 0 0),(6,AV.ptr 0 5 0 0),(8,AV.ptr 0 6 0 0),(25,AV.fn (Fn.func 90) [] [AV.ptrT (some 0) (Row.G [shV O U Z V J W B]) 0])])) (bm [(0,dc O U Z V J),(0,al.row (Row.I .i64 [c])),(0,al.row (Row.G [AV.nils])),(0,al.row (Row.I .i64 [ofNat 0])),(0,al.row (Row.I .i64 [c])),(0,al.row (Row.G [shV O U Z V J W B])),(0,al.row (Row.G [AV.nils]))]):=by kernel_rfl
theorem Qx (n:Nat) (O:Int) (U:Nat) (Z:Nat→Int) (V:Nat) (J:Nat→Int) (H:aa) (c e:Int):aZ Tryd.prog (cd n) 100000 30 Tryd.f30 (KtG.kt 30) (il (kX (tN aC 70) 69 [bt O U Z V J,sE 0] (BN O U Z V J c::H) (.ok (.tup [.nilp,.int .i64 e],BN O U Z V J c::H))) n 0) aK aJ [(bt O U Z V J,none),(.int .i64 c,none)] H =
 (fun (Z0:bC)=>Tr.reqP ([bt O U Z V J,AV.slc 0 4 0 0 1 1 (some 1)]=[bt O U Z V J,AV.slc 0 4 0 0 1 1 (some 1)]∧Z0::H=Z0::H) (Tr.ite (bf (cq e (ofNat 0))) (Tr.ok ((AV.tup [AV.nils,AV.int .i64 e],none),H)) Tr.bad)) (bm [(0,dc O U Z V J),(0,al.row (Row.I .i64 [c])),(0,al.row (Row.G [AV.nils])),(0,al.row (Row.I .i64 [ofNat 0])),(0,al.row (Row.I .i64 [c]))]):=by kernel_rfl
end Go.Eng
end
section
namespace Go.Eng
open Go.Proofs Go.Eng.Gall
theorem qi {f:FuncId} {fn:Func} {n:Nat} (h30:f=30∨f=38) (hf:Tryd.prog.funcs[f]?=some fn) (hb:fn.body.isSome=true) {args:List HV} (hle:Nat.ble args.length fn.ntmps=true) {H:aa} {callR:bx} {bl:eV} {rg:nZ} {T:Tr (HV×aa)}
 (e:aZ Tryd.prog (cd n) 100000 f fn (KtG.kt f) callR bl rg args H=T) (hC:callR.Ok (cd n)) (hB:bl.Ok (bJ n f fn.ntmps) (aW fn)) (hR:rg.Ok (bJ n f fn.ntmps) (aW fn)) {v:AV} {H':aa} (h:T.all fun y=>EL y.1.1=v∧y.2=H'):cd (n+1) (.fn f) (jY args) H=some (v,H'):=by
 obtain ⟨y,h1,h2,h3⟩:=h
 have:=xO (P:=Tryd.prog) (KT:=KtG.kt) (fu:=100000) (f:=f) (call:=cd n) (fn:=fn) hf hb hle hC hB hR (by rw[e];exact h1)
 refine oZ ?_
 have e2:gL (cd n) f (jY args) H=MS (oL Tryd.prog KtG.kt 100000 f (cd n) (jY args) H):=by rcases h30 with rfl | rfl<;>rfl
 rw[e2,this]
 show some (EL y.1.1,y.2)=_
 rw[h2,h3]
section
variable (n:Nat) (O:Int) (U:Nat) (Z:Nat→Int) (V:Nat) (J:Nat→Int) (H:aa)
noncomputable def IY:List Nat:=iY U (fun c=>dq J c V) (bR O U Z) U
noncomputable def PF:AV:=if ya O U Z V J=none then .tup [aP U (az (gZ (IY O U Z V J))) false,.int .i64 0] else .tup [.nils,.int .i64 13]
theorem IL {L:List Int} {m:Nat} (h:L.length=m):nz (fun _=>Int.ofNat 0) 0 (az L) m=az L:=by
 rw[rL];funext j;unfold wR;by_cases e:j<m
 · simp[e]
 · simp[e,qC,List.getD_eq_getElem?_getD,List.getElem?_eq_none (show L.length≤j by omega)]
theorem Vi (hb:V≤1000) (h0:dm O U Z V J=0):cd (n+15) (.fn 38) [bt O U Z V J] H=some (PF O U Z V J,H):=by
 obtain ⟨h1,h2,h3,h4,h5,h6⟩:=kr h0;have hS:=Ca O U Z V J h1.2 h3 h4 h5 h6;have vh:=fun H=>Oj n O U Z V J H hb h0;have h74:∀ H,cd (n+14) (.fn 74) [shV O U Z V J (bR O U Z) (gv V J)] H=_:=fun H=>V5 (n+5) O U Z V J (bR O U Z) (fun c=>dq J c V) H hS pX h1.1;have en:vt U (fun c=>dq J c V) (bR O U Z)=(ya O U Z V J).isNone:=rfl;unfold PF;rw[en] at h74;by_cases hp:ya O U Z V J=none
 · rw[if_pos hp];rw[hp] at h74;have h74:∀ H,cd (n+14) (.fn 74) [shV O U Z V J (bR O U Z) (gv V J)] H=some (aP U (az (gZ (IY O U Z V J))) false,H):=h74;have hlen:(gZ (IY O U Z V J)).length=U:=by
    unfold gZ IY;rw[List.length_map,(sQ hS pX (by rw[en,hp];rfl) U (Nat.le_refl _)).len]
   have T:=Yv (n+14) O U Z V J (bR O U Z) (gv V J) H U (az (gZ (IY O U Z V J)));have e1:b8 (Int.ofNat U)=U:=by rw[kd];rfl
   have e2:xt U U=U:=by rw[xu];omega
   rw[e1,e2,IL hlen,iz] at T;refine qi (n:=n+14) (.inr rfl) Tryd.func38 rfl rfl T (bw _ _ (bW (bW (aR _) vh) h74)) (ah _ _) (aj _ _) ?_;clear T vh h74;generalize az (gZ (IY O U Z V J))=Y;refine Tr.ak rfl (Tr.ae (fun q=>by simp[av,aQ] at q) (fun _=>Tr.ak rfl (Tr.ab wG (Tr.ae (fun q=>by cases q) (fun _=>?_)))));exact wF
 · rw[if_neg hp];have hp:¬ (ya O U Z V J).isNone=true:=by rwa [Option.isNone_iff_eq_none]
   rw[if_neg hp] at h74;refine qi (n:=n+14) (.inr rfl) Tryd.func38 rfl rfl (T3 (n+14) O U Z V J (bR O U Z) (gv V J) H) (bw _ _ (bW (bW (aR _) vh) h74)) (ah _ _) (aj _ _) ?_;exact Tr.ak rfl (Tr.ae (fun q=>by simp[av,aQ] at q) (fun _=>Tr.ak rfl (Tr.ae (fun _=>Tr.ag ⟨rfl,rfl⟩) (fun q=>by cases q))))
end
end Go.Eng
end
