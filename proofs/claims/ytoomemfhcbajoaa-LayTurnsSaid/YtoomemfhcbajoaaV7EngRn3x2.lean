/- The engine: functions that range over a map at their body's own level. -/
import Derived.Test.YtoomemfhcbajoaaV7EngTgx4
section
namespace Go.Eng
set_option linter.unusedVariables false
set_option linter.unusedSimpArgs false

theorem hLockAll_len:∀ (H:Heap),(hLockAll H).length=H.length
 | []=>rfl
 | l::r=>by simp[hLockAll,hLockAll_len r]

def lockRest:Heap→Heap
 | []=>[]
 | l::r=>l::hLockAll r
theorem lockRest_get (H:Heap) (d i:Nat):hGet (lockRest H) d i=hGet H d i:=by
 cases H with
 | nil=>rfl
 | cons l r=>cases d with
   | zero=>rfl
   | succ d=>exact hGet_lockAll r d i
theorem lockRest_next (H:Heap) (d:Nat):hNextAt (lockRest H) d=hNextAt H d:=by
 cases H with
 | nil=>rfl
 | cons l r=>cases d with
   | zero=>rfl
   | succ d=>exact hNextAt_lockAll r d
theorem HRel.same {p:Pst} {M:Mu} {H K:Heap} {w:World} (h:HRel p M H w) (hg:∀ d i,hGet K d i=hGet H d i) (hn:∀ d,hNextAt K d=hNextAt H d):HRel p M K w :=
 h.under ⟨fun d i=>.inl (hg d i),hn⟩

theorem Evo.unlock {p p':Pst} {M M':Mu} {l l':Lvl} {r:Heap} {w w':World} (h:HRel p M (l::r) w) (h0:l.lock=false) (hE:Evo p M (lockRest (l::r)) w p' M' (l'::hLockAll r) w'):Evo p M (l::r) w p' M' (l'::r) w':=by
 have get:∀ d i,hGet (l'::r) d i=hGet (l'::hLockAll r) d i:=fun d i=>by
  cases d with
  | zero=>rfl
  | succ d=>exact (hGet_lockAll r d i).symm
 have next:∀ d,hNextAt (l'::r) d=hNextAt (l'::hLockAll r) d:=fun d=>by
  cases d with
  | zero=>rfl
  | succ d=>exact (hNextAt_lockAll r d).symm
 have hl':l'.lock=false:=by have:=hE.lock 0;exact this.trans h0
 refine ⟨hE.pst,hE.mu,hE.rel.same get next,hE.stay.weaken (fun b hb hk d i v B hg hB hl o t=>?_),fun b hb hk d i v B hg hB hl o t hm=>?_,hE.fresh,hE.own,fun d=>?_,fun d i hd hl=>?_,fun d hd hl=>?_,?_,fun d=>?_,fun d i v t hm=>?_⟩
 · rw[lockRest_get] at hg
   cases d with
   | zero=>exact hk 0 i v B hg hB h0 o t
   | succ d =>
     have:hLock (lockRest (l::r)) (d+1)=true:=hLock_lockAll r d
     rw[this] at hl;cases hl
 · cases d with
   | zero =>
     have hkb:Go.Eng.keep M (lockRest (l::r)) b:=fun d i v B hg hB hl o t=>by
      rw[lockRest_get] at hg
      cases d with
      | zero=>exact hk 0 i v B hg hB h0 o t
      | succ d =>
        have:hLock (lockRest (l::r)) (d+1)=true:=hLock_lockAll r d
        rw[this] at hl;cases hl
     exact hE.keep b hb hkb 0 i v B hg hB hl' o t hm
   | succ d =>
     have hg':hGet (l::r) (d+1) i=(v,B):=hg
     obtain ⟨b2,o2,t2,k1,_,_⟩:=h.live (d+1) i v B hg' hB
     have k2:=hE.mu _ _ _ _ k1
     rw[hm] at k2
     simp only[nP] at k2
     exact hk (d+1) i v B hg' hB hl o2 t2 (by rw[k1,← k2.1])
 · cases d with
   | zero=>exact hl'.trans h0.symm
   | succ d=>rfl
 · cases d with
   | zero=>exact absurd rfl hd
   | succ d=>rfl
 · cases d with
   | zero=>exact absurd rfl hd
   | succ d=>rfl
 · simp
 · rw[next]
   have:=hE.grow d
   rw[lockRest_next] at this
   exact this
 · rcases hE.new d i v t hm with h1 | h1 | h1
   · exact .inl h1
   · rw[lockRest_next] at h1;exact .inr (.inl h1)
   · cases d with
     | zero=>exact .inr (.inr h0)
     | succ d =>
       have:hLock (lockRest (l::r)) (d+1)=true:=hLock_lockAll r d
       rw[this] at h1;cases h1

theorem runOps_relK {P:Program} {F:Fence} (hFW:Wide F) (hN:Named P) {call:CallT} (hC:CallOk P call) {nt:Nat} {ops:Array Oper} {n:Nat} {Q:Exit→Act→World→Prop} {l2:List Oper}:∀ (l:List Oper) (fr:Frm) (H:Heap) (fr':Frm) (H':Heap),
 runOps P nt call ops l fr H=some (fr',H')→∀ (p:Pst) (M:Mu) (a:Act) (w:World),FRel p M nt fr a→HRel p M H w→H≠[] →
 (∀ a' w',At p M H w nt a.defers fr' H' a' w'→wpListIn F n P ops Q l2 a' w')→wpListIn F n P ops Q (l++l2) a w
 | [],fr,H,fr',H',h,p,M,a,w,hF,hH,hne,hQ=>by
   simp only[runOps,Option.some.injEq,Prod.mk.injEq] at h
   obtain ⟨rfl,rfl⟩:=h
   exact hQ a w ⟨p,M,Evo.refl hH,hF,rfl⟩
 | o :: l,fr,H,fr',H',h,p,M,a,w,hF,hH,hne,hQ=>by
   simp only[runOps] at h
   have hw:=want_rel hF ops o
   rw[List.cons_append]
   unfold wpListIn
   cases hwv:wantV ops fr o with
   | lost=>rw[hwv] at h;simp at h
   | skip =>
     rw[hwv] at h
     simp only at h
     rw[if_neg (by rw[hw.2 hwv];simp)]
     exact ⟨about_fn hFW P o w a,runOps_relK hFW hN hC l _ H fr' H' h p M _ w (hF.put o.dst undef_rel) hH hne (fun a' w' ha=>hQ a' w' (by rw[put_defers] at ha;exact ha))⟩
   | run =>
     rw[hwv] at h
     simp only at h
     rw[if_pos (hw.1 hwv)]
     cases he:evalOp P call fr H (hNext H) o with
     | none=>rw[he] at h;simp at h
     | some vd =>
       obtain ⟨v,δ⟩:=vd
       rw[he] at h
       simp only at h
       refine op_step hFW hN hC he hF hH hne (fun cv w' ⟨p',M',hE,hv⟩=>?_)
       refine runOps_relK hFW hN hC l _ _ fr' H' h p' M' _ w' ((hF.mono hE.pst hE.mu).put o.dst hv) hE.rel (hE.ne hne) (fun a' w'' ⟨p'',M'',hE',hF',hd⟩=>?_)
       exact hQ a' w'' ⟨p'',M'',hE.trans hE',hF',by rw[put_defers] at hd;exact hd⟩

noncomputable def eqW:Nat→AV→AV→Bool
 | 0,_,_=>false
 | n+1,v,u=>match v,u with
   | .undef,.undef=>true
   | .bool a,.bool b=>a == b
   | .int k a,.int k' b=>kindX k k' && eqX a b
   | .nilp,.nilp=>true
   | .nils,.nils=>true
   | .nilm,.nilm=>true
   | .ptr d i v o,.ptr d' i' v' o'=>Nat.beq d d' && (Nat.beq i i' && (Nat.beq v v' && Nat.beq o o'))
   | .slc d i v o z l c,.slc d' i' v' o' z' l' c'=>Nat.beq d d' && (Nat.beq i i' && (Nat.beq v v' && (Nat.beq o o' && (Nat.beq z z' && (Nat.beq l l' && eqOp c c')))))
   | .map d i,.map d' i'=>Nat.beq d d' && Nat.beq i i'
   | .ptrT s r o,.ptrT s' r' o'=>eqOp s s' && (eqR (eqW n) r r' && Nat.beq o o')
   | .slcT s r z l b,.slcT s' r' z' l' b'=>eqOp s s' && (eqR (eqW n) r r' && (Nat.beq z z' && (Nat.beq l l' && b == b')))
   | .fn (.func f) a b,.fn (.func f') a' b'=>Nat.beq f f' && (eqR.listEqV (eqW n) a a' && eqR.listEqV (eqW n) b b')
   | .agg r,.agg r'=>eqR (eqW n) r r'
   | .tup l,.tup l'=>eqR.listEqV (eqW n) l l'
   | _,_=>false
theorem nb {a b:Nat} (h:Nat.beq a b=true):a=b:=Nat.eq_of_beq_eq_true h
theorem eqW_eq:∀ (n:Nat) (x y:AV),eqW n x y=true→x=y
 | 0,x,y,h=>by simp[eqW] at h
 | n+1,x,y,h=>by
   have ih:=eqW_eq n
   unfold eqW at h
   split at h
   · rfl
   · rw[beq_iff_eq] at h;rw[h]
   · simp only[Bool.and_eq_true,kindX_eq,eqX_eq,decide_eq_true_eq,beq_iff_eq] at h;rw[h.1,h.2]
   · rfl
   · rfl
   · rfl
   · simp only[Bool.and_eq_true] at h;rw[nb h.1,nb h.2.1,nb h.2.2.1,nb h.2.2.2]
   · simp only[Bool.and_eq_true] at h;rw[nb h.1,nb h.2.1,nb h.2.2.1,nb h.2.2.2.1,nb h.2.2.2.2.1,nb h.2.2.2.2.2.1,eqOp_eq _ _ h.2.2.2.2.2.2]
   · simp only[Bool.and_eq_true] at h;rw[nb h.1,nb h.2]
   · simp only[Bool.and_eq_true] at h;rw[eqOp_eq _ _ h.1,eqR_eq ih _ _ h.2.1,nb h.2.2]
   · simp only[Bool.and_eq_true,beq_iff_eq] at h;rw[eqOp_eq _ _ h.1,eqR_eq ih _ _ h.2.1,nb h.2.2.1,nb h.2.2.2.1,h.2.2.2.2]
   · simp only[Bool.and_eq_true] at h;rw[nb h.1,listEqV_eq ih _ _ h.2.1,listEqV_eq ih _ _ h.2.2]
   · rw[eqR_eq ih _ _ h]
   · rw[listEqV_eq ih _ _ h]
   · cases h
noncomputable def eqFrm:Frm→Frm→Bool
 | [],[]=>true
 | (x,v)::r,(y,u)::s=>Nat.beq x y && (eqW 9 v u && eqFrm r s)
 | _,_=>false
theorem eqFrm_eq:∀ (f g:Frm),eqFrm f g=true→f=g
 | [],[],_=>rfl
 | [],_::_,h=>by simp[eqFrm] at h
 | _::_,[],h=>by simp[eqFrm] at h
 | (x,v)::r,(y,u)::s,h=>by
   simp only[eqFrm,Bool.and_eq_true] at h
   rw[nb h.1,eqW_eq 9 _ _ h.2.1,eqFrm_eq r s h.2.2]
noncomputable def eqEs:List (AV×AV)→List (AV×AV)→Bool
 | [],[]=>true
 | (a,b)::r,(c,d)::s=>eqW 9 a c && (eqW 9 b d && eqEs r s)
 | _,_=>false
theorem eqEs_eq:∀ (f g:List (AV×AV)),eqEs f g=true→f=g
 | [],[],_=>rfl
 | [],_::_,h=>by simp[eqEs] at h
 | _::_,[],h=>by simp[eqEs] at h
 | (x,v)::r,(y,u)::s,h=>by
   simp only[eqEs,Bool.and_eq_true] at h
   rw[eqW_eq 9 _ _ h.1,eqW_eq 9 _ _ h.2.1,eqEs_eq r s h.2.2]
noncomputable def eqBlks:List (Nat×Blk)→List (Nat×Blk)→Bool
 | [],[]=>true
 | (n,.dead)::r,(m,.dead)::s=>Nat.beq n m && eqBlks r s
 | (n,.row q)::r,(m,.row q')::s=>Nat.beq n m && (eqR (eqW 9) q q' && eqBlks r s)
 | (n,.map e)::r,(m,.map e')::s=>Nat.beq n m && (eqEs e e' && eqBlks r s)
 | _,_=>false
theorem eqBlks_eq:∀ (f g:List (Nat×Blk)),eqBlks f g=true→f=g:=by
 intro f
 induction f with
 | nil=>intro g h;cases g with
   | nil=>rfl
   | cons _ _=>simp[eqBlks] at h
 | cons x r ih =>
   intro g h
   cases g with
   | nil=>obtain ⟨n,B⟩:=x;cases B<;>simp[eqBlks] at h
   | cons y s =>
     obtain ⟨n,B⟩:=x
     obtain ⟨m,C⟩:=y
     cases B<;>cases C<;>simp only[eqBlks,Bool.and_eq_true] at h<;>try (simp at h;done)
     · rw[nb h.1,ih s h.2]
     · rw[nb h.1,eqR_eq (eqW_eq 9) _ _ h.2.1,ih s h.2.2]
     · rw[nb h.1,eqEs_eq _ _ h.2.1,ih s h.2.2]
noncomputable def eqS (s t:Frm×Lvl):Bool:=eqFrm s.1 t.1 && (s.2.lock == t.2.lock && eqBlks s.2.bs t.2.bs)
theorem eqS_eq (s t:Frm×Lvl) (h:eqS s t=true):s=t:=by
 simp only[eqS,Bool.and_eq_true,beq_iff_eq] at h
 obtain ⟨f,l⟩:=s
 obtain ⟨g,m⟩:=t
 cases l;cases m
 simp only at h
 rw[eqFrm_eq _ _ h.1,h.2.1,eqBlks_eq _ _ h.2.2]

end Go.Eng
end
section
namespace Go.Eng
set_option linter.unusedVariables false
set_option linter.unusedSimpArgs false

theorem hGet_app:∀ (A B:Heap) (d i:Nat),hGet (A++B) d i=if d<A.length then hGet A d i else hGet B (d-A.length) i
 | [],B,d,i=>by simp
 | l::A,B,0,i=>by simp[hGet]
 | l::A,B,d+1,i=>by
   show hGet (A++B) d i=_
   rw[hGet_app A B d i]
   simp only[List.length_cons,Nat.add_lt_add_iff_right,Nat.add_sub_add_right]
   rfl
theorem hNextAt_app:∀ (A B:Heap) (d:Nat),hNextAt (A++B) d=if d<A.length then hNextAt A d else hNextAt B (d-A.length)
 | [],B,d=>by simp
 | l::A,B,0=>by simp[hNextAt]
 | l::A,B,d+1=>by
   show hNextAt (A++B) d=_
   rw[hNextAt_app A B d]
   simp only[List.length_cons,Nat.add_lt_add_iff_right,Nat.add_sub_add_right]
   rfl
theorem hLock_app:∀ (A B:Heap) (d:Nat),hLock (A++B) d=if d<A.length then hLock A d else hLock B (d-A.length)
 | [],B,d=>by simp
 | l::A,B,0=>by simp[hLock]
 | l::A,B,d+1=>by
   show hLock (A++B) d=_
   rw[hLock_app A B d]
   simp only[List.length_cons,Nat.add_lt_add_iff_right,Nat.add_sub_add_right]
   rfl
theorem hGet_beyond:∀ (H:Heap) (d i:Nat),H.length≤d→hGet H d i=(0,.dead)
 | [],_,_,_=>rfl
 | l::H,0,i,h=>by simp at h
 | l::H,d+1,i,h=>hGet_beyond H d i (by simpa using h)
theorem hNextAt_beyond:∀ (H:Heap) (d:Nat),H.length≤d→hNextAt H d=0
 | [],_,_=>rfl
 | l::H,0,h=>by simp at h
 | l::H,d+1,h=>hNextAt_beyond H d (by simpa using h)

def lvM (es:List (AV×AV)):Lvl:=⟨true,[(0,.map es)]⟩
def MuL (M:Mu) (n i:Nat):Mu:=fun d j v=>if d=n then (if j=0∧v=0 then M 0 i 0 else none) else M d j v
def MuC (M:Mu) (n i:Nat):Mu:=fun d j v=>if d<n∧¬ (d=0∧j=i∧v≠0) then M d j v else none
theorem MuC_le (M:Mu) (n i:Nat):Mu.le (MuC M n i) M:=fun d j v t h=>by
 unfold MuC at h
 split at h
 · exact h
 · cases h
theorem MuL_le {p:Pst} {M:Mu} {H:Heap} {w:World} (h:HRel p M H w) (i:Nat):Mu.le M (MuL M H.length i):=fun d j v t hm=>by
 unfold MuL
 by_cases e:d=H.length
 · have:=(h.dom d j v t hm).1
   rw[hNextAt_beyond H d (by omega)] at this
   omega
 · rw[if_neg e];exact hm
theorem HRel.sink {p:Pst} {M:Mu} {H:Heap} {w:World} (h:HRel p M H w) {i:Nat} {es:List (AV×AV)} (hg:hGet H 0 i=(0,.map es)) (hn:es.all (fun e=>noH 9 e.1 && noH 9 e.2)=true):HRel p (MuL M H.length i) (hKill H 0 i++[lvM es]) w:=by
 have hle:=MuL_le h i
 have hlen:(hKill H 0 i).length=H.length:=hKill_len _ _ _
 have hpos:0<H.length:=by
  cases H with
  | nil=>simp[hGet] at hg
  | cons l r=>simp
 have get:∀ d j,hGet (hKill H 0 i++[lvM es]) d j=if d<H.length then (if d=0∧j=i then ((hGet H 0 i).1,.dead) else hGet H d j) else if d=H.length∧j=0 then (0,.map es) else (0,.dead):=fun d j=>by
  rw[hGet_app,hlen,hGet_kill]
  by_cases e:d<H.length
  · rw[if_pos e,if_pos e]
  · rw[if_neg e,if_neg e]
    by_cases e2:d=H.length
    · subst e2
      rw[Nat.sub_self]
      cases j with
      | zero=>simp[hGet,lvM,nthBlk]
      | succ j=>simp[hGet,lvM,nthBlk]
    · obtain ⟨k,hk⟩:∃ k,d-H.length=k+1:=⟨d-H.length-1,by omega⟩
      rw[hk,if_neg (fun x=>e2 x.1)];rfl
 obtain ⟨b0,o0,t0,m0,B0,q0⟩:=h.live 0 i 0 (.map es) hg (by simp)
 have hmn:MuL M H.length i H.length 0 0=some (b0,o0,t0):=by simp[MuL,m0]
 have hB0:BRel p ((MuL M H.length i).up H.length) (.map es) b0 o0 t0 w:=by
  obtain ⟨ces,clock,c1,c2,c3,c4⟩:=B0
  refine ⟨ces,clock,c1,c2,c3,fun j hj=>?_⟩
  have hm:es.getD j (.undef,.undef) ∈ es:=by
   rw[List.getD_eq_getElem?_getD,List.getElem?_eq_getElem (by omega)];exact List.getElem_mem _
  have:=List.all_eq_true.1 hn _ hm
  simp only[Bool.and_eq_true] at this
  exact ⟨noH_any 9 this.1 (c4 j hj).1,noH_any 9 this.2 (c4 j hj).2⟩
 refine ⟨h.pers,?_,?_,?_⟩
 · intro d j v B hgB hB
   rw[get] at hgB
   split at hgB
   · split at hgB
     · simp only[Prod.mk.injEq] at hgB;exact absurd hgB.2.symm hB
     · obtain ⟨b,o,t,k1,k2,k3⟩:=h.live d j v B hgB hB
       exact ⟨b,o,t,hle _ _ _ _ k1,k2.mono (Pst.le.refl _) (hle.up d) rfl,k3⟩
   · split at hgB
     · rename_i e
       obtain ⟨rfl,rfl⟩:=e
       simp only[Prod.mk.injEq] at hgB
       obtain ⟨rfl,rfl⟩:=hgB
       exact ⟨b0,o0,t0,hmn,hB0,q0⟩
     · simp only[Prod.mk.injEq] at hgB;exact absurd hgB.2.symm hB
 · intro d j v B d' j' v' B' b o t o' t' hgB hB hgB' hB' hm hm'
   rw[get] at hgB hgB'
   -- of the old ones, or the map
   have old:∀ {d j v B b o t},(if d<H.length then (if d=0∧j=i then ((hGet H 0 i).1,Blk.dead) else hGet H d j) else if d=H.length∧j=0 then (0,.map es) else (0,.dead))=(v,B)→B≠.dead→MuL M H.length i d j v=some (b,o,t) →
    (d<H.length∧¬ (d=0∧j=i)∧hGet H d j=(v,B)∧M d j v=some (b,o,t))∨(d=H.length∧j=0∧v=0∧M 0 i 0=some (b,o,t)):=fun {d j v B b o t} hgB hB hm=>by
    split at hgB
    · rename_i e
      split at hgB
      · simp only[Prod.mk.injEq] at hgB;exact absurd hgB.2.symm hB
      · rename_i e2
        refine .inl ⟨e,e2,hgB,?_⟩
        unfold MuL at hm
        rwa [if_neg (by omega)] at hm
    · split at hgB
      · rename_i e
        simp only[Prod.mk.injEq] at hgB
        obtain ⟨rfl,rfl⟩:=hgB
        refine .inr ⟨e.1,e.2,rfl,?_⟩
        unfold MuL at hm
        rwa [if_pos e.1,if_pos ⟨e.2,rfl⟩] at hm
      · simp only[Prod.mk.injEq] at hgB;exact absurd hgB.2.symm hB
   rcases old hgB hB hm with ⟨a1,a2,a3,a4⟩ | ⟨a1,a2,a3,a4⟩<;>rcases old hgB' hB' hm' with ⟨c1,c2,c3,c4⟩ | ⟨c1,c2,c3,c4⟩
   · exact h.apart d j v B d' j' v' B' b o t o' t' a3 hB c3 hB' a4 c4
   · exact absurd (h.apart d j v B 0 i 0 (.map es) b o t o' t' a3 hB hg (by simp) a4 c4) a2
   · have:=h.apart d' j' v' B' 0 i 0 (.map es) b o' t' o t c3 hB' hg (by simp) c4 a4
     exact absurd this c2
   · exact ⟨by omega,by omega⟩
 · intro d j v t hm
   have hnx:hNextAt (hKill H 0 i++[lvM es]) d=if d<H.length then hNextAt H d else if d=H.length then 1 else 0:=by
    rw[hNextAt_app,hlen,hNextAt_kill]
    by_cases e:d<H.length
    · rw[if_pos e,if_pos e]
    · rw[if_neg e,if_neg e]
      by_cases e2:d=H.length
      · subst e2;simp[hNextAt,lvM]
      · obtain ⟨k,hk⟩:∃ k,d-H.length=k+1:=⟨d-H.length-1,by omega⟩
        rw[hk,if_neg e2];rfl
   rw[hnx,get]
   unfold MuL at hm
   by_cases e:d=H.length
   · rw[if_pos e] at hm
     split at hm
     · rename_i e2
       rw[if_neg (by omega),if_pos e,if_neg (by omega),if_pos ⟨e,e2.1⟩]
       exact ⟨by omega,fun _=>by omega⟩
     · cases hm
   · rw[if_neg e] at hm
     have:=h.dom d j v t hm
     have hd:d<H.length:=by
      refine Nat.lt_of_not_le fun hle=>?_
      rw[hNextAt_beyond H d hle] at this
      omega
     rw[if_pos hd,if_pos hd]
     refine ⟨this.1,?_⟩
     split
     · exact fun x=>absurd rfl x
     · exact this.2

def flatV (n i:Nat):AV→Bool
 | .ptr d j _ _=>Nat.blt d n && !(Nat.beq d 0 && Nat.beq j i)
 | .slc d j _ _ _ _ _=>Nat.blt d n && !(Nat.beq d 0 && Nat.beq j i)
 | .map d _=>Nat.blt d n
 | .yld d _=>Nat.blt d n
 | .fn f a b=>a.all (fun v=>match v with
    | .ptr d j _ _=>Nat.blt d n && !(Nat.beq d 0 && Nat.beq j i)
    | .map d _=>Nat.blt d n
    | .yld d _=>Nat.blt d n
    | v=>noH 9 v) && b.all (fun v=>match v with
    | .ptr d j _ _=>Nat.blt d n && !(Nat.beq d 0 && Nat.beq j i)
    | .map d _=>Nat.blt d n
    | .yld d _=>Nat.blt d n
    | v=>noH 9 v)
 | v=>noH 9 v
def flatB (n i:Nat):Blk→Bool
 | .dead=>true
 | .row (.I _ _)=>true
 | .row (.G l)=>l.all (flatV n i)
 | .map es=>es.all fun e=>flatV n i e.1 && flatV n i e.2
 | _=>false
theorem flatV_c {p:Pst} {M:Mu} {n i:Nat}:∀ {v:AV} {c:Value},flatV n i v=true→VRel p M v c→VRel p (MuC M n i) v c:=by
 have hp:∀ {d j v t},(Nat.blt d n && !(Nat.beq d 0 && Nat.beq j i))=true→M d j v=some t→MuC M n i d j v=some t:=fun {d j v t} h hm=>by
  simp only[Bool.and_eq_true,Bool.not_eq_true',Bool.and_eq_false_iff] at h
  have h1:d<n:=by have:=h.1;simpa[Nat.blt_eq] using this
  have hn:¬ (d=0∧j=i∧v≠0):=fun x=>by
   rcases h.2 with y | y
   · rw[x.1] at y;simp at y
   · rw[x.2.1] at y;simp at y
  unfold MuC
  rw[if_pos ⟨h1,hn⟩]
  exact hm
 have hm0:∀ {d j t},Nat.blt d n=true→M d j 0=some t→MuC M n i d j 0=some t:=fun {d j t} h hm=>by
  have h1:d<n:=by simpa[Nat.blt_eq] using h
  unfold MuC
  rw[if_pos ⟨h1,fun x=>x.2.2 rfl⟩]
  exact hm
 have one:∀ {v:AV} {c:Value},(match v with
  | .ptr d j _ _=>Nat.blt d n && !(Nat.beq d 0 && Nat.beq j i)
  | .map d _=>Nat.blt d n
  | .yld d _=>Nat.blt d n
  | v=>noH 9 v)=true→VRel p M v c→VRel p (MuC M n i) v c:=fun {v c} h hv=>by
  split at h
  · cases hv;rename_i hm;exact .ptr (hp h hm)
  · cases hv;rename_i hm;exact .map (hm0 h hm)
  · cases hv;rename_i hm;exact .yld (hm0 h hm)
  · exact noH_any 9 h hv
 intro v c h hv
 unfold flatV at h
 split at h
 · cases hv;rename_i hm;exact .ptr (hp h hm)
 · cases hv with
   | slc hm h1 h2 h3 h4=>exact .slc (hp h hm) h1 h2 h3 h4
 · cases hv;rename_i hm;exact .map (hm0 h hm)
 · cases hv;rename_i hm;exact .yld (hm0 h hm)
 · cases hv with
   | fn hha hhb hva hvb =>
     simp only[Bool.and_eq_true] at h
     exact .fn hha hhb (fun j hj=>one (all_getD h.1 hj) (hva j hj)) (fun j hj=>one (all_getD h.2 hj) (hvb j hj))
 · exact noH_any 9 h hv
theorem flatB_c {p:Pst} {M:Mu} {n i:Nat} {B:Blk} {b o t:Nat} {w:World} (h:flatB n i B=true) (hB:BRel p M B b o t w):BRel p (MuC M n i) B b o t w:=by
 unfold flatB at h
 split at h
 · trivial
 · obtain ⟨c,e,h1,h2,h3,h4⟩:=hB
   exact ⟨c,e,h1,h2,h3,fun j hj=>⟨VRel.anyInt _ _ (h4 j hj).1,(h4 j hj).2⟩⟩
 · rename_i l
   obtain ⟨c,e,h1,h2,h3,h4⟩:=hB
   exact ⟨c,e,h1,h2,h3,fun j hj=>⟨flatV_c (all_getD h hj) (h4 j hj).1,(h4 j hj).2⟩⟩
 · rename_i es
   obtain ⟨ces,clock,h1,h2,h3,h4⟩:=hB
   refine ⟨ces,clock,h1,h2,h3,fun j hj=>?_⟩
   have hm:es.getD j (.undef,.undef) ∈ es:=by
    rw[List.getD_eq_getElem?_getD,List.getElem?_eq_getElem (by omega)];exact List.getElem_mem _
   have:=List.all_eq_true.1 h _ hm
   simp only[Bool.and_eq_true] at this
   exact ⟨flatV_c this.1 (h4 j hj).1,flatV_c this.2 (h4 j hj).2⟩
 · cases h
theorem nthBlk_all {f:Nat×Blk→Bool}:∀ {l:List (Nat×Blk)} {j:Nat},l.all f=true→(nthBlk l j).2≠.dead→f (nthBlk l j)=true
 | [],j,_,h=>absurd rfl h
 | x::l,0,h,_=>by simp at h;exact h.1
 | x::l,j+1,h,hd=>nthBlk_all (l:=l) (j:=j) (by simp at h;simpa using h.2) hd
theorem Evo.rise {p p':Pst} {M MK:Mu} {lk lE:Lvl} {R0:Heap} {w w':World} {i:Nat} {es:List (AV×AV)} (h:HRel p M (lk::R0) w) (hR:∀ d,hLock R0 d=true) (hl0:lk.lock=false)
 (hv:∀ v t,M 0 i v=some t→v=0)
 (hE:Evo p (MuL M (R0.length+1) i) (lk::R0++[lvM es]) w p' MK (lE::(R0++[lvM es])) w') (hf:lE.bs.all (fun x=>flatB (R0.length+1) i x.2)=true) (hdead:(hGet (lE::R0) 0 i).2=.dead):Evo p M (lk::R0) w p' (MuC MK (R0.length+1) i) (lE::R0) w':=by
 have hlen:(lk::R0).length=R0.length+1:=rfl
 have hle:Mu.le M (MuL M (R0.length+1) i):=MuL_le h i
 have hleC:=MuC_le MK (R0.length+1) i
 have hlt:∀ {d j v t},M d j v=some t→d<R0.length+1:=fun {d j v t} hm=>by
  refine Nat.lt_of_not_le fun hx=>?_
  have:=(h.dom d j v t hm).1
  rw[hNextAt_beyond _ d (by rw[hlen];exact hx)] at this
  omega
 have hM:Mu.le M (MuC MK (R0.length+1) i):=fun d j v t hm=>by
  have h1:=hE.mu _ _ _ _ (hle _ _ _ _ hm)
  unfold MuC
  have hn:¬ (d=0∧j=i∧v≠0):=fun x=>by
   obtain ⟨x1,x2,x3⟩:=x
   subst x1;subst x2
   exact x3 (hv v t hm)
  rw[if_pos ⟨hlt hm,hn⟩]
  exact h1
 have get:∀ d j,d<R0.length+1→hGet (lE::(R0++[lvM es])) d j=hGet (lE::R0) d j:=fun d j hd=>by
  show hGet ((lE::R0)++[lvM es]) d j=_
  rw[hGet_app,if_pos (by simpa using hd)]
 have get1:∀ d j,hGet (lE::R0) (d+1) j=hGet (lk::R0) (d+1) j:=fun _ _=>rfl
 have getK:∀ d j,d<R0.length+1→hGet (lk::R0++[lvM es]) d j=hGet (lk::R0) d j:=fun d j hd=>by
  rw[hGet_app,if_pos (by simpa using hd)]
 have hlE:lE.lock=false:=by have:=hE.lock 0;exact this.trans hl0
 have keepK:∀ {b},Go.Eng.keep M (lk::R0) b→Go.Eng.keep (MuL M (R0.length+1) i) (lk::R0++[lvM es]) b:=fun {b} hk d j v B hg hB hl o t hm=>by
  cases d with
  | zero=>exact hk 0 j v B hg hB hl0 o t (by unfold MuL at hm;rwa [if_neg (by omega)] at hm)
  | succ d =>
    rw[hLock_app] at hl
    split at hl
    · exact absurd hl (by rw[show hLock (lk::R0) (d+1)=hLock R0 d from rfl,hR];simp)
    · have:hLock [lvM es] (d+1-(lk::R0).length)=true:=by
       cases (d+1-(lk::R0).length) with
       | zero=>rfl
       | succ k=>rfl
      rw[this] at hl;cases hl
 have hlive:∀ d j v B,hGet (lE::R0) d j=(v,B)→B≠.dead→∃ b o t,MuC MK (R0.length+1) i d j v=some (b,o,t)∧BRel p' ((MuC MK (R0.length+1) i).up d) B b o t w'∧∀ x,p' b x=none:=by
  intro d j v B hg hB
  have hd:d<R0.length+1:=by
   refine Nat.lt_of_not_le fun hx=>?_
   rw[hGet_beyond _ d j (by simpa using hx)] at hg
   simp only[Prod.mk.injEq] at hg;exact hB hg.2.symm
  cases d with
  | zero =>
    obtain ⟨b,o,t,k1,k2,k3⟩:=hE.rel.live 0 j v B (by rw[get 0 j hd];exact hg) hB
    have hfB:flatB (R0.length+1) i B=true:=by
     have hg':nthBlk lE.bs j=(v,B):=hg
     have:=nthBlk_all hf (j:=j) (by rw[hg'];exact hB)
     rw[hg'] at this;exact this
    have hji:j≠i:=fun e=>by
     subst e
     rw[hg] at hdead
     exact hB hdead
    refine ⟨b,o,t,?_,flatB_c hfB k2,k3⟩
    unfold MuC
    rw[if_pos ⟨by omega,fun x=>hji x.2.1⟩]
    exact k1
  | succ d =>
    obtain ⟨b,o,t,k1,k2,k3⟩:=h.live (d+1) j v B hg hB
    have k4:=hE.mu _ _ _ _ (hle _ _ _ _ k1)
    obtain ⟨b2,o2,t2,j1,j2,j3⟩:=hE.rel.live (d+1) j v B (by rw[get _ j hd];exact hg) hB
    rw[k4] at j1
    simp only[nP] at j1
    obtain ⟨rfl,rfl,rfl⟩:=j1
    refine ⟨b,o,t,hM _ _ _ _ k1,k2.mono hE.pst (hM.up (d+1)) (hE.stay.block b (k2.lt hB) ?_),j3⟩
    refine keepK (fun d1 i1 v1 B1 hg1 hB1 hl1 o1 t1 hm1=>?_)
    have:=h.apart d1 i1 v1 B1 (d+1) j v B b o1 t1 o t hg1 hB1 hg hB hm1 k1
    rw[this.1] at hl1
    exact absurd hl1 (by rw[show hLock (lk::R0) (d+1)=hLock R0 d from rfl,hR];simp)
 refine ⟨hE.pst,hM,⟨hE.rel.pers,hlive,?_,?_⟩,hE.stay.weaken (fun b hb hk=>keepK hk),?_,?_,?_,?_,fun d j hd hl=>?_,fun d hd hl=>?_,rfl,fun d=>?_,fun d j v t hm=>?_⟩
 · intro d j v B d' j' v' B' b o t o' t' hg hB hg' hB' hm hm'
   have lt1:∀ {d j v B},hGet (lE::R0) d j=(v,B)→B≠.dead→d<R0.length+1:=fun {d j v B} hg hB=>by
    refine Nat.lt_of_not_le fun hx=>?_
    rw[hGet_beyond _ d j (by simpa using hx)] at hg
    simp only[Prod.mk.injEq] at hg;exact hB hg.2.symm
   exact hE.rel.apart d j v B d' j' v' B' b o t o' t' (by rw[get _ _ (lt1 hg hB)];exact hg) hB (by rw[get _ _ (lt1 hg' hB')];exact hg') hB' (hleC _ _ _ _ hm) (hleC _ _ _ _ hm')
 · intro d j v t hm
   have hd:d<R0.length+1:=by
    unfold MuC at hm
    split at hm
    · rename_i e;exact e.1
    · cases hm
   have:=hE.rel.dom d j v t (hleC _ _ _ _ hm)
   rw[get _ _ hd] at this
   have hn:hNextAt (lE::(R0++[lvM es])) d=hNextAt (lE::R0) d:=by
    show hNextAt ((lE::R0)++[lvM es]) d=_
    rw[hNextAt_app,if_pos (by simpa using hd)]
   rw[hn] at this
   exact this
 · intro b hb hk d j v B hg hB hl o t hm
   have hd:d<R0.length+1:=by
    refine Nat.lt_of_not_le fun hx=>?_
    rw[hGet_beyond _ d j (by simpa using hx)] at hg
    simp only[Prod.mk.injEq] at hg;exact hB hg.2.symm
   refine hE.keep b hb (keepK hk) d j v B (by rw[get _ _ hd];exact hg) hB ?_ o t (hleC _ _ _ _ hm)
   show hLock ((lE::R0)++[lvM es]) d=false
   rw[hLock_app,if_pos (by simpa using hd)];exact hl
 · intro b o v hx
   rcases hE.fresh b o v hx with h1 | h1 | ⟨h1,j,u,o',t',h2⟩
   · exact .inl h1
   · exact .inr (.inl h1)
   · refine .inr (.inr ⟨hl0,j,u,o',t',?_⟩)
     unfold MuL at h2
     rwa [if_neg (by omega)] at h2
 · intro d j v b o t hm
   rcases hE.own d j v b o t (hleC _ _ _ _ hm) with h1 | ⟨d',j',v',o',t',hd,h1⟩
   · exact .inl h1
   · have hd2:d<R0.length+1:=by
      unfold MuC at hm
      split at hm
      · rename_i e;exact e.1
      · cases hm
     refine .inr ⟨d',j',v',o',t',hd,?_⟩
     unfold MuL at h1
     rwa [if_neg (by omega)] at h1
 · intro d
   cases d with
   | zero=>exact hlE.trans hl0.symm
   | succ d=>rfl
 · cases d with
   | zero=>exact absurd rfl hd
   | succ d=>rfl
 · cases d with
   | zero=>exact absurd rfl hd
   | succ d=>rfl
 · cases d with
   | zero=>exact hE.grow 0
   | succ d=>exact Nat.le_refl _
 · have hd:d<R0.length+1:=by
    unfold MuC at hm
    split at hm
    · rename_i e;exact e.1
    · cases hm
   rcases hE.new d j v t (hleC _ _ _ _ hm) with h1 | h1 | h1
   · unfold MuL at h1
     rw[if_neg (by omega)] at h1
     exact .inl h1
   · rw[hNextAt_app,if_pos (by simpa using hd)] at h1
     exact .inr (.inl h1)
   · rw[hLock_app,if_pos (by simpa using hd)] at h1
     exact .inr (.inr h1)
theorem hidden_keep {p:Pst} {M:Mu} {H:Heap} {w:World} (h:HRel p M H w) {d i v b o t:Nat} {B:Blk} (hg:hGet H d i=(v,B)) (hB:B≠.dead) (hm:M d i v=some (b,o,t)):Go.Eng.keep M (hKill H d i) b:=by
 intro d1 i1 v1 B1 hg1 hB1 _ o1 t1 hm1
 rw[hGet_kill] at hg1
 split at hg1
 · simp only[Prod.mk.injEq] at hg1;exact hB1 hg1.2.symm
 · rename_i e
   exact e (h.apart d1 i1 v1 B1 d i v B b o1 t1 o t hg1 hB1 hg hB hm1 hm)

theorem Evo.restore {p p':Pst} {M M':Mu} {H H':Heap} {w w':World} (h:HRel p M H w) {d i v b o t:Nat} {B:Blk} (hg:hGet H d i=(v,B)) (hB:B≠.dead) (hm:M d i v=some (b,o,t)) (hl:hLock H d=false) (h0:hLock H 0=false)
 (hE:Evo p M (hKill H d i) w p' M' H' w') (hv:∀ v1 t1,M' d i v1=some t1→v1≤v) (hp:∀ x,p' b x=none):Evo p M H w p' M' (hSet H' d i (v,B)) w':=by
 obtain ⟨b0,o0,t0,k1,k2,k3⟩:=h.live d i v B hg hB
 rw[hm] at k1
 simp only[nP] at k1
 obtain ⟨rfl,rfl,rfl⟩:=k1
 have hlt:=k2.lt hB
 have hkeep:=hidden_keep h hg hB hm
 have hblk:=hE.stay.block b hlt hkeep
 have hm':=hE.mu _ _ _ _ hm
 have hi:i<hNextAt H' d:=(hE.rel.dom _ _ _ _ hm').1
 have get:∀ d1 i1,hGet (hSet H' d i (v,B)) d1 i1=if d1=d∧i1=i then (v,B) else hGet H' d1 i1:=fun d1 i1=>by
  rw[hGet_set]
  by_cases e:d1=d∧i1=i
  · rw[if_pos ⟨e.1,e.2,hi⟩,if_pos e]
  · rw[if_neg (fun x=>e ⟨x.1,x.2.1⟩),if_neg e]
 have lk:∀ d1,hLock H' d1=hLock H d1:=fun d1=>by rw[hE.lock,hLock_kill]
 have other:∀ d1 i1 v1 B1 o1 t1,¬ (d1=d∧i1=i)→hGet H' d1 i1=(v1,B1)→B1≠.dead→M' d1 i1 v1≠some (b,o1,t1):=by
  intro d1 i1 v1 B1 o1 t1 hne hg1 hB1 hm1
  cases hl1:hLock H' d1 with
  | false=>exact hE.keep b hlt hkeep d1 i1 v1 B1 hg1 hB1 hl1 o1 t1 hm1
  | true =>
    have hl2:hLock H d1=true:=by rw[← lk];exact hl1
    have hd1:d1≠0:=fun e=>by rw[e,h0] at hl2;cases hl2
    have h3:=hE.same d1 i1 hd1 (by rw[hLock_kill];exact hl2)
    rw[hGet_kill,if_neg hne] at h3
    have h4:hGet H d1 i1=(v1,B1):=by rw[← h3];exact hg1
    obtain ⟨b2,o2,t2,j1,_,_⟩:=h.live d1 i1 v1 B1 h4 hB1
    have j2:=hE.mu _ _ _ _ j1
    rw[hm1] at j2
    simp only[nP] at j2
    exact hne (h.apart d1 i1 v1 B1 d i v B b o2 t2 o t h4 hB1 hg hB (by rw[j1,← j2.1]) hm)
 refine ⟨hE.pst,hE.mu,⟨hE.rel.pers,?_,?_,?_⟩,hE.stay.weaken (fun x hx hk=>KeepTo.kill w M H d i x hx hk),?_,fun b1 o1 v1 hx=>(hE.fresh b1 o1 v1 hx).imp id (fun h=>h.imp id (fun h=>⟨by rw[← hLock_kill H d i 0];exact h.1,h.2⟩)),hE.own,fun d1=>by rw[hLock_set,lk],?_,?_,by rw[hSet_len,hE.len,hKill_len],?_,?_⟩
 · intro d1 i1 v1 B1 hg1 hB1
   rw[get] at hg1
   split at hg1
   · rename_i e
     obtain ⟨rfl,rfl⟩:=e
     simp only[Prod.mk.injEq] at hg1
     obtain ⟨rfl,rfl⟩:=hg1
     exact ⟨b,o,t,hm',k2.mono hE.pst (hE.mu.up _) hblk,hp⟩
   · exact hE.rel.live d1 i1 v1 B1 hg1 hB1
 · intro d1 i1 v1 B1 d2 i2 v2 B2 bb o1 t1 o2 t2 hg1 hB1 hg2 hB2 hm1 hm2
   rw[get] at hg1 hg2
   split at hg1
   · rename_i e1
     obtain ⟨rfl,rfl⟩:=e1
     simp only[Prod.mk.injEq] at hg1
     obtain ⟨rfl,rfl⟩:=hg1
     rw[hm'] at hm1
     simp only[nP] at hm1
     split at hg2
     · rename_i e2;exact ⟨e2.1.symm,e2.2.symm⟩
     · rename_i e2
       exact absurd (by rw[hm2,hm1.1]) (other d2 i2 v2 B2 o2 t2 e2 hg2 hB2)
   · rename_i e1
     split at hg2
     · rename_i e2
       obtain ⟨rfl,rfl⟩:=e2
       simp only[Prod.mk.injEq] at hg2
       obtain ⟨rfl,rfl⟩:=hg2
       rw[hm'] at hm2
       simp only[nP] at hm2
       exact absurd (by rw[hm1,hm2.1]) (other d1 i1 v1 B1 o1 t1 e1 hg1 hB1)
     · exact hE.rel.apart d1 i1 v1 B1 d2 i2 v2 B2 bb o1 t1 o2 t2 hg1 hB1 hg2 hB2 hm1 hm2
 · intro d1 i1 v1 u hu
   have:=hE.rel.dom d1 i1 v1 u hu
   rw[hNextAt_set,get]
   refine ⟨this.1,?_⟩
   split
   · rename_i e
     obtain ⟨rfl,rfl⟩:=e
     exact fun _=>hv v1 u hu
   · exact this.2
 · intro x hx hk d1 i1 v1 B1 hg1 hB1 hl1 o1 t1 hm1
   rw[hLock_set] at hl1
   rw[get] at hg1
   split at hg1
   · rename_i e
     obtain ⟨rfl,rfl⟩:=e
     simp only[Prod.mk.injEq] at hg1
     obtain ⟨rfl,rfl⟩:=hg1
     rw[hm'] at hm1
     simp only[nP] at hm1
     exact hk _ _ _ _ hg hB hl o t (by rw[hm,hm1.1])
   · exact hE.keep x hx (KeepTo.kill w M H d i x hx hk) d1 i1 v1 B1 hg1 hB1 hl1 o1 t1 hm1
 · intro d1 i1 hd1 hl1
   have hne:¬ (d1=d∧i1=i):=fun e=>by rw[e.1,hl] at hl1;cases hl1
   rw[get,if_neg hne,hE.same d1 i1 hd1 (by rw[hLock_kill];exact hl1),hGet_kill,if_neg hne]
 · intro d1 hd1 hl1
   rw[hNextAt_set,hE.next d1 hd1 (by rw[hLock_kill];exact hl1),hNextAt_kill]
 · intro d1
   have:=hE.grow d1
   rw[hNextAt_kill] at this
   rw[hNextAt_set];exact this
 · intro d1 i1 v1 u hu
   have:=hE.new d1 i1 v1 u hu
   rw[hNextAt_kill,hLock_kill] at this
   exact this

end Go.Eng
end
