/- The engine, part B: how abstract values, frames and heaps stand for those of the model. -/
import Derived.Test.YtgphpjdchnfjlaaDoorV6EngA
import Derived.WalkKit
import Derived.Laws.CopyRow
set_option linter.unusedVariables false
set_option linter.unusedSimpArgs false
namespace Go.Eng

theorem cG (g:Nat→AV):∀ (n o:Nat),(dF g o n).length=n
 | 0,_=>rfl
 | n+1,o=>by simp[dF,cG g n]
theorem fz (g:Nat→AV):∀ (n o j:Nat),j<n→(dF g o n).getD j .undef=g (o+j)
 | 0,_,_,h=>by omega
 | n+1,o,0,_=>by simp[dF]
 | n+1,o,j+1,h=>by
   have:=fz g n (o+1) j wO;simp only[dF,List.getD_cons_succ,this];congr 1;omega

theorem aU (f:AV→AV):∀ l,ay (mapM' f l)=ay l
 | []=>rfl
 | .one v::r=>by simp[mapM',ay,aP,aU f r]
 | .arr k z n::r=>by simp[mapM',ay,aP,aU f r]
theorem iz (f:AV→AV):∀ (l:List db) (j:Nat),j<ay l→getM (mapM' f l) j=f (getM l j)∨∃ k n,getM l j=.int k n∧getM (mapM' f l) j=.int k n
 | [],j,h=>by simp[ay] at h
 | .one v::r,0,h=>.inl rfl
 | .one v::r,j+1,h=>by simp only[mapM',getM];exact iz f r j (by simp[ay,aP] at h;omega)
 | .arr k z n::r,j,h=>by
   simp only[mapM',getM];by_cases e:j<n
   · simp only[if_pos e];exact .inr ⟨_,_,rfl,rfl⟩
   · simp only[if_neg e];exact iz f r (j-n) (by simp[ay,aP] at h;omega)
theorem p6:∀ (l:List AV) (r:List db),ay (qd l r)=l.length+ay r
 | [],r=>by simp[qd]
 | v::l,r=>by simp[qd,ay,aP,p6 l r];omega
theorem pO:∀ (l:List AV) (r:List db) (j:Nat),getM (qd l r) j=if j<l.length then l.getD j .undef else getM r (j-l.length)
 | [],r,j=>by simp[qd]
 | v::l,r,0=>by simp[qd,getM]
 | v::l,r,j+1=>by
   simp only[qd,getM,pO l r j,List.length_cons,Nat.add_lt_add_iff_right,List.getD_cons_succ,Nat.add_sub_add_right]
theorem mK:∀ (l:List db) (j:Nat) (v:AV),ay (jI l j v)=ay l
 | [],_,_=>rfl
 | .one _::r,0,v=>rfl
 | .one u::r,j+1,v=>by simp[jI,ay,aP,mK r j v]
 | .arr k z n::r,j,v=>by
   have key:ay (qd (dF (fun i=>if i=j then v else .int k (z i)) 0 n) r)=ay (.arr k z n::r):=by
    rw[p6,cG];rfl
   simp only[jI];split
   · split
     · split
       · rfl
       · exact key
     · exact key
   · simp[ay,aP,mK r (j-n) v]
theorem pP:∀ (l:List db) (j:Nat) (v:AV) (i:Nat),i<ay l→getM (jI l j v) i=if i=j then v else getM l i
 | [],_,_,i,h=>by simp[ay] at h
 | .one _::r,0,v,0,h=>by simp[jI,getM]
 | .one _::r,0,v,i+1,h=>by simp[jI,getM]
 | .one u::r,j+1,v,0,h=>by simp[jI,getM]
 | .one u::r,j+1,v,i+1,h=>by
   simp only[jI,getM,pP r j v i (by simp[ay,aP] at h;omega)];simp
 | .arr k z n::r,j,v,i,h=>by
   have hi:¬ i<n→i-n<ay r:=fun e=>by simp[ay,aP] at h;omega
   have key:j<n→getM (qd (dF (fun i=>if i=j then v else .int k (z i)) 0 n) r) i=if i=j then v else getM (.arr k z n::r) i:=by
    intro hj;rw[pO,cG];simp only[getM];by_cases e:i<n
    · rw[if_pos e,fz _ _ _ _ e,if_pos e];simp
    · rw[if_neg e,if_neg e,if_neg wO]
   simp only[jI];split
   · rename_i hj;split
     · rename_i k' x;split
       · rename_i hk;subst hk;simp only[getM];by_cases e:i<n
         · rw[if_pos e,if_pos e];by_cases e2:i=j<;>simp[e2]
         · rw[if_neg e,if_neg e,if_neg wO]
       · exact key hj
     · exact key hj
   · rename_i hj;simp only[getM];by_cases e:i<n
     · rw[if_pos e,if_pos e,if_neg wO]
     · rw[if_neg e,if_neg e,pP r (j-n) v (i-n) (hi e)];by_cases e2:i=j
       · subst e2;simp
       · rw[if_neg e2,if_neg wO]
theorem rW:∀ (l:List db),fI l=true→∀ j,j<ay l→∃ k n,getM l j=.int k n
 | [],_,j,h=>by simp[ay] at h
 | .one _::_,h,_,_=>by simp[fI] at h
 | .arr k z n::r,h,j,hj=>by
   simp only[getM];by_cases e:j<n
   · rw[if_pos e];exact ⟨_,_,rfl⟩
   · rw[if_neg e];exact rW r h (j-n) (by simp[ay,aP] at hj;omega)
theorem rR:∀ (l:List Int),xI l=true→∀ j,l.getD j 0=0
 | [],_,j=>by simp
 | x::l,h,0=>by simp[xI] at h;simpa using h.1
 | x::l,h,j+1=>by simp[xI] at h;simpa using rR l h.2 j
theorem Hk (l:List Int):PY l=fun j=>l.getD j 0:=by
 unfold PY;split
 · rename_i h;funext j;exact (rR l h j).symm
 · rfl
theorem vQ (k:IntKind):∀ l:List AV,(dk k l).1.map (AV.int k)++(dk k l).2=l
 | []=>rfl
 | v::r=>by
   have ih:=vQ k r;cases v;case int k' n =>
    simp only[dk]
    split
    · rename_i e
      subst e
      simpa using ih
    · rfl
   all_goals rfl
theorem iY:∀ (f:Nat) (l:List AV),ay (ia f l)=l.length∧∀ j,j<l.length→getM (ia f l) j=l.getD j .undef
 | 0,l=>by
   refine ⟨by simp[ia,p6,ay],fun j hj=>?_⟩;simp only[ia,pO];rw[if_pos hj]
 | f+1,[]=>⟨rfl,fun j hj=>by simp at hj⟩
 | f + 1,v::r=>by
   have one:ay (.one v::ia f r)=(v::r).length∧∀ j,j<(v::r).length→getM (.one v::ia f r) j=(v::r).getD j .undef:=by
    have ih:=iY f r;refine ⟨by simp[ay,aP,ih.1];omega,fun j hj=>?_⟩;cases j with
    | zero=>rfl
    | succ j=>simp only[getM,List.getD_cons_succ];exact ih.2 j (by simpa using hj)
   cases v;case int k n =>
    simp only[ia,Hk]
    split
    have he:=vQ k r
    have ih:=iY f (dk k r).2
    have hl:(dk k r).1.length+(dk k r).2.length=r.length:=by
     have:=congrArg List.length he;simpa using this
    refine ⟨by simp[ay,aP,ih.1];omega,fun j hj=>?_⟩
    simp only[getM]
    by_cases e:j<(dk k r).1.length+1
    · rw [if_pos e]
      cases j with
      | zero=>rfl
      | succ j =>
        have hj':j<(dk k r).1.length:=by omega
        have:r.getD j .undef=.int k ((dk k r).1.getD j 0):=by
         have h3:r.getD j .undef=((dk k r).1.map (AV.int k)++(dk k r).2).getD j .undef:=by rw[he]
         rw[h3];simp[List.getElem?_append_left,hj']
        simp only[List.getD_cons_succ,this]
    · rw[if_neg e,ih.2 _ (by simp at hj;omega)]
      obtain ⟨i,rfl⟩:∃ i,j=(dk k r).1.length+1+i:=⟨j-((dk k r).1.length+1),by omega⟩
      have:(AV.int k n::r).getD ((dk k r).1.length+1+i) .undef=r.getD ((dk k r).1.length+i) .undef:=by
       rw[show (dk k r).1.length+1+i=((dk k r).1.length+i)+1 by omega,List.getD_cons_succ]
      rw[this]
      have h3:r.getD ((dk k r).1.length+i) .undef=((dk k r).1.map (AV.int k)++(dk k r).2).getD ((dk k r).1.length+i) .undef:=by rw[he]
      rw[h3]
      simp[List.getElem?_append_right]
    exact one
   all_goals exact one
theorem Row.pW {r:Row} {k:IntKind} {z:Nat→Int} (h:r.ints=some (k,z)):∀ j,j<r.len→r.get j=.int k (z j):=by
 unfold Row.ints at h;split at h
 · simp only[nP] at h;obtain ⟨rfl,rfl⟩:=h;exact fun j hj=>rfl
 · rename_i k' z' n;simp only[nP] at h;obtain ⟨rfl,rfl⟩:=h;intro j hj;simp only[Row.len,ay,aP,Nat.add_zero] at hj;simp only[Row.get,getM,if_pos hj]
 · simp at h

theorem Row.bo (r:Row):r.toList.length=r.len:=by
 cases r<;>simp[Row.toList,Row.len,cG]
theorem Row.jy (r:Row) (j:Nat) (h:j<r.len):r.toList.getD j .undef=r.get j:=by
 cases r with
 | I k l=>simp[Row.toList,Row.len,Row.get] at *;simp[List.getElem?_eq_getElem h]
 | G l=>simp[Row.toList,Row.get]
 | F f n=>simp[Row.toList,Row.len,Row.get] at *;have:=fz f n 0 j h;simpa using this
 | M l=>simp[Row.toList,Row.len,Row.get] at *;have:=fz (getM l) (ay l) 0 j h;simpa using this

theorem qE {k:IntKind}:∀ {l:List AV} {m:List Int},sI k l=some m→l=m.map (.int k)
 | [],m,h=>by simp[sI] at h;subst h;rfl
 | v::r,m,h=>by
   cases v<;>simp[sI] at h;rename_i k' n;obtain ⟨rfl,q,hq,rfl⟩:=h;simp[qE hq]
theorem Row.ofList_toList (l:List AV):(Row.ofList l).toList=l:=by
 unfold Row.ofList;split
 · rename_i k n r;split
   · rename_i m hm;simp[Row.toList,qE hm]
   · rfl
 · rfl
theorem Row.gi (l:List AV):(Row.ofList l).len=l.length:=by
 rw[← Row.bo,Row.ofList_toList]
theorem Row.nZ (l:List AV) (j:Nat) (h:j<l.length):(Row.ofList l).get j=l.getD j .undef:=by
 rw[← Row.jy _ _ (by rw[Row.gi];exact h),Row.ofList_toList]

theorem tR:∀ (l:List db) (o n:Nat) {k:IntKind} {z:Nat→Int},kU l o n=some (k,z)→∀ j,j<n→getM l (o+j)=.int k (z j)
 | [],_,_,k,z,h,_,_=>by simp[kU] at h
 | .one _::r,0,n,k,z,h,_,_=>by simp[kU] at h
 | .one _::r,o+1,n,k,z,h,j,hj=>by
   have:=tR r o n (k:=k) (z:=z) (by simpa[kU] using h) j hj;rw[show o+1+j=(o+j)+1 by omega];exact this
 | .arr k' z' m::r,o,n,k,z,h,j,hj=>by
   simp only[kU] at h;simp only[getM];split at h
   · simp only[nP] at h;obtain ⟨rfl,rfl⟩:=h;rw[if_pos wO]
   · split at h
     · rename_i hm;have:=tR r (o-m) n h j hj;rw[if_neg wO,← this];congr 1;omega
     · simp at h
theorem Row.Jl (l:List db) (o n:Nat) (hb:o+n≤ay l):(Row.sub (.M l) o n=.G (dF (getM l) o n))∨(o=0∧n=ay l∧Row.sub (.M l) o n=.M l)∨∃ k z,(∀ j,j<n→getM l (o+j)=.int k (z j))∧Row.sub (.M l) o n=.M [.arr k z n]:=by
 have one:∀ k z m,l=[.arr k z m]→(Row.sub (.M l) o n=.G (dF (getM l) o n))∨(o=0∧n=ay l∧Row.sub (.M l) o n=.M l)∨∃ k z,(∀ j,j<n→getM l (o+j)=.int k (z j))∧Row.sub (.M l) o n=.M [.arr k z n]:=by
  rintro k z m rfl;refine .inr (.inr ⟨k,fun j=>z (o+j),fun j hj=>?_,rfl⟩);simp only[ay,aP,Nat.add_zero] at hb;simp only[getM];rw[if_pos wO]
 by_cases hl:∃ k z m,l=[.arr k z m]
 · obtain ⟨k,z,m,e⟩:=hl;exact one k z m e
 have e0:Row.sub (.M l) o n=(if Nat.beq o 0 && Nat.beq (ay l) n then .M l else match kU l o n with
  | some (k,z)=>.M [.arr k z n]
  | none=>.G (dF (getM l) o n)):=by
  match l,hl with
  | [],_=>rfl
  | [.arr k z m],hl=>exact absurd ⟨k,z,m,rfl⟩ hl
  | .one v::r,_=>rfl
  | .arr k z m::s::r,_=>rfl
 rw[e0];split
 · rename_i h;rw[Bool.and_eq_true] at h;exact .inr (.inl ⟨by simpa using h.1,by simpa using (Nat.eq_of_beq_eq_true h.2).symm,rfl⟩)
 · split
   · rename_i k z h;exact .inr (.inr ⟨k,z,tR l o n h,rfl⟩)
   · exact .inl rfl
theorem Row.dp (r:Row) (o n:Nat) (h:o+n≤r.len):(r.sub o n).len=n:=by
 cases r with
 | M l =>
   rcases Row.Jl l o n (by assumption) with e | ⟨_,h2,e⟩ | ⟨k,z,_,e⟩<;>rw[e]
   · simp[Row.len,cG]
   · simp[Row.len,h2]
   · simp[Row.len,ay,aP]
 | _=>simp[Row.sub,Row.len] at *<;>omega
theorem Row.rL (r:Row) (o n j:Nat) (h:o+n≤r.len) (hj:j<n):(r.sub o n).get j=r.get (o+j):=by
 cases r with
 | M l =>
   rcases Row.Jl l o n (by assumption) with e | ⟨h1,_,e⟩ | ⟨k,z,h1,e⟩<;>rw[e]
   · exact fz _ _ _ _ hj
   · subst h1;rw[Nat.zero_add]
   · simp only[Row.get,getM,if_pos hj,h1 j hj]
 | _=>simp[Row.sub,Row.get,Row.len,List.getElem?_take,hj] at *
theorem Row.ku (r:Row) (o n:Nat) (h:o+n≤r.len):(r.cut o n).len=n:=by
 cases r with
 | I k l=>exact Row.dp _ _ _ h
 | G l=>simp only[Row.cut,Row.gi];simp[Row.len] at h ⊢;omega
 | F f m=>exact Row.dp _ _ _ h
 | M l =>
   simp only[Row.cut];split
   · simp[Row.gi,cG]
   · split
     · rename_i e;simp only[Bool.and_eq_true] at e;exact Nat.eq_of_beq_eq_true e.2
     · exact Row.dp _ _ _ h
theorem Row.H5 (r:Row) (o n j:Nat) (h:o+n≤r.len) (hj:j<n):(r.cut o n).get j=r.get (o+j):=by
 cases r with
 | I k l=>exact Row.rL _ _ _ _ h hj
 | G l =>
   simp only[Row.cut];rw[Row.nZ _ _ (by simp[Row.len] at *;omega)];simp[Row.get,List.getElem?_take,hj]
 | F f m=>exact Row.rL _ _ _ _ h hj
 | M l =>
   simp only[Row.cut];split
   · rw[Row.nZ _ _ (by rw[cG];exact hj),fz _ _ _ _ hj];rfl
   · split
     · rename_i e;simp only[Bool.and_eq_true] at e;rw[Nat.eq_of_beq_eq_true e.1,Nat.zero_add]
     · exact Row.rL _ _ _ _ h hj

theorem Row.Df (r:Row) (j:Nat) (v:AV):(r.set j v).len=r.len:=by
 cases r with
 | I k l =>
   cases v;case int k' n=>simp only[Row.set];split<;>simp[Row.len]
   all_goals simp[Row.set,Row.len]
 | G l=>cases v<;>simp[Row.set,Row.len]
 | F f n=>cases v<;>simp[Row.set,Row.len]
 | M l=>simp[Row.set,Row.len,mK]
theorem Row.u0 {r s q:Row} (h:r.uq s=some q):∃ (k:IntKind) (z z':Nat→Int),(∀ j,j<r.len→r.get j=.int k (z j))∧(∀ j,j<s.len→s.get j=.int k (z' j))∧q=.M [.arr k (fun i=>if i<r.len then z i else z' (i-r.len)) (r.len+s.len)]:=by
 unfold Row.uq at h;split at h
 · rename_i k z k' z' h1 h2;split at h
   · rename_i e;subst e;simp only[Option.some.injEq] at h;exact ⟨_,z,z',Row.pW h1,Row.pW h2,h.symm⟩
   · simp at h
 · simp at h
theorem Row.JA {r s:Row} (h:yo r=true∨(yo s=true∧∃ k l,r=.I k l)):r.app s=.G (r.toList++s.toList)∨r.uq s=some (r.app s):=by
 rcases h with h | ⟨h,k,l,rfl⟩
 · cases r<;>simp[yo] at h;rename_i l;cases e:(Row.M l).uq s with
   | none=>left;cases s<;>simp[Row.app,e]
   | some q=>right;cases s<;>simp[Row.app,e]
 · cases s<;>simp[yo] at h;rename_i m;cases e:(Row.I k l).uq (.M m) with
   | none=>left;simp[Row.app,e]
   | some q=>right;simp[Row.app,e]
theorem Row.lD {r s:Row} (h:yo r=true∨(yo s=true∧∃ k l,r=.I k l)):(r.app s).len=r.len+s.len:=by
 rcases Row.JA h with e | e
 · rw[e];simp[Row.len,Row.bo]
 · obtain ⟨k,z,z',_,_,e2⟩:=Row.u0 e;rw[e2];simp[Row.len,ay,aP]
theorem Row.ji (r s:Row):(r.app s).len=r.len+s.len:=by
 cases r<;>cases s;case I.I k l k' l'=>simp only[Row.app];split<;>simp[Row.len]
 case F.I=>rfl
 case F.G=>rfl
 case F.F=>rfl
 case F.M=>rfl
 case M.I=>exact Row.lD (.inl rfl)
 case M.G=>exact Row.lD (.inl rfl)
 case M.F=>exact Row.lD (.inl rfl)
 case M.M=>exact Row.lD (.inl rfl)
 case I.M=>exact Row.lD (.inr ⟨rfl,_,_,rfl⟩)
 all_goals simp[Row.app,Row.len,Row.toList,cG]

def aF:={ f:Nat→Nat→Option Value // ∀ b o v,oS b o=some v→f b o=some v }
instance:CoeFun aF fun _=>Nat→Nat→Option Value:=⟨Subtype.val⟩
def aF.z:aF:=⟨oS,fun _ _ _ h=>h⟩
def ly (w:World):Prop:=∀ b o v,oS b o=some v→w.cell? ⟨b,o,none⟩=some v
theorem aF.CT (p:aF) {b o:Nat} (h:p b o=none):oS b o=none:=by
 cases e:oS b o with
 | none=>rfl
 | some v=>rw[p.2 b o v e] at h;cases h
abbrev Mu:=Nat→Nat→Nat→Option (Nat×Nat×Nat)
def Mu.up (M:Mu) (k:Nat):Mu:=fun d i v=>M (d+k) i v
def Mu.no:Mu:=fun _ _ _=>none
def pA (M:Mu):Option Nat→Mu
 | none=>Mu.no
 | some k=>M.up k
def jc (M:Mu):Row→Mu
 | .F _ _=>Mu.no
 | _=>M

inductive al (p:aF):Mu→AV→Value→Prop
 | undef {M:Mu} (c:Value):al p M .undef c
 | bool {M:Mu} (b:Bool):al p M (.bool b) (.bool b)
 | int {M:Mu} (k:IntKind) (n:Int):al p M (.int k n) (.int k n)
 | str {M:Mu} (s:ByteArray):al p M (.str s) (.string s)
 | nilp {M:Mu}:al p M .nilp (.pointer none)
 | nils {M:Mu}:al p M .nils (.slice none 0 0)
 | nilm {M:Mu}:al p M .nilm (.map none)
 | nilf {M:Mu}:al p M .nilf .nilFunc
 | ptr {M:Mu} {d i v off b o t:Nat} (h:M d i v=some (b,o,t)):al p M (.ptr d i v off) (.pointer (some ⟨b,o+off,none⟩))
 | ptrT {M:Mu} {s:Option Nat} {r:Row} {off b o:Nat} (vs:Nat→Value) (hp:∀ j,j<r.len→p b (o+j)=some (vs j)) (h1:∀ j,j<r.len→(vs j).oneCell'=true)
    (hv:∀ j,j<r.len→al p (jc (pA M s) r) (r.get j) (vs j)):al p M (.ptrT s r off) (.pointer (some ⟨b,o+off,none⟩))
 | slc {M:Mu} {d i v off sz len b o t x cc:Nat} {cap:Option Nat} (h:M d i v=some (b,o,t)) (hl:len≤cc) (hc:∀ c,cap=some c→cc=c)
    (hn:cap=none→o+off+cc*sz=t) (hx:cc=0∨x=o+off):al p M (.slc d i v off sz len cap) (.slice (some ⟨b,x,none⟩) len cc)
 | slcT {M:Mu} {s:Option Nat} {r:Row} {sz len b o x cc:Nat} {full:Bool} (vs:Nat→Value) (hp:∀ j,j<r.len→p b (o+j)=some (vs j)) (h1:∀ j,j<r.len→(vs j).oneCell'=true)
    (hv:∀ j,j<r.len→al p (jc (pA M s) r) (r.get j) (vs j)) (hl:len≤cc) (hf:full=true→cc=len) (hx:cc=0∨x=o) :
    al p M (.slcT s r sz len full) (.slice (some ⟨b,x,none⟩) len cc)
 | slcN {a:Option Addr} {M:Mu} {s:Option Nat} {r:Row} {sz:Nat} {full:Bool}:al p M (.slcT s r sz 0 full) (.slice a 0 0)
 | map {M:Mu} {d i b o t:Nat} (h:M d i 0=some (b,o,t)):al p M (.map d i) (.map (some b))
 | yld {M:Mu} {d i b o t:Nat} (h:M d i 0=some (b,o,t)):al p M (.yld d i) (.func (.yield b) #[] #[])
 | fn {M:Mu} {f:Fn} {a b:List AV} {ca cb:Array Value} (ha:ca.size=a.length) (hb:cb.size=b.length)
    (va:∀ j,j<a.length→al p M (a.getD j .undef) (ca.getD j undef)) (vb:∀ j,j<b.length→al p M (b.getD j .undef) (cb.getD j undef)):al p M (.fn f a b) (.func f ca cb)
 | agg {M:Mu} {r:Row} {cs:Array Value} (hs:cs.size=r.len) (h1:∀ j,j<r.len→(cs.getD j undef).oneCell'=true)
    (hv:∀ j,j<r.len→al p (jc M r) (r.get j) (cs.getD j undef)):al p M (.agg r) (.agg cs)
 | tup {M:Mu} {l:List AV} {cs:Array Value} (hs:cs.size=l.length) (hv:∀ j,j<l.length→al p M (l.getD j .undef) (cs.getD j undef)):al p M (.tup l) (.tuple cs)

theorem al.ofInt {p:aF} {M:Mu} {k:IntKind} {n:Int} {c:Value} (h:al p M (.int k n) c):c=.int k n:=by
 cases h;rfl
theorem al.bp {p:aF} {M:Mu} (q:aF) (N:Mu) {k:IntKind} {n:Int} {c:Value} (h:al p M (.int k n) c):al q N (.int k n) c:=by
 rw[h.ofInt];exact .int _ _
def aF.le (p q:aF):Prop:=∀ b o v,p b o=some v→q b o=some v
def Mu.le (M N:Mu):Prop:=∀ d i v t,M d i v=some t→N d i v=some t
theorem aF.le.refl (p:aF):aF.le p p:=fun _ _ _ h=>h
theorem aF.le.trans {p q r:aF} (h:aF.le p q) (k:aF.le q r):aF.le p r:=fun b o v e=>k b o v (h b o v e)
theorem Mu.le.refl (M:Mu):Mu.le M M:=fun _ _ _ _ h=>h
theorem Mu.le.trans {M N XF:Mu} (h:Mu.le M N) (k:Mu.le N XF):Mu.le M XF:=fun d i v t e=>k d i v t (h d i v t e)
theorem Mu.le.up {M N:Mu} (h:Mu.le M N) (k:Nat):Mu.le (M.up k) (N.up k):=fun d i v t e=>h _ _ _ _ e
theorem Mu.le.no (N:Mu):Mu.le Mu.no N:=fun _ _ _ _ h=>by cases h
theorem Mu.le.pA {M N:Mu} (h:Mu.le M N) (s:Option Nat):Mu.le (pA M s) (pA N s):=by
 cases s with
 | none=>exact Mu.le.refl _
 | some k=>exact h.up k
theorem Mu.le.jc {M N:Mu} (h:Mu.le M N) (r:Row):Mu.le (jc M r) (jc N r):=by
 cases r<;>first | exact h | exact Mu.le.refl _

theorem al.mono {p q:aF} {M:Mu} {v:AV} {c:Value} (hp:aF.le p q) (h:al p M v c):∀ {N:Mu},Mu.le M N→al q N v c:=by
 induction h with
 | undef c=>exact fun _=>.undef c
 | bool b=>exact fun _=>.bool b
 | int k n=>exact fun _=>.int k n
 | str s=>exact fun _=>.str s
 | nilp=>exact fun _=>.nilp
 | nils=>exact fun _=>.nils
 | nilm=>exact fun _=>.nilm
 | nilf=>exact fun _=>.nilf
 | ptr h=>exact fun hM=>.ptr (hM _ _ _ _ h)
 | ptrT vs h0 h1 hv ih=>exact fun hM=>.ptrT vs (fun j hj=>hp _ _ _ (h0 j hj)) h1 (fun j hj=>ih j hj ((hM.pA _).jc _))
 | slc h hl hc hn hx=>exact fun hM=>.slc (hM _ _ _ _ h) hl hc hn hx
 | slcT vs h0 h1 hv hl hf hx ih=>exact fun hM=>.slcT vs (fun j hj=>hp _ _ _ (h0 j hj)) h1 (fun j hj=>ih j hj ((hM.pA _).jc _)) hl hf hx
 | slcN=>exact fun _=>.slcN
 | map h=>exact fun hM=>.map (hM _ _ _ _ h)
 | yld h=>exact fun hM=>.yld (hM _ _ _ _ h)
 | fn ha hb va vb iha ihb=>exact fun hM=>.fn ha hb (fun j hj=>iha j hj hM) (fun j hj=>ihb j hj hM)
 | agg hs h1 hv ih=>exact fun hM=>.agg hs h1 (fun j hj=>ih j hj (hM.jc _))
 | tup hs hv ih=>exact fun hM=>.tup hs (fun j hj=>ih j hj hM)

theorem Mu.tW (M:Mu) (k s:Nat):(M.up k).up s=M.up (s+k):=by
 funext d i v;simp[Mu.up,Nat.add_assoc]
theorem Mu.mW (M:Mu):M.up 0=M:=rfl
theorem Gi (M:Mu) (k:Nat) (s:Option Nat):pA (M.up k) s=pA M (s.map (· + k)):=by
 cases s with
 | none=>rfl
 | some s=>simp[pA,Mu.tW]

theorem al.om {p:aF} {M:Mu} {k:Nat} {v:AV} {c:Value} (h:al p (M.up k) v c):al p M (om k v) c:=by
 cases h with
 | undef c=>exact .undef c
 | bool b=>exact .bool b
 | int k n=>exact .int k n
 | str s=>exact .str s
 | nilp=>exact .nilp
 | nils=>exact .nils
 | nilm=>exact .nilm
 | nilf=>exact .nilf
 | ptr h=>exact .ptr h
 | ptrT vs h0 h1 hv=>exact .ptrT vs h0 h1 (fun j hj=>by rw[← Gi];exact hv j hj)
 | slc h hl hc hn hx=>exact .slc h hl hc hn hx
 | slcT vs h0 h1 hv hl hf hx=>exact .slcT vs h0 h1 (fun j hj=>by rw[← Gi];exact hv j hj) hl hf hx
 | slcN=>exact .slcN
 | map h=>exact .map h
 | yld h=>exact .yld h
 | fn=>exact .undef _
 | agg hs h1 hv =>
   rename_i r cs;cases r with
   | I a l=>exact .agg hs h1 (fun j hj=>(hv j hj).bp _ _)
   | _=>exact .undef _
 | tup hs hv =>
   rename_i l cs;cases l with
   | nil=>exact .tup hs (fun j hj=>absurd hj (by simp))
   | cons=>exact .undef _

theorem bY (f:AV→AV) (l:List AV) (j:Nat) (h:j<l.length):(l.map f).getD j .undef=f (l.getD j .undef):=by
 simp[List.getElem?_eq_getElem h]

theorem al.XD {p:aF} {M:Mu} {k:Nat} {v:AV} {c:Value} (h:al p (M.up k) v c):al p M (PJ k v) c:=by
 cases v with
 | fn f a b =>
   cases h with
   | fn ha hb va vb =>
     refine .fn (by simpa using ha) (by simpa using hb) (fun j hj=>?_) (fun j hj=>?_)
     · rw[bY _ _ _ (by simpa using hj)];exact (va j (by simpa using hj)).om
     · rw[bY _ _ _ (by simpa using hj)];exact (vb j (by simpa using hj)).om
 | agg r =>
   cases h with
   | agg hs h1 hv =>
     cases r with
     | I a l=>exact .agg hs h1 (fun j hj=>(hv j hj).bp _ _)
     | F f n=>exact .agg hs h1 hv
     | G l =>
       refine .agg (by simpa[Row.len] using hs) (fun j hj=>h1 j (by simpa[Row.len] using hj)) (fun j hj=>?_);have hj':j<l.length:=by simpa[Row.len] using hj
       have:=hv j hj';simp only[Row.get,jc] at this ⊢;rw[bY _ _ _ hj'];exact this.om
     | M l =>
       refine .agg (by simpa[Row.len,aU] using hs) (fun j hj=>h1 j (by simpa[Row.len,aU] using hj)) (fun j hj=>?_);have hj':j<ay l:=by simpa[Row.len,aU] using hj
       have:=hv j hj';simp only[Row.get,jc] at this ⊢;rcases iz (Eng.om k) l j hj' with e | ⟨_,_,e1,e2⟩
       · rw[e];exact this.om
       · rw[e2];rw[e1] at this;exact this.bp _ _
 | undef=>exact h.om
 | bool b=>exact h.om
 | int k n=>exact h.om
 | str s=>exact h.om
 | nilp=>exact h.om
 | nils=>exact h.om
 | nilm=>exact h.om
 | nilf=>exact h.om
 | ptr=>exact h.om
 | ptrT=>exact h.om
 | slc=>exact h.om
 | slcT=>exact h.om
 | map=>exact h.om
 | yld=>exact h.om
 | tup=>exact h.om

theorem al.up {p:aF} {M:Mu} {k:Nat} {v:AV} {c:Value} (h:al p (M.up k) v c):al p M (nr k v) c:=by
 cases k with
 | zero=>exact h
 | succ k=>exact h.XD

theorem nU (M:Mu) (l:List AV):jc M (Row.ofList l)=M:=by
 unfold Row.ofList;split
 · split<;>rfl
 · rfl
def bg (p:aF) (M:Mu) (r:Row) (vs:Nat→Value):Prop:=∀ j,j<r.len→al p (jc M r) (r.get j) (vs j)∧(vs j).oneCell'=true
theorem bg.get {p:aF} {M:Mu} {r:Row} {vs:Nat→Value} (h:bg p M r vs) (j:Nat) (hj:j<r.len):al p M (r.get j) (vs j):=by
 have:=(h j hj).1;cases r<;>first | exact this | exact this.mono (aF.le.refl _) (Mu.le.no _)
theorem l6 {p q:aF} {M N:Mu} {f:AV→AV} {l:List db} {j:Nat} {c:Value} (hj:j<ay l) (h:al p M (getM l j) c) (hF:al p M (getM l j) c→al q N (f (getM l j)) c):al q N (getM (mapM' f l) j) c:=by
 rcases iz f l j hj with e | ⟨_,_,e1,e2⟩
 · rw[e];exact hF h
 · rw[e2];rw[e1] at h;exact h.bp _ _
theorem bg.mapM {p:aF} {M N:Mu} {f:AV→AV} (hF:∀ {v c},al p M v c→al p N (f v) c) {l:List db} {vs:Nat→Value} (h:bg p M (.M l) vs):bg p N (.M (mapM' f l)) vs:=by
 intro j hj;have hj':j<ay l:=by simpa[Row.len,aU] using hj
 have:=h j hj';exact ⟨l6 hj' this.1 hF,this.2⟩
theorem bg.fI {p:aF} {M N:Mu} {l:List db} (ha:fI l=true) {vs:Nat→Value} (h:∀ j,j<ay l→al p M (getM l j) (vs j)):∀ j,j<ay l→al p N (getM l j) (vs j):=by
 intro j hj;obtain ⟨k,n,e⟩:=rW l ha j hj;have:=h j hj;rw[e] at this ⊢;exact this.bp _ _
theorem bg.BP {p:aF} {M:Mu} {k:Nat} {r:Row} {vs:Nat→Value} (h:bg p (M.up k) r vs):bg p M (BP k r) vs:=by
 cases r with
 | I a l=>exact fun j hj=>⟨al.bp _ _ (h j hj).1,(h j hj).2⟩
 | F f n=>exact h
 | G l =>
   intro j hj;have hj':j<l.length:=by simpa[Row.len,Eng.BP] using hj
   have:=h j hj';simp only[Row.get,jc,Eng.BP] at this ⊢;rw[bY _ _ _ hj'];exact ⟨this.1.om,this.2⟩
 | M l=>exact bg.mapM (fun h=>h.om) h
theorem bg.BO {p:aF} {M:Mu} {k:Nat} {r:Row} {vs:Nat→Value} (h:bg p (M.up k) r vs):bg p M (BO k r) vs:=by
 cases k with
 | zero=>exact h
 | succ k=>exact h.BP

theorem Mu.DA (M:Mu) {k s:Nat} (h:s≤k):M.up k=(M.up s).up (k-s):=by
 rw[Mu.tW];congr 1;omega

theorem al.kg {p:aF}:∀ (n:Nat) {M:Mu} {k:Nat} {v:AV} {c:Value},al p M v c→al p (M.up k) (kg n k v) c
 | 0,_,_,_,c,_=>.undef c
 | n + 1,M,  k,v,c,h=>by
   have ih:=@al.kg p n;cases h with
   | undef c=>exact .undef c
   | bool b=>exact .bool b
   | int k n=>exact .int k n
   | str s=>exact .str s
   | nilp=>exact .nilp
   | nils=>exact .nils
   | nilm=>exact .nilm
   | nilf=>exact .nilf
   | ptr h =>
     rename_i d i v off b o t;simp only[Eng.kg];split
     · exact .undef _
     · rename_i hd;have:¬ d<k:=by simpa[Nat.blt_eq] using hd
       exact .ptr (t:=t) (by simp only[Mu.up];rw[Nat.sub_add_cancel wO];exact h)
   | slc h hl hc hn hx =>
     rename_i d i v off sz len b o t x cc cap;simp only[Eng.kg];split
     · exact .undef _
     · rename_i hd;have:¬ d<k:=by simpa[Nat.blt_eq] using hd
       exact .slc (by simp only[Mu.up];rw[Nat.sub_add_cancel wO];exact h) hl hc hn hx
   | map h =>
     rename_i d i b o t;simp only[Eng.kg];split
     · exact .undef _
     · rename_i hd;have:¬ d<k:=by simpa[Nat.blt_eq] using hd
       exact .map (by simp only[Mu.up];rw[Nat.sub_add_cancel wO];exact h)
   | yld h =>
     rename_i d i b o t;simp only[Eng.kg];split
     · exact .undef _
     · rename_i hd;have:¬ d<k:=by simpa[Nat.blt_eq] using hd
       exact .yld (by simp only[Mu.up];rw[Nat.sub_add_cancel wO];exact h)
   | ptrT vs h0 h1 hv =>
     rename_i s r off b o;cases s with
     | none=>exact .ptrT vs h0 h1 hv
     | some s =>
       simp only[Eng.kg];split
       · rename_i hs;have hs':s<k:=by simpa[Nat.blt_eq] using hs
         cases r with
         | I a l=>exact .ptrT vs h0 h1 (fun j hj=>(hv j hj).bp _ _)
         | F f m=>exact .ptrT vs h0 h1 hv
         | M l =>
           dsimp only;split
           · rename_i ha;exact .ptrT vs h0 h1 (bg.fI ha hv)
           · refine .ptrT vs (fun j hj=>h0 j (by simpa[Row.len,aU] using hj)) (fun j hj=>h1 j (by simpa[Row.len,aU] using hj)) (fun j hj=>?_);have hj':j<ay l:=by simpa[Row.len,aU] using hj
             have:=hv j hj';simp only[Row.get,jc,pA] at this ⊢;rw[Mu.mW,Mu.DA M (Nat.le_of_lt hs')];exact l6 hj' this ih
         | G l =>
           refine .ptrT vs (fun j hj=>h0 j (by simpa[Row.len] using hj)) (fun j hj=>h1 j (by simpa[Row.len] using hj)) (fun j hj=>?_);have hj':j<l.length:=by simpa[Row.len] using hj
           have:=hv j hj';simp only[Row.get,jc,pA] at this ⊢;rw[bY _ _ _ hj',Mu.mW,Mu.DA M (Nat.le_of_lt hs')];exact ih this
       · rename_i hs;have hs':¬ s<k:=by simpa[Nat.blt_eq] using hs
         refine .ptrT vs h0 h1 (fun j hj=>?_);have:=hv j hj;simp only[pA] at this ⊢;rw[Mu.tW,Nat.sub_add_cancel wO];exact this
   | slcT vs h0 h1 hv hl hf hx =>
     rename_i s r sz len b o x cc full;cases s with
     | none=>exact .slcT vs h0 h1 hv hl hf hx
     | some s =>
       simp only[Eng.kg];split
       · rename_i hs;have hs':s<k:=by simpa[Nat.blt_eq] using hs
         cases r with
         | I a l=>exact .slcT vs h0 h1 (fun j hj=>(hv j hj).bp _ _) hl hf hx
         | F f m=>exact .slcT vs h0 h1 hv hl hf hx
         | M l =>
           dsimp only;split
           · rename_i ha;exact .slcT vs h0 h1 (bg.fI ha hv) hl hf hx
           · refine .slcT vs (fun j hj=>h0 j (by simpa[Row.len,aU] using hj)) (fun j hj=>h1 j (by simpa[Row.len,aU] using hj)) (fun j hj=>?_) hl hf hx;have hj':j<ay l:=by simpa[Row.len,aU] using hj
             have:=hv j hj';simp only[Row.get,jc,pA] at this ⊢;rw[Mu.mW,Mu.DA M (Nat.le_of_lt hs')];exact l6 hj' this ih
         | G l =>
           refine .slcT vs (fun j hj=>h0 j (by simpa[Row.len] using hj)) (fun j hj=>h1 j (by simpa[Row.len] using hj)) (fun j hj=>?_) hl hf hx;have hj':j<l.length:=by simpa[Row.len] using hj
           have:=hv j hj';simp only[Row.get,jc,pA] at this ⊢;rw[bY _ _ _ hj',Mu.mW,Mu.DA M (Nat.le_of_lt hs')];exact ih this
       · rename_i hs;have hs':¬ s<k:=by simpa[Nat.blt_eq] using hs
         refine .slcT vs h0 h1 (fun j hj=>?_) hl hf hx;have:=hv j hj;simp only[pA] at this ⊢;rw[Mu.tW,Nat.sub_add_cancel wO];exact this
   | slcN =>
     rename_i s r sz full;cases s with
     | none=>exact .slcN
     | some s =>
       simp only[Eng.kg];split
       · cases r with
         | M l =>
           dsimp only;split<;>exact .slcN
         | _=>exact .slcN
       · exact .slcN
   | fn=>exact .undef _
   | agg hs h1 hv =>
     rename_i r cs;cases r with
     | I a l=>exact .agg hs h1 (fun j hj=>(hv j hj).bp _ _)
     | _=>exact .undef _
   | tup hs hv =>
     rename_i l cs;cases l with
     | nil=>exact .tup hs (fun j hj=>absurd hj (by simp))
     | cons=>exact .undef _

theorem bg.we {p:aF} {M:Mu} {k:Nat} {r:Row} {vs:Nat→Value} (h:bg p M r vs):bg p (M.up k) (we k r) vs:=by
 cases r with
 | I a l=>exact fun j hj=>⟨al.bp _ _ (h j hj).1,(h j hj).2⟩
 | F f n=>exact h
 | G l =>
   intro j hj;have hj':j<l.length:=by simpa[Row.len,Eng.we] using hj
   have:=h j hj';simp only[Row.get,jc,Eng.we] at this ⊢;rw[bY _ _ _ hj'];exact ⟨this.1.kg 4,this.2⟩
 | M l=>exact bg.mapM (fun h=>h.kg 4) h
theorem bg.jd {p:aF} {M:Mu} {k:Nat} {r:Row} {vs:Nat→Value} (h:bg p M r vs):bg p (M.up k) (jd k r) vs:=by
 cases k with
 | zero=>exact h
 | succ k=>exact h.we

theorem al.U1 {p:aF} {M:Mu} {k:Nat} {v:AV} {c:Value} (h:al p M v c):al p (M.up k) (NT k v) c:=by
 cases v with
 | fn f a b =>
   cases h with
   | fn ha hb va vb =>
     refine .fn (by simpa using ha) (by simpa using hb) (fun j hj=>?_) (fun j hj=>?_)
     · rw[bY _ _ _ (by simpa using hj)];exact (va j (by simpa using hj)).kg 4
     · rw[bY _ _ _ (by simpa using hj)];exact (vb j (by simpa using hj)).kg 4
 | agg r =>
   cases h with
   | @agg _ _ cs hs h1 hv =>
     have hr:bg p M r (fun j=>cs.getD j Go.undef):=fun j hj=>⟨hv j hj,h1 j hj⟩
     have:=hr.we (k:=k);cases r with
     | I a l=>exact .agg hs h1 (fun j hj=>(this j hj).1)
     | F f n=>exact .agg hs h1 hv
     | G l=>exact .agg (by simpa[Row.len] using hs) (fun j hj=>h1 j (by simpa[Row.len] using hj)) (fun j hj=>(this j hj).1)
     | M l=>exact .agg (by simpa[Row.len,aU] using hs) (fun j hj=>h1 j (by simpa[Row.len,aU] using hj)) (fun j hj=>(this j hj).1)
 | undef=>exact h.kg 4
 | bool b=>exact h.kg 4
 | int k n=>exact h.kg 4
 | str s=>exact h.kg 4
 | nilp=>exact h.kg 4
 | nils=>exact h.kg 4
 | nilm=>exact h.kg 4
 | nilf=>exact h.kg 4
 | ptr=>exact h.kg 4
 | ptrT=>exact h.kg 4
 | slc=>exact h.kg 4
 | slcT=>exact h.kg 4
 | map=>exact h.kg 4
 | yld=>exact h.kg 4
 | tup=>exact h.kg 4
theorem al.dn {p:aF} {M:Mu} {k:Nat} {v:AV} {c:Value} (h:al p M v c):al p (M.up k) (Qp k v) c:=by
 cases k with
 | zero=>exact h
 | succ k=>exact h.U1

theorem bg.sub {p:aF} {M:Mu} {r:Row} {vs:Nat→Value} (h:bg p M r vs) (o n:Nat) (hn:o+n≤r.len):bg p M (r.sub o n) (fun j=>vs (o+j)):=by
 intro j hj;rw[Row.dp _ _ _ hn] at hj;have:=h (o+j) wO;rw[Row.rL _ _ _ _ hn hj];refine ⟨?_,this.2⟩;cases r with
 | M l=>rcases Row.Jl l o n (by assumption) with e | ⟨_,_,e⟩ | ⟨k,z,_,e⟩<;>rw[e]<;>exact this.1
 | _=>exact this.1
theorem bg.cut {p:aF} {M:Mu} {r:Row} {vs:Nat→Value} (h:bg p M r vs) (o n:Nat) (hn:o+n≤r.len):bg p M (r.cut o n) (fun j=>vs (o+j)):=by
 intro j hj;rw[Row.ku _ _ _ hn] at hj;have:=h (o+j) wO;rw[Row.H5 _ _ _ _ hn hj];refine ⟨?_,this.2⟩;cases r with
 | I k l=>exact this.1
 | F f m=>exact this.1
 | G l=>simp only[Row.cut,nU];exact this.1
 | M l =>
   simp only[Row.cut];split
   · simp only[nU];exact this.1
   · split
     · exact this.1
     · rcases Row.Jl l o n (by assumption) with e | ⟨_,_,e⟩ | ⟨k,z,_,e⟩<;>rw[e]<;>exact this.1

theorem mR {p:aF} {M N:Mu} {v:AV} {c:Value} (hv:gN v=true) (h:al p M v c):al p N v c:=by
 cases h with
 | undef c=>exact .undef c
 | bool b=>exact .bool b
 | int k n=>exact .int k n
 | str s=>exact .str s
 | nilp=>exact .nilp
 | nils=>exact .nils
 | nilm=>exact .nilm
 | nilf=>exact .nilf
 | ptr=>simp[gN] at hv
 | ptrT vs h0 h1 hr =>
   rename_i s r off b o;cases s with
   | none=>exact .ptrT vs h0 h1 hr
   | some s=>simp[gN] at hv
 | slc=>simp[gN] at hv
 | slcT vs h0 h1 hr hl hf hx =>
   rename_i s r sz len b o x cc full;cases s with
   | none=>exact .slcT vs h0 h1 hr hl hf hx
   | some s=>simp[gN] at hv
 | slcN=>exact .slcN
 | map=>simp[gN] at hv
 | yld=>simp[gN] at hv
 | fn=>simp[gN] at hv
 | agg hs h1 hr =>
   rename_i r cs;cases r with
   | I a l=>exact .agg hs h1 (fun j hj=>(hr j hj).bp _ _)
   | F f n=>exact .agg hs h1 hr
   | G l=>simp[gN] at hv
   | M l=>exact .agg hs h1 (bg.fI hv hr)
 | tup=>simp[gN] at hv

theorem bg.set {p:aF} {M:Mu} {r:Row} {vs:Nat→Value} (h:bg p M r vs) (j:Nat) {v:AV} {c:Value} (hv:al p M v c) (h1:c.oneCell'=true) :
 bg p M (r.set j v) (fun i=>if i=j then c else vs i):=by
 intro i hi
 rw[Row.Df] at hi
 have hri:=h i hi
 refine ⟨?_,by by_cases e:i=j<;>simp[e,h1,hri.2]⟩
 have key:∀ (l:List AV),l.length=r.len→l.getD i .undef=r.get i→(∀ f m,r≠.F f m)→al p M ((l.set j v).getD i .undef) (if i=j then c else vs i):=by
  intro l hl hg hnf;by_cases e:i=j
  · subst e;simp[List.getElem?_set,hl,hi];exact hv
  · rw[if_neg e];have:(l.set j v).getD i .undef=l.getD i .undef:=by simp[List.getElem?_set,Ne.symm e]
    rw[this,hg];exact h.get i hi
 cases r with
 | I k l =>
   have hG:al p M ((((l.map (AV.int k)).set j v)).getD i .undef) (if i=j then c else vs i) :=
    key _ (by simp[Row.len]) (by simp[Row.len] at hi;simp[Row.get,hi]) (fun _ _=>by simp)
   cases v
   case int k' n =>
    simp only[Row.set]
    split
    · rename_i hk
      subst hk
      by_cases e:i=j
      · subst e
        simp only[Row.get,jc,if_true]
        have:(l.set i n).getD i 0=n:=by simp[Row.len] at hi;simp[List.getElem?_set,hi]
        rw[this];exact hv
      · simp only[Row.get,jc,if_neg e]
        have:(l.set j n).getD i 0=l.getD i 0:=by simp[List.getElem?_set,Ne.symm e]
        rw[this];exact hri.1
    · exact hG
   all_goals exact hG
 | G l=>exact key l rfl rfl (fun _ _=>by simp)
 | F f n =>
   simp only[Row.set,Row.get,jc]
   by_cases e:i=j
   · rw[if_pos e,if_pos e]
     split
     · rename_i hp;exact mR hp hv
     · exact .undef _
   · rw[if_neg e,if_neg e];exact hri.1
 | M l =>
   simp only[Row.set,Row.get,jc]
   rw[pP l j v i hi]
   by_cases e:i=j
   · rw[if_pos e,if_pos e];exact hv
   · rw[if_neg e,if_neg e];exact hri.1

theorem Row.iZ (l:List AV):∀ (r:Row) (j:Nat),(r.cN j l).len=r.len:=by
 induction l with
 | nil=>exact fun _ _=>rfl
 | cons v l ih=>intro r j;simp only[Row.cN,ih,Row.Df]

theorem bg.congr {p:aF} {M:Mu} {r:Row} {vs us:Nat→Value} (h:bg p M r vs) (e:∀ j,j<r.len→us j=vs j):bg p M r us :=
 fun j hj=>by rw[e j hj];exact h j hj

theorem bg.cN {p:aF} {M:Mu}:∀ (l:List AV) {r:Row} {vs:Nat→Value} (j:Nat) (cs:Nat→Value),bg p M r vs →
 (∀ i,i<l.length→al p M (l.getD i .undef) (cs i)∧(cs i).oneCell'=true) →
 bg p M (r.cN j l) (fun i=>if j≤i∧i<j+l.length then cs (i-j) else vs i)
 | [],r,vs,j,cs,h,_=>h.congr (fun i _=>by simp;intro _ _;omega)
 | v :: l,r,vs,j,cs,h,hl=>by
   have h0:=hl 0 (by simp);have:=bg.cN l (j+1) (fun i=>cs (i+1)) (h.set j h0.1 h0.2) (fun i hi=>by
    have:=hl (i+1) (by simpa using hi);simpa using this)
   refine this.congr (fun i _=>?_);by_cases e:i=j
   · subst e;have:¬ (i+1≤i∧i<i+1+l.length):=by omega
     simp[this]
   · by_cases h1:j≤i∧i<j+(v::l).length
     · have h2:j+1≤i∧i<j+1+l.length:=by simp at h1;omega
       rw[if_pos h1,if_pos h2];congr 1;omega
     · have h2:¬ (j+1≤i∧i<j+1+l.length):=by simp at h1;omega
       rw[if_neg h1,if_neg h2,if_neg e]

theorem bg.list {p:aF} {M:Mu} {r:Row} {vs:Nat→Value} (h:bg p M r vs) (i:Nat) (hi:i<r.toList.length) :
 al p M (r.toList.getD i .undef) (vs i)∧(vs i).oneCell'=true:=by
 rw[Row.bo] at hi
 rw[Row.jy r i hi]
 exact ⟨h.get i hi,(h i hi).2⟩
theorem bg.WN {p:aF} {M:Mu} {l:List AV} {vs:Nat→Value} (h:∀ i,i<l.length→al p M (l.getD i .undef) (vs i)∧(vs i).oneCell'=true):bg p M (.G l) vs:=h
theorem j7 {p:aF} {M:Mu} {v:AV} {c:Value} (h:al p M v c):al p M (ju v) c:=by
 unfold ju;split
 · rename_i k l sz m full;cases h with
   | slcN=>exact .slcN
   | slcT vs h0 h1 hv hl hf hx =>
     have e:(Row.M [db.arr k (fun j=>l.getD j 0) l.length]).len=l.length:=by simp[Row.len,ay,aP]
     refine .slcT vs (fun j hj=>h0 j (by rw[e] at hj;exact hj)) (fun j hj=>h1 j (by rw[e] at hj;exact hj)) (fun j hj=>?_) hl (fun h=>by cases h) hx;rw[e] at hj;have:=hv j hj;simp only[Row.get,getM,jc,if_pos hj] at this ⊢;exact this
 · cases h with
   | slcN=>exact .slcN
   | slcT vs h0 h1 hv hl hf hx=>exact .slcT vs h0 h1 hv hl (fun h=>by cases h) hx
 · exact h
theorem bg.app {p:aF} {M:Mu} {r s:Row} {vs us:Nat→Value} (h:bg p M r vs) (k:bg p M s us):bg p M (r.app s) (fun i=>if i<r.len then vs i else us (i-r.len)):=by
 have hG:bg p M (.G (r.toList++s.toList)) (fun i=>if i<r.len then vs i else us (i-r.len)):=by
  refine bg.WN fun i hi=>?_;simp only[List.length_append,Row.bo] at hi;by_cases e:i<r.len
  · rw[if_pos e];have:(r.toList++s.toList).getD i .undef=r.toList.getD i .undef:=by
     simp[List.getElem?_append_left (show i<r.toList.length by rw[Row.bo];exact e)]
    rw[this];exact h.list i (by rw[Row.bo];exact e)
  · rw[if_neg e];have:(r.toList++s.toList).getD i .undef=s.toList.getD (i-r.len) .undef:=by
     simp[List.getElem?_append_right (show r.toList.length≤i by rw[Row.bo];omega),Row.bo]
    rw[this];exact k.list (i-r.len) (by rw[Row.bo];omega)
 have hF:∀ (f:Nat→AV) (n:Nat),r=.F f n→bg p M (r.app s) (fun i=>if i<r.len then vs i else us (i-r.len)):=by
  rintro f n rfl;have e0:Row.app (.F f n) s=.F (fun i=>if Nat.blt i n then f i else if gN (s.get (qG s.len (i-n))) then ju (s.get (qG s.len (i-n))) else .undef) (n+s.len):=by cases s<;>rfl
  rw[e0];intro i hi;have hi':i<n+s.len:=hi;have hl:n≤i→qG s.len (i-n)=i-n:=fun h=>by
   unfold qG;split
   · rename_i h1;have:=Nat.eq_of_beq_eq_true h1;omega
   · rfl
  show al p Mu.no (if Nat.blt i n then f i else if gN (s.get (qG s.len (i-n))) then ju (s.get (qG s.len (i-n))) else .undef) (if i<n then vs i else us (i-n))∧(if i<n then vs i else us (i-n)).oneCell'=true;by_cases e:i<n
  · have hb:Nat.blt i n=true:=by rw[Nat.blt_eq];exact e
    rw[if_pos e,hb,if_pos rfl];exact h i e
  · have hb:Nat.blt i n=false:=by
     cases hb:Nat.blt i n with
     | false=>rfl
     | true=>rw[Nat.blt_eq] at hb;exact absurd hb e
    rw[if_neg e,hb,hl wO];simp only[Bool.false_eq_true,if_false];have hk:=k (i-n) wO;refine ⟨?_,hk.2⟩;split
    · rename_i hp;exact j7 (mR hp hk.1)
    · exact .undef _
 have hM:yo r=true∨(yo s=true∧∃ k l,r=.I k l)→bg p M (r.app s) (fun i=>if i<r.len then vs i else us (i-r.len)):=by
  intro hc;rcases Row.JA hc with e | e
  · rw[e];exact hG
  · obtain ⟨q,hq⟩:∃ q,q=r.app s:=⟨_,rfl⟩
    rw[← hq] at e ⊢;obtain ⟨a,z,z',h1,h2,rfl⟩:=Row.u0 e;intro i hi;have hi:i<r.len+s.len:=hi;simp only[Row.get,getM,jc];rw[if_pos hi];by_cases e:i<r.len
    · simp only[if_pos e];have:=h i e;rw[h1 i e] at this;exact ⟨this.1.bp _ _,this.2⟩
    · simp only[if_neg e];have hi2:i-r.len<s.len:=by omega
      have:=k (i-r.len) hi2;rw[h2 _ hi2] at this;exact ⟨this.1.bp _ _,this.2⟩
 cases r<;>cases s;case M.I=>exact hM (.inl rfl)
 case M.G=>exact hM (.inl rfl)
 case M.F=>exact hM (.inl rfl)
 case M.M=>exact hM (.inl rfl)
 case I.M=>exact hM (.inr ⟨rfl,_,_,rfl⟩)
 case F.M=>exact hF _ _ rfl
 case F.I=>exact hF _ _ rfl
 case F.G=>exact hF _ _ rfl
 case F.F=>exact hF _ _ rfl
 case I.I a l a' l' =>
  simp only[Row.app]
  split
  · rename_i e
    subst e
    intro i hi
    have:=hG i (by simpa[Row.len,Row.toList] using hi)
    refine ⟨?_,this.2⟩
    have e2:Row.get (.G ((Row.I a' l).toList++(Row.I a' l').toList)) i=Row.get (.I a' (l++l')) i:=by
     simp only[Row.get,Row.toList];have hi':i<(l++l').length:=by simpa[Row.len] using hi
     rw[← List.map_append];simp only[List.getD_eq_getElem?_getD,List.getElem?_map,List.getElem?_eq_getElem hi',Option.map_some,Option.getD_some]
    rw[← e2]
    exact this.1
  · exact hG
 all_goals exact hG

theorem AV.iv {p:aF} {M:Mu} {v:AV} {c:Value} {r:Row} (h:al p M v c) (hr:v.row=some r):c.cells.size=r.len∧bg p M r (fun j=>c.cells.getD j Go.undef):=by
 cases h;case undef=>simp[AV.row] at hr
 case tup=>simp[AV.row] at hr
 case agg r' cs hs h1 hv =>
  simp only[AV.row,Option.some.injEq] at hr
  subst hr
  exact ⟨hs,fun j hj=>⟨hv j hj,h1 j hj⟩⟩
 case int k n =>
  simp only[AV.row,Option.some.injEq] at hr
  subst hr
  refine ⟨rfl,fun j hj=>?_⟩
  obtain rfl:j=0:=by simpa[Row.len] using hj
  exact ⟨.int _ _,rfl⟩
 all_goals
  simp only[AV.row,Option.some.injEq] at hr
  subst hr
  refine ⟨rfl,fun j hj=>?_⟩
  obtain rfl:j=0:=by simpa[Row.len] using hj
  refine ⟨?_,rfl⟩
  simp only[Row.get,jc,List.getD_cons_zero,Value.cells]
  first
   | exact .bool _
   | exact .str _
   | exact .nilp
   | exact .nils
   | exact .nilm
   | exact .nilf
   | (exact .ptr ‹_›)
   | (exact .ptrT _ ‹_› ‹_› ‹_›)
   | (exact .slc ‹_› ‹_› ‹_› ‹_› ‹_›)
   | (exact .slcT _ ‹_› ‹_› ‹_› ‹_› ‹_› ‹_›)
   | exact .slcN
   | (exact .map ‹_›)
   | (exact .yld ‹_›)
   | (exact .fn ‹_› ‹_› ‹_› ‹_›)

theorem AP (p:aF) (M:Mu) (c:Value):al p M (sb c) c:=by
 unfold sb;split
 · exact .bool _
 · exact .int _ _
 · exact .str _
 · exact .nilp
 · exact .nils
 · exact .nilm
 · exact .nilf
 · exact .undef _
theorem K2 {p:aF} {M:Mu} {l:List AV} {cs:Array Value} (hs:cs.size=l.length) (h:∀ j,j<l.length→al p M (l.getD j .undef) (cs.getD j Go.undef)∧(cs.getD j Go.undef).oneCell'=true) :
 al p M (.agg (Row.ofList l)) (.agg cs):=by
 refine .agg (by rw[Row.gi];exact hs) (fun j hj=>(h j (by rw[Row.gi] at hj;exact hj)).2) (fun j hj=>?_)
 rw[Row.gi] at hj
 rw[nU,Row.nZ _ _ hj]
 exact (h j hj).1
theorem dD (p:aF) (M:Mu) (c:Value):al p M (ko c) c:=by
 cases c with
 | bool=>exact .bool _
 | int=>exact .int _ _
 | float=>exact .undef _
 | complex=>exact .undef _
 | string=>exact .str _
 | pointer a=>cases a<;>first | exact .nilp | exact .undef _
 | slice a n m =>
   cases a
   · cases n
     · cases m
       · exact .nils
       · exact .undef _
     · exact .undef _
   · exact .undef _
 | map r=>cases r<;>first | exact .nilm | exact .undef _
 | chan=>exact .undef _
 | nilFunc=>exact .nilf
 | iface=>exact .undef _
 | nilIface=>exact .undef _
 | func f ca cb =>
   cases f with
   | func g =>
     simp only[ko];split
     · rename_i h;simp at h;obtain ⟨rfl,rfl⟩:=h;exact .fn rfl rfl (fun j hj=>absurd hj (by simp)) (fun j hj=>absurd hj (by simp))
     · exact .undef _
   | _=>exact .undef _
 | tuple cs =>
   simp only[ko];split
   · rename_i h;simp at h;subst h;exact .tup rfl (fun j hj=>absurd hj (by simp))
   · exact .undef _
 | agg cs =>
   simp only[ko];split
   · rename_i hall;refine K2 (by simp) (fun j hj=>?_);have hj':j<cs.toList.length:=by simpa using hj
     have e1:(cs.toList.map sb).getD j .undef=sb (cs.getD j Go.undef):=by
      simp at hj';simp[hj']
     rw[e1];refine ⟨AP _ _ _,?_⟩;have:=List.all_eq_true.1 hall (cs.getD j Go.undef) (by simp at hj';simp[hj']);exact this
   · exact .undef _

structure bX (p:aF) (M:Mu) (nt:Nat) (fr:aA) (a:Act):Prop where
 size:a.tmps.size=nt
 at_:∀ x,al p M (bM fr x) (a.tmps.getD x undef)
theorem bX.mono {p q:aF} {M N:Mu} {nt:Nat} {fr:aA} {a:Act} (h:bX p M nt fr a) (hp:aF.le p q) (hM:Mu.le M N):bX q N nt fr a :=
 ⟨h.size,fun x=>(h.at_ x).mono hp hM⟩
theorem pL:∀ (fr:aA) (y:Nat) (u:AV) (x:Nat),bM (uv fr y u) x=if x=y then u else bM fr x
 | [],y,u,x=>by
   simp only[uv,bM];by_cases e:x=y
   · subst e;simp
   · simp[e,Ne.symm e]
 | (z, v)::r,y,u,x=>by
   simp only[uv];have ih:=pL r y u x;by_cases h1:y≤z
   · rw[if_pos (by simpa using h1)];by_cases h2:z=y
     · subst h2;simp only[Nat.beq_refl,if_true,bM];by_cases e:x=z
       · subst e;simp
       · simp[e,Ne.symm e]
     · rw[if_neg (by simpa using h2)];simp only[bM];by_cases e:x=y
       · subst e;simp
       · simp[e,Ne.symm e]
   · rw[if_neg (by simpa using h1)];simp only[bM,ih];by_cases e:z=x
     · subst e;have:¬ z=y:=by omega
       simp[this]
     · simp[e]
theorem bX.put {p:aF} {M:Mu} {nt:Nat} {fr:aA} {a:Act} (h:bX p M nt fr a) (dst:Option Tmp) {v:AV} {c:Value} (hv:al p M v c):bX p M nt (iu nt fr dst v) (a.put dst c):=by
 cases dst with
 | none=>exact h
 | some d =>
   refine ⟨by simp[Act.put,h.size],fun x=>?_⟩;have hx:=h.at_ x;simp only[iu,Act.put];by_cases hd:d<nt
   · rw [if_pos (by simpa[Nat.blt_eq] using hd),pL];by_cases e:x=d
     · subst e;rw[if_pos rfl];have:(a.tmps.setIfInBounds x c).getD x Go.undef=c:=by simp[h.size,hd]
       rw[this];exact hv
     · rw[if_neg e];have:(a.tmps.setIfInBounds d c).getD x Go.undef=a.tmps.getD x Go.undef:=by
        simp[Array.getElem?_setIfInBounds_ne (Ne.symm e)]
       rw[this];exact hx
   · rw[if_neg (by simpa[Nat.blt_eq] using hd)];have:a.tmps.setIfInBounds d c=a.tmps:=by
      apply Array.setIfInBounds_eq_of_size_le;rw[h.size];exact Nat.le_of_not_lt hd
     rw[this];exact hx
theorem sj (x:Nat) (v:AV) (r:aA) (m:Nat):bT ((x,v)::r) m=if ir m x then bT r m else (x,v)::bT r m:=by
 have e:bT ((x,v)::r) m=Bool.rec (motive:=fun _=>aA) ((x,v)::bT r m) (bT r m) (ir m x):=rfl;rw[e];cases ir m x<;>rfl
theorem vl:∀ (fr:aA) (m:Nat) (x:Nat),bM (bT fr m) x=.undef∨bM (bT fr m) x=bM fr x
 | [],m,x=>.inl rfl
 | (y,v)::r,m,x=>by
   have ih:=vl r m x;rw[sj];have key:∀ r:aA,ir m x=true→bM (bT r m) x=.undef:=by
    intro r hx;induction r with
    | nil=>rfl
    | cons p r ihr =>
      obtain ⟨z,u⟩:=p;rw[sj];cases hz:ir m z with
      | true=>exact ihr
      | false =>
        simp only[Bool.false_eq_true,if_false,bM];by_cases ez:z=x
        · subst ez;rw[hz] at hx;cases hx
        · rw[if_neg (by simpa using ez)];exact ihr
   cases hm:ir m y with
   | true =>
     simp only[if_true,bM];by_cases e2:y=x
     · subst e2;exact .inl (key r hm)
     · rw[if_neg (by simpa using e2)];exact ih
   | false =>
     simp only[Bool.false_eq_true,if_false,bM];by_cases e2:y=x
     · subst e2;right;simp
     · rw[if_neg (by simpa using e2),if_neg (by simpa using e2)];exact ih
theorem bX.kill {p:aF} {M:Mu} {nt:Nat} {fr:aA} {a:Act} (h:bX p M nt fr a) (ks:Nat):bX p M nt (bT fr ks) a :=
 ⟨h.size,fun x=>by
   rcases vl fr ks x with e | e
   · rw[e];exact .undef _
   · rw[e];exact h.at_ x⟩
theorem bX.b5 {p:aF} {M:Mu} {nt:Nat} {fr:aA} {a:Act} (h:bX p M nt fr a) (x:Operand):al p M (b5 fr x) (a.eval x):=by
 cases x with
 | tmp t=>exact h.at_ t
 | const v=>exact dD _ _ v
 | global g=>exact .undef _
 | func f=>exact .fn rfl rfl (fun j hj=>absurd hj (by simp)) (fun j hj=>absurd hj (by simp))

def jN (ces:Array MapEntry) (clock:Nat):Prop:=(∀ j,(h:j<ces.size)→ces[j].born<clock)∧∀ i j,(hi:i<ces.size)→(hj:j<ces.size)→ces[i].born=ces[j].born→i=j
def eB:KK→List Int→AV
 | .num k,l=>.int k (l.headD 0)
 | .str _,l=>.agg (.I .i64 l)
def qW:KK→List Int→Bool
 | .num _,l=>Nat.beq l.length 1
 | .str n,l=>Nat.beq l.length n
structure re (q:KK) (es:List (AV×AV)) (h:List Int→Bool) (g:List Int→Int) (c:Nat):Prop where
 len:es.length=c
 ent:∀ j,j<es.length→∃ n,es.getD j (.undef,.undef)=(eB q n,.int .i64 (g n))∧h n=true
 all:∀ n,h n=true→qW q n=true∧∃ j,j<es.length∧(es.getD j (.undef,.undef)).1=eB q n
 off:∀ n,h n=false→g n=0
 nd:∀ i j,i<es.length→j<es.length→(es.getD i (.undef,.undef)).1=(es.getD j (.undef,.undef)).1→i=j
def fB (p:aF) (M:Mu) (B:an) (b o t:Nat) (w:World):Prop :=
 match B with
 | .dead=>True
 | .row r=>∃ c e,w.heap[b]?=some (.cells c e (0,0))∧c.size=t∧o+r.len≤t∧bg p M r (fun j=>c.getD (o+j) undef)
 | .map es=>∃ ces clock,w.heap[b]?=some (.map ces clock)∧ces.size=es.length∧jN ces clock ∧
    ∀ j,(h:j<ces.size)→al p M ((es.getD j (.undef,.undef)).1) ces[j].key∧al p M ((es.getD j (.undef,.undef)).2) ces[j].val
 | .fmap q h g c=>∃ es,re q es h g c∧∃ ces clock,w.heap[b]?=some (.map ces clock)∧ces.size=es.length∧jN ces clock ∧
    ∀ j,(h:j<ces.size)→al p M ((es.getD j (.undef,.undef)).1) ces[j].key∧al p M ((es.getD j (.undef,.undef)).2) ces[j].val
 | .loop l=>∃ r,w.heap[b]?=some (.loop r)∧r.state=l.state∧r.pending=l.pending∧r.params.toList=l.params∧r.assign=l.assign∧r.body=l.body ∧
    bX p M l.nt l.fr ⟨r.tmps,[]⟩

structure bj (p:aF) (M:Mu) (H:ab) (w:World):Prop where
 pers:∀ b o v,p b o=some v→w.cell? ⟨b,o,none⟩=some v
 live:∀ d i v B,az H d i=(v,B)→B≠.dead→∃ b o t,M d i v=some (b,o,t)∧fB p (M.up d) B b o t w∧∀ x,p b x=none
 apart:∀ d i v B d' i' v' B' b o t o' t',az H d i=(v,B)→B≠.dead→az H d' i'=(v',B')→B'≠.dead →
  M d i v=some (b,o,t)→M d' i' v'=some (b,o',t')→d=d'∧i=i'
 dom:∀ d i v t,M d i v=some t→i<ao H d∧((az H d i).2≠.dead→v≤(az H d i).1)

def bA (M:Mu) (H:ab) (b:Nat):Prop:=∀ d i v B,az H d i=(v,B)→B≠.dead→aL H d=false→∀ o t,M d i v≠some (b,o,t)

structure dx (K:Nat→Prop) (w w':World):Prop where
 os:w'.os=w.os
 tape:w'.tape=w.tape
 output:w'.output=w.output
 size:w.heap.size≤w'.heap.size
 block:∀ b,b<w.heap.size→K b→w'.heap[b]?=w.heap[b]?
theorem dx.refl (K:Nat→Prop) (w:World):dx K w w:=⟨rfl,rfl,rfl,Nat.le_refl _,fun _ _ _=>rfl⟩
theorem dx.trans {K K':Nat→Prop} {w w' w'':World} (h:dx K w w') (k:dx K' w' w'') (hK:∀ b,b<w.heap.size→K b→K' b):dx K w w'' :=
 ⟨k.os.trans h.os,k.tape.trans h.tape,k.output.trans h.output,Nat.le_trans h.size k.size,fun b hb hk=>(k.block b (Nat.lt_of_lt_of_le hb h.size) (hK b hb hk)).trans (h.block b hb hk)⟩

theorem fB.lt {p:aF} {M:Mu} {B:an} {b o t:Nat} {w:World} (h:fB p M B b o t w) (hB:B≠.dead):b<w.heap.size:=by
 have key:∀ {x:Obj},w.heap[b]?=some x→b<w.heap.size:=fun e=>(Array.getElem?_eq_some_iff.1 e).1;cases B with
 | dead=>exact absurd rfl hB
 | row r=>obtain ⟨_,_,e,_⟩:=h;exact key e
 | map es=>obtain ⟨_,_,e,_⟩:=h;exact key e
 | fmap q f g c=>obtain ⟨_,_,_,_,e,_⟩:=h;exact key e
 | loop l=>obtain ⟨_,e,_⟩:=h;exact key e
theorem fB.mono {p q:aF} {M N:Mu} {B:an} {b o t:Nat} {w w':World} (h:fB p M B b o t w) (hp:aF.le p q) (hM:Mu.le M N) (e:w'.heap[b]?=w.heap[b]?):fB q N B b o t w':=by
 cases B with
 | dead=>trivial
 | row r =>
   obtain ⟨c,el,h1,h2,h3,h4⟩:=h;exact ⟨c,el,e.trans h1,h2,h3,fun j hj=>⟨(h4 j hj).1.mono hp (hM.jc _),(h4 j hj).2⟩⟩
 | map es =>
   obtain ⟨c,cl,h1,h2,h4,h3⟩:=h;exact ⟨c,cl,e.trans h1,h2,h4,fun j hj=>⟨(h3 j hj).1.mono hp hM,(h3 j hj).2.mono hp hM⟩⟩
 | fmap kq f g n =>
   obtain ⟨es,hE,c,cl,h1,h2,h4,h3⟩:=h;exact ⟨es,hE,c,cl,e.trans h1,h2,h4,fun j hj=>⟨(h3 j hj).1.mono hp hM,(h3 j hj).2.mono hp hM⟩⟩
 | loop l =>
   obtain ⟨r,h1,h2,h3,h4,h5,h6,h7⟩:=h;exact ⟨r,e.trans h1,h2,h3,h4,h5,h6,h7.mono hp hM⟩
theorem F4 {p:aF} {M:Mu} (q:aF) (N:Mu) {kq:KK} {n:List Int} {c:Value} (h:al p M (eB kq n) c):al q N (eB kq n) c:=by
 cases kq with
 | num k=>exact al.bp (k:=k) q N h
 | str m =>
   unfold eB at *;cases h with
   | agg hs h1 hv=>exact .agg hs h1 (fun j hj=>(hv j hj).bp _ _)
theorem x6 {p:aF} {M:Mu} (q:aF) (N:Mu) {kq:KK} {f:List Int→Bool} {g:List Int→Int} {n b o t:Nat} {w:World} (h:fB p M (.fmap kq f g n) b o t w):fB q N (.fmap kq f g n) b o t w:=by
 obtain ⟨es,hE,c,cl,h1,h2,h4,h3⟩:=h;refine ⟨es,hE,c,cl,h1,h2,h4,fun j hj=>?_⟩;have:=h3 j hj;obtain ⟨m,e,_⟩:=hE.ent j wO;rw[e] at this ⊢;exact ⟨F4 _ _ this.1,this.2.bp _ _⟩

theorem l9:∀ (l:List (Nat×an)) (x:Nat×an) (i:Nat),au (l++[x]) i=if i=l.length then x else au l i
 | [],x,0=>rfl
 | [],x,i+1=>rfl
 | b::l,x,0=>by simp[au]
 | b::l,x,i+1=>by simp[au,l9 l x i]
theorem te:∀ (l:List (Nat×an)) (k:Nat) (x:Nat×an) (i:Nat),au (bQ l k x) i=if i=k∧k<l.length then x else au l i
 | [],k,x,i=>by simp[bQ]
 | b::l,0,x,0=>by simp[bQ,au]
 | b::l,0,x,i+1=>by simp[bQ,au]
 | b::l,k+1,x,0=>by simp[bQ,au]
 | b::l,k+1,x,i+1=>by simp[bQ,au,te l k x i]
theorem np:∀ (l:List (Nat×an)) (k:Nat) (x:Nat×an),(bQ l k x).length=l.length
 | [],_,_=>rfl
 | _::_,0,_=>rfl
 | _::l,k+1,x=>by simp[bQ,np l k x]
theorem vF:∀ {l:List (Nat×an)} {i:Nat},(au l i).2≠.dead→i<l.length
 | [],_,h=>by simp[au] at h
 | _::_,0,_=>by simp
 | _::l,i+1,h=>by have:=vF (l:=l) (i:=i) h;simpa using this
theorem kC:∀ {H:ab} {d i:Nat},(az H d i).2≠.dead→i<ao H d
 | [],_,_,h=>by simp[az] at h
 | l::r,0,i,h=>vF h
 | l::r,d+1,i,h=>kC (H:=r) h
theorem bm (H:ab):ao H 0=aZ H:=by cases H<;>rfl
theorem iA (H:ab) (b:an) (d i:Nat):az (jm H b) d i=if d=0∧i=aZ H then (0,b) else az H d i:=by
 cases H with
 | nil=>cases d<;>cases i<;>simp[jm,az,au,aZ]
 | cons l r=>cases d<;>simp[jm,az,aZ,l9]
theorem fP (H:ab) (b:an) (d:Nat):ao (jm H b) d=if d=0 then aZ H+1 else ao H d:=by
 cases H with
 | nil=>cases d<;>simp[jm,ao,aZ]
 | cons l r=>cases d<;>simp[jm,ao,aZ]
theorem nG (H:ab) (hH:H≠[]) (b:an) (d:Nat):aL (jm H b) d=aL H d:=by
 cases H with
 | nil=>exact absurd rfl hH
 | cons l r=>cases d<;>rfl
theorem dW:∀ (H:ab) (d i:Nat) (x:Nat×an) (d' i':Nat),az (eh H d i x) d' i'=if d'=d∧i'=i∧i<ao H d then x else az H d' i'
 | [],d,i,x,d',i'=>by simp[eh,ao]
 | l::r,0,i,x,0,i'=>by simp[eh,az,ao,te]
 | l::r,0,i,x,d'+1,i'=>by simp[eh,az]
 | l::r,d+1,i,x,0,i'=>by simp[eh,az]
 | l::r,d+1,i,x,d'+1,i'=>by simp[eh,az,ao,dW r d i x d' i']
theorem cH:∀ (H:ab) (d i:Nat) (x:Nat×an) (d':Nat),ao (eh H d i x) d'=ao H d'
 | [],_,_,_,_=>rfl
 | l::r,0,i,x,0=>by simp[eh,ao,np]
 | l::r,0,i,x,d'+1=>rfl
 | l::r,d+1,i,x,0=>rfl
 | l::r,d+1,i,x,d'+1=>cH r d i x d'
theorem fw:∀ (H:ab) (d i:Nat) (x:Nat×an) (d':Nat),aL (eh H d i x) d'=aL H d'
 | [],_,_,_,_=>rfl
 | l::r,0,i,x,0=>rfl
 | l::r,0,i,x,d'+1=>rfl
 | l::r,d+1,i,x,0=>rfl
 | l::r,d+1,i,x,d'+1=>fw r d i x d'
theorem ik:∀ (H:ab) (d i:Nat),az (bF H) d i=az H d i
 | [],_,_=>rfl
 | l::r,0,i=>rfl
 | l::r,d+1,i=>ik r d i
theorem ff:∀ (H:ab) (d:Nat),ao (bF H) d=ao H d
 | [],_=>rfl
 | l::r,0=>rfl
 | l::r,d+1=>ff r d
theorem cq:∀ (H:ab) (d:Nat),aL (bF H) d=true
 | [],_=>rfl
 | l::r,0=>rfl
 | l::r,d+1=>cq r d

def br (M:Mu) (d i v:Nat) (t:Nat×Nat×Nat):Mu:=fun d' i' v'=>if d'=d∧i'=i∧v'=v then some t else M d' i' v'
theorem j6 {M:Mu} {d i v:Nat} {t:Nat×Nat×Nat} (h:∀ u,M d i v=some u→u=t):Mu.le M (br M d i v t):=by
 intro d' i' v' u hu;simp only[br];split
 · rename_i e;obtain ⟨rfl,rfl,rfl⟩:=e;rw[h u hu]
 · exact hu

def iF (w:World) (M:Mu) (H:ab) (M':Mu) (H':ab):Prop:=∀ b,b<w.heap.size→bA M H b→bA M' H' b
theorem iF.refl (w:World) (M:Mu) (H:ab):iF w M H M H:=fun _ _ h=>h

structure cC (p:aF) (M:Mu) (H:ab) (w:World) (p':aF) (M':Mu) (H':ab) (w':World):Prop where
 pst:aF.le p p'
 mu:Mu.le M M'
 rel:bj p' M' H' w'
 stay:dx (Go.Eng.bA M H) w w'
 bA:iF w M H M' H'
 fresh:∀ b o v,p' b o=some v→p b o=some v∨w.heap.size≤b∨(aL H 0=false∧∃ i u o' t',M 0 i u=some (b,o',t'))
 own:∀ d i v b o t,M' d i v=some (b,o,t)→w.heap.size≤b∨∃ d' i' v' o' t',d'≤d∧M d' i' v'=some (b,o',t')
 lock:∀ d,aL H' d=aL H d
 same:∀ d i,d≠0→aL H d=true→az H' d i=az H d i
 next:∀ d,d≠0→aL H d=true→ao H' d=ao H d
 len:H'.length=H.length
 grow:∀ d,ao H d≤ao H' d
 new:∀ d i v t,M' d i v=some t→M d i v=some t∨ao H d≤i∨aL H d=false

theorem cC.trans {p p' p'':aF} {M M' M'':Mu} {H H' H'':ab} {w w' w'':World} (h:cC p M H w p' M' H' w') (k:cC p' M' H' w' p'' M'' H'' w''):cC p M H w p'' M'' H'' w'' where
 pst:=h.pst.trans k.pst
 mu:=h.mu.trans k.mu
 rel:=k.rel
 stay:=h.stay.trans k.stay (fun b hb hk=>h.bA b hb hk)
 bA:=fun b hb hk=>k.bA b (Nat.lt_of_lt_of_le hb h.stay.size) (h.bA b hb hk)
 fresh:=fun b o v hv=>by
  rcases k.fresh b o v hv with h1 | h1 | ⟨hl,i,u,o',t',h1⟩
  · exact h.fresh b o v h1
  · exact .inr (.inl (Nat.le_trans h.stay.size h1))
  · rcases h.own 0 i u b o' t' h1 with h2 | ⟨d2,i2,v2,o2,t2,hd2,h2⟩
    · exact .inr (.inl h2)
    · obtain rfl:d2=0:=by omega
      exact .inr (.inr ⟨by rw[← h.lock];exact hl,i2,v2,o2,t2,h2⟩)
 own:=fun d i v b o t hm=>by
  rcases k.own d i v b o t hm with h1 | ⟨d',i',v',o',t',hd,h1⟩
  · exact .inl (Nat.le_trans h.stay.size h1)
  · rcases h.own _ _ _ _ _ _ h1 with h2 | ⟨d2,i2,v2,o2,t2,hd2,h2⟩
    · exact .inl h2
    · exact .inr ⟨d2,i2,v2,o2,t2,Nat.le_trans hd2 hd,h2⟩
 lock:=fun d=>(k.lock d).trans (h.lock d)
 same:=fun d i hd hl=>(k.same d i hd (by rw[h.lock];exact hl)).trans (h.same d i hd hl)
 next:=fun d hd hl=>(k.next d hd (by rw[h.lock];exact hl)).trans (h.next d hd hl)
 len:=k.len.trans h.len
 grow:=fun d=>Nat.le_trans (h.grow d) (k.grow d)
 new:=fun d i v t hm=>by
  rcases k.new d i v t hm with h1 | h1 | h1
  · exact h.new d i v t h1
  · exact .inr (.inl (Nat.le_trans (h.grow d) h1))
  · exact .inr (.inr (by rw[← h.lock];exact h1))
theorem cC.refl {p:aF} {M:Mu} {H:ab} {w:World} (h:bj p M H w):cC p M H w p M H w where
 pst:=aF.le.refl _
 mu:=Mu.le.refl _
 rel:=h
 stay:=dx.refl _ _
 bA:=iF.refl _ _ _
 fresh:=fun b o v hv=>.inl hv
 own:=fun d i v b o t hm=>.inr ⟨d,i,v,o,t,Nat.le_refl _,hm⟩
 lock:=fun _=>rfl
 same:=fun _ _ _ _=>rfl
 next:=fun _ _ _=>rfl
 len:=rfl
 grow:=fun _=>Nat.le_refl _
 new:=fun _ _ _ _ hm=>.inl hm

def eI (p:aF) (M:Mu) (H:ab) (nx:Nat) (v:AV) (δ:Delta) (cv:Value) (w w':World):Prop :=
 match δ with
 | .bA=>al p M v cv∧dx (fun _=>True) w w'
 | .push B=>∃ t,B≠.dead∧al p (br M 0 nx 0 (w.heap.size,0,t)) v cv∧fB p M B w.heap.size 0 t w'∧dx (fun _=>True) w w'
 | .set d i (ver',B')=>∃ ver B b o t b' o' t',az H d i=(ver,B)∧B≠.dead∧aL H d=false∧M d i ver=some (b,o,t)∧B'≠.dead ∧
    fB p (M.up d) B' b' o' t' w'∧dx (fun x=>x≠b) w w'∧(b'=b∨w.heap.size≤b')∧al p (br M d i ver' (b',o',t')) v cv ∧
    ((ver'=ver∧b'=b∧o'=o∧t'=t)∨ver<ver')
 | .heap H'=>∃ p' M',cC p M H w p' M' H' w'∧al p' M' v cv

theorem bj.stay {p:aF} {M:Mu} {H:ab} {w w':World} (h:bj p M H w) (hs:dx (fun _=>True) w w'):bj p M H w' where
 pers:=fun b o v hp=>by
  have:=h.pers b o v hp;have hb:b<w.heap.size:=World.block_lt_of_cell? w _ this;rw[← this];exact World.cell?_of_block (w:=w) (hs.block b hb trivial)
 live:=fun d i v B hg hB=>by
  obtain ⟨b,o,t,h1,h2,h3⟩:=h.live d i v B hg hB;exact ⟨b,o,t,h1,h2.mono (aF.le.refl _) (Mu.le.refl _) (hs.block b (h2.lt hB) trivial),h3⟩
 apart:=h.apart
 dom:=h.dom

theorem dx.weaken {K K':Nat→Prop} {w w':World} (h:dx K w w') (hk:∀ b,b<w.heap.size→K' b→K b):dx K' w w' :=
 ⟨h.os,h.tape,h.output,h.size,fun b hb k=>h.block b hb (hk b hb k)⟩

theorem bj.push {p:aF} {M:Mu} {H:ab} {w w':World} {B:an} {t:Nat} (h:bj p M H w) (hB:B≠.dead) (hb:fB p M B w.heap.size 0 t w') (hs:dx (fun _=>True) w w') (hnew:w.heap.size<w'.heap.size) :
 Mu.le M (br M 0 (aZ H) 0 (w.heap.size,0,t))∧bj p (br M 0 (aZ H) 0 (w.heap.size,0,t)) (jm H B) w':=by
 have hle:Mu.le M (br M 0 (aZ H) 0 (w.heap.size,0,t)):=j6 fun u hu=>by
  have:=(h.dom _ _ _ _ hu).1;rw[bm] at this;omega
 have h':=h.stay hs
 refine ⟨hle,⟨h'.pers,?_,?_,?_⟩⟩
 · intro d i v B' hg hB'
   rw[iA] at hg
   split at hg
   · rename_i e
     obtain ⟨rfl,rfl⟩:=e
     simp only[Prod.mk.injEq] at hg
     obtain ⟨rfl,rfl⟩:=hg
     refine ⟨w.heap.size,0,t,by simp[br],hb.mono (aF.le.refl _) hle rfl,fun x=>?_⟩
     cases hx:p w.heap.size x with
     | none=>rfl
     | some u=>have:=World.block_lt_of_cell? w _ (h.pers _ _ _ hx);simp at this
   · obtain ⟨b,o,t',h1,h2,h3⟩:=h'.live d i v B' hg hB'
     exact ⟨b,o,t',hle _ _ _ _ h1,h2.mono (aF.le.refl _) (hle.up d) rfl,h3⟩
 · intro d i v B1 d' i' v' B2 b o t1 o' t2 hg hB1 hg' hB2 hm hm'
   rw[iA] at hg hg'
   simp only[br] at hm hm'
   split at hg
   · rename_i e
     obtain ⟨rfl,rfl⟩:=e
     simp only[Prod.mk.injEq] at hg
     obtain ⟨rfl,rfl⟩:=hg
     simp at hm
     split at hg'
     · rename_i e';exact ⟨e'.1.symm,e'.2.symm⟩
     · rename_i e'
       rw[if_neg (fun e=>e' ⟨e.1,e.2.1⟩)] at hm'
       obtain ⟨b'',o'',t'',k1,k2,_⟩:=h.live d' i' v' B2 hg' hB2
       rw[k1] at hm'
       simp only[nP] at hm'
       have:=k2.lt hB2
       omega
   · rename_i e
     rw[if_neg (fun x=>e ⟨x.1,x.2.1⟩)] at hm
     split at hg'
     · rename_i e'
       obtain ⟨rfl,rfl⟩:=e'
       simp only[Prod.mk.injEq] at hg'
       obtain ⟨rfl,rfl⟩:=hg'
       simp at hm'
       obtain ⟨b'',o'',t'',k1,k2,_⟩:=h.live d i v B1 hg hB1
       rw[k1] at hm
       simp only[nP] at hm
       have:=k2.lt hB1
       omega
     · rename_i e'
       rw[if_neg (fun x=>e' ⟨x.1,x.2.1⟩)] at hm'
       exact h.apart d i v B1 d' i' v' B2 b o t1 o' t2 hg hB1 hg' hB2 hm hm'
 · intro d i v u hu
   simp only[br] at hu
   rw[fP,iA]
   split at hu
   · rename_i e
     obtain ⟨rfl,rfl,rfl⟩:=e
     simp
   · have:=h.dom d i v u hu
     by_cases hd:d=0
     · subst hd
       rw[bm] at this
       have hne:¬ (0=0∧i=aZ H):=by omega
       rw[if_neg hne,if_pos rfl]
       exact ⟨by omega,this.2⟩
     · rw[if_neg hd,if_neg (fun e=>hd e.1)];exact this

theorem iF.push {p:aF} {M:Mu} {H:ab} {w:World} {B:an} {t:Nat} (h:bj p M H w) (hH:H≠[]):iF w M H (br M 0 (aZ H) 0 (w.heap.size,0,t)) (jm H B):=by
 intro b hb hk d i v B' hg hB' hl o t' hm;rw[iA] at hg;rw[nG H hH] at hl;simp only[br] at hm;split at hg
 · rename_i e;obtain ⟨rfl,rfl⟩:=e;simp only[Prod.mk.injEq] at hg;obtain ⟨rfl,rfl⟩:=hg;simp at hm;omega
 · rename_i e;rw[if_neg (fun x=>e ⟨x.1,x.2.1⟩)] at hm;exact hk d i v B' hg hB' hl o t' hm

theorem bj.fp {p:aF} {M:Mu} {H:ab} {w w':World} {d i ver ver':Nat} {B B':an} {b o t b' o' t':Nat} (h:bj p M H w) (hg:az H d i=(ver,B)) (hB:B≠.dead)
 (hm:M d i ver=some (b,o,t)) (hB':B'≠.dead) (hb:fB p (M.up d) B' b' o' t' w') (hs:dx (fun x=>x≠b) w w') (hx:b'=b∨w.heap.size≤b')
 (hv:(ver'=ver∧b'=b∧o'=o∧t'=t)∨ver<ver') :
 Mu.le M (br M d i ver' (b',o',t'))∧bj p (br M d i ver' (b',o',t')) (eh H d i (ver',B')) w':=by
 have hlt:i<ao H d:=kC (by rw[hg];exact hB)
 have hle:Mu.le M (br M d i ver' (b',o',t')):=j6 fun u hu=>by
  rcases hv with ⟨rfl,rfl,rfl,rfl⟩ | hv
  · rw[hm] at hu;exact (Option.some.inj hu).symm
  · have:=(h.dom _ _ _ _ hu).2 (by rw[hg];exact hB);rw[hg] at this;simp only at this;omega
 obtain ⟨b0,o0,t0,k1,k2,k3⟩:=h.live d i ver B hg hB
 rw[hm] at k1
 simp only[nP] at k1
 obtain ⟨rfl,rfl,rfl⟩:=k1
 have hbs:b<w.heap.size:=k2.lt hB
 have hpn:∀ x u,p b' x=some u→False:=by
  intro x u hu;rcases hx with rfl | hx
  · rw[k3 x] at hu;cases hu
  · have:=World.block_lt_of_cell? w _ (h.pers _ _ _ hu);simp at this;omega
 refine ⟨hle,⟨?_,?_,?_,?_⟩⟩
 · intro b1 o1 v1 hp
   have hc:=h.pers b1 o1 v1 hp
   have hb1:b1<w.heap.size:=World.block_lt_of_cell? w _ hc
   have hne:b1≠b:=fun e=>by subst e;rw[k3 o1] at hp;cases hp
   rw[← hc]
   exact World.cell?_of_block (w:=w) (hs.block b1 hb1 hne)
 · intro d1 i1 v1 B1 hg1 hB1
   rw[dW] at hg1
   split at hg1
   · rename_i e
     obtain ⟨rfl,rfl,_⟩:=e
     simp only[Prod.mk.injEq] at hg1
     obtain ⟨rfl,rfl⟩:=hg1
     refine ⟨b',o',t',by simp[br],hb.mono (aF.le.refl _) (hle.up _) rfl,fun x=>?_⟩
     cases hpx:p b' x with
     | none=>rfl
     | some u=>exact (hpn x u hpx).elim
   · rename_i e
     obtain ⟨b1,o1,t1,j1,j2,j3⟩:=h.live d1 i1 v1 B1 hg1 hB1
     refine ⟨b1,o1,t1,hle _ _ _ _ j1,j2.mono (aF.le.refl _) (hle.up _) (hs.block b1 (j2.lt hB1) (fun e1=>?_)),j3⟩
     subst e1
     have:=h.apart d1 i1 v1 B1 d i ver B b1 o1 t1 o t hg1 hB1 hg hB j1 hm
     exact e ⟨this.1,this.2,hlt⟩
 · intro d1 i1 v1 B1 d2 i2 v2 B2 bb o1 t1 o2 t2 hg1 hB1 hg2 hB2 hm1 hm2
   rw[dW] at hg1 hg2
   simp only[br] at hm1 hm2
   have other:∀ (d3 i3 v3:Nat) (B3:an) (b3 o3 t3:Nat),az H d3 i3=(v3,B3)→B3≠.dead→M d3 i3 v3=some (b3,o3,t3)→b3=b'→d3=d∧i3=i:=by
    clear hm1 hm2 hg1 hg2;intro d3 i3 v3 B3 b3 o3 t3 hg3 hB3 hm3 e;rcases hx with rfl | hx
    · subst e;exact h.apart d3 i3 v3 B3 d i ver B b3 o3 t3 o t hg3 hB3 hg hB hm3 hm
    · obtain ⟨b4,o4,t4,j1,j2,_⟩:=h.live d3 i3 v3 B3 hg3 hB3;rw[hm3] at j1;simp only[nP] at j1;have:=j2.lt hB3;omega
   split at hg1
   · rename_i e1
     obtain ⟨rfl,rfl,_⟩:=e1
     simp only[Prod.mk.injEq] at hg1
     obtain ⟨rfl,rfl⟩:=hg1
     simp at hm1
     split at hg2
     · rename_i e2;exact ⟨e2.1.symm,e2.2.1.symm⟩
     · rename_i e2
       rw[if_neg (fun x=>e2 ⟨x.1,x.2.1,hlt⟩)] at hm2
       have:=other d2 i2 v2 B2 bb o2 t2 hg2 hB2 hm2 hm1.1.symm
       exact ⟨this.1.symm,this.2.symm⟩
   · rename_i e1
     rw[if_neg (fun x=>e1 ⟨x.1,x.2.1,hlt⟩)] at hm1
     split at hg2
     · rename_i e2
       obtain ⟨rfl,rfl,_⟩:=e2
       simp only[Prod.mk.injEq] at hg2
       obtain ⟨rfl,rfl⟩:=hg2
       simp at hm2
       exact other d1 i1 v1 B1 bb o1 t1 hg1 hB1 hm1 hm2.1.symm
     · rename_i e2
       rw[if_neg (fun x=>e2 ⟨x.1,x.2.1,hlt⟩)] at hm2
       exact h.apart d1 i1 v1 B1 d2 i2 v2 B2 bb o1 t1 o2 t2 hg1 hB1 hg2 hB2 hm1 hm2
 · intro d1 i1 v1 u hu
   simp only[br] at hu
   rw[cH,dW]
   split at hu
   · rename_i e
     obtain ⟨rfl,rfl,rfl⟩:=e
     rw[if_pos ⟨rfl,rfl,hlt⟩]
     exact ⟨hlt,fun _=>Nat.le_refl _⟩
   · have:=h.dom d1 i1 v1 u hu
     refine ⟨this.1,?_⟩
     split
     · rename_i e
       obtain ⟨rfl,rfl,_⟩:=e
       intro _
       have:=this.2 (by rw[hg];exact hB)
       rw[hg] at this
       simp only at this ⊢
       rcases hv with ⟨rfl,_⟩ | hv<;>omega
     · exact this.2

theorem vq (H:ab) (hH:H≠[]) (b:an):(jm H b).length=H.length:=by
 cases H with
 | nil=>exact absurd rfl hH
 | cons l r=>rfl
theorem lR:∀ (H:ab) (d i:Nat) (x:Nat×an),(eh H d i x).length=H.length
 | [],_,_,_=>rfl
 | l::r,0,_,_=>rfl
 | l::r,d+1,i,x=>by simp[eh,lR r d i x]

theorem se {p:aF} {M:Mu} {H:ab} {w w':World} {v:AV} {δ:Delta} {cv:Value} (hH:H≠[]) (h:bj p M H w) (hd:eI p M H (aZ H) v δ cv w w') :
 ∃ p' M',cC p M H w p' M' (δ.on H) w'∧al p' M' v cv∧((∀ X,δ≠.heap X)→p'=p∧∀ d1 i1,(∀ v,M d1 i1 v=none)→i1<ao H d1→∀ v,M' d1 i1 v=none):=by
 cases δ with
 | bA=>exact ⟨p,M,{ cC.refl h with rel:=h.stay hd.2,stay:=hd.2.weaken (fun _ _ _=>trivial) },hd.1,fun _=>⟨rfl,fun _ _ h _=>h⟩⟩
 | push B =>
   obtain ⟨t,hB,hv,hb,hs⟩:=hd
   have hnew:=hb.lt hB
   obtain ⟨h1,h2⟩:=h.push hB hb hs hnew
   refine ⟨p,_,⟨aF.le.refl _,h1,h2,hs.weaken (fun _ _ _=>trivial),iF.push h hH,fun b o v hv=>.inl hv,?_,fun d=>nG H hH B d,?_,?_,vq H hH B,fun d=>by {
    simp only[Delta.on]
    rw[fP]
    by_cases e:d=0
    · subst e
      rw[bm]
      simp
    · rw[if_neg e]
      exact Nat.le_refl _ },fun d i v u hm=>?_⟩,hv,fun _=>⟨rfl,fun d1 i1 h0 hlt u=>?_⟩⟩
   · intro d i v b o t' hm
     simp only[br] at hm
     split at hm
     · simp only[nP] at hm
       exact .inl wO
     · exact .inr ⟨_,_,_,_,_,Nat.le_refl _,hm⟩
   · intro d i hd0 _
     simp only[Delta.on]
     rw[iA,if_neg (fun e=>hd0 e.1)]
   · intro d hd0 _
     simp only[Delta.on]
     rw[fP,if_neg hd0]
   · simp only[br] at hm
     split at hm
     · rename_i e;obtain ⟨rfl,rfl,rfl⟩:=e
       exact .inr (.inl (by rw[bm];exact Nat.le_refl _))
     · exact .inl hm
   · simp only[br]
     rw[if_neg]
     · exact h0 u
     · rintro ⟨rfl,rfl,_⟩
       rw[bm] at hlt;exact Nat.lt_irrefl _ hlt
 | set d i x =>
   obtain ⟨ver',B'⟩:=x
   obtain ⟨ver,B,b,o,t,b',o',t',hg,hB,hl,hm,hB',hb,hs,hx,hv,hver⟩:=hd
   obtain ⟨h1,h2⟩:=h.fp hg hB hm hB' hb hs hx hver
   refine ⟨p,_,⟨aF.le.refl _,h1,h2,hs.weaken (fun x _ hk e=>hk d i ver B hg hB hl o t (by rw[e];exact hm)),?_,fun b o v hv=>.inl hv,?_,fun d'=>fw _ _ _ _ _,?_,fun d' _ _=>cH _ _ _ _ _,lR _ _ _ _,fun d'=>Nat.le_of_eq (cH _ _ _ _ _).symm,fun d1 i1 v1 u hm1=>?_⟩,hv,fun _=>⟨rfl,fun d1 i1 h0 hlt u=>?_⟩⟩
   · intro x hxs hk d1 i1 v1 B1 hg1 hB1 hl1 o1 t1 hm1
     simp only[Delta.on] at hg1 hl1
     rw[fw] at hl1
     rw[dW] at hg1
     simp only[br] at hm1
     have hlt:i<ao H d:=kC (by rw[hg];exact hB)
     split at hg1
     · rename_i e
       obtain ⟨rfl,rfl,_⟩:=e
       simp only[Prod.mk.injEq] at hg1
       obtain ⟨rfl,rfl⟩:=hg1
       simp at hm1
       rcases hx with rfl | hx
       · exact hk d1 i1 ver B hg hB hl o t (by rw[hm,hm1.1])
       · omega
     · rename_i e
       rw[if_neg (fun x=>e ⟨x.1,x.2.1,hlt⟩)] at hm1
       exact hk d1 i1 v1 B1 hg1 hB1 hl1 o1 t1 hm1
   · intro d1 i1 v1 b1 o1 t1 hm1
     simp only[br] at hm1
     split at hm1
     · rename_i e
       obtain ⟨rfl,rfl,rfl⟩:=e
       simp only[nP] at hm1
       obtain ⟨rfl,rfl,rfl⟩:=hm1
       rcases hx with rfl | hx
       · exact .inr ⟨_,_,_,_,_,Nat.le_refl _,hm⟩
       · exact .inl hx
     · exact .inr ⟨_,_,_,_,_,Nat.le_refl _,hm1⟩
   · intro d1 i1 _ hl1
     simp only[Delta.on]
     rw[dW,if_neg]
     rintro ⟨rfl,_,_⟩
     rw[hl] at hl1
     simp at hl1
   · simp only[br] at hm1
     split at hm1
     · rename_i e;obtain ⟨rfl,rfl,rfl⟩:=e
       exact .inr (.inr hl)
     · exact .inl hm1
   · simp only[br]
     rw[if_neg]
     · exact h0 u
     · rintro ⟨rfl,rfl,_⟩
       rw[h0 ver] at hm;cases hm
 | heap H' =>
   obtain ⟨p',M',h1,h2⟩:=hd
   exact ⟨p',M',h1,h2,fun hx=>absurd rfl (hx _)⟩

theorem rj {p:aF} {M:Mu} {H:ab} {w w':World} {v:AV} {δ:Delta} {cv:Value} (hH:H≠[]) (h:bj p M H w) (hd:eI p M H (aZ H) v δ cv w w') :
 ∃ p' M',cC p M H w p' M' (δ.on H) w'∧al p' M' v cv:=by
 obtain ⟨p',M',h1,h2,_⟩:=se hH h hd
 exact ⟨p',M',h1,h2⟩

theorem eJ (H:ab) (d i d' i':Nat):az (ev H d i) d' i'=if d'=d∧i'=i then ((az H d i).1,.dead) else az H d' i':=by
 unfold ev;rw[dW];by_cases e:d'=d∧i'=i
 · obtain ⟨rfl,rfl⟩:=e;by_cases hlt:i'<ao H d'
   · simp[hlt]
   · rw[if_neg (fun x=>hlt x.2.2),if_pos ⟨rfl,rfl⟩];have:(az H d' i').2=.dead:=Classical.byContradiction fun hn=>hlt (kC hn);rw[← this]
 · rw[if_neg (fun x=>e ⟨x.1,x.2.1⟩),if_neg e]
theorem bj.kill {p:aF} {M:Mu} {H:ab} {w:World} (h:bj p M H w) (d i:Nat):bj p M (ev H d i) w where
 pers:=h.pers
 live:=fun d1 i1 v B hg hB=>by
  rw[eJ] at hg;split at hg
  · simp only[Prod.mk.injEq] at hg;exact absurd hg.2.symm hB
  · exact h.live d1 i1 v B hg hB
 apart:=fun d1 i1 v1 B1 d2 i2 v2 B2 b o1 t1 o2 t2 hg1 hB1 hg2 hB2 hm1 hm2=>by
  rw[eJ] at hg1 hg2;split at hg1
  · simp only[Prod.mk.injEq] at hg1;exact absurd hg1.2.symm hB1
  · split at hg2
    · simp only[Prod.mk.injEq] at hg2;exact absurd hg2.2.symm hB2
    · exact h.apart d1 i1 v1 B1 d2 i2 v2 B2 b o1 t1 o2 t2 hg1 hB1 hg2 hB2 hm1 hm2
 dom:=fun d1 i1 v u hu=>by
  have:=h.dom d1 i1 v u hu;unfold ev;rw[cH];refine ⟨this.1,?_⟩;have e:=eJ H d i d1 i1;unfold ev at e;rw[e];split
  · exact fun hne=>absurd rfl hne
  · exact this.2
theorem iF.kill (w:World) (M:Mu) (H:ab) (d i:Nat):iF w M H M (ev H d i):=by
 intro b _ hk d1 i1 v B hg hB hl o t hm;rw[eJ] at hg;unfold ev at hl;rw[fw] at hl;split at hg
 · simp only[Prod.mk.injEq] at hg;exact absurd hg.2.symm hB
 · exact hk d1 i1 v B hg hB hl o t hm

end Go.Eng
