/- The engine, part B: how abstract values, frames and heaps stand for those of the model. -/
import Derived.Test.YtgphpjdchnfjlaaDoorV6EngA
import Derived.WalkKit
import Derived.Laws.CopyRow
set_option linter.unusedVariables false
set_option linter.unusedSimpArgs false
namespace Go.Eng

theorem cC (g:Nat→AV):∀ (n o:Nat),(dH g o n).length=n
 | 0,_=>rfl
 | n+1,o=>by simp[dH,cC g n]
theorem fG (g:Nat→AV):∀ (n o j:Nat),j<n→(dH g o n).getD j .undef=g (o+j)
 | 0,_,_,h=>by omega
 | n+1,o,0,_=>by simp[dH]
 | n+1,o,j+1,h=>by
   have:=fG g n (o+1) j wO;simp only[dH,List.getD_cons_succ,this];congr 1;omega

theorem aV (f:AV→AV):∀ l,aA (mapM' f l)=aA l
 | []=>rfl
 | .one v::r=>by simp[mapM',aA,aT,aV f r]
 | .arr k z n::r=>by simp[mapM',aA,aT,aV f r]
theorem iL (f:AV→AV):∀ (l:List dj) (j:Nat),j<aA l→getM (mapM' f l) j=f (getM l j)∨∃ k n,getM l j=.int k n∧getM (mapM' f l) j=.int k n
 | [],j,h=>by simp[aA] at h
 | .one v::r,0,h=>.inl rfl
 | .one v::r,j+1,h=>by simp only[mapM',getM];exact iL f r j (by simp[aA,aT] at h;omega)
 | .arr k z n::r,j,h=>by
   simp only[mapM',getM];by_cases e:j<n
   · simp only[if_pos e];exact .inr ⟨_,_,rfl,rfl⟩
   · simp only[if_neg e];exact iL f r (j-n) (by simp[aA,aT] at h;omega)
theorem p6:∀ (l:List AV) (r:List dj),aA (qc l r)=l.length+aA r
 | [],r=>by simp[qc]
 | v::l,r=>by simp[qc,aA,aT,p6 l r];omega
theorem pO:∀ (l:List AV) (r:List dj) (j:Nat),getM (qc l r) j=if j<l.length then l.getD j .undef else getM r (j-l.length)
 | [],r,j=>by simp[qc]
 | v::l,r,0=>by simp[qc,getM]
 | v::l,r,j+1=>by
   simp only[qc,getM,pO l r j,List.length_cons,Nat.add_lt_add_iff_right,List.getD_cons_succ,Nat.add_sub_add_right]
theorem mR:∀ (l:List dj) (j:Nat) (v:AV),aA (jT l j v)=aA l
 | [],_,_=>rfl
 | .one _::r,0,v=>rfl
 | .one u::r,j+1,v=>by simp[jT,aA,aT,mR r j v]
 | .arr k z n::r,j,v=>by
   have key:aA (qc (dH (fun i=>if i=j then v else .int k (z i)) 0 n) r)=aA (.arr k z n::r):=by
    rw[p6,cC];rfl
   simp only[jT];split
   · split
     · split
       · rfl
       · exact key
     · exact key
   · simp[aA,aT,mR r (j-n) v]
theorem pP:∀ (l:List dj) (j:Nat) (v:AV) (i:Nat),i<aA l→getM (jT l j v) i=if i=j then v else getM l i
 | [],_,_,i,h=>by simp[aA] at h
 | .one _::r,0,v,0,h=>by simp[jT,getM]
 | .one _::r,0,v,i+1,h=>by simp[jT,getM]
 | .one u::r,j+1,v,0,h=>by simp[jT,getM]
 | .one u::r,j+1,v,i+1,h=>by
   simp only[jT,getM,pP r j v i (by simp[aA,aT] at h;omega)];simp
 | .arr k z n::r,j,v,i,h=>by
   have hi:¬ i<n→i-n<aA r:=fun e=>by simp[aA,aT] at h;omega
   have key:j<n→getM (qc (dH (fun i=>if i=j then v else .int k (z i)) 0 n) r) i=if i=j then v else getM (.arr k z n::r) i:=by
    intro hj;rw[pO,cC];simp only[getM];by_cases e:i<n
    · rw[if_pos e,fG _ _ _ _ e,if_pos e];simp
    · rw[if_neg e,if_neg e,if_neg wO]
   simp only[jT];split
   · rename_i hj;split
     · rename_i k' x;split
       · rename_i hk;subst hk;simp only[getM];by_cases e:i<n
         · rw[if_pos e,if_pos e];by_cases e2:i=j<;>simp[e2]
         · rw[if_neg e,if_neg e,if_neg wO]
       · exact key hj
     · exact key hj
   · rename_i hj;simp only[getM];by_cases e:i<n
     · rw[if_pos e,if_pos e,if_neg wO]
     · rw[if_neg e,if_neg e,pP r (j-n) v (i-n) (hi e)];by_cases e2:i=j
       · subst e2;simp
       · rw[if_neg e2,if_neg wO]
theorem rY:∀ (l:List dj),fP l=true→∀ j,j<aA l→∃ k n,getM l j=.int k n
 | [],_,j,h=>by simp[aA] at h
 | .one _::_,h,_,_=>by simp[fP] at h
 | .arr k z n::r,h,j,hj=>by
   simp only[getM];by_cases e:j<n
   · rw[if_pos e];exact ⟨_,_,rfl⟩
   · rw[if_neg e];exact rY r h (j-n) (by simp[aA,aT] at hj;omega)
theorem rS:∀ (l:List Int),xE l=true→∀ j,l.getD j 0=0
 | [],_,j=>by simp
 | x::l,h,0=>by simp[xE] at h;simpa using h.1
 | x::l,h,j+1=>by simp[xE] at h;simpa using rS l h.2 j
theorem Hv (l:List Int):P2 l=fun j=>l.getD j 0:=by
 unfold P2;split
 · rename_i h;funext j;exact (rS l h j).symm
 · rfl
theorem vN (k:IntKind):∀ l:List AV,(dw k l).1.map (AV.int k)++(dw k l).2=l
 | []=>rfl
 | v::r=>by
   have ih:=vN k r;cases v;case int k' n =>
    simp only[dw]
    split
    · rename_i e
      subst e
      simpa using ih
    · rfl
   all_goals rfl
theorem jj:∀ (f:Nat) (l:List AV),aA (iv f l)=l.length∧∀ j,j<l.length→getM (iv f l) j=l.getD j .undef
 | 0,l=>by
   refine ⟨by simp[iv,p6,aA],fun j hj=>?_⟩;simp only[iv,pO];rw[if_pos hj]
 | f+1,[]=>⟨rfl,fun j hj=>by simp at hj⟩
 | f + 1,v::r=>by
   have one:aA (.one v::iv f r)=(v::r).length∧∀ j,j<(v::r).length→getM (.one v::iv f r) j=(v::r).getD j .undef:=by
    have ih:=jj f r;refine ⟨by simp[aA,aT,ih.1];omega,fun j hj=>?_⟩;cases j with
    | zero=>rfl
    | succ j=>simp only[getM,List.getD_cons_succ];exact ih.2 j (by simpa using hj)
   cases v;case int k n =>
    simp only[iv,Hv]
    split
    have he:=vN k r
    have ih:=jj f (dw k r).2
    have hl:(dw k r).1.length+(dw k r).2.length=r.length:=by
     have:=congrArg List.length he;simpa using this
    refine ⟨by simp[aA,aT,ih.1];omega,fun j hj=>?_⟩
    simp only[getM]
    by_cases e:j<(dw k r).1.length+1
    · rw [if_pos e]
      cases j with
      | zero=>rfl
      | succ j =>
        have hj':j<(dw k r).1.length:=by omega
        have:r.getD j .undef=.int k ((dw k r).1.getD j 0):=by
         have h3:r.getD j .undef=((dw k r).1.map (AV.int k)++(dw k r).2).getD j .undef:=by rw[he]
         rw[h3];simp[List.getElem?_append_left,hj']
        simp only[List.getD_cons_succ,this]
    · rw[if_neg e,ih.2 _ (by simp at hj;omega)]
      obtain ⟨i,rfl⟩:∃ i,j=(dw k r).1.length+1+i:=⟨j-((dw k r).1.length+1),by omega⟩
      have:(AV.int k n::r).getD ((dw k r).1.length+1+i) .undef=r.getD ((dw k r).1.length+i) .undef:=by
       rw[show (dw k r).1.length+1+i=((dw k r).1.length+i)+1 by omega,List.getD_cons_succ]
      rw[this]
      have h3:r.getD ((dw k r).1.length+i) .undef=((dw k r).1.map (AV.int k)++(dw k r).2).getD ((dw k r).1.length+i) .undef:=by rw[he]
      rw[h3]
      simp[List.getElem?_append_right]
    exact one
   all_goals exact one
theorem Row.pW {r:Row} {k:IntKind} {z:Nat→Int} (h:r.ints=some (k,z)):∀ j,j<r.len→r.get j=.int k (z j):=by
 unfold Row.ints at h;split at h
 · simp only[nP] at h;obtain ⟨rfl,rfl⟩:=h;exact fun j hj=>rfl
 · rename_i k' z' n;simp only[nP] at h;obtain ⟨rfl,rfl⟩:=h;intro j hj;simp only[Row.len,aA,aT,Nat.add_zero] at hj;simp only[Row.get,getM,if_pos hj]
 · simp at h

theorem Row.br (r:Row):r.toList.length=r.len:=by
 cases r<;>simp[Row.toList,Row.len,cC]
theorem Row.jG (r:Row) (j:Nat) (h:j<r.len):r.toList.getD j .undef=r.get j:=by
 cases r with
 | I k l=>simp[Row.toList,Row.len,Row.get] at *;simp[List.getElem?_eq_getElem h]
 | G l=>simp[Row.toList,Row.get]
 | F f n=>simp[Row.toList,Row.len,Row.get] at *;have:=fG f n 0 j h;simpa using this
 | M l=>simp[Row.toList,Row.len,Row.get] at *;have:=fG (getM l) (aA l) 0 j h;simpa using this

theorem qA {k:IntKind}:∀ {l:List AV} {m:List Int},sJ k l=some m→l=m.map (.int k)
 | [],m,h=>by simp[sJ] at h;subst h;rfl
 | v::r,m,h=>by
   cases v<;>simp[sJ] at h;rename_i k' n;obtain ⟨rfl,q,hq,rfl⟩:=h;simp[qA hq]
theorem Row.ofList_toList (l:List AV):(Row.ofList l).toList=l:=by
 unfold Row.ofList;split
 · rename_i k n r;split
   · rename_i m hm;simp[Row.toList,qA hm]
   · rfl
 · rfl
theorem Row.gu (l:List AV):(Row.ofList l).len=l.length:=by
 rw[← Row.br,Row.ofList_toList]
theorem Row.nX (l:List AV) (j:Nat) (h:j<l.length):(Row.ofList l).get j=l.getD j .undef:=by
 rw[← Row.jG _ _ (by rw[Row.gu];exact h),Row.ofList_toList]

theorem ua:∀ (l:List dj) (o n:Nat) {k:IntKind} {z:Nat→Int},lu l o n=some (k,z)→∀ j,j<n→getM l (o+j)=.int k (z j)
 | [],_,_,k,z,h,_,_=>by simp[lu] at h
 | .one _::r,0,n,k,z,h,_,_=>by simp[lu] at h
 | .one _::r,o+1,n,k,z,h,j,hj=>by
   have:=ua r o n (k:=k) (z:=z) (by simpa[lu] using h) j hj;rw[show o+1+j=(o+j)+1 by omega];exact this
 | .arr k' z' m::r,o,n,k,z,h,j,hj=>by
   simp only[lu] at h;simp only[getM];split at h
   · simp only[nP] at h;obtain ⟨rfl,rfl⟩:=h;rw[if_pos wO]
   · split at h
     · rename_i hm;have:=ua r (o-m) n h j hj;rw[if_neg wO,← this];congr 1;omega
     · simp at h
theorem Row.JB (l:List dj) (o n:Nat) (hb:o+n≤aA l):(Row.sub (.M l) o n=.G (dH (getM l) o n))∨(o=0∧n=aA l∧Row.sub (.M l) o n=.M l)∨∃ k z,(∀ j,j<n→getM l (o+j)=.int k (z j))∧Row.sub (.M l) o n=.M [.arr k z n]:=by
 have one:∀ k z m,l=[.arr k z m]→(Row.sub (.M l) o n=.G (dH (getM l) o n))∨(o=0∧n=aA l∧Row.sub (.M l) o n=.M l)∨∃ k z,(∀ j,j<n→getM l (o+j)=.int k (z j))∧Row.sub (.M l) o n=.M [.arr k z n]:=by
  rintro k z m rfl;refine .inr (.inr ⟨k,fun j=>z (o+j),fun j hj=>?_,rfl⟩);simp only[aA,aT,Nat.add_zero] at hb;simp only[getM];rw[if_pos wO]
 by_cases hl:∃ k z m,l=[.arr k z m]
 · obtain ⟨k,z,m,e⟩:=hl;exact one k z m e
 have e0:Row.sub (.M l) o n=(if Nat.beq o 0 && Nat.beq (aA l) n then .M l else match lu l o n with
  | some (k,z)=>.M [.arr k z n]
  | none=>.G (dH (getM l) o n)):=by
  match l,hl with
  | [],_=>rfl
  | [.arr k z m],hl=>exact absurd ⟨k,z,m,rfl⟩ hl
  | .one v::r,_=>rfl
  | .arr k z m::s::r,_=>rfl
 rw[e0];split
 · rename_i h;rw[Bool.and_eq_true] at h;exact .inr (.inl ⟨by simpa using h.1,by simpa using (Nat.eq_of_beq_eq_true h.2).symm,rfl⟩)
 · split
   · rename_i k z h;exact .inr (.inr ⟨k,z,ua l o n h,rfl⟩)
   · exact .inl rfl
theorem Row.dx (r:Row) (o n:Nat) (h:o+n≤r.len):(r.sub o n).len=n:=by
 cases r with
 | M l =>
   rcases Row.JB l o n (by assumption) with e | ⟨_,h2,e⟩ | ⟨k,z,_,e⟩<;>rw[e]
   · simp[Row.len,cC]
   · simp[Row.len,h2]
   · simp[Row.len,aA,aT]
 | _=>simp[Row.sub,Row.len] at *<;>omega
theorem Row.rN (r:Row) (o n j:Nat) (h:o+n≤r.len) (hj:j<n):(r.sub o n).get j=r.get (o+j):=by
 cases r with
 | M l =>
   rcases Row.JB l o n (by assumption) with e | ⟨h1,_,e⟩ | ⟨k,z,h1,e⟩<;>rw[e]
   · exact fG _ _ _ _ hj
   · subst h1;rw[Nat.zero_add]
   · simp only[Row.get,getM,if_pos hj,h1 j hj]
 | _=>simp[Row.sub,Row.get,Row.len,List.getElem?_take,hj] at *
theorem Row.kL (r:Row) (o n:Nat) (h:o+n≤r.len):(r.cut o n).len=n:=by
 cases r with
 | I k l=>exact Row.dx _ _ _ h
 | G l=>simp only[Row.cut,Row.gu];simp[Row.len] at h ⊢;omega
 | F f m=>exact Row.dx _ _ _ h
 | M l =>
   simp only[Row.cut];split
   · simp[Row.gu,cC]
   · split
     · rename_i e;simp only[Bool.and_eq_true] at e;exact Nat.eq_of_beq_eq_true e.2
     · exact Row.dx _ _ _ h
theorem Row.Ik (r:Row) (o n j:Nat) (h:o+n≤r.len) (hj:j<n):(r.cut o n).get j=r.get (o+j):=by
 cases r with
 | I k l=>exact Row.rN _ _ _ _ h hj
 | G l =>
   simp only[Row.cut];rw[Row.nX _ _ (by simp[Row.len] at *;omega)];simp[Row.get,List.getElem?_take,hj]
 | F f m=>exact Row.rN _ _ _ _ h hj
 | M l =>
   simp only[Row.cut];split
   · rw[Row.nX _ _ (by rw[cC];exact hj),fG _ _ _ _ hj];rfl
   · split
     · rename_i e;simp only[Bool.and_eq_true] at e;rw[Nat.eq_of_beq_eq_true e.1,Nat.zero_add]
     · exact Row.rN _ _ _ _ h hj

theorem Row.Dk (r:Row) (j:Nat) (v:AV):(r.set j v).len=r.len:=by
 cases r with
 | I k l =>
   cases v;case int k' n=>simp only[Row.set];split<;>simp[Row.len]
   all_goals simp[Row.set,Row.len]
 | G l=>cases v<;>simp[Row.set,Row.len]
 | F f n=>cases v<;>simp[Row.set,Row.len]
 | M l=>simp[Row.set,Row.len,mR]
theorem Row.u0 {r s q:Row} (h:r.uw s=some q):∃ (k:IntKind) (z z':Nat→Int),(∀ j,j<r.len→r.get j=.int k (z j))∧(∀ j,j<s.len→s.get j=.int k (z' j))∧q=.M [.arr k (fun i=>if i<r.len then z i else z' (i-r.len)) (r.len+s.len)]:=by
 unfold Row.uw at h;split at h
 · rename_i k z k' z' h1 h2;split at h
   · rename_i e;subst e;simp only[Option.some.injEq] at h;exact ⟨_,z,z',Row.pW h1,Row.pW h2,h.symm⟩
   · simp at h
 · simp at h
theorem Row.JT {r s:Row} (h:yi r=true∨(yi s=true∧∃ k l,r=.I k l)):r.app s=.G (r.toList++s.toList)∨r.uw s=some (r.app s):=by
 rcases h with h | ⟨h,k,l,rfl⟩
 · cases r<;>simp[yi] at h;rename_i l;cases e:(Row.M l).uw s with
   | none=>left;cases s<;>simp[Row.app,e]
   | some q=>right;cases s<;>simp[Row.app,e]
 · cases s<;>simp[yi] at h;rename_i m;cases e:(Row.I k l).uw (.M m) with
   | none=>left;simp[Row.app,e]
   | some q=>right;simp[Row.app,e]
theorem Row.lS {r s:Row} (h:yi r=true∨(yi s=true∧∃ k l,r=.I k l)):(r.app s).len=r.len+s.len:=by
 rcases Row.JT h with e | e
 · rw[e];simp[Row.len,Row.br]
 · obtain ⟨k,z,z',_,_,e2⟩:=Row.u0 e;rw[e2];simp[Row.len,aA,aT]
theorem Row.jt (r s:Row):(r.app s).len=r.len+s.len:=by
 cases r<;>cases s;case I.I k l k' l'=>simp only[Row.app];split<;>simp[Row.len]
 case F.I=>rfl
 case F.G=>rfl
 case F.F=>rfl
 case F.M=>rfl
 case M.I=>exact Row.lS (.inl rfl)
 case M.G=>exact Row.lS (.inl rfl)
 case M.F=>exact Row.lS (.inl rfl)
 case M.M=>exact Row.lS (.inl rfl)
 case I.M=>exact Row.lS (.inr ⟨rfl,_,_,rfl⟩)
 all_goals simp[Row.app,Row.len,Row.toList,cC]

def aG:={ f:Nat→Nat→Option Value // ∀ b o v,oT b o=some v→f b o=some v }
instance:CoeFun aG fun _=>Nat→Nat→Option Value:=⟨Subtype.val⟩
def aG.z:aG:=⟨oT,fun _ _ _ h=>h⟩
def lM (w:World):Prop:=∀ b o v,oT b o=some v→w.cell? ⟨b,o,none⟩=some v
theorem aG.CU (p:aG) {b o:Nat} (h:p b o=none):oT b o=none:=by
 cases e:oT b o with
 | none=>rfl
 | some v=>rw[p.2 b o v e] at h;cases h
abbrev Mu:=Nat→Nat→Nat→Option (Nat×Nat×Nat)
def Mu.up (M:Mu) (k:Nat):Mu:=fun d i v=>M (d+k) i v
def Mu.no:Mu:=fun _ _ _=>none
def pB (M:Mu):Option Nat→Mu
 | none=>Mu.no
 | some k=>M.up k
def jo (M:Mu):Row→Mu
 | .F _ _=>Mu.no
 | _=>M

inductive al (p:aG):Mu→AV→Value→Prop
 | undef {M:Mu} (c:Value):al p M .undef c
 | bool {M:Mu} (b:Bool):al p M (.bool b) (.bool b)
 | int {M:Mu} (k:IntKind) (n:Int):al p M (.int k n) (.int k n)
 | str {M:Mu} (s:ByteArray):al p M (.str s) (.string s)
 | nilp {M:Mu}:al p M .nilp (.pointer none)
 | nils {M:Mu}:al p M .nils (.slice none 0 0)
 | nilm {M:Mu}:al p M .nilm (.map none)
 | nilf {M:Mu}:al p M .nilf .nilFunc
 | ptr {M:Mu} {d i v off b o t:Nat} (h:M d i v=some (b,o,t)):al p M (.ptr d i v off) (.pointer (some ⟨b,o+off,none⟩))
 | ptrT {M:Mu} {s:Option Nat} {r:Row} {off b o:Nat} (vs:Nat→Value) (hp:∀ j,j<r.len→p b (o+j)=some (vs j)) (h1:∀ j,j<r.len→(vs j).oneCell'=true)
    (hv:∀ j,j<r.len→al p (jo (pB M s) r) (r.get j) (vs j)):al p M (.ptrT s r off) (.pointer (some ⟨b,o+off,none⟩))
 | slc {M:Mu} {d i v off sz len b o t x cc:Nat} {cap:Option Nat} (h:M d i v=some (b,o,t)) (hl:len≤cc) (hc:∀ c,cap=some c→cc=c)
    (hn:cap=none→o+off+cc*sz=t) (hx:cc=0∨x=o+off):al p M (.slc d i v off sz len cap) (.slice (some ⟨b,x,none⟩) len cc)
 | slcT {M:Mu} {s:Option Nat} {r:Row} {sz len b o x cc:Nat} {full:Bool} (vs:Nat→Value) (hp:∀ j,j<r.len→p b (o+j)=some (vs j)) (h1:∀ j,j<r.len→(vs j).oneCell'=true)
    (hv:∀ j,j<r.len→al p (jo (pB M s) r) (r.get j) (vs j)) (hl:len≤cc) (hf:full=true→cc=len) (hx:cc=0∨x=o) :
    al p M (.slcT s r sz len full) (.slice (some ⟨b,x,none⟩) len cc)
 | slcN {a:Option Addr} {M:Mu} {s:Option Nat} {r:Row} {sz:Nat} {full:Bool}:al p M (.slcT s r sz 0 full) (.slice a 0 0)
 | map {M:Mu} {d i b o t:Nat} (h:M d i 0=some (b,o,t)):al p M (.map d i) (.map (some b))
 | yld {M:Mu} {d i b o t:Nat} (h:M d i 0=some (b,o,t)):al p M (.yld d i) (.func (.yield b) #[] #[])
 | fn {M:Mu} {f:Fn} {a b:List AV} {ca cb:Array Value} (ha:ca.size=a.length) (hb:cb.size=b.length)
    (va:∀ j,j<a.length→al p M (a.getD j .undef) (ca.getD j undef)) (vb:∀ j,j<b.length→al p M (b.getD j .undef) (cb.getD j undef)):al p M (.fn f a b) (.func f ca cb)
 | agg {M:Mu} {r:Row} {cs:Array Value} (hs:cs.size=r.len) (h1:∀ j,j<r.len→(cs.getD j undef).oneCell'=true)
    (hv:∀ j,j<r.len→al p (jo M r) (r.get j) (cs.getD j undef)):al p M (.agg r) (.agg cs)
 | tup {M:Mu} {l:List AV} {cs:Array Value} (hs:cs.size=l.length) (hv:∀ j,j<l.length→al p M (l.getD j .undef) (cs.getD j undef)):al p M (.tup l) (.tuple cs)

theorem al.ofInt {p:aG} {M:Mu} {k:IntKind} {n:Int} {c:Value} (h:al p M (.int k n) c):c=.int k n:=by
 cases h;rfl
theorem al.bu {p:aG} {M:Mu} (q:aG) (N:Mu) {k:IntKind} {n:Int} {c:Value} (h:al p M (.int k n) c):al q N (.int k n) c:=by
 rw[h.ofInt];exact .int _ _
def aG.le (p q:aG):Prop:=∀ b o v,p b o=some v→q b o=some v
def Mu.le (M N:Mu):Prop:=∀ d i v t,M d i v=some t→N d i v=some t
theorem aG.le.refl (p:aG):aG.le p p:=fun _ _ _ h=>h
theorem aG.le.trans {p q r:aG} (h:aG.le p q) (k:aG.le q r):aG.le p r:=fun b o v e=>k b o v (h b o v e)
theorem Mu.le.refl (M:Mu):Mu.le M M:=fun _ _ _ _ h=>h
theorem Mu.le.trans {M N XN:Mu} (h:Mu.le M N) (k:Mu.le N XN):Mu.le M XN:=fun d i v t e=>k d i v t (h d i v t e)
theorem Mu.le.up {M N:Mu} (h:Mu.le M N) (k:Nat):Mu.le (M.up k) (N.up k):=fun d i v t e=>h _ _ _ _ e
theorem Mu.le.no (N:Mu):Mu.le Mu.no N:=fun _ _ _ _ h=>by cases h
theorem Mu.le.pB {M N:Mu} (h:Mu.le M N) (s:Option Nat):Mu.le (pB M s) (pB N s):=by
 cases s with
 | none=>exact Mu.le.refl _
 | some k=>exact h.up k
theorem Mu.le.jo {M N:Mu} (h:Mu.le M N) (r:Row):Mu.le (jo M r) (jo N r):=by
 cases r<;>first | exact h | exact Mu.le.refl _

theorem al.mono {p q:aG} {M:Mu} {v:AV} {c:Value} (hp:aG.le p q) (h:al p M v c):∀ {N:Mu},Mu.le M N→al q N v c:=by
 induction h with
 | undef c=>exact fun _=>.undef c
 | bool b=>exact fun _=>.bool b
 | int k n=>exact fun _=>.int k n
 | str s=>exact fun _=>.str s
 | nilp=>exact fun _=>.nilp
 | nils=>exact fun _=>.nils
 | nilm=>exact fun _=>.nilm
 | nilf=>exact fun _=>.nilf
 | ptr h=>exact fun hM=>.ptr (hM _ _ _ _ h)
 | ptrT vs h0 h1 hv ih=>exact fun hM=>.ptrT vs (fun j hj=>hp _ _ _ (h0 j hj)) h1 (fun j hj=>ih j hj ((hM.pB _).jo _))
 | slc h hl hc hn hx=>exact fun hM=>.slc (hM _ _ _ _ h) hl hc hn hx
 | slcT vs h0 h1 hv hl hf hx ih=>exact fun hM=>.slcT vs (fun j hj=>hp _ _ _ (h0 j hj)) h1 (fun j hj=>ih j hj ((hM.pB _).jo _)) hl hf hx
 | slcN=>exact fun _=>.slcN
 | map h=>exact fun hM=>.map (hM _ _ _ _ h)
 | yld h=>exact fun hM=>.yld (hM _ _ _ _ h)
 | fn ha hb va vb iha ihb=>exact fun hM=>.fn ha hb (fun j hj=>iha j hj hM) (fun j hj=>ihb j hj hM)
 | agg hs h1 hv ih=>exact fun hM=>.agg hs h1 (fun j hj=>ih j hj (hM.jo _))
 | tup hs hv ih=>exact fun hM=>.tup hs (fun j hj=>ih j hj hM)

theorem Mu.ue (M:Mu) (k s:Nat):(M.up k).up s=M.up (s+k):=by
 funext d i v;simp[Mu.up,Nat.add_assoc]
theorem Mu.m5 (M:Mu):M.up 0=M:=rfl
theorem Gt (M:Mu) (k:Nat) (s:Option Nat):pB (M.up k) s=pB M (s.map (· + k)):=by
 cases s with
 | none=>rfl
 | some s=>simp[pB,Mu.ue]

theorem al.oj {p:aG} {M:Mu} {k:Nat} {v:AV} {c:Value} (h:al p (M.up k) v c):al p M (oj k v) c:=by
 cases h with
 | undef c=>exact .undef c
 | bool b=>exact .bool b
 | int k n=>exact .int k n
 | str s=>exact .str s
 | nilp=>exact .nilp
 | nils=>exact .nils
 | nilm=>exact .nilm
 | nilf=>exact .nilf
 | ptr h=>exact .ptr h
 | ptrT vs h0 h1 hv=>exact .ptrT vs h0 h1 (fun j hj=>by rw[← Gt];exact hv j hj)
 | slc h hl hc hn hx=>exact .slc h hl hc hn hx
 | slcT vs h0 h1 hv hl hf hx=>exact .slcT vs h0 h1 (fun j hj=>by rw[← Gt];exact hv j hj) hl hf hx
 | slcN=>exact .slcN
 | map h=>exact .map h
 | yld h=>exact .yld h
 | fn=>exact .undef _
 | agg hs h1 hv =>
   rename_i r cs;cases r with
   | I a l=>exact .agg hs h1 (fun j hj=>(hv j hj).bu _ _)
   | _=>exact .undef _
 | tup hs hv =>
   rename_i l cs;cases l with
   | nil=>exact .tup hs (fun j hj=>absurd hj (by simp))
   | cons=>exact .undef _

theorem bS (f:AV→AV) (l:List AV) (j:Nat) (h:j<l.length):(l.map f).getD j .undef=f (l.getD j .undef):=by
 simp[List.getElem?_eq_getElem h]

theorem al.XK {p:aG} {M:Mu} {k:Nat} {v:AV} {c:Value} (h:al p (M.up k) v c):al p M (PM k v) c:=by
 cases v with
 | fn f a b =>
   cases h with
   | fn ha hb va vb =>
     refine .fn (by simpa using ha) (by simpa using hb) (fun j hj=>?_) (fun j hj=>?_)
     · rw[bS _ _ _ (by simpa using hj)];exact (va j (by simpa using hj)).oj
     · rw[bS _ _ _ (by simpa using hj)];exact (vb j (by simpa using hj)).oj
 | agg r =>
   cases h with
   | agg hs h1 hv =>
     cases r with
     | I a l=>exact .agg hs h1 (fun j hj=>(hv j hj).bu _ _)
     | F f n=>exact .agg hs h1 hv
     | G l =>
       refine .agg (by simpa[Row.len] using hs) (fun j hj=>h1 j (by simpa[Row.len] using hj)) (fun j hj=>?_);have hj':j<l.length:=by simpa[Row.len] using hj
       have:=hv j hj';simp only[Row.get,jo] at this ⊢;rw[bS _ _ _ hj'];exact this.oj
     | M l =>
       refine .agg (by simpa[Row.len,aV] using hs) (fun j hj=>h1 j (by simpa[Row.len,aV] using hj)) (fun j hj=>?_);have hj':j<aA l:=by simpa[Row.len,aV] using hj
       have:=hv j hj';simp only[Row.get,jo] at this ⊢;rcases iL (Eng.oj k) l j hj' with e | ⟨_,_,e1,e2⟩
       · rw[e];exact this.oj
       · rw[e2];rw[e1] at this;exact this.bu _ _
 | undef=>exact h.oj
 | bool b=>exact h.oj
 | int k n=>exact h.oj
 | str s=>exact h.oj
 | nilp=>exact h.oj
 | nils=>exact h.oj
 | nilm=>exact h.oj
 | nilf=>exact h.oj
 | ptr=>exact h.oj
 | ptrT=>exact h.oj
 | slc=>exact h.oj
 | slcT=>exact h.oj
 | map=>exact h.oj
 | yld=>exact h.oj
 | tup=>exact h.oj

theorem al.up {p:aG} {M:Mu} {k:Nat} {v:AV} {c:Value} (h:al p (M.up k) v c):al p M (mH k v) c:=by
 cases k with
 | zero=>exact h
 | succ k=>exact h.XK

theorem nS (M:Mu) (l:List AV):jo M (Row.ofList l)=M:=by
 unfold Row.ofList;split
 · split<;>rfl
 · rfl
def bk (p:aG) (M:Mu) (r:Row) (vs:Nat→Value):Prop:=∀ j,j<r.len→al p (jo M r) (r.get j) (vs j)∧(vs j).oneCell'=true
theorem bk.get {p:aG} {M:Mu} {r:Row} {vs:Nat→Value} (h:bk p M r vs) (j:Nat) (hj:j<r.len):al p M (r.get j) (vs j):=by
 have:=(h j hj).1;cases r<;>first | exact this | exact this.mono (aG.le.refl _) (Mu.le.no _)
theorem mi {p q:aG} {M N:Mu} {f:AV→AV} {l:List dj} {j:Nat} {c:Value} (hj:j<aA l) (h:al p M (getM l j) c) (hF:al p M (getM l j) c→al q N (f (getM l j)) c):al q N (getM (mapM' f l) j) c:=by
 rcases iL f l j hj with e | ⟨_,_,e1,e2⟩
 · rw[e];exact hF h
 · rw[e2];rw[e1] at h;exact h.bu _ _
theorem bk.mapM {p:aG} {M N:Mu} {f:AV→AV} (hF:∀ {v c},al p M v c→al p N (f v) c) {l:List dj} {vs:Nat→Value} (h:bk p M (.M l) vs):bk p N (.M (mapM' f l)) vs:=by
 intro j hj;have hj':j<aA l:=by simpa[Row.len,aV] using hj
 have:=h j hj';exact ⟨mi hj' this.1 hF,this.2⟩
theorem bk.fP {p:aG} {M N:Mu} {l:List dj} (ha:fP l=true) {vs:Nat→Value} (h:∀ j,j<aA l→al p M (getM l j) (vs j)):∀ j,j<aA l→al p N (getM l j) (vs j):=by
 intro j hj;obtain ⟨k,n,e⟩:=rY l ha j hj;have:=h j hj;rw[e] at this ⊢;exact this.bu _ _
theorem bk.BS {p:aG} {M:Mu} {k:Nat} {r:Row} {vs:Nat→Value} (h:bk p (M.up k) r vs):bk p M (BS k r) vs:=by
 cases r with
 | I a l=>exact fun j hj=>⟨al.bu _ _ (h j hj).1,(h j hj).2⟩
 | F f n=>exact h
 | G l =>
   intro j hj;have hj':j<l.length:=by simpa[Row.len,Eng.BS] using hj
   have:=h j hj';simp only[Row.get,jo,Eng.BS] at this ⊢;rw[bS _ _ _ hj'];exact ⟨this.1.oj,this.2⟩
 | M l=>exact bk.mapM (fun h=>h.oj) h
theorem bk.BR {p:aG} {M:Mu} {k:Nat} {r:Row} {vs:Nat→Value} (h:bk p (M.up k) r vs):bk p M (BR k r) vs:=by
 cases k with
 | zero=>exact h
 | succ k=>exact h.BS

theorem Mu.DD (M:Mu) {k s:Nat} (h:s≤k):M.up k=(M.up s).up (k-s):=by
 rw[Mu.ue];congr 1;omega

theorem al.kF {p:aG}:∀ (n:Nat) {M:Mu} {k:Nat} {v:AV} {c:Value},al p M v c→al p (M.up k) (kF n k v) c
 | 0,_,_,_,c,_=>.undef c
 | n + 1,M,  k,v,c,h=>by
   have ih:=@al.kF p n;cases h with
   | undef c=>exact .undef c
   | bool b=>exact .bool b
   | int k n=>exact .int k n
   | str s=>exact .str s
   | nilp=>exact .nilp
   | nils=>exact .nils
   | nilm=>exact .nilm
   | nilf=>exact .nilf
   | ptr h =>
     rename_i d i v off b o t;simp only[Eng.kF];split
     · exact .undef _
     · rename_i hd;have:¬ d<k:=by simpa[Nat.blt_eq] using hd
       exact .ptr (t:=t) (by simp only[Mu.up];rw[Nat.sub_add_cancel wO];exact h)
   | slc h hl hc hn hx =>
     rename_i d i v off sz len b o t x cc cap;simp only[Eng.kF];split
     · exact .undef _
     · rename_i hd;have:¬ d<k:=by simpa[Nat.blt_eq] using hd
       exact .slc (by simp only[Mu.up];rw[Nat.sub_add_cancel wO];exact h) hl hc hn hx
   | map h =>
     rename_i d i b o t;simp only[Eng.kF];split
     · exact .undef _
     · rename_i hd;have:¬ d<k:=by simpa[Nat.blt_eq] using hd
       exact .map (by simp only[Mu.up];rw[Nat.sub_add_cancel wO];exact h)
   | yld h =>
     rename_i d i b o t;simp only[Eng.kF];split
     · exact .undef _
     · rename_i hd;have:¬ d<k:=by simpa[Nat.blt_eq] using hd
       exact .yld (by simp only[Mu.up];rw[Nat.sub_add_cancel wO];exact h)
   | ptrT vs h0 h1 hv =>
     rename_i s r off b o;cases s with
     | none=>exact .ptrT vs h0 h1 hv
     | some s =>
       simp only[Eng.kF];split
       · rename_i hs;have hs':s<k:=by simpa[Nat.blt_eq] using hs
         cases r with
         | I a l=>exact .ptrT vs h0 h1 (fun j hj=>(hv j hj).bu _ _)
         | F f m=>exact .ptrT vs h0 h1 hv
         | M l =>
           dsimp only;split
           · rename_i ha;exact .ptrT vs h0 h1 (bk.fP ha hv)
           · refine .ptrT vs (fun j hj=>h0 j (by simpa[Row.len,aV] using hj)) (fun j hj=>h1 j (by simpa[Row.len,aV] using hj)) (fun j hj=>?_);have hj':j<aA l:=by simpa[Row.len,aV] using hj
             have:=hv j hj';simp only[Row.get,jo,pB] at this ⊢;rw[Mu.m5,Mu.DD M (Nat.le_of_lt hs')];exact mi hj' this ih
         | G l =>
           refine .ptrT vs (fun j hj=>h0 j (by simpa[Row.len] using hj)) (fun j hj=>h1 j (by simpa[Row.len] using hj)) (fun j hj=>?_);have hj':j<l.length:=by simpa[Row.len] using hj
           have:=hv j hj';simp only[Row.get,jo,pB] at this ⊢;rw[bS _ _ _ hj',Mu.m5,Mu.DD M (Nat.le_of_lt hs')];exact ih this
       · rename_i hs;have hs':¬ s<k:=by simpa[Nat.blt_eq] using hs
         refine .ptrT vs h0 h1 (fun j hj=>?_);have:=hv j hj;simp only[pB] at this ⊢;rw[Mu.ue,Nat.sub_add_cancel wO];exact this
   | slcT vs h0 h1 hv hl hf hx =>
     rename_i s r sz len b o x cc full;cases s with
     | none=>exact .slcT vs h0 h1 hv hl hf hx
     | some s =>
       simp only[Eng.kF];split
       · rename_i hs;have hs':s<k:=by simpa[Nat.blt_eq] using hs
         cases r with
         | I a l=>exact .slcT vs h0 h1 (fun j hj=>(hv j hj).bu _ _) hl hf hx
         | F f m=>exact .slcT vs h0 h1 hv hl hf hx
         | M l =>
           dsimp only;split
           · rename_i ha;exact .slcT vs h0 h1 (bk.fP ha hv) hl hf hx
           · refine .slcT vs (fun j hj=>h0 j (by simpa[Row.len,aV] using hj)) (fun j hj=>h1 j (by simpa[Row.len,aV] using hj)) (fun j hj=>?_) hl hf hx;have hj':j<aA l:=by simpa[Row.len,aV] using hj
             have:=hv j hj';simp only[Row.get,jo,pB] at this ⊢;rw[Mu.m5,Mu.DD M (Nat.le_of_lt hs')];exact mi hj' this ih
         | G l =>
           refine .slcT vs (fun j hj=>h0 j (by simpa[Row.len] using hj)) (fun j hj=>h1 j (by simpa[Row.len] using hj)) (fun j hj=>?_) hl hf hx;have hj':j<l.length:=by simpa[Row.len] using hj
           have:=hv j hj';simp only[Row.get,jo,pB] at this ⊢;rw[bS _ _ _ hj',Mu.m5,Mu.DD M (Nat.le_of_lt hs')];exact ih this
       · rename_i hs;have hs':¬ s<k:=by simpa[Nat.blt_eq] using hs
         refine .slcT vs h0 h1 (fun j hj=>?_) hl hf hx;have:=hv j hj;simp only[pB] at this ⊢;rw[Mu.ue,Nat.sub_add_cancel wO];exact this
   | slcN =>
     rename_i s r sz full;cases s with
     | none=>exact .slcN
     | some s =>
       simp only[Eng.kF];split
       · cases r with
         | M l =>
           dsimp only;split<;>exact .slcN
         | _=>exact .slcN
       · exact .slcN
   | fn=>exact .undef _
   | agg hs h1 hv =>
     rename_i r cs;cases r with
     | I a l=>exact .agg hs h1 (fun j hj=>(hv j hj).bu _ _)
     | _=>exact .undef _
   | tup hs hv =>
     rename_i l cs;cases l with
     | nil=>exact .tup hs (fun j hj=>absurd hj (by simp))
     | cons=>exact .undef _

theorem bk.v8 {p:aG} {M:Mu} {k:Nat} {r:Row} {vs:Nat→Value} (h:bk p M r vs):bk p (M.up k) (v8 k r) vs:=by
 cases r with
 | I a l=>exact fun j hj=>⟨al.bu _ _ (h j hj).1,(h j hj).2⟩
 | F f n=>exact h
 | G l =>
   intro j hj;have hj':j<l.length:=by simpa[Row.len,Eng.v8] using hj
   have:=h j hj';simp only[Row.get,jo,Eng.v8] at this ⊢;rw[bS _ _ _ hj'];exact ⟨this.1.kF 4,this.2⟩
 | M l=>exact bk.mapM (fun h=>h.kF 4) h
theorem bk.jq {p:aG} {M:Mu} {k:Nat} {r:Row} {vs:Nat→Value} (h:bk p M r vs):bk p (M.up k) (jq k r) vs:=by
 cases k with
 | zero=>exact h
 | succ k=>exact h.v8

theorem al.Va {p:aG} {M:Mu} {k:Nat} {v:AV} {c:Value} (h:al p M v c):al p (M.up k) (NX k v) c:=by
 cases v with
 | fn f a b =>
   cases h with
   | fn ha hb va vb =>
     refine .fn (by simpa using ha) (by simpa using hb) (fun j hj=>?_) (fun j hj=>?_)
     · rw[bS _ _ _ (by simpa using hj)];exact (va j (by simpa using hj)).kF 4
     · rw[bS _ _ _ (by simpa using hj)];exact (vb j (by simpa using hj)).kF 4
 | agg r =>
   cases h with
   | @agg _ _ cs hs h1 hv =>
     have hr:bk p M r (fun j=>cs.getD j Go.undef):=fun j hj=>⟨hv j hj,h1 j hj⟩
     have:=hr.v8 (k:=k);cases r with
     | I a l=>exact .agg hs h1 (fun j hj=>(this j hj).1)
     | F f n=>exact .agg hs h1 hv
     | G l=>exact .agg (by simpa[Row.len] using hs) (fun j hj=>h1 j (by simpa[Row.len] using hj)) (fun j hj=>(this j hj).1)
     | M l=>exact .agg (by simpa[Row.len,aV] using hs) (fun j hj=>h1 j (by simpa[Row.len,aV] using hj)) (fun j hj=>(this j hj).1)
 | undef=>exact h.kF 4
 | bool b=>exact h.kF 4
 | int k n=>exact h.kF 4
 | str s=>exact h.kF 4
 | nilp=>exact h.kF 4
 | nils=>exact h.kF 4
 | nilm=>exact h.kF 4
 | nilf=>exact h.kF 4
 | ptr=>exact h.kF 4
 | ptrT=>exact h.kF 4
 | slc=>exact h.kF 4
 | slcT=>exact h.kF 4
 | map=>exact h.kF 4
 | yld=>exact h.kF 4
 | tup=>exact h.kF 4
theorem al.dn {p:aG} {M:Mu} {k:Nat} {v:AV} {c:Value} (h:al p M v c):al p (M.up k) (Qz k v) c:=by
 cases k with
 | zero=>exact h
 | succ k=>exact h.Va

theorem bk.sub {p:aG} {M:Mu} {r:Row} {vs:Nat→Value} (h:bk p M r vs) (o n:Nat) (hn:o+n≤r.len):bk p M (r.sub o n) (fun j=>vs (o+j)):=by
 intro j hj;rw[Row.dx _ _ _ hn] at hj;have:=h (o+j) wO;rw[Row.rN _ _ _ _ hn hj];refine ⟨?_,this.2⟩;cases r with
 | M l=>rcases Row.JB l o n (by assumption) with e | ⟨_,_,e⟩ | ⟨k,z,_,e⟩<;>rw[e]<;>exact this.1
 | _=>exact this.1
theorem bk.cut {p:aG} {M:Mu} {r:Row} {vs:Nat→Value} (h:bk p M r vs) (o n:Nat) (hn:o+n≤r.len):bk p M (r.cut o n) (fun j=>vs (o+j)):=by
 intro j hj;rw[Row.kL _ _ _ hn] at hj;have:=h (o+j) wO;rw[Row.Ik _ _ _ _ hn hj];refine ⟨?_,this.2⟩;cases r with
 | I k l=>exact this.1
 | F f m=>exact this.1
 | G l=>simp only[Row.cut,nS];exact this.1
 | M l =>
   simp only[Row.cut];split
   · simp only[nS];exact this.1
   · split
     · exact this.1
     · rcases Row.JB l o n (by assumption) with e | ⟨_,_,e⟩ | ⟨k,z,_,e⟩<;>rw[e]<;>exact this.1

theorem mW {p:aG} {M N:Mu} {v:AV} {c:Value} (hv:gV v=true) (h:al p M v c):al p N v c:=by
 cases h with
 | undef c=>exact .undef c
 | bool b=>exact .bool b
 | int k n=>exact .int k n
 | str s=>exact .str s
 | nilp=>exact .nilp
 | nils=>exact .nils
 | nilm=>exact .nilm
 | nilf=>exact .nilf
 | ptr=>simp[gV] at hv
 | ptrT vs h0 h1 hr =>
   rename_i s r off b o;cases s with
   | none=>exact .ptrT vs h0 h1 hr
   | some s=>simp[gV] at hv
 | slc=>simp[gV] at hv
 | slcT vs h0 h1 hr hl hf hx =>
   rename_i s r sz len b o x cc full;cases s with
   | none=>exact .slcT vs h0 h1 hr hl hf hx
   | some s=>simp[gV] at hv
 | slcN=>exact .slcN
 | map=>simp[gV] at hv
 | yld=>simp[gV] at hv
 | fn=>simp[gV] at hv
 | agg hs h1 hr =>
   rename_i r cs;cases r with
   | I a l=>exact .agg hs h1 (fun j hj=>(hr j hj).bu _ _)
   | F f n=>exact .agg hs h1 hr
   | G l=>simp[gV] at hv
   | M l=>exact .agg hs h1 (bk.fP hv hr)
 | tup=>simp[gV] at hv

theorem bk.set {p:aG} {M:Mu} {r:Row} {vs:Nat→Value} (h:bk p M r vs) (j:Nat) {v:AV} {c:Value} (hv:al p M v c) (h1:c.oneCell'=true) :
 bk p M (r.set j v) (fun i=>if i=j then c else vs i):=by
 intro i hi
 rw[Row.Dk] at hi
 have hri:=h i hi
 refine ⟨?_,by by_cases e:i=j<;>simp[e,h1,hri.2]⟩
 have key:∀ (l:List AV),l.length=r.len→l.getD i .undef=r.get i→(∀ f m,r≠.F f m)→al p M ((l.set j v).getD i .undef) (if i=j then c else vs i):=by
  intro l hl hg hnf;by_cases e:i=j
  · subst e;simp[List.getElem?_set,hl,hi];exact hv
  · rw[if_neg e];have:(l.set j v).getD i .undef=l.getD i .undef:=by simp[List.getElem?_set,Ne.symm e]
    rw[this,hg];exact h.get i hi
 cases r with
 | I k l =>
   have hG:al p M ((((l.map (AV.int k)).set j v)).getD i .undef) (if i=j then c else vs i) :=
    key _ (by simp[Row.len]) (by simp[Row.len] at hi;simp[Row.get,hi]) (fun _ _=>by simp)
   cases v
   case int k' n =>
    simp only[Row.set]
    split
    · rename_i hk
      subst hk
      by_cases e:i=j
      · subst e
        simp only[Row.get,jo,if_true]
        have:(l.set i n).getD i 0=n:=by simp[Row.len] at hi;simp[List.getElem?_set,hi]
        rw[this];exact hv
      · simp only[Row.get,jo,if_neg e]
        have:(l.set j n).getD i 0=l.getD i 0:=by simp[List.getElem?_set,Ne.symm e]
        rw[this];exact hri.1
    · exact hG
   all_goals exact hG
 | G l=>exact key l rfl rfl (fun _ _=>by simp)
 | F f n =>
   simp only[Row.set,Row.get,jo]
   by_cases e:i=j
   · rw[if_pos e,if_pos e]
     split
     · rename_i hp;exact mW hp hv
     · exact .undef _
   · rw[if_neg e,if_neg e];exact hri.1
 | M l =>
   simp only[Row.set,Row.get,jo]
   rw[pP l j v i hi]
   by_cases e:i=j
   · rw[if_pos e,if_pos e];exact hv
   · rw[if_neg e,if_neg e];exact hri.1

theorem Row.jk (l:List AV):∀ (r:Row) (j:Nat),(r.cN j l).len=r.len:=by
 induction l with
 | nil=>exact fun _ _=>rfl
 | cons v l ih=>intro r j;simp only[Row.cN,ih,Row.Dk]

theorem bk.congr {p:aG} {M:Mu} {r:Row} {vs us:Nat→Value} (h:bk p M r vs) (e:∀ j,j<r.len→us j=vs j):bk p M r us :=
 fun j hj=>by rw[e j hj];exact h j hj

theorem bk.cN {p:aG} {M:Mu}:∀ (l:List AV) {r:Row} {vs:Nat→Value} (j:Nat) (cs:Nat→Value),bk p M r vs →
 (∀ i,i<l.length→al p M (l.getD i .undef) (cs i)∧(cs i).oneCell'=true) →
 bk p M (r.cN j l) (fun i=>if j≤i∧i<j+l.length then cs (i-j) else vs i)
 | [],r,vs,j,cs,h,_=>h.congr (fun i _=>by simp;intro _ _;omega)
 | v :: l,r,vs,j,cs,h,hl=>by
   have h0:=hl 0 (by simp);have:=bk.cN l (j+1) (fun i=>cs (i+1)) (h.set j h0.1 h0.2) (fun i hi=>by
    have:=hl (i+1) (by simpa using hi);simpa using this)
   refine this.congr (fun i _=>?_);by_cases e:i=j
   · subst e;have:¬ (i+1≤i∧i<i+1+l.length):=by omega
     simp[this]
   · by_cases h1:j≤i∧i<j+(v::l).length
     · have h2:j+1≤i∧i<j+1+l.length:=by simp at h1;omega
       rw[if_pos h1,if_pos h2];congr 1;omega
     · have h2:¬ (j+1≤i∧i<j+1+l.length):=by simp at h1;omega
       rw[if_neg h1,if_neg h2,if_neg e]

theorem bk.list {p:aG} {M:Mu} {r:Row} {vs:Nat→Value} (h:bk p M r vs) (i:Nat) (hi:i<r.toList.length) :
 al p M (r.toList.getD i .undef) (vs i)∧(vs i).oneCell'=true:=by
 rw[Row.br] at hi
 rw[Row.jG r i hi]
 exact ⟨h.get i hi,(h i hi).2⟩
theorem bk.WY {p:aG} {M:Mu} {l:List AV} {vs:Nat→Value} (h:∀ i,i<l.length→al p M (l.getD i .undef) (vs i)∧(vs i).oneCell'=true):bk p M (.G l) vs:=h
theorem kr {p:aG} {M:Mu} {v:AV} {c:Value} (h:al p M v c):al p M (jC v) c:=by
 unfold jC;split
 · rename_i k l sz m full;cases h with
   | slcN=>exact .slcN
   | slcT vs h0 h1 hv hl hf hx =>
     have e:(Row.M [dj.arr k (fun j=>l.getD j 0) l.length]).len=l.length:=by simp[Row.len,aA,aT]
     refine .slcT vs (fun j hj=>h0 j (by rw[e] at hj;exact hj)) (fun j hj=>h1 j (by rw[e] at hj;exact hj)) (fun j hj=>?_) hl (fun h=>by cases h) hx;rw[e] at hj;have:=hv j hj;simp only[Row.get,getM,jo,if_pos hj] at this ⊢;exact this
 · cases h with
   | slcN=>exact .slcN
   | slcT vs h0 h1 hv hl hf hx=>exact .slcT vs h0 h1 hv hl (fun h=>by cases h) hx
 · exact h
theorem bk.app {p:aG} {M:Mu} {r s:Row} {vs us:Nat→Value} (h:bk p M r vs) (k:bk p M s us):bk p M (r.app s) (fun i=>if i<r.len then vs i else us (i-r.len)):=by
 have hG:bk p M (.G (r.toList++s.toList)) (fun i=>if i<r.len then vs i else us (i-r.len)):=by
  refine bk.WY fun i hi=>?_;simp only[List.length_append,Row.br] at hi;by_cases e:i<r.len
  · rw[if_pos e];have:(r.toList++s.toList).getD i .undef=r.toList.getD i .undef:=by
     simp[List.getElem?_append_left (show i<r.toList.length by rw[Row.br];exact e)]
    rw[this];exact h.list i (by rw[Row.br];exact e)
  · rw[if_neg e];have:(r.toList++s.toList).getD i .undef=s.toList.getD (i-r.len) .undef:=by
     simp[List.getElem?_append_right (show r.toList.length≤i by rw[Row.br];omega),Row.br]
    rw[this];exact k.list (i-r.len) (by rw[Row.br];omega)
 have hF:∀ (f:Nat→AV) (n:Nat),r=.F f n→bk p M (r.app s) (fun i=>if i<r.len then vs i else us (i-r.len)):=by
  rintro f n rfl;have e0:Row.app (.F f n) s=.F (fun i=>if Nat.blt i n then f i else if gV (s.get (qE s.len (i-n))) then jC (s.get (qE s.len (i-n))) else .undef) (n+s.len):=by cases s<;>rfl
  rw[e0];intro i hi;have hi':i<n+s.len:=hi;have hl:n≤i→qE s.len (i-n)=i-n:=fun h=>by
   unfold qE;split
   · rename_i h1;have:=Nat.eq_of_beq_eq_true h1;omega
   · rfl
  show al p Mu.no (if Nat.blt i n then f i else if gV (s.get (qE s.len (i-n))) then jC (s.get (qE s.len (i-n))) else .undef) (if i<n then vs i else us (i-n))∧(if i<n then vs i else us (i-n)).oneCell'=true;by_cases e:i<n
  · have hb:Nat.blt i n=true:=by rw[Nat.blt_eq];exact e
    rw[if_pos e,hb,if_pos rfl];exact h i e
  · have hb:Nat.blt i n=false:=by
     cases hb:Nat.blt i n with
     | false=>rfl
     | true=>rw[Nat.blt_eq] at hb;exact absurd hb e
    rw[if_neg e,hb,hl wO];simp only[Bool.false_eq_true,if_false];have hk:=k (i-n) wO;refine ⟨?_,hk.2⟩;split
    · rename_i hp;exact kr (mW hp hk.1)
    · exact .undef _
 have hM:yi r=true∨(yi s=true∧∃ k l,r=.I k l)→bk p M (r.app s) (fun i=>if i<r.len then vs i else us (i-r.len)):=by
  intro hc;rcases Row.JT hc with e | e
  · rw[e];exact hG
  · obtain ⟨q,hq⟩:∃ q,q=r.app s:=⟨_,rfl⟩
    rw[← hq] at e ⊢;obtain ⟨a,z,z',h1,h2,rfl⟩:=Row.u0 e;intro i hi;have hi:i<r.len+s.len:=hi;simp only[Row.get,getM,jo];rw[if_pos hi];by_cases e:i<r.len
    · simp only[if_pos e];have:=h i e;rw[h1 i e] at this;exact ⟨this.1.bu _ _,this.2⟩
    · simp only[if_neg e];have hi2:i-r.len<s.len:=by omega
      have:=k (i-r.len) hi2;rw[h2 _ hi2] at this;exact ⟨this.1.bu _ _,this.2⟩
 cases r<;>cases s;case M.I=>exact hM (.inl rfl)
 case M.G=>exact hM (.inl rfl)
 case M.F=>exact hM (.inl rfl)
 case M.M=>exact hM (.inl rfl)
 case I.M=>exact hM (.inr ⟨rfl,_,_,rfl⟩)
 case F.M=>exact hF _ _ rfl
 case F.I=>exact hF _ _ rfl
 case F.G=>exact hF _ _ rfl
 case F.F=>exact hF _ _ rfl
 case I.I a l a' l' =>
  simp only[Row.app]
  split
  · rename_i e
    subst e
    intro i hi
    have:=hG i (by simpa[Row.len,Row.toList] using hi)
    refine ⟨?_,this.2⟩
    have e2:Row.get (.G ((Row.I a' l).toList++(Row.I a' l').toList)) i=Row.get (.I a' (l++l')) i:=by
     simp only[Row.get,Row.toList];have hi':i<(l++l').length:=by simpa[Row.len] using hi
     rw[← List.map_append];simp only[List.getD_eq_getElem?_getD,List.getElem?_map,List.getElem?_eq_getElem hi',Option.map_some,Option.getD_some]
    rw[← e2]
    exact this.1
  · exact hG
 all_goals exact hG

theorem AV.iG {p:aG} {M:Mu} {v:AV} {c:Value} {r:Row} (h:al p M v c) (hr:v.row=some r):c.cells.size=r.len∧bk p M r (fun j=>c.cells.getD j Go.undef):=by
 cases h;case undef=>simp[AV.row] at hr
 case tup=>simp[AV.row] at hr
 case agg r' cs hs h1 hv =>
  simp only[AV.row,Option.some.injEq] at hr
  subst hr
  exact ⟨hs,fun j hj=>⟨hv j hj,h1 j hj⟩⟩
 case int k n =>
  simp only[AV.row,Option.some.injEq] at hr
  subst hr
  refine ⟨rfl,fun j hj=>?_⟩
  obtain rfl:j=0:=by simpa[Row.len] using hj
  exact ⟨.int _ _,rfl⟩
 all_goals
  simp only[AV.row,Option.some.injEq] at hr
  subst hr
  refine ⟨rfl,fun j hj=>?_⟩
  obtain rfl:j=0:=by simpa[Row.len] using hj
  refine ⟨?_,rfl⟩
  simp only[Row.get,jo,List.getD_cons_zero,Value.cells]
  first
   | exact .bool _
   | exact .str _
   | exact .nilp
   | exact .nils
   | exact .nilm
   | exact .nilf
   | (exact .ptr ‹_›)
   | (exact .ptrT _ ‹_› ‹_› ‹_›)
   | (exact .slc ‹_› ‹_› ‹_› ‹_› ‹_›)
   | (exact .slcT _ ‹_› ‹_› ‹_› ‹_› ‹_› ‹_›)
   | exact .slcN
   | (exact .map ‹_›)
   | (exact .yld ‹_›)
   | (exact .fn ‹_› ‹_› ‹_› ‹_›)

theorem AL (p:aG) (M:Mu) (c:Value):al p M (sf c) c:=by
 unfold sf;split
 · exact .bool _
 · exact .int _ _
 · exact .str _
 · exact .nilp
 · exact .nils
 · exact .nilm
 · exact .nilf
 · exact .undef _
theorem Ll {p:aG} {M:Mu} {l:List AV} {cs:Array Value} (hs:cs.size=l.length) (h:∀ j,j<l.length→al p M (l.getD j .undef) (cs.getD j Go.undef)∧(cs.getD j Go.undef).oneCell'=true) :
 al p M (.agg (Row.ofList l)) (.agg cs):=by
 refine .agg (by rw[Row.gu];exact hs) (fun j hj=>(h j (by rw[Row.gu] at hj;exact hj)).2) (fun j hj=>?_)
 rw[Row.gu] at hj
 rw[nS,Row.nX _ _ hj]
 exact (h j hj).1
theorem dE (p:aG) (M:Mu) (c:Value):al p M (kK c) c:=by
 cases c with
 | bool=>exact .bool _
 | int=>exact .int _ _
 | float=>exact .undef _
 | complex=>exact .undef _
 | string=>exact .str _
 | pointer a=>cases a<;>first | exact .nilp | exact .undef _
 | slice a n m =>
   cases a
   · cases n
     · cases m
       · exact .nils
       · exact .undef _
     · exact .undef _
   · exact .undef _
 | map r=>cases r<;>first | exact .nilm | exact .undef _
 | chan=>exact .undef _
 | nilFunc=>exact .nilf
 | iface=>exact .undef _
 | nilIface=>exact .undef _
 | func f ca cb =>
   cases f with
   | func g =>
     simp only[kK];split
     · rename_i h;simp at h;obtain ⟨rfl,rfl⟩:=h;exact .fn rfl rfl (fun j hj=>absurd hj (by simp)) (fun j hj=>absurd hj (by simp))
     · exact .undef _
   | _=>exact .undef _
 | tuple cs =>
   simp only[kK];split
   · rename_i h;simp at h;subst h;exact .tup rfl (fun j hj=>absurd hj (by simp))
   · exact .undef _
 | agg cs =>
   simp only[kK];split
   · rename_i hall;refine Ll (by simp) (fun j hj=>?_);have hj':j<cs.toList.length:=by simpa using hj
     have e1:(cs.toList.map sf).getD j .undef=sf (cs.getD j Go.undef):=by
      simp at hj';simp[hj']
     rw[e1];refine ⟨AL _ _ _,?_⟩;have:=List.all_eq_true.1 hall (cs.getD j Go.undef) (by simp at hj';simp[hj']);exact this
   · exact .undef _

structure bR (p:aG) (M:Mu) (nt:Nat) (fr:aC) (a:Act):Prop where
 size:a.tmps.size=nt
 at_:∀ x,al p M (bH fr x) (a.tmps.getD x undef)
theorem bR.mono {p q:aG} {M N:Mu} {nt:Nat} {fr:aC} {a:Act} (h:bR p M nt fr a) (hp:aG.le p q) (hM:Mu.le M N):bR q N nt fr a :=
 ⟨h.size,fun x=>(h.at_ x).mono hp hM⟩
theorem pL:∀ (fr:aC) (y:Nat) (u:AV) (x:Nat),bH (uz fr y u) x=if x=y then u else bH fr x
 | [],y,u,x=>by
   simp only[uz,bH];by_cases e:x=y
   · subst e;simp
   · simp[e,Ne.symm e]
 | (z, v)::r,y,u,x=>by
   simp only[uz];have ih:=pL r y u x;by_cases h1:y≤z
   · rw[if_pos (by simpa using h1)];by_cases h2:z=y
     · subst h2;simp only[Nat.beq_refl,if_true,bH];by_cases e:x=z
       · subst e;simp
       · simp[e,Ne.symm e]
     · rw[if_neg (by simpa using h2)];simp only[bH];by_cases e:x=y
       · subst e;simp
       · simp[e,Ne.symm e]
   · rw[if_neg (by simpa using h1)];simp only[bH,ih];by_cases e:z=x
     · subst e;have:¬ z=y:=by omega
       simp[this]
     · simp[e]
theorem bR.put {p:aG} {M:Mu} {nt:Nat} {fr:aC} {a:Act} (h:bR p M nt fr a) (dst:Option Tmp) {v:AV} {c:Value} (hv:al p M v c):bR p M nt (iF nt fr dst v) (a.put dst c):=by
 cases dst with
 | none=>exact h
 | some d =>
   refine ⟨by simp[Act.put,h.size],fun x=>?_⟩;have hx:=h.at_ x;simp only[iF,Act.put];by_cases hd:d<nt
   · rw [if_pos (by simpa[Nat.blt_eq] using hd),pL];by_cases e:x=d
     · subst e;rw[if_pos rfl];have:(a.tmps.setIfInBounds x c).getD x Go.undef=c:=by simp[h.size,hd]
       rw[this];exact hv
     · rw[if_neg e];have:(a.tmps.setIfInBounds d c).getD x Go.undef=a.tmps.getD x Go.undef:=by
        simp[Array.getElem?_setIfInBounds_ne (Ne.symm e)]
       rw[this];exact hx
   · rw[if_neg (by simpa[Nat.blt_eq] using hd)];have:a.tmps.setIfInBounds d c=a.tmps:=by
      apply Array.setIfInBounds_eq_of_size_le;rw[h.size];exact Nat.le_of_not_lt hd
     rw[this];exact hx
theorem sm (x:Nat) (v:AV) (r:aC) (m:Nat):bN ((x,v)::r) m=if iE m x then bN r m else (x,v)::bN r m:=by
 have e:bN ((x,v)::r) m=Bool.rec (motive:=fun _=>aC) ((x,v)::bN r m) (bN r m) (iE m x):=rfl;rw[e];cases iE m x<;>rfl
theorem vk:∀ (fr:aC) (m:Nat) (x:Nat),bH (bN fr m) x=.undef∨bH (bN fr m) x=bH fr x
 | [],m,x=>.inl rfl
 | (y,v)::r,m,x=>by
   have ih:=vk r m x;rw[sm];have key:∀ r:aC,iE m x=true→bH (bN r m) x=.undef:=by
    intro r hx;induction r with
    | nil=>rfl
    | cons p r ihr =>
      obtain ⟨z,u⟩:=p;rw[sm];cases hz:iE m z with
      | true=>exact ihr
      | false =>
        simp only[Bool.false_eq_true,if_false,bH];by_cases ez:z=x
        · subst ez;rw[hz] at hx;cases hx
        · rw[if_neg (by simpa using ez)];exact ihr
   cases hm:iE m y with
   | true =>
     simp only[if_true,bH];by_cases e2:y=x
     · subst e2;exact .inl (key r hm)
     · rw[if_neg (by simpa using e2)];exact ih
   | false =>
     simp only[Bool.false_eq_true,if_false,bH];by_cases e2:y=x
     · subst e2;right;simp
     · rw[if_neg (by simpa using e2),if_neg (by simpa using e2)];exact ih
theorem bR.kill {p:aG} {M:Mu} {nt:Nat} {fr:aC} {a:Act} (h:bR p M nt fr a) (ks:Nat):bR p M nt (bN fr ks) a :=
 ⟨h.size,fun x=>by
   rcases vk fr ks x with e | e
   · rw[e];exact .undef _
   · rw[e];exact h.at_ x⟩
theorem bR.bU {p:aG} {M:Mu} {nt:Nat} {fr:aC} {a:Act} (h:bR p M nt fr a) (x:Operand):al p M (bU fr x) (a.eval x):=by
 cases x with
 | tmp t=>exact h.at_ t
 | const v=>exact dE _ _ v
 | global g=>exact .undef _
 | func f=>exact .fn rfl rfl (fun j hj=>absurd hj (by simp)) (fun j hj=>absurd hj (by simp))

def jZ (ces:Array MapEntry) (clock:Nat):Prop:=(∀ j,(h:j<ces.size)→ces[j].born<clock)∧∀ i j,(hi:i<ces.size)→(hj:j<ces.size)→ces[i].born=ces[j].born→i=j
def eC:KK→List Int→AV
 | .num k,l=>.int k (l.headD 0)
 | .str _,l=>.agg (.I .i64 l)
def qV:KK→List Int→Bool
 | .num _,l=>Nat.beq l.length 1
 | .str n,l=>Nat.beq l.length n
structure qZ (q:KK) (es:List (AV×AV)) (h:List Int→Bool) (g:List Int→Int) (c:Nat):Prop where
 len:es.length=c
 ent:∀ j,j<es.length→∃ n,es.getD j (.undef,.undef)=(eC q n,.int .i64 (g n))∧h n=true
 all:∀ n,h n=true→qV q n=true∧∃ j,j<es.length∧(es.getD j (.undef,.undef)).1=eC q n
 off:∀ n,h n=false→g n=0
 nd:∀ i j,i<es.length→j<es.length→(es.getD i (.undef,.undef)).1=(es.getD j (.undef,.undef)).1→i=j
def fI (p:aG) (M:Mu) (B:an) (b o t:Nat) (w:World):Prop :=
 match B with
 | .dead=>True
 | .row r=>∃ c e,w.heap[b]?=some (.cells c e (0,0))∧c.size=t∧o+r.len≤t∧bk p M r (fun j=>c.getD (o+j) undef)
 | .map es=>∃ ces clock,w.heap[b]?=some (.map ces clock)∧ces.size=es.length∧jZ ces clock ∧
    ∀ j,(h:j<ces.size)→al p M ((es.getD j (.undef,.undef)).1) ces[j].key∧al p M ((es.getD j (.undef,.undef)).2) ces[j].val
 | .fmap q h g c=>∃ es,qZ q es h g c∧∃ ces clock,w.heap[b]?=some (.map ces clock)∧ces.size=es.length∧jZ ces clock ∧
    ∀ j,(h:j<ces.size)→al p M ((es.getD j (.undef,.undef)).1) ces[j].key∧al p M ((es.getD j (.undef,.undef)).2) ces[j].val
 | .loop l=>∃ r,w.heap[b]?=some (.loop r)∧r.state=l.state∧r.pending=l.pending∧r.params.toList=l.params∧r.assign=l.assign∧r.body=l.body ∧
    bR p M l.nt l.fr ⟨r.tmps,[]⟩

structure bn (p:aG) (M:Mu) (H:ab) (w:World):Prop where
 pers:∀ b o v,p b o=some v→w.cell? ⟨b,o,none⟩=some v
 live:∀ d i v B,az H d i=(v,B)→B≠.dead→∃ b o t,M d i v=some (b,o,t)∧fI p (M.up d) B b o t w∧∀ x,p b x=none
 apart:∀ d i v B d' i' v' B' b o t o' t',az H d i=(v,B)→B≠.dead→az H d' i'=(v',B')→B'≠.dead →
  M d i v=some (b,o,t)→M d' i' v'=some (b,o',t')→d=d'∧i=i'
 dom:∀ d i v t,M d i v=some t→i<ao H d∧((az H d i).2≠.dead→v≤(az H d i).1)

def bC (M:Mu) (H:ab) (b:Nat):Prop:=∀ d i v B,az H d i=(v,B)→B≠.dead→aK H d=false→∀ o t,M d i v≠some (b,o,t)

structure dB (K:Nat→Prop) (w w':World):Prop where
 os:w'.os=w.os
 tape:w'.tape=w.tape
 output:w'.output=w.output
 size:w.heap.size≤w'.heap.size
 block:∀ b,b<w.heap.size→K b→w'.heap[b]?=w.heap[b]?
theorem dB.refl (K:Nat→Prop) (w:World):dB K w w:=⟨rfl,rfl,rfl,Nat.le_refl _,fun _ _ _=>rfl⟩
theorem dB.trans {K K':Nat→Prop} {w w' w'':World} (h:dB K w w') (k:dB K' w' w'') (hK:∀ b,b<w.heap.size→K b→K' b):dB K w w'' :=
 ⟨k.os.trans h.os,k.tape.trans h.tape,k.output.trans h.output,Nat.le_trans h.size k.size,fun b hb hk=>(k.block b (Nat.lt_of_lt_of_le hb h.size) (hK b hb hk)).trans (h.block b hb hk)⟩

theorem fI.lt {p:aG} {M:Mu} {B:an} {b o t:Nat} {w:World} (h:fI p M B b o t w) (hB:B≠.dead):b<w.heap.size:=by
 have key:∀ {x:Obj},w.heap[b]?=some x→b<w.heap.size:=fun e=>(Array.getElem?_eq_some_iff.1 e).1;cases B with
 | dead=>exact absurd rfl hB
 | row r=>obtain ⟨_,_,e,_⟩:=h;exact key e
 | map es=>obtain ⟨_,_,e,_⟩:=h;exact key e
 | fmap q f g c=>obtain ⟨_,_,_,_,e,_⟩:=h;exact key e
 | loop l=>obtain ⟨_,e,_⟩:=h;exact key e
theorem fI.mono {p q:aG} {M N:Mu} {B:an} {b o t:Nat} {w w':World} (h:fI p M B b o t w) (hp:aG.le p q) (hM:Mu.le M N) (e:w'.heap[b]?=w.heap[b]?):fI q N B b o t w':=by
 cases B with
 | dead=>trivial
 | row r =>
   obtain ⟨c,el,h1,h2,h3,h4⟩:=h;exact ⟨c,el,e.trans h1,h2,h3,fun j hj=>⟨(h4 j hj).1.mono hp (hM.jo _),(h4 j hj).2⟩⟩
 | map es =>
   obtain ⟨c,cl,h1,h2,h4,h3⟩:=h;exact ⟨c,cl,e.trans h1,h2,h4,fun j hj=>⟨(h3 j hj).1.mono hp hM,(h3 j hj).2.mono hp hM⟩⟩
 | fmap kq f g n =>
   obtain ⟨es,hE,c,cl,h1,h2,h4,h3⟩:=h;exact ⟨es,hE,c,cl,e.trans h1,h2,h4,fun j hj=>⟨(h3 j hj).1.mono hp hM,(h3 j hj).2.mono hp hM⟩⟩
 | loop l =>
   obtain ⟨r,h1,h2,h3,h4,h5,h6,h7⟩:=h;exact ⟨r,e.trans h1,h2,h3,h4,h5,h6,h7.mono hp hM⟩
theorem Ge {p:aG} {M:Mu} (q:aG) (N:Mu) {kq:KK} {n:List Int} {c:Value} (h:al p M (eC kq n) c):al q N (eC kq n) c:=by
 cases kq with
 | num k=>exact al.bu (k:=k) q N h
 | str m =>
   unfold eC at *;cases h with
   | agg hs h1 hv=>exact .agg hs h1 (fun j hj=>(hv j hj).bu _ _)
theorem xX {p:aG} {M:Mu} (q:aG) (N:Mu) {kq:KK} {f:List Int→Bool} {g:List Int→Int} {n b o t:Nat} {w:World} (h:fI p M (.fmap kq f g n) b o t w):fI q N (.fmap kq f g n) b o t w:=by
 obtain ⟨es,hE,c,cl,h1,h2,h4,h3⟩:=h;refine ⟨es,hE,c,cl,h1,h2,h4,fun j hj=>?_⟩;have:=h3 j hj;obtain ⟨m,e,_⟩:=hE.ent j wO;rw[e] at this ⊢;exact ⟨Ge _ _ this.1,this.2.bu _ _⟩

theorem mn:∀ (l:List (Nat×an)) (x:Nat×an) (i:Nat),aq (l++[x]) i=if i=l.length then x else aq l i
 | [],x,0=>rfl
 | [],x,i+1=>rfl
 | b::l,x,0=>by simp[aq]
 | b::l,x,i+1=>by simp[aq,mn l x i]
theorem tj:∀ (l:List (Nat×an)) (k:Nat) (x:Nat×an) (i:Nat),aq (bK l k x) i=if i=k∧k<l.length then x else aq l i
 | [],k,x,i=>by simp[bK]
 | b::l,0,x,0=>by simp[bK,aq]
 | b::l,0,x,i+1=>by simp[bK,aq]
 | b::l,k+1,x,0=>by simp[bK,aq]
 | b::l,k+1,x,i+1=>by simp[bK,aq,tj l k x i]
theorem np:∀ (l:List (Nat×an)) (k:Nat) (x:Nat×an),(bK l k x).length=l.length
 | [],_,_=>rfl
 | _::_,0,_=>rfl
 | _::l,k+1,x=>by simp[bK,np l k x]
theorem vD:∀ {l:List (Nat×an)} {i:Nat},(aq l i).2≠.dead→i<l.length
 | [],_,h=>by simp[aq] at h
 | _::_,0,_=>by simp
 | _::l,i+1,h=>by have:=vD (l:=l) (i:=i) h;simpa using this
theorem kR:∀ {H:ab} {d i:Nat},(az H d i).2≠.dead→i<ao H d
 | [],_,_,h=>by simp[az] at h
 | l::r,0,i,h=>vD h
 | l::r,d+1,i,h=>kR (H:=r) h
theorem bp (H:ab):ao H 0=aW H:=by cases H<;>rfl
theorem iM (H:ab) (b:an) (d i:Nat):az (jy H b) d i=if d=0∧i=aW H then (0,b) else az H d i:=by
 cases H with
 | nil=>cases d<;>cases i<;>simp[jy,az,aq,aW]
 | cons l r=>cases d<;>simp[jy,az,aW,mn]
theorem fV (H:ab) (b:an) (d:Nat):ao (jy H b) d=if d=0 then aW H+1 else ao H d:=by
 cases H with
 | nil=>cases d<;>simp[jy,ao,aW]
 | cons l r=>cases d<;>simp[jy,ao,aW]
theorem nE (H:ab) (hH:H≠[]) (b:an) (d:Nat):aK (jy H b) d=aK H d:=by
 cases H with
 | nil=>exact absurd rfl hH
 | cons l r=>cases d<;>rfl
theorem dV:∀ (H:ab) (d i:Nat) (x:Nat×an) (d' i':Nat),az (dG H d i x) d' i'=if d'=d∧i'=i∧i<ao H d then x else az H d' i'
 | [],d,i,x,d',i'=>by simp[dG,ao]
 | l::r,0,i,x,0,i'=>by simp[dG,az,ao,tj]
 | l::r,0,i,x,d'+1,i'=>by simp[dG,az]
 | l::r,d+1,i,x,0,i'=>by simp[dG,az]
 | l::r,d+1,i,x,d'+1,i'=>by simp[dG,az,ao,dV r d i x d' i']
theorem cE:∀ (H:ab) (d i:Nat) (x:Nat×an) (d':Nat),ao (dG H d i x) d'=ao H d'
 | [],_,_,_,_=>rfl
 | l::r,0,i,x,0=>by simp[dG,ao,np]
 | l::r,0,i,x,d'+1=>rfl
 | l::r,d+1,i,x,0=>rfl
 | l::r,d+1,i,x,d'+1=>cE r d i x d'
theorem fD:∀ (H:ab) (d i:Nat) (x:Nat×an) (d':Nat),aK (dG H d i x) d'=aK H d'
 | [],_,_,_,_=>rfl
 | l::r,0,i,x,0=>rfl
 | l::r,0,i,x,d'+1=>rfl
 | l::r,d+1,i,x,0=>rfl
 | l::r,d+1,i,x,d'+1=>fD r d i x d'
theorem iB:∀ (H:ab) (d i:Nat),az (bE H) d i=az H d i
 | [],_,_=>rfl
 | l::r,0,i=>rfl
 | l::r,d+1,i=>iB r d i
theorem fm:∀ (H:ab) (d:Nat),ao (bE H) d=ao H d
 | [],_=>rfl
 | l::r,0=>rfl
 | l::r,d+1=>fm r d
theorem b5:∀ (H:ab) (d:Nat),aK (bE H) d=true
 | [],_=>rfl
 | l::r,0=>rfl
 | l::r,d+1=>b5 r d

def bw (M:Mu) (d i v:Nat) (t:Nat×Nat×Nat):Mu:=fun d' i' v'=>if d'=d∧i'=i∧v'=v then some t else M d' i' v'
theorem ko {M:Mu} {d i v:Nat} {t:Nat×Nat×Nat} (h:∀ u,M d i v=some u→u=t):Mu.le M (bw M d i v t):=by
 intro d' i' v' u hu;simp only[bw];split
 · rename_i e;obtain ⟨rfl,rfl,rfl⟩:=e;rw[h u hu]
 · exact hu

def iR (w:World) (M:Mu) (H:ab) (M':Mu) (H':ab):Prop:=∀ b,b<w.heap.size→bC M H b→bC M' H' b
theorem iR.refl (w:World) (M:Mu) (H:ab):iR w M H M H:=fun _ _ h=>h

structure ct (p:aG) (M:Mu) (H:ab) (w:World) (p':aG) (M':Mu) (H':ab) (w':World):Prop where
 pst:aG.le p p'
 mu:Mu.le M M'
 rel:bn p' M' H' w'
 stay:dB (Go.Eng.bC M H) w w'
 bC:iR w M H M' H'
 fresh:∀ b o v,p' b o=some v→p b o=some v∨w.heap.size≤b∨(aK H 0=false∧∃ i u o' t',M 0 i u=some (b,o',t'))
 own:∀ d i v b o t,M' d i v=some (b,o,t)→w.heap.size≤b∨∃ d' i' v' o' t',d'≤d∧M d' i' v'=some (b,o',t')
 lock:∀ d,aK H' d=aK H d
 same:∀ d i,d≠0→aK H d=true→az H' d i=az H d i
 next:∀ d,d≠0→aK H d=true→ao H' d=ao H d
 len:H'.length=H.length
 grow:∀ d,ao H d≤ao H' d
 new:∀ d i v t,M' d i v=some t→M d i v=some t∨ao H d≤i∨aK H d=false

theorem ct.trans {p p' p'':aG} {M M' M'':Mu} {H H' H'':ab} {w w' w'':World} (h:ct p M H w p' M' H' w') (k:ct p' M' H' w' p'' M'' H'' w''):ct p M H w p'' M'' H'' w'' where
 pst:=h.pst.trans k.pst
 mu:=h.mu.trans k.mu
 rel:=k.rel
 stay:=h.stay.trans k.stay (fun b hb hk=>h.bC b hb hk)
 bC:=fun b hb hk=>k.bC b (Nat.lt_of_lt_of_le hb h.stay.size) (h.bC b hb hk)
 fresh:=fun b o v hv=>by
  rcases k.fresh b o v hv with h1 | h1 | ⟨hl,i,u,o',t',h1⟩
  · exact h.fresh b o v h1
  · exact .inr (.inl (Nat.le_trans h.stay.size h1))
  · rcases h.own 0 i u b o' t' h1 with h2 | ⟨d2,i2,v2,o2,t2,hd2,h2⟩
    · exact .inr (.inl h2)
    · obtain rfl:d2=0:=by omega
      exact .inr (.inr ⟨by rw[← h.lock];exact hl,i2,v2,o2,t2,h2⟩)
 own:=fun d i v b o t hm=>by
  rcases k.own d i v b o t hm with h1 | ⟨d',i',v',o',t',hd,h1⟩
  · exact .inl (Nat.le_trans h.stay.size h1)
  · rcases h.own _ _ _ _ _ _ h1 with h2 | ⟨d2,i2,v2,o2,t2,hd2,h2⟩
    · exact .inl h2
    · exact .inr ⟨d2,i2,v2,o2,t2,Nat.le_trans hd2 hd,h2⟩
 lock:=fun d=>(k.lock d).trans (h.lock d)
 same:=fun d i hd hl=>(k.same d i hd (by rw[h.lock];exact hl)).trans (h.same d i hd hl)
 next:=fun d hd hl=>(k.next d hd (by rw[h.lock];exact hl)).trans (h.next d hd hl)
 len:=k.len.trans h.len
 grow:=fun d=>Nat.le_trans (h.grow d) (k.grow d)
 new:=fun d i v t hm=>by
  rcases k.new d i v t hm with h1 | h1 | h1
  · exact h.new d i v t h1
  · exact .inr (.inl (Nat.le_trans (h.grow d) h1))
  · exact .inr (.inr (by rw[← h.lock];exact h1))
theorem ct.refl {p:aG} {M:Mu} {H:ab} {w:World} (h:bn p M H w):ct p M H w p M H w where
 pst:=aG.le.refl _
 mu:=Mu.le.refl _
 rel:=h
 stay:=dB.refl _ _
 bC:=iR.refl _ _ _
 fresh:=fun b o v hv=>.inl hv
 own:=fun d i v b o t hm=>.inr ⟨d,i,v,o,t,Nat.le_refl _,hm⟩
 lock:=fun _=>rfl
 same:=fun _ _ _ _=>rfl
 next:=fun _ _ _=>rfl
 len:=rfl
 grow:=fun _=>Nat.le_refl _
 new:=fun _ _ _ _ hm=>.inl hm

def eM (p:aG) (M:Mu) (H:ab) (nx:Nat) (v:AV) (δ:Delta) (cv:Value) (w w':World):Prop :=
 match δ with
 | .bC=>al p M v cv∧dB (fun _=>True) w w'
 | .push B=>∃ t,B≠.dead∧al p (bw M 0 nx 0 (w.heap.size,0,t)) v cv∧fI p M B w.heap.size 0 t w'∧dB (fun _=>True) w w'
 | .set d i (ver',B')=>∃ ver B b o t b' o' t',az H d i=(ver,B)∧B≠.dead∧aK H d=false∧M d i ver=some (b,o,t)∧B'≠.dead ∧
    fI p (M.up d) B' b' o' t' w'∧dB (fun x=>x≠b) w w'∧(b'=b∨w.heap.size≤b')∧al p (bw M d i ver' (b',o',t')) v cv ∧
    ((ver'=ver∧b'=b∧o'=o∧t'=t)∨ver<ver')
 | .heap H'=>∃ p' M',ct p M H w p' M' H' w'∧al p' M' v cv

theorem bn.stay {p:aG} {M:Mu} {H:ab} {w w':World} (h:bn p M H w) (hs:dB (fun _=>True) w w'):bn p M H w' where
 pers:=fun b o v hp=>by
  have:=h.pers b o v hp;have hb:b<w.heap.size:=World.block_lt_of_cell? w _ this;rw[← this];exact World.cell?_of_block (w:=w) (hs.block b hb trivial)
 live:=fun d i v B hg hB=>by
  obtain ⟨b,o,t,h1,h2,h3⟩:=h.live d i v B hg hB;exact ⟨b,o,t,h1,h2.mono (aG.le.refl _) (Mu.le.refl _) (hs.block b (h2.lt hB) trivial),h3⟩
 apart:=h.apart
 dom:=h.dom

theorem dB.weaken {K K':Nat→Prop} {w w':World} (h:dB K w w') (hk:∀ b,b<w.heap.size→K' b→K b):dB K' w w' :=
 ⟨h.os,h.tape,h.output,h.size,fun b hb k=>h.block b hb (hk b hb k)⟩

theorem bn.push {p:aG} {M:Mu} {H:ab} {w w':World} {B:an} {t:Nat} (h:bn p M H w) (hB:B≠.dead) (hb:fI p M B w.heap.size 0 t w') (hs:dB (fun _=>True) w w') (hnew:w.heap.size<w'.heap.size) :
 Mu.le M (bw M 0 (aW H) 0 (w.heap.size,0,t))∧bn p (bw M 0 (aW H) 0 (w.heap.size,0,t)) (jy H B) w':=by
 have hle:Mu.le M (bw M 0 (aW H) 0 (w.heap.size,0,t)):=ko fun u hu=>by
  have:=(h.dom _ _ _ _ hu).1;rw[bp] at this;omega
 have h':=h.stay hs
 refine ⟨hle,⟨h'.pers,?_,?_,?_⟩⟩
 · intro d i v B' hg hB'
   rw[iM] at hg
   split at hg
   · rename_i e
     obtain ⟨rfl,rfl⟩:=e
     simp only[Prod.mk.injEq] at hg
     obtain ⟨rfl,rfl⟩:=hg
     refine ⟨w.heap.size,0,t,by simp[bw],hb.mono (aG.le.refl _) hle rfl,fun x=>?_⟩
     cases hx:p w.heap.size x with
     | none=>rfl
     | some u=>have:=World.block_lt_of_cell? w _ (h.pers _ _ _ hx);simp at this
   · obtain ⟨b,o,t',h1,h2,h3⟩:=h'.live d i v B' hg hB'
     exact ⟨b,o,t',hle _ _ _ _ h1,h2.mono (aG.le.refl _) (hle.up d) rfl,h3⟩
 · intro d i v B1 d' i' v' B2 b o t1 o' t2 hg hB1 hg' hB2 hm hm'
   rw[iM] at hg hg'
   simp only[bw] at hm hm'
   split at hg
   · rename_i e
     obtain ⟨rfl,rfl⟩:=e
     simp only[Prod.mk.injEq] at hg
     obtain ⟨rfl,rfl⟩:=hg
     simp at hm
     split at hg'
     · rename_i e';exact ⟨e'.1.symm,e'.2.symm⟩
     · rename_i e'
       rw[if_neg (fun e=>e' ⟨e.1,e.2.1⟩)] at hm'
       obtain ⟨b'',o'',t'',k1,k2,_⟩:=h.live d' i' v' B2 hg' hB2
       rw[k1] at hm'
       simp only[nP] at hm'
       have:=k2.lt hB2
       omega
   · rename_i e
     rw[if_neg (fun x=>e ⟨x.1,x.2.1⟩)] at hm
     split at hg'
     · rename_i e'
       obtain ⟨rfl,rfl⟩:=e'
       simp only[Prod.mk.injEq] at hg'
       obtain ⟨rfl,rfl⟩:=hg'
       simp at hm'
       obtain ⟨b'',o'',t'',k1,k2,_⟩:=h.live d i v B1 hg hB1
       rw[k1] at hm
       simp only[nP] at hm
       have:=k2.lt hB1
       omega
     · rename_i e'
       rw[if_neg (fun x=>e' ⟨x.1,x.2.1⟩)] at hm'
       exact h.apart d i v B1 d' i' v' B2 b o t1 o' t2 hg hB1 hg' hB2 hm hm'
 · intro d i v u hu
   simp only[bw] at hu
   rw[fV,iM]
   split at hu
   · rename_i e
     obtain ⟨rfl,rfl,rfl⟩:=e
     simp
   · have:=h.dom d i v u hu
     by_cases hd:d=0
     · subst hd
       rw[bp] at this
       have hne:¬ (0=0∧i=aW H):=by omega
       rw[if_neg hne,if_pos rfl]
       exact ⟨by omega,this.2⟩
     · rw[if_neg hd,if_neg (fun e=>hd e.1)];exact this

theorem iR.push {p:aG} {M:Mu} {H:ab} {w:World} {B:an} {t:Nat} (h:bn p M H w) (hH:H≠[]):iR w M H (bw M 0 (aW H) 0 (w.heap.size,0,t)) (jy H B):=by
 intro b hb hk d i v B' hg hB' hl o t' hm;rw[iM] at hg;rw[nE H hH] at hl;simp only[bw] at hm;split at hg
 · rename_i e;obtain ⟨rfl,rfl⟩:=e;simp only[Prod.mk.injEq] at hg;obtain ⟨rfl,rfl⟩:=hg;simp at hm;omega
 · rename_i e;rw[if_neg (fun x=>e ⟨x.1,x.2.1⟩)] at hm;exact hk d i v B' hg hB' hl o t' hm

theorem bn.fB {p:aG} {M:Mu} {H:ab} {w w':World} {d i ver ver':Nat} {B B':an} {b o t b' o' t':Nat} (h:bn p M H w) (hg:az H d i=(ver,B)) (hB:B≠.dead)
 (hm:M d i ver=some (b,o,t)) (hB':B'≠.dead) (hb:fI p (M.up d) B' b' o' t' w') (hs:dB (fun x=>x≠b) w w') (hx:b'=b∨w.heap.size≤b')
 (hv:(ver'=ver∧b'=b∧o'=o∧t'=t)∨ver<ver') :
 Mu.le M (bw M d i ver' (b',o',t'))∧bn p (bw M d i ver' (b',o',t')) (dG H d i (ver',B')) w':=by
 have hlt:i<ao H d:=kR (by rw[hg];exact hB)
 have hle:Mu.le M (bw M d i ver' (b',o',t')):=ko fun u hu=>by
  rcases hv with ⟨rfl,rfl,rfl,rfl⟩ | hv
  · rw[hm] at hu;exact (Option.some.inj hu).symm
  · have:=(h.dom _ _ _ _ hu).2 (by rw[hg];exact hB);rw[hg] at this;simp only at this;omega
 obtain ⟨b0,o0,t0,k1,k2,k3⟩:=h.live d i ver B hg hB
 rw[hm] at k1
 simp only[nP] at k1
 obtain ⟨rfl,rfl,rfl⟩:=k1
 have hbs:b<w.heap.size:=k2.lt hB
 have hpn:∀ x u,p b' x=some u→False:=by
  intro x u hu;rcases hx with rfl | hx
  · rw[k3 x] at hu;cases hu
  · have:=World.block_lt_of_cell? w _ (h.pers _ _ _ hu);simp at this;omega
 refine ⟨hle,⟨?_,?_,?_,?_⟩⟩
 · intro b1 o1 v1 hp
   have hc:=h.pers b1 o1 v1 hp
   have hb1:b1<w.heap.size:=World.block_lt_of_cell? w _ hc
   have hne:b1≠b:=fun e=>by subst e;rw[k3 o1] at hp;cases hp
   rw[← hc]
   exact World.cell?_of_block (w:=w) (hs.block b1 hb1 hne)
 · intro d1 i1 v1 B1 hg1 hB1
   rw[dV] at hg1
   split at hg1
   · rename_i e
     obtain ⟨rfl,rfl,_⟩:=e
     simp only[Prod.mk.injEq] at hg1
     obtain ⟨rfl,rfl⟩:=hg1
     refine ⟨b',o',t',by simp[bw],hb.mono (aG.le.refl _) (hle.up _) rfl,fun x=>?_⟩
     cases hpx:p b' x with
     | none=>rfl
     | some u=>exact (hpn x u hpx).elim
   · rename_i e
     obtain ⟨b1,o1,t1,j1,j2,j3⟩:=h.live d1 i1 v1 B1 hg1 hB1
     refine ⟨b1,o1,t1,hle _ _ _ _ j1,j2.mono (aG.le.refl _) (hle.up _) (hs.block b1 (j2.lt hB1) (fun e1=>?_)),j3⟩
     subst e1
     have:=h.apart d1 i1 v1 B1 d i ver B b1 o1 t1 o t hg1 hB1 hg hB j1 hm
     exact e ⟨this.1,this.2,hlt⟩
 · intro d1 i1 v1 B1 d2 i2 v2 B2 bb o1 t1 o2 t2 hg1 hB1 hg2 hB2 hm1 hm2
   rw[dV] at hg1 hg2
   simp only[bw] at hm1 hm2
   have other:∀ (d3 i3 v3:Nat) (B3:an) (b3 o3 t3:Nat),az H d3 i3=(v3,B3)→B3≠.dead→M d3 i3 v3=some (b3,o3,t3)→b3=b'→d3=d∧i3=i:=by
    clear hm1 hm2 hg1 hg2;intro d3 i3 v3 B3 b3 o3 t3 hg3 hB3 hm3 e;rcases hx with rfl | hx
    · subst e;exact h.apart d3 i3 v3 B3 d i ver B b3 o3 t3 o t hg3 hB3 hg hB hm3 hm
    · obtain ⟨b4,o4,t4,j1,j2,_⟩:=h.live d3 i3 v3 B3 hg3 hB3;rw[hm3] at j1;simp only[nP] at j1;have:=j2.lt hB3;omega
   split at hg1
   · rename_i e1
     obtain ⟨rfl,rfl,_⟩:=e1
     simp only[Prod.mk.injEq] at hg1
     obtain ⟨rfl,rfl⟩:=hg1
     simp at hm1
     split at hg2
     · rename_i e2;exact ⟨e2.1.symm,e2.2.1.symm⟩
     · rename_i e2
       rw[if_neg (fun x=>e2 ⟨x.1,x.2.1,hlt⟩)] at hm2
       have:=other d2 i2 v2 B2 bb o2 t2 hg2 hB2 hm2 hm1.1.symm
       exact ⟨this.1.symm,this.2.symm⟩
   · rename_i e1
     rw[if_neg (fun x=>e1 ⟨x.1,x.2.1,hlt⟩)] at hm1
     split at hg2
     · rename_i e2
       obtain ⟨rfl,rfl,_⟩:=e2
       simp only[Prod.mk.injEq] at hg2
       obtain ⟨rfl,rfl⟩:=hg2
       simp at hm2
       exact other d1 i1 v1 B1 bb o1 t1 hg1 hB1 hm1 hm2.1.symm
     · rename_i e2
       rw[if_neg (fun x=>e2 ⟨x.1,x.2.1,hlt⟩)] at hm2
       exact h.apart d1 i1 v1 B1 d2 i2 v2 B2 bb o1 t1 o2 t2 hg1 hB1 hg2 hB2 hm1 hm2
 · intro d1 i1 v1 u hu
   simp only[bw] at hu
   rw[cE,dV]
   split at hu
   · rename_i e
     obtain ⟨rfl,rfl,rfl⟩:=e
     rw[if_pos ⟨rfl,rfl,hlt⟩]
     exact ⟨hlt,fun _=>Nat.le_refl _⟩
   · have:=h.dom d1 i1 v1 u hu
     refine ⟨this.1,?_⟩
     split
     · rename_i e
       obtain ⟨rfl,rfl,_⟩:=e
       intro _
       have:=this.2 (by rw[hg];exact hB)
       rw[hg] at this
       simp only at this ⊢
       rcases hv with ⟨rfl,_⟩ | hv<;>omega
     · exact this.2

theorem vp (H:ab) (hH:H≠[]) (b:an):(jy H b).length=H.length:=by
 cases H with
 | nil=>exact absurd rfl hH
 | cons l r=>rfl
theorem l9:∀ (H:ab) (d i:Nat) (x:Nat×an),(dG H d i x).length=H.length
 | [],_,_,_=>rfl
 | l::r,0,_,_=>rfl
 | l::r,d+1,i,x=>by simp[dG,l9 r d i x]

theorem sh {p:aG} {M:Mu} {H:ab} {w w':World} {v:AV} {δ:Delta} {cv:Value} (hH:H≠[]) (h:bn p M H w) (hd:eM p M H (aW H) v δ cv w w') :
 ∃ p' M',ct p M H w p' M' (δ.on H) w'∧al p' M' v cv∧((∀ X,δ≠.heap X)→p'=p∧∀ d1 i1,(∀ v,M d1 i1 v=none)→i1<ao H d1→∀ v,M' d1 i1 v=none):=by
 cases δ with
 | bC=>exact ⟨p,M,{ ct.refl h with rel:=h.stay hd.2,stay:=hd.2.weaken (fun _ _ _=>trivial) },hd.1,fun _=>⟨rfl,fun _ _ h _=>h⟩⟩
 | push B =>
   obtain ⟨t,hB,hv,hb,hs⟩:=hd
   have hnew:=hb.lt hB
   obtain ⟨h1,h2⟩:=h.push hB hb hs hnew
   refine ⟨p,_,⟨aG.le.refl _,h1,h2,hs.weaken (fun _ _ _=>trivial),iR.push h hH,fun b o v hv=>.inl hv,?_,fun d=>nE H hH B d,?_,?_,vp H hH B,fun d=>by {
    simp only[Delta.on]
    rw[fV]
    by_cases e:d=0
    · subst e
      rw[bp]
      simp
    · rw[if_neg e]
      exact Nat.le_refl _ },fun d i v u hm=>?_⟩,hv,fun _=>⟨rfl,fun d1 i1 h0 hlt u=>?_⟩⟩
   · intro d i v b o t' hm
     simp only[bw] at hm
     split at hm
     · simp only[nP] at hm
       exact .inl wO
     · exact .inr ⟨_,_,_,_,_,Nat.le_refl _,hm⟩
   · intro d i hd0 _
     simp only[Delta.on]
     rw[iM,if_neg (fun e=>hd0 e.1)]
   · intro d hd0 _
     simp only[Delta.on]
     rw[fV,if_neg hd0]
   · simp only[bw] at hm
     split at hm
     · rename_i e;obtain ⟨rfl,rfl,rfl⟩:=e
       exact .inr (.inl (by rw[bp];exact Nat.le_refl _))
     · exact .inl hm
   · simp only[bw]
     rw[if_neg]
     · exact h0 u
     · rintro ⟨rfl,rfl,_⟩
       rw[bp] at hlt;exact Nat.lt_irrefl _ hlt
 | set d i x =>
   obtain ⟨ver',B'⟩:=x
   obtain ⟨ver,B,b,o,t,b',o',t',hg,hB,hl,hm,hB',hb,hs,hx,hv,hver⟩:=hd
   obtain ⟨h1,h2⟩:=h.fB hg hB hm hB' hb hs hx hver
   refine ⟨p,_,⟨aG.le.refl _,h1,h2,hs.weaken (fun x _ hk e=>hk d i ver B hg hB hl o t (by rw[e];exact hm)),?_,fun b o v hv=>.inl hv,?_,fun d'=>fD _ _ _ _ _,?_,fun d' _ _=>cE _ _ _ _ _,l9 _ _ _ _,fun d'=>Nat.le_of_eq (cE _ _ _ _ _).symm,fun d1 i1 v1 u hm1=>?_⟩,hv,fun _=>⟨rfl,fun d1 i1 h0 hlt u=>?_⟩⟩
   · intro x hxs hk d1 i1 v1 B1 hg1 hB1 hl1 o1 t1 hm1
     simp only[Delta.on] at hg1 hl1
     rw[fD] at hl1
     rw[dV] at hg1
     simp only[bw] at hm1
     have hlt:i<ao H d:=kR (by rw[hg];exact hB)
     split at hg1
     · rename_i e
       obtain ⟨rfl,rfl,_⟩:=e
       simp only[Prod.mk.injEq] at hg1
       obtain ⟨rfl,rfl⟩:=hg1
       simp at hm1
       rcases hx with rfl | hx
       · exact hk d1 i1 ver B hg hB hl o t (by rw[hm,hm1.1])
       · omega
     · rename_i e
       rw[if_neg (fun x=>e ⟨x.1,x.2.1,hlt⟩)] at hm1
       exact hk d1 i1 v1 B1 hg1 hB1 hl1 o1 t1 hm1
   · intro d1 i1 v1 b1 o1 t1 hm1
     simp only[bw] at hm1
     split at hm1
     · rename_i e
       obtain ⟨rfl,rfl,rfl⟩:=e
       simp only[nP] at hm1
       obtain ⟨rfl,rfl,rfl⟩:=hm1
       rcases hx with rfl | hx
       · exact .inr ⟨_,_,_,_,_,Nat.le_refl _,hm⟩
       · exact .inl hx
     · exact .inr ⟨_,_,_,_,_,Nat.le_refl _,hm1⟩
   · intro d1 i1 _ hl1
     simp only[Delta.on]
     rw[dV,if_neg]
     rintro ⟨rfl,_,_⟩
     rw[hl] at hl1
     simp at hl1
   · simp only[bw] at hm1
     split at hm1
     · rename_i e;obtain ⟨rfl,rfl,rfl⟩:=e
       exact .inr (.inr hl)
     · exact .inl hm1
   · simp only[bw]
     rw[if_neg]
     · exact h0 u
     · rintro ⟨rfl,rfl,_⟩
       rw[h0 ver] at hm;cases hm
 | heap H' =>
   obtain ⟨p',M',h1,h2⟩:=hd
   exact ⟨p',M',h1,h2,fun hx=>absurd rfl (hx _)⟩

theorem rf {p:aG} {M:Mu} {H:ab} {w w':World} {v:AV} {δ:Delta} {cv:Value} (hH:H≠[]) (h:bn p M H w) (hd:eM p M H (aW H) v δ cv w w') :
 ∃ p' M',ct p M H w p' M' (δ.on H) w'∧al p' M' v cv:=by
 obtain ⟨p',M',h1,h2,_⟩:=sh hH h hd
 exact ⟨p',M',h1,h2⟩

theorem eP (H:ab) (d i d' i':Nat):az (dW H d i) d' i'=if d'=d∧i'=i then ((az H d i).1,.dead) else az H d' i':=by
 unfold dW;rw[dV];by_cases e:d'=d∧i'=i
 · obtain ⟨rfl,rfl⟩:=e;by_cases hlt:i'<ao H d'
   · simp[hlt]
   · rw[if_neg (fun x=>hlt x.2.2),if_pos ⟨rfl,rfl⟩];have:(az H d' i').2=.dead:=Classical.byContradiction fun hn=>hlt (kR hn);rw[← this]
 · rw[if_neg (fun x=>e ⟨x.1,x.2.1⟩),if_neg e]
theorem bn.kill {p:aG} {M:Mu} {H:ab} {w:World} (h:bn p M H w) (d i:Nat):bn p M (dW H d i) w where
 pers:=h.pers
 live:=fun d1 i1 v B hg hB=>by
  rw[eP] at hg;split at hg
  · simp only[Prod.mk.injEq] at hg;exact absurd hg.2.symm hB
  · exact h.live d1 i1 v B hg hB
 apart:=fun d1 i1 v1 B1 d2 i2 v2 B2 b o1 t1 o2 t2 hg1 hB1 hg2 hB2 hm1 hm2=>by
  rw[eP] at hg1 hg2;split at hg1
  · simp only[Prod.mk.injEq] at hg1;exact absurd hg1.2.symm hB1
  · split at hg2
    · simp only[Prod.mk.injEq] at hg2;exact absurd hg2.2.symm hB2
    · exact h.apart d1 i1 v1 B1 d2 i2 v2 B2 b o1 t1 o2 t2 hg1 hB1 hg2 hB2 hm1 hm2
 dom:=fun d1 i1 v u hu=>by
  have:=h.dom d1 i1 v u hu;unfold dW;rw[cE];refine ⟨this.1,?_⟩;have e:=eP H d i d1 i1;unfold dW at e;rw[e];split
  · exact fun hne=>absurd rfl hne
  · exact this.2
theorem iR.kill (w:World) (M:Mu) (H:ab) (d i:Nat):iR w M H M (dW H d i):=by
 intro b _ hk d1 i1 v B hg hB hl o t hm;rw[eP] at hg;unfold dW at hl;rw[fD] at hl;split at hg
 · simp only[Prod.mk.injEq] at hg;exact absurd hg.2.symm hB
 · exact hk d1 i1 v B hg hB hl o t hm

end Go.Eng
