/- The engine, part A: abstract values, the abstract heap, the abstract interpreter. No statement is proved here. -/
import Derived.RangeFuncLeaves
import Derived.Test.YtgphpjdchnfjlaaDoorV6EngGl
import Derived.OrdersIn
import Derived.RangeFuncRecord
namespace Go.Eng
theorem wO {p:Prop} (h:p:=by omega):p:=h
theorem nP:(∀ {α:Type} (a b:α),(some a=some b)=(a=b))∧(∀ {α β:Type} (a c:α) (b d:β),((a,b)=(c,d))=(a=c∧b=d)):=⟨fun _ _=>Option.some.injEq _ _,fun _ _ _ _=>Prod.mk.injEq _ _ _ _⟩

mutual
inductive AV where
 | undef
 | bool (b:Bool)
 | int (k:IntKind) (n:Int)
 | str (s:ByteArray)
 | nilp | nils | nilm | nilf
 | ptr (d i v off:Nat)
 | ptrT (s:Option Nat) (r:Row) (off:Nat)
 | slc (d i v off sz len:Nat) (cap:Option Nat)
 | slcT (s:Option Nat) (r:Row) (sz len:Nat) (full:Bool)
 | map (d i:Nat)
 | yld (d i:Nat)
 | fn (f:Fn) (first cap:List AV)
 | agg (r:Row)
 | tup (l:List AV)
inductive Row where
 | I (k:IntKind) (l:List Int)
 | G (l:List AV)
 | F (f:Nat→AV) (n:Nat)
 | M (l:List dh)
inductive dh where
 | one (v:AV)
 | arr (k:IntKind) (z:Nat→Int) (n:Nat)
end

instance:Inhabited AV:=⟨.undef⟩
instance:Inhabited Row:=⟨.G []⟩

def aQ:dh→Nat
 | .one _=>1
 | .arr _ _ n=>n
def aB:List dh→Nat
 | []=>0
 | s::r=>aQ s+aB r
def getM:List dh→Nat→AV
 | [],_=>.undef
 | .one v::_,0=>v
 | .one _::r,j+1=>getM r j
 | .arr k z n::r,j=>if j<n then .int k (z j) else getM r (j-n)
def mapM' (f:AV→AV):List dh→List dh
 | []=>[]
 | .one v::r=>.one (f v)::mapM' f r
 | .arr k z n::r=>.arr k z n::mapM' f r
def fO:List dh→Bool
 | []=>true
 | .one _::_=>false
 | .arr _ _ _::r=>fO r
def Row.len:Row→Nat
 | .I _ l=>l.length
 | .G l=>l.length
 | .F _ n=>n
 | .M l=>aB l
def Row.get:Row→Nat→AV
 | .I k l,j=>.int k (l.getD j 0)
 | .G l,j=>l.getD j .undef
 | .F f _,j=>f j
 | .M l,j=>getM l j

def dF (g:Nat→AV):Nat→Nat→List AV
 | _,0=>[]
 | o,n+1=>g o::dF g (o+1) n
def Row.toList:Row→List AV
 | .I k l=>l.map (.int k)
 | .G l=>l
 | .F f n=>dF f 0 n
 | .M l=>dF (getM l) 0 (aB l)
def Row.ints:Row→Option (IntKind×(Nat→Int))
 | .I k l=>some (k,fun j=>l.getD j 0)
 | .M [.arr k z _]=>some (k,z)
 | _=>none
def yt:Row→Bool
 | .M _=>true
 | _=>false
def qD:List AV→List dh→List dh
 | [],r=>r
 | v::l,r=>.one v::qD l r
def j7:List dh→Nat→AV→List dh
 | [],_,_=>[]
 | .one _::r,0,v=>.one v::r
 | .one u::r,j+1,v=>.one u::j7 r j v
 | .arr k z n::r,j,v=>if j<n then (match v with
    | .int k' x=>if k'=k then .arr k (fun i=>if i=j then x else z i) n::r else qD (dF (fun i=>if i=j then v else .int k (z i)) 0 n) r
    | _=>qD (dF (fun i=>if i=j then v else .int k (z i)) 0 n) r)
   else .arr k z n::j7 r (j-n) v
def xR:List Int→Bool
 | []=>true
 | x::l=>x == 0 && xR l
def P4 (l:List Int):Nat→Int:=if xR l then fun _=>0 else fun j=>l.getD j 0
def dm (k:IntKind):List AV→List Int×List AV
 | .int k' n::r=>if k'=k then (match dm k r with | (a,b)=>(n::a,b)) else ([],.int k' n::r)
 | l=>([],l)
def iw:Nat→List AV→List dh
 | 0,l=>qD l []
 | _,[]=>[]
 | f+1,.int k n::r=>match dm k r with
   | (a,b)=>if Nat.ble 7 a.length then .arr k (P4 (n::a)) (a.length+1)::iw f b else .one (.int k n)::iw f r
 | f+1,v::r=>.one v::iw f r

def s6 (k:IntKind):List AV→Option (List Int)
 | []=>some []
 | .int k' n::r=>if k'=k then (s6 k r).map (n::·) else none
 | _=>none
def Row.ofList:List AV→Row
 | .int k n::r=>match s6 k r with
   | some l=>.I k (n::l)
   | none=>.G (.int k n::r)
 | l=>.G l

def lP:List dh→Nat→Nat→Option (IntKind×(Nat→Int))
 | [],_,_=>none
 | .one _::r,o+1,n=>lP r o n
 | .one _::_,0,_=>none
 | .arr k z m::r,o,n=>if o+n≤m then some (k,fun j=>z (o+j)) else if m≤o then lP r (o-m) n else none
def Row.sub (r:Row) (o n:Nat):Row :=
 match r with
 | .I k l=>.I k ((l.drop o).take n)
 | .G l=>.G ((l.drop o).take n)
 | .F f _=>.F (fun j=>f (o+j)) n
 | .M [.arr k z _]=>.M [.arr k (fun j=>z (o+j)) n]
 | .M l=>if Nat.beq o 0 && Nat.beq (aB l) n then .M l else match lP l o n with
   | some (k,z)=>.M [.arr k z n]
   | none=>.G (dF (getM l) o n)

def ib:AV→Bool
 | .undef | .bool _ | .int _ _ | .str _ | .nilp | .nils | .nilm | .nilf=>true
 | .ptrT s _ _=>s.isNone
 | .slcT s _ _ _ _=>s.isNone
 | .agg (.I ..) | .agg (.F ..)=>true
 | .agg (.M l)=>fO l
 | _=>false

def Row.cut (r:Row) (o n:Nat):Row :=
 match r with
 | .G l=>Row.ofList ((l.drop o).take n)
 | .M l=>if Nat.ble n 8 then Row.ofList (dF (getM l) o n) else if Nat.beq o 0 && Nat.beq (aB l) n then .M l else (Row.M l).sub o n
 | r=>r.sub o n

def Row.set (r:Row) (j:Nat) (v:AV):Row :=
 match r,v with
 | .I k l,.int k' n=>if k'=k then .I k (l.set j n) else .G ((l.map (.int k)).set j v)
 | .I k l,v=>.G ((l.map (.int k)).set j v)
 | .G l,v=>.G (l.set j v)
 | .F f n,v=>.F (fun i=>if i=j then (if ib v then v else .undef) else f i) n
 | .M l,v=>.M (j7 l j v)
def Row.cN (r:Row) (j:Nat):List AV→Row
 | []=>r
 | v::l=>(r.set j v).cN (j+1) l
def Row.uO (r s:Row):Option Row :=
 match r.ints,s.ints with
 | some (k,z),some (k',z')=>if k'=k then some (.M [.arr k (fun i=>if i<r.len then z i else z' (i-r.len)) (r.len+s.len)]) else none
 | _,_=>none
def jK:AV→AV
 | .slcT none (.I k l) sz m _=>.slcT none (.M [.arr k (fun j=>l.getD j 0) l.length]) sz m false
 | .slcT none (.M [.arr k z n]) sz m _=>.slcT none (.M [.arr k z n]) sz m false
 | v=>v
def qZ (n i:Nat):Nat:=if Nat.beq n 1 then 0 else i
def Row.app (r s:Row):Row :=
 match r,s with
 | .M l,s=>(match (Row.M l).uO s with | some q=>q | none=>.G ((Row.M l).toList++s.toList))
 | .I k l,.M m=>(match (Row.I k l).uO (.M m) with | some q=>q | none=>.G ((Row.I k l).toList++(Row.M m).toList))
 | .I k l,.I k' l'=>if k'=k then .I k (l++l') else .G (l.map (.int k)++l'.map (.int k'))
 | .F f n,s=>.F (fun i=>if Nat.blt i n then f i else if ib (s.get (qZ s.len (i-n))) then jK (s.get (qZ s.len (i-n))) else .undef) (n+s.len)
 | r,s=>.G (r.toList++s.toList)

def oQ (k:Nat):AV→AV
 | .ptr d i v off=>.ptr (d+k) i v off
 | .ptrT s r off=>.ptrT (s.map (· + k)) r off
 | .slc d i v off sz len cap=>.slc (d+k) i v off sz len cap
 | .slcT s r sz len full=>.slcT (s.map (· + k)) r sz len full
 | .map d i=>.map (d+k) i
 | .yld d i=>.yld (d+k) i
 | .agg (.I a l)=>.agg (.I a l)
 | .fn _ _ _ | .agg _ | .tup (_::_)=>.undef
 | v=>v
def PQ (k:Nat) (v:AV):AV :=
 match v with
 | .fn f a b=>.fn f (a.map (oQ k)) (b.map (oQ k))
 | .agg (.G l)=>.agg (.G (l.map (oQ k)))
 | .agg (.M l)=>.agg (.M (mapM' (oQ k) l))
 | .agg r=>.agg r
 | v=>oQ k v
def mX (k:Nat) (v:AV):AV :=
 match k with
 | 0=>v
 | k+1=>PQ (k+1) v
def BV (k:Nat):Row→Row
 | .I a l=>.I a l
 | .G l=>.G (l.map (oQ k))
 | .F f n=>.F f n
 | .M l=>.M (mapM' (oQ k) l)
def BU (k:Nat) (r:Row):Row :=
 match k with
 | 0=>r
 | k+1=>BV (k+1) r
def kP:Nat→Nat→AV→AV
 | 0,_,_=>.undef
 | n + 1,k,v=>match v with
   | .ptr d i v off=>if Nat.blt d k then .undef else .ptr (d-k) i v off
   | .ptrT none r off=>.ptrT none r off
   | .ptrT (some s) r off=>if Nat.blt s k then (match r with
     | .G l=>.ptrT (some 0) (.G (l.map (kP n (k-s)))) off
     | .M l=>if fO l then .ptrT none (.M l) off else .ptrT (some 0) (.M (mapM' (kP n (k-s)) l)) off
     | r=>.ptrT none r off) else .ptrT (some (s-k)) r off
   | .slc d i v off sz len cap=>if Nat.blt d k then .undef else .slc (d-k) i v off sz len cap
   | .slcT none r sz len full=>.slcT none r sz len full
   | .slcT (some s) r sz len full=>if Nat.blt s k then (match r with
     | .G l=>.slcT (some 0) (.G (l.map (kP n (k-s)))) sz len full
     | .M l=>if fO l then .slcT none (.M l) sz len full else .slcT (some 0) (.M (mapM' (kP n (k-s)) l)) sz len full
     | r=>.slcT none r sz len full) else .slcT (some (s-k)) r sz len full
   | .map d i=>if Nat.blt d k then .undef else .map (d-k) i
   | .yld d i=>if Nat.blt d k then .undef else .yld (d-k) i
   | .agg (.I a l)=>.agg (.I a l)
   | .fn _ _ _ | .agg _ | .tup (_::_)=>.undef
   | v=>v
def N3 (k:Nat) (v:AV):AV :=
 match v with
 | .fn f a b=>.fn f (a.map (kP 4 k)) (b.map (kP 4 k))
 | .agg (.G l)=>.agg (.G (l.map (kP 4 k)))
 | .agg (.M l)=>.agg (.M (mapM' (kP 4 k) l))
 | .agg r=>.agg r
 | v=>kP 4 k v
def Qq (k:Nat) (v:AV):AV :=
 match k with
 | 0=>v
 | k+1=>N3 (k+1) v
def wz (k:Nat):Row→Row
 | .I a l=>.I a l
 | .G l=>.G (l.map (kP 4 k))
 | .F f n=>.F f n
 | .M l=>.M (mapM' (kP 4 k) l)

def jx (k:Nat) (r:Row):Row :=
 match k with
 | 0=>r
 | k+1=>wz (k+1) r

abbrev aE:=List (Nat×AV)
def bM:aE→Nat→AV
 | [],_=>.undef
 | (x,v)::r,y=>if Nat.beq x y then v else bM r y
def uQ:aE→Nat→AV→aE
 | [],y,u=>[(y,u)]
 | (x,v)::r,y,u=>if Nat.ble y x then (if Nat.beq x y then (y,u)::r else (y,u)::(x,v)::r) else (x,v)::uQ r y u
def iH (m x:Nat):Bool:=Nat.beq (Nat.land (Nat.shiftRight m x) 1) 1
noncomputable def bT (fr:aE) (m:Nat):aE:=List.rec (motive:=fun _=>aE) [] (fun p _ ih=>Prod.rec (motive:=fun _=>aE) (fun x _=>Bool.rec (motive:=fun _=>aE) (p::ih) ih (Nat.beq (Nat.land (Nat.shiftRight m x) 1) 1)) p) fr

structure iy where
 state:LoopState
 pending:Option Code
 fn:FuncId
 nt:Nat
 fr:aE
 params:List Tmp
 assign:Code
 body:Code

inductive KK where
 | num (k:IntKind)
 | str (n:Nat)
inductive ao where
 | dead
 | row (r:Row)
 | map (es:List (AV×AV))
 | fmap (q:KK) (h:List Int→Bool) (g:List Int→Int) (c:Nat)
 | loop (l:iy)

structure bK where
 lock:Bool
 bs:List (Nat×ao)
abbrev aa:=List bK

def av:List (Nat×ao)→Nat→Nat×ao
 | [],_=>(0,.dead)
 | b::_,0=>b
 | _::r,i+1=>av r i
def bR:List (Nat×ao)→Nat→Nat×ao→List (Nat×ao)
 | [],_,_=>[]
 | _::r,0,x=>x::r
 | b::r,i+1,x=>b::bR r i x
def az:aa→Nat→Nat→Nat×ao
 | [],_,_=>(0,.dead)
 | l::_,0,i=>av l.bs i
 | _::r,d+1,i=>az r d i
def aK:aa→Nat→Bool
 | [],_=>true
 | l::_,0=>l.lock
 | _::r,d+1=>aK r d
def dB:aa→Nat→Nat→Nat×ao→aa
 | [],_,_,_=>[]
 | l::r,0,i,x=>{ l with bs:=bR l.bs i x } :: r
 | l::r,d+1,i,x=>l::dB r d i x
def dN (H:aa) (d i:Nat):aa:=dB H d i ((az H d i).1,.dead)
def jF:aa→ao→aa
 | [],b=>[⟨false,[(0,b)]⟩]
 | l::r,b=>{ l with bs:=l.bs++[(0,b)] } :: r
def bB:aa→Nat→ao→aa
 | [],_,_=>[]
 | l::r,0,b=>{ l with bs:=l.bs++[(0,b)] } :: r
 | l::r,d+1,b=>l::bB r d b
def aq:aa→Nat→Nat
 | [],_=>0
 | l::_,0=>l.bs.length
 | _::r,d+1=>aq r d
def aX:aa→Nat
 | []=>0
 | l::_=>l.bs.length
def bG:aa→aa
 | []=>[]
 | l::r=>{ l with lock:=true } :: bG r

def cX (H:aa) (d i v:Nat):Option Row :=
 match az H d i with
 | (ver,.row r)=>if Nat.beq ver v then some r else none
 | _=>none

def sB:Value→AV
 | .bool b=>.bool b
 | .int k n=>.int k n
 | .string s=>.str s
 | .pointer none=>.nilp
 | .slice none 0 0=>.nils
 | .map none=>.nilm
 | .nilFunc=>.nilf
 | _=>.undef
def kV:Value→AV
 | .bool b=>.bool b
 | .int k n=>.int k n
 | .string s=>.str s
 | .pointer none=>.nilp
 | .slice none 0 0=>.nils
 | .map none=>.nilm
 | .nilFunc=>.nilf
 | .func (.func f) ca cb=>if ca.isEmpty && cb.isEmpty then .fn (.func f) [] [] else .undef
 | .agg cs=>if cs.toList.all Value.oneCell' then .agg (Row.ofList (cs.toList.map sB)) else .undef
 | .tuple cs=>if cs.isEmpty then .tup [] else .undef
 | _=>.undef

def b9 (fr:aE):Operand→AV
 | .tmp t=>bM fr t
 | .const v=>kV v
 | .global _=>.undef
 | .func f=>.fn (.func f) [] []

def AV.row:AV→Option Row
 | .agg r=>some r
 | .int k n=>some (.I k [n])
 | .undef | .tup _=>none
 | v=>some (.G [v])

def fc (P:Program) (t:TypeId):Option Bool :=
 match P.underlying t with
 | some (.struct _) | some (.array _ _)=>some true
 | some _=>some false
 | none=>none
def bF (P:Program) (t:TypeId):Option Nat:=(P.info? t).map (·.size)
def cZ (P:Program) (t:TypeId):Option AV:=((P.info? t).bind (·.zero)).map kV

inductive Delta where
 | bE
 | push (b:ao)
 | set (d i:Nat) (b:Nat×ao)
 | heap (H:aa)
def Delta.on (δ:Delta) (H:aa):aa :=
 match δ with
 | .bE=>H
 | .push b=>jF H b
 | .set d i b=>dB H d i b
 | .heap H=>H

inductive PT where
 | fn (f:FuncId)
 | round (d i:Nat)
 | mode
abbrev aL:=PT→List AV→aa→Option (AV×aa)

def iq (op:BinOp) (k:IntKind) (x y:Int):Option AV :=
 match op with
 | .add=>some (.int k (k.wrap (x+y)))
 | .sub=>some (.int k (k.wrap (x-y)))
 | .mul=>some (.int k (k.wrap (x*y)))
 | .quo=>if y=0 then none else some (.int k (k.wrap (x.tdiv y)))
 | .rem=>if y=0 then none else some (.int k (x.tmod y))
 | .and=>some (.int k (k.wrap (BitVec.ofInt k.bits x &&& BitVec.ofInt k.bits y).toNat))
 | .or=>some (.int k (k.wrap (BitVec.ofInt k.bits x ||| BitVec.ofInt k.bits y).toNat))
 | .xor=>some (.int k (k.wrap (BitVec.ofInt k.bits x ^^^ BitVec.ofInt k.bits y).toNat))
 | .andNot=>some (.int k (k.wrap (BitVec.ofInt k.bits x &&& ~~~(BitVec.ofInt k.bits y)).toNat))
 | .eql=>some (.bool (x == y))
 | .neq=>some (.bool (x != y))
 | .lss=>some (.bool (x<y))
 | .leq=>some (.bool (x≤y))
 | .gtr=>some (.bool (x > y))
 | .geq=>some (.bool (x≥y))
 | _=>none

def fR (P:Program) (g:TypeId→Option Nat) (off:Nat):List Field→Option Nat
 | []=>some off
 | f::fs=>if f.name != "_" && Nat.beq f.offset off then (match g f.type with
   | some s=>fR P g (off+s) fs
   | none=>none) else none
def cC (P:Program):Nat→TypeId→Option Nat
 | 0,_=>none
 | n + 1,t=>match P.underlying t with
   | some (.int _)=>if bF P t=some 1 then some 1 else none
   | some (.array len e)=>match cC P n e with
     | some s=>if bF P t=some (len*s) then some (len*s) else none
     | none=>none
   | some (.struct fs)=>if P.stoodInHeld t then none else match fR P (cC P n) 0 fs.toList with
     | some s=>if bF P t=some s then some s else none
     | none=>none
   | _=>none

def eY:List Int→List Int→Bool
 | [],[]=>true
 | x::a,y::b=>(x == y) && eY a b
 | _,_=>false

def allEq (z z':Nat→Int):Nat→Bool
 | 0=>true
 | n+1=>allEq z z' n && (z n == z' n)
def Nk (P:Program) (t:TypeId) (r s:Row):Option Bool :=
 match r.ints,s.ints with
 | some (k,z),some (k',z')=>if k=k'∧cC P 20 t=some r.len∧fc P t=some true∧r.len=s.len then some (allEq z z' r.len) else none
 | _,_=>none
def AD (P:Program) (t:TypeId) (x y:AV):Option Bool :=
 match x,y with
 | .bool a,.bool b=>(match P.underlying t with | some .bool=>some (a == b) | _=>none)
 | .nils,.nils | .nils,.slcT .. | .nils,.slc .. | .slcT ..,.nils | .slc ..,.nils =>
   (match P.underlying t with
   | some (.slice _)=>(match x,y with
     | .nils,.nils=>some true
     | .nils,.slcT _ _ _ n _=>if 0<n then some false else none
     | .slcT _ _ _ n _,.nils=>if 0<n then some false else none
     | _,_=>some false)
   | _=>none)
 | .nilp,.nilp | .nilp,.ptr .. | .nilp,.ptrT .. | .ptr ..,.nilp | .ptrT ..,.nilp =>
   (match P.underlying t with
   | some (.pointer _)=>some (match x,y with | .nilp,.nilp=>true | _,_=>false)
   | _=>none)
 | .agg (.I k a),.agg (.I k' b)=>if k=k'∧cC P 20 t=some a.length∧fc P t=some true∧a.length=b.length then some (eY a b) else none
 | .agg (.M l),.agg s=>Nk P t (.M l) s
 | .agg (.I k a),.agg (.M l)=>Nk P t (.I k a) (.M l)
 | _,_=>none

def ki (P:Program) (op:BinOp) (t:TypeId) (x y:AV):Option AV :=
 match op,x,y with
 | .shl,.int k a,.int _ b=>if b<0 then none else some (.int k (k.wrap (a*2 ^ (min b.toNat k.bits))))
 | .shr,.int k a,.int _ b=>if b<0 then none else some (.int k (a.fdiv (2 ^ (min b.toNat k.bits))))
 | op,.int k a,.int k' b=>if k=k' then iq op k a b else none
 | .eql,x,y=>(AD P t x y).map .bool
 | .neq,x,y=>(AD P t x y).map fun b=>.bool (!b)
 | _,_,_=>none

def P3 (op:UnOp) (x:AV):Option AV :=
 match op,x with
 | .not,.bool b=>some (.bool !b)
 | .neg,.int k n=>some (.int k (k.wrap (0-n)))
 | _,_=>none

def oJ {α:Type} (l:List α):Nat→List α
 | 0=>[]
 | n+1=>l++oJ l n
def dW (z:Row) (n:Nat):Row :=
 match z with
 | .I k l=>.I k (oJ l n)
 | z=>.G (oJ z.toList n)
def FQ (l:List AV) (n:Nat):Row :=
 match l with
 | [v]=>if ib v then .F (fun _=>v) n else .G (oJ l n)
 | l=>.G (oJ l n)
def dM (z:Row) (n:Nat):Row :=
 match z with
 | .I k l=>if xR l then .M [.arr k (fun _=>0) (n*l.length)] else .I k (oJ l n)
 | z=>FQ z.toList n
def kM (r:Row):Row :=
 match r with
 | .I k l=>if Nat.ble 8 l.length then .M [.arr k (P4 l) l.length] else .I k l
 | .G l=>if (iw l.length l).length == l.length then .G l else .M (iw l.length l)
 | r=>r
def wy (z:Nat→Int) (off:Nat) (z':Nat→Int) (n:Nat):Nat→Int:=fun i=>if off≤i∧i<off+n then z' (i-off) else z i
def yZ:List dh→Nat→Nat→List dh→Option (List dh)
 | [],_,_,_=>none
 | .one v::r,o+1,n,q=>(yZ r o n q).map (.one v::·)
 | .one _::_,0,_,_=>none
 | .arr k z m::r,o,n,q=>if Nat.beq o 0 && Nat.beq m n then some (q++r) else if Nat.ble m o then (yZ r (o-m) n q).map (.arr k z m::·) else none
def Kt (q:Row):Option (List dh) :=
 match kM q with
 | .M l=>some l
 | _=>none
def xk (l:List dh) (off:Nat) (q:Row):Row :=
 if Nat.ble 9 q.len then (match Kt q with
  | some qs=>if Nat.beq off 0 && Nat.beq (aB l) q.len then .M qs else (match yZ l off q.len qs with
    | some l'=>.M l'
    | none=>(Row.M l).cN off q.toList)
  | none=>(Row.M l).cN off q.toList)
 else (Row.M l).cN off q.toList
def j6 (r:Row) (off:Nat) (q:Row):Row :=
 match r with
 | .M l=>(match l with
   | [.arr k z m]=>(match q with
     | .M [.arr k' z' n]=>if k'=k then .M [.arr k (wy z off z' n) m] else xk l off q
     | _=>xk l off q)
   | _=>xk l off q)
 | r=>r.cN off q.toList
def qY:AV→Bool
 | .slcT none (.M [.arr _ _ _]) _ _ _=>true
 | .slcT none (.I _ _) _ _ _=>true
 | _=>false
def ru (sy:Bool) (r:Row):Row :=
 match r with
 | .I k l=>if sy then .M [.arr k (fun j=>l.getD j 0) l.length] else .I k l
 | .G [v]=>if sy && qY v then .F (fun _=>jK v) 1 else .G [v]
 | r=>r
def sI (place:Nat→Option (Nat×Nat)) (r:Row):List (Nat×AV)→Option Row
 | []=>some r
 | (i,v)::rest=>match place i with
   | none=>none
   | some (off,size)=>match v.row with
     | some q=>if q.len=size∧off+q.len≤r.len then sI place (r.cN off q.toList) rest else none
     | none=>none

def jM (P:Program) (t:TypeId) (r:Row) (off:Nat):Option AV :=
 match fc P t,bF P t with
 | some true,some n=>if off+n≤r.len then some (.agg (r.cut off n)) else none
 | some false,_=>if off<r.len then some (r.get off) else none
 | _,_=>none

def Ue (s:Option Nat) (v:AV):AV :=
 match s with
 | none=>v
 | some k=>mX k v

def pB (P:Program) (H:aa) (t:TypeId) (a:AV):Option AV :=
 match a with
 | .ptr d i v off=>match cX H d i v with
   | some r=>(jM P t r off).map (mX d)
   | none=>none
 | .ptrT s r off=>(jM P t r off).map (Ue s)
 | _=>none

def gF (P:Program) (H:aa) (t:TypeId) (a x:AV):Option Delta :=
 match a with
 | .ptr d i v off =>
   if aK H d then none else
   match cX H d i v,bF P t,x.row with
   | some r,some n,some q =>
     if q.len=n∧off+n≤r.len then
      match d,x with
      | d+1,.slc 0 j w o sz len cap=>if aK H 0 then none else match cX H 0 j w with
        | some q=>some (.heap (bB (dB (dN H 0 j) (d+1) i (v,.row (r.set off (.slc 0 (aq H (d+1)) 0 o sz len cap)))) (d+1) (.row (jx (d+1) q))))
        | none=>none
      | _,_=>some (.set d i (v,.row (j6 r off (jx d q))))
     else none
   | _,_,_=>none
 | _=>none

def lH (P:Program):List Field→Option (List (Nat×Nat))
 | []=>some []
 | f::fs=>match bF P f.type,lH P fs with
   | some n,some l=>some ((f.offset,n)::l)
   | _,_=>none

def wv (P:Program) (sy:Bool) (t:TypeId) (parts:List (Nat×AV)):Option AV :=
 match cZ P t,P.underlying t with
 | some (.agg z),some (.struct fs)=>match lH P fs.toList with
   | some l=>(sI (fun i=>l[i]?) (if sy then kM z else z) parts).map .agg
   | none=>none
 | some (.agg z),some (.array _ e)=>match bF P e with
   | some n=>(sI (fun i=>some (i*n,n)) (if sy then kM z else z) parts).map .agg
   | none=>none
 | _,_=>none

def ma (a:AV) (n:Nat):Option AV :=
 match a with
 | .ptr d i v off=>some (.ptr d i v (off+n))
 | .ptrT s r off=>some (.ptrT s r (off+n))
 | _=>none

def jb (P:Program) (t:TypeId) (a:AV) (f:Nat):Option AV :=
 match P.underlying t with
 | some (.struct fs)=>match fs[f]? with
   | some g=>match bF P g.type with
     | some (_+1)=>ma a g.offset
     | _=>none
   | none=>none
 | _=>none

def ji (P:Program) (t:TypeId) (x:AV) (i:Int):Option AV :=
 match P.underlying t,x with
 | some (.array n e),x=>match bF P e with
   | some z=>if 0≤i∧i<n then ma x (i.toNat*z) else none
   | none=>none
 | some (.slice e),.slc d j v off sz len _ =>
   if 0≤i∧i<len∧bF P e=some sz then some (.ptr d j v (off+i.toNat*sz)) else none
 | some (.slice e),.slcT s r sz len _ =>
   if 0≤i∧i<len∧bF P e=some sz then some (.ptrT s r (i.toNat*sz)) else none
 | _,_=>none

def qm (P:Program) (t:TypeId) (x:AV) (i:Int):Option AV :=
 match P.underlying t,x with
 | some (.array n e),.agg r=>match bF P e with
   | some z=>if 0≤i∧i<n then jM P e r (i.toNat*z) else none
   | none=>none
 | some .string,.str s=>if 0≤i then (match s[i.toNat]? with
   | some b=>some (.int .u8 b.toNat)
   | none=>none) else none
 | _,_=>none

def wD (P:Program) (t:TypeId) (x:AV) (f:Nat):Option AV :=
 match P.underlying t,x with
 | some (.struct fs),.agg r=>match fs[f]? with
   | some g=>jM P g.type r g.offset
   | none=>none
 | _,_=>none

def bound (o:Option AV) (dflt top:Nat):Option Nat :=
 match o with
 | none=>some dflt
 | some (.int _ i)=>if 0≤i∧i≤top then some i.toNat else none
 | some _=>none

def ew (lo hi mx:Option AV) (len:Nat):Option (Nat×Nat×Option Nat) :=
 match mx with
 | none=>match bound hi len len with
   | some h=>match bound lo 0 h with
     | some l=>some (l,h,none)
     | none=>none
   | none=>none
 | some a=>match bound (some a) 0 len with
   | some m=>if hi.isSome then (match bound hi len m with
     | some h=>match bound lo 0 h with
       | some l=>some (l,h,some m)
       | none=>none
     | none=>none) else none
   | none=>none

def qI (P:Program) (t:TypeId) (x:AV) (lo hi mx:Option AV):Option AV :=
 match P.underlying t,x with
 | some (.slice e),.slc d j v off sz len cap =>
   match ew lo hi mx len with
   | some (l,h,mm)=>if bF P e=some sz then
      some (.slc d j v (off+l*sz) sz (h-l) (match mm with | none=>cap.map (· - l) | some m=>some (m-l))) else none
   | none=>none
 | some (.slice e),.slcT s r sz len full =>
   match ew lo hi mx len with
   | some (l,h,mm)=>if bF P e=some sz∧l*sz+(h-l)*sz≤r.len then
      some (.slcT s (r.sub (l*sz) ((h-l)*sz)) sz (h-l) (match mm with | none=>full && Nat.beq h len | some m=>Nat.beq h m)) else none
   | none=>none
 | some (.slice e),.nils =>
   match ew lo hi mx 0,bF P e with
   | some _,some _=>some .nils
   | _,_=>none
 | some (.array n e),.ptr d j v off =>
   match ew lo hi mx n with
   | some (l,h,mm)=>match bF P e with
     | some sz=>some (.slc d j v (off+l*sz) sz (h-l) (match mm with | none=>some (n-l) | some m=>some (m-l)))
     | none=>none
   | none=>none
 | _,_=>none

def u0 (P:Program) (H:aa) (t:TypeId) (x:AV):Option Int :=
 match P.underlying t,x with
 | some (.array n _),_=>some n
 | some (.slice _),.nils=>some 0
 | some (.slice _),.slc _ _ _ _ _ len _=>some len
 | some (.slice _),.slcT _ _ _ len _=>some len
 | some (.map _ _),.nilm=>some 0
 | some (.map _ _),.map d i=>match az H d i with
   | (0,.map es)=>some es.length
   | (0,.fmap _ _ _ c)=>some c
   | _=>none
 | _,_=>none

def LG (P:Program) (t:TypeId) (x:AV):Option Int :=
 match P.underlying t,x with
 | some (.slice _),.nils=>some 0
 | some (.slice _),.slc _ _ _ _ _ _ (some c)=>some c
 | _,_=>none

def eH (H:aa) (sz n:Nat) (x:AV):Option Row :=
 match x with
 | .nils=>if n=0 then some (.G []) else none
 | .slc d i v off sz' len _=>match cX H d i v with
   | some r=>if sz'=sz∧n≤len∧off+n*sz≤r.len then some (BU d (r.sub off (n*sz))) else none
   | none=>none
 | .slcT s r sz' len _=>if sz'=sz∧n≤len∧n*sz≤r.len then some (match s with | none=>r.sub 0 (n*sz) | some k=>BU k (r.sub 0 (n*sz))) else none
 | _=>none
def ot:AV→Option Nat
 | .nils=>some 0
 | .slc _ _ _ _ _ len _=>some len
 | .slcT _ _ _ len _=>some len
 | _=>none

def room:Nat:=2 ^ 46

def E0 (P:Program) (sy:Bool) (nx:Nat) (e:TypeId) (s x:AV):Option (AV×Delta) :=
 match P.info? e,s,x with
 | some inf,.nils,.int _ k =>
   if 0≤k∧k.toNat≤room∧k.toNat*inf.bytes≤room∧0<inf.size∧((cZ P e).bind AV.row).map Row.len=some inf.size then
    (if k=0 then some (.nils,.bE) else some (.slc 0 nx 0 0 inf.size k.toNat none,.push (.row (ru sy (.I .i64 [])))))
   else none
 | _,_,_=>none
def oW      (P:Program) (sy:Bool) (H:aa) (nx:Nat) (t u:TypeId) (s x:AV):Option (AV×Delta) :=
 match P.underlying t,P.underlying u with
 | some (.slice e),some (.int _)=>E0 P sy nx e s x
 | some (.slice e),some (.slice _) =>
   match P.info? e,ot s,ot x with
   | some inf,some m,some n =>
     if n=0 then (match s,x with
      | .nils,_=>some (s,.bE)
      | .slc ..,_=>some (s,.bE)
      | .slcT ..,_=>some (s,.bE)
      | _,_=>none)
     else if (m+n)*inf.bytes≤room∧(m+n)≤room∧0<inf.bytes∧((cZ P e).bind AV.row).map Row.len=some inf.size then
      match eH H inf.size n x with
      | none=>none
      | some new =>
        match s with
        | .nils=>some (.slc 0 nx 0 0 inf.size n none,.push (.row (ru sy new)))
        | .slcT _ _ _ _ true=>match eH H inf.size m s with
          | some old=>some (.slc 0 nx 0 0 inf.size (m+n) none,.push (.row (ru sy (old.app new))))
          | none=>none
        | .slc d i v off sz _ (some c) =>
          if c<m+n then
           match eH H inf.size m s with
           | some old=>some (.slc 0 nx 0 0 inf.size (m+n) none,.push (.row (ru sy (old.app new))))
           | none=>none
          else if aK H d then none else
           match cX H d i v with
           | some r=>if sz=inf.size∧off+(m+n)*sz≤r.len then
              some (.slc d i v off sz (m+n) (some c),.set d i (v,.row (r.cN (off+m*sz) (jx d new).toList)))
             else none
           | none=>none
        | .slc d i v off sz _ none =>
          if aK H d then none else
          match cX H d i v with
          | some r=>if sz=inf.size∧off+m*sz=r.len then
             some (.slc d i (v+1) 0 sz (m+n) none,.set d i (v+1,.row ((r.sub off (m*sz)).app (jx d new))))
            else none
          | none=>none
        | _=>none
     else none
   | _,_,_=>none
 | _,_=>none

def copyV (P:Program) (H:aa) (t:TypeId) (s x:AV):Option (AV×Delta) :=
 match P.underlying t with
 | some (.slice e) =>
   match bF P e,ot s,ot x with
   | some z,some m,some n =>
     match eH H z (min n m) x with
     | none=>none
     | some new =>
       match s with
       | .nils=>some (.int .i64 (min n m:Nat),.bE)
       | .slc d i v off sz _ _ =>
         if aK H d then none else
         match cX H d i v with
         | some r=>if sz=z∧off+(min n m)*sz≤r.len then
            some (.int .i64 (min n m:Nat),.set d i (v,.row (j6 r off (jx d new))))
           else none
         | none=>none
       | _=>none
   | _,_,_=>none
 | _=>none

def sx (P:Program) (H:aa) (t:TypeId) (s:AV):Option (AV×Delta) :=
 match P.underlying t,s with
 | some (.slice _),.nils=>some (.tup [],.bE)
 | some (.slice e),.slc d i v off sz len _ =>
   if aK H d then none else
   match (cZ P e).bind AV.row,cX H d i v with
   | some z,some r=>if z.len=sz∧bF P e=some sz∧off+len*sz≤r.len then
      some (.tup [],if len=0 then .bE else .set d i (v,.row (if yt r then j6 r off (dM z len) else r.cN off (dW z len).toList)))
     else none
   | _,_=>none
 | _,_=>none

def eK (mx:Bool) (k:IntKind) (x:Int):List AV→Option AV
 | []=>some (.int k x)
 | .int k' y::r=>if k=k' then eK mx k (if mx then (if y > x then y else x) else (if y<x then y else x)) r else none
 | _=>none
def oA (mx:Bool):List AV→Option AV
 | .int k x::r=>eK mx k x r
 | _=>none

def jk (P:Program) (sy:Bool) (nx:Nat) (t:TypeId) (l c:AV):Option (AV×Delta) :=
 match P.underlying t,l,c with
 | some (.slice e),.int _ l,.int _ c =>
   match P.info? e,(cZ P e).bind AV.row with
   | some inf,some z =>
     if 0≤l∧l≤c∧c.toNat*inf.bytes≤room∧c.toNat≤room∧z.len=inf.size then
      some (.slc 0 nx 0 0 inf.size l.toNat (some c.toNat),.push (.row (if sy then dM z c.toNat else dW z c.toNat)))
     else none
   | _,_=>none
 | _,_,_=>none

def jD (P:Program) (nx:Nat) (t:TypeId) (len:Nat) (parts:List (Nat×AV)):Option (AV×Delta) :=
 match P.underlying t with
 | some (.slice e)=>match bF P e,(cZ P e).bind AV.row with
   | some z,some zv =>
     if len*z≤2 ^ 24∧zv.len=z then
      (sI (fun i=>some (i*z,z)) (dW zv len) parts).map fun r=>(.slc 0 nx 0 0 z len (some len),.push (.row r))
     else none
   | _,_=>none
 | _=>none

def pz (x y:AV):Option Bool :=
 match x,y with
 | .int k a,.int k' b=>if k=k' then some (a == b) else none
 | .agg (.I k a),.agg (.I k' b)=>if k=k'∧a.length=b.length then some (eY a b) else none
 | _,_=>none
def fQ (key:AV):List (AV×AV)→Nat→Option (Option Nat)
 | [],_=>some none
 | (k,_)::r,i=>match pz key k with
   | some true=>some (some i)
   | some false=>fQ key r (i+1)
   | none=>none
def j5 (P:Program) (t:TypeId) (x:AV):Bool :=
 match P.underlying t,x with
 | some (.int _),.int _ _=>true
 | some (.array _ _),.agg (.I _ l)=>cC P 20 t == some l.length
 | some (.struct _),.agg (.I _ l)=>cC P 20 t == some l.length
 | _,_=>false
def vA (H:aa) (m:AV):Option (Nat×List (AV×AV)) :=
 match m with
 | .nilm=>some (0,[])
 | .map d i=>match az H d i with
   | (0,.map es)=>some (d,es)
   | _=>none
 | _=>none
def oE:List (AV×AV)→Nat→AV
 | [],_=>.undef
 | e::_,0=>e.2
 | _::r,i+1=>oE r i
def oN:List (AV×AV)→Nat→AV×AV→List (AV×AV)
 | [],_,_=>[]
 | _::r,0,x=>x::r
 | e::r,i+1,x=>e::oN r i x
def ob:List (AV×AV)→Nat→List (AV×AV)
 | [],_=>[]
 | _::r,0=>r
 | e::r,i+1=>e::ob r i
def vF (H:aa) (m:AV):Option (KK×(List Int→Bool)×(List Int→Int)×Nat) :=
 match m with
 | .map d i=>match az H d i with
   | (0,.fmap q h g c)=>some (q,h,g,c)
   | _=>none
 | _=>none
def uZ:KK→AV→Option (List Int)
 | .num k,.int k' n=>if k=k' then some [n] else none
 | .str m,.agg (.I .i64 l)=>if Nat.beq l.length m then some l else none
 | _,_=>none
def OA:AV→Option KK
 | .int k _=>some (.num k)
 | .agg (.I .i64 l)=>some (.str l.length)
 | _=>none
def yS:AV→Option Int
 | .int .i64 n=>some n
 | _=>none
def fz (h:List Int→Bool) (n:List Int) (b:Bool):List Int→Bool:=fun i=>if i=n then b else h i
def iN (g:List Int→Int) (n:List Int) (x:Int):List Int→Int:=fun i=>if i=n then x else g i
def uP (b:Bool) (c:Nat):Nat:=cond b c (c+1)
def xV (b:Bool) (c:Nat):Nat:=cond b (c-1) c
def tz (P:Program) (t:TypeId):ao :=
 match P.underlying t with
 | some (.map kt et)=>match (cZ P kt).bind OA,(cZ P et).bind yS with
   | some q,some _=>.fmap q (fun _=>false) (fun _=>0) 0
   | _,_=>.map []
 | _=>.map []
def rW (P:Program) (H:aa) (t:TypeId) (m key:AV) (ok:Bool):Option AV :=
 match P.underlying t with
 | some (.map kt et) =>
   if j5 P kt key then
    match vF H m with
    | some (q,h,g,_)=>match uZ q key,(cZ P et).bind yS with
      | some n,some 0=>some (if ok then .tup [.int .i64 (g n),.bool (h n)] else .int .i64 (g n))
      | _,_=>none
    | none=>match vA H m,cZ P et with
    | some (d,es),some z=>match fQ key es 0 with
      | some (some i)=>some (if ok then .tup [mX d (oE es i),.bool true] else mX d (oE es i))
      | some none=>some (if ok then .tup [z,.bool false] else z)
      | none=>none
    | _,_=>none
   else none
 | _=>none
def jS (P:Program) (H:aa) (t:TypeId) (m key x:AV):Option Delta :=
 match P.underlying t,m with
 | some (.map kt _),.map d i =>
   if aK H d then none else
   if j5 P kt key then
    match az H d i with
    | (0,.fmap q h g c)=>match uZ q key,yS x with
      | some n,some y=>some (.set d i (0,.fmap q (fz h n true) (iN g n y) (uP (h n) c)))
      | _,_=>none
    | (0,.map es)=>match fQ key es 0 with
      | some (some j)=>some (.set d i (0,.map (oN es j (key,Qq d x))))
      | some none=>some (.set d i (0,.map (es++[(key,Qq d x)])))
      | none=>none
    | _=>none
   else none
 | _,_=>none
def o5 (P:Program) (H:aa) (t:TypeId) (m key:AV):Option (AV×Delta) :=
 match P.underlying t,m with
 | some (.map kt _),.map d i =>
   if aK H d then none else
   if j5 P kt key then
    match az H d i with
    | (0,.fmap q h g c)=>match uZ q key with
      | some n=>some (.tup [],.set d i (0,.fmap q (fz h n false) (iN g n 0) (xV (h n) c)))
      | none=>none
    | (0,.map es)=>match fQ key es 0 with
      | some (some j)=>some (.tup [],.set d i (0,.map (ob es j)))
      | some none=>some (.tup [],.set d i (0,.map es))
      | none=>none
    | _=>none
   else none
 | _,_=>none

def dU (fr:aE):List (Nat×Operand)→List (Nat×AV)
 | []=>[]
 | (i,x)::r=>(i,b9 fr x)::dU fr r
def lD (fr:aE):List Operand→List AV
 | []=>[]
 | x::r=>b9 fr x::lD fr r

def nG {α:Type} (call:aL) (a b:α):α :=
 match call .mode [] [] with
 | some _=>a
 | none=>b
def gP (P:Program) (call:aL) (fr:aE) (H:aa) (nx:Nat) (c:Call):Option (AV×Delta) :=
 match c.callee with
 | .value f=>match b9 fr f with
   | .fn (.func g) a b=>(call (.fn g) (a++(lD fr c.args.toList++b)) H).map fun (v,H)=>(v,.heap H)
   | .yld d i=>(call (.round d i) (lD fr c.args.toList) H).map fun (v,H)=>(v,.heap H)
   | _=>none
 | .builtin .len=>match c.args.toList,c.argTypes.toList with
   | x::_,t::_=>(u0 P H t (b9 fr x)).map fun n=>(.int .i64 n,.bE)
   | _,_=>none
 | .builtin .cap=>match c.args.toList,c.argTypes.toList with
   | x::_,t::_=>(LG P t (b9 fr x)).map fun n=>(.int .i64 n,.bE)
   | _,_=>none
 | .builtin .append=>match c.args.toList,c.argTypes.toList with
   | s::x::_,t::u::_=>oW P (nG call true false) H nx t u (b9 fr s) (b9 fr x)
   | _,_=>none
 | .builtin .copy=>match c.args.toList,c.argTypes.toList with
   | s::x::_,t::_=>copyV P H t (b9 fr s) (b9 fr x)
   | _,_=>none
 | .builtin .clear=>match c.args.toList,c.argTypes.toList with
   | s::_,t::_=>sx P H t (b9 fr s)
   | _,_=>none
 | .builtin .delete=>match c.args.toList,c.argTypes.toList with
   | m::k::_,t::_=>o5 P H t (b9 fr m) (b9 fr k)
   | _,_=>none
 | .builtin .min=>(oA false (lD fr c.args.toList)).map fun v=>(v,.bE)
 | .builtin .max=>(oA true (lD fr c.args.toList)).map fun v=>(v,.bE)
 | _=>none

def kp (o:Option AV):Option (AV×Delta):=o.map fun v=>(v,.bE)

def evalOp (P:Program) (call:aL) (fr:aE) (H:aa) (nx:Nat) (o:Oper):Option (AV×Delta) :=
 match o.op with
 | .move x | .assign x=>some (b9 fr x,.bE)
 | .pick c a b=>match b9 fr c with
   | .bool t=>some (if t then b9 fr a else b9 fr b,.bE)
   | _=>none
 | .alloc t=>((cZ P t).bind AV.row).map fun z=>(.ptr 0 nx 0 0,.push (.row (nG call (kM z) z)))
 | .box _ x=>(b9 fr x).row.map fun r=>(.ptr 0 nx 0 0,.push (.row (nG call (kM r) r)))
 | .build t parts=>kp (wv P (nG call true false) t (dU fr parts.toList))
 | .buildSlice t len parts=>jD P nx t len (dU fr parts.toList)
 | .load t a=>kp (pB P H t (b9 fr a))
 | .store t a x=>(gF P H t (b9 fr a) (b9 fr x)).map fun δ=>(.tup [],δ)
 | .nilCheck x=>match b9 fr x with
   | .ptr d i v off=>some (.ptr d i v off,.bE)
   | .ptrT s r off=>some (.ptrT s r off,.bE)
   | _=>none
 | .binOp op t x y _=>kp (ki P op t (b9 fr x) (b9 fr y))
 | .unOp op _ x=>kp (P3 op (b9 fr x))
 | .convert src dst x=>match P.underlying src,P.underlying dst,b9 fr x with
   | some _,some (.int k),.int _ n=>some (.int k (k.wrap n),.bE)
   | _,_,_=>none
 | .makeFunc fn first cap=>match fn with
   | .func g=>some (.fn (.func g) (lD fr first.toList) (lD fr cap.toList),.bE)
   | _=>none
 | .makeSlice t l c=>jk P (nG call true false) nx t (b9 fr l) (b9 fr c)
 | .slice t x lo hi mx=>kp (qI P t (b9 fr x) (lo.map (b9 fr)) (hi.map (b9 fr)) (mx.map (b9 fr)))
 | .fieldAddr t x f=>kp (jb P t (b9 fr x) f)
 | .field t x f=>kp (wD P t (b9 fr x) f)
 | .indexAddr t x i=>match b9 fr i with
   | .int _ n=>kp (ji P t (b9 fr x) n)
   | _=>none
 | .index t x i=>match b9 fr i with
   | .int _ n=>kp (qm P t (b9 fr x) n)
   | _=>none
 | .makeMap t none=>some (.map 0 nx,.push (nG call (tz P t) (.map [])))
 | .lookup t m k ok=>kp (rW P H t (b9 fr m) (b9 fr k) ok)
 | .mapUpdate t m k x | .insert t m k x=>(jS P H t (b9 fr m) (b9 fr k) (b9 fr x)).map fun δ=>(.tup [],δ)
 | .extract t ix=>match b9 fr t with
   | .tup l=>match l[ix]? with
     | some v=>some (v,.bE)
     | none=>none
   | _=>none
 | .call c=>gP P call fr H nx c
 | _=>none

inductive Want where
 | run | skip | lost
def lX (ops:Array Oper) (fr:aE) (o:Oper):Want :=
 match o.guard with
 | none=>.run
 | some (j,want)=>match (ops[j]?).bind (·.dst) with
   | none=>.lost
   | some d=>match bM fr d with
     | .bool b=>if b == want then .run else .skip
     | .tup _=>.skip
     | _=>.lost

def iJ (nt:Nat) (fr:aE) (dst:Option Tmp) (v:AV):aE :=
 match dst with
 | some d=>if Nat.blt d nt then uQ fr d v else fr
 | none=>fr

def fb (P:Program) (nt:Nat) (call:aL) (ops:Array Oper):List Oper→aE→aa→Option (aE×aa)
 | [],fr,H=>some (fr,H)
 | o :: r,fr,H=>match lX ops fr o with
   | .lost=>none
   | .skip=>fb P nt call ops r (iJ nt fr o.dst (.tup [])) H
   | .run=>match evalOp P call fr H (aX H) o with
     | none=>none
     | some (v,δ)=>fb P nt call ops r (iJ nt fr o.dst v) (δ.on H)

inductive Touch where
 | none
 | blk (d i:Nat)
 | all
structure Rec where
 ix:Nat
 reads:Touch
 writes:Option (Nat×Nat)
def cV (fr:aE) (o:Oper):Touch :=
 let at' (v:AV):Touch:=match v with
  | .ptr d i _ _=>.blk d i
  | .slc d i _ _ _ _ _=>.blk d i
  | .map d i=>.blk d i
  | _=>.none
 match o.op with
 | .load _ a=>at' (b9 fr a)
 | .store _ a _=>at' (b9 fr a)
 | .lookup _ m _ _=>at' (b9 fr m)
 | .mapUpdate _ m _ _ | .insert _ m _ _=>at' (b9 fr m)
 | .call c=>match c.callee with
   | .builtin .len=>match c.args.toList with
     | x::_=>match b9 fr x with | .map d i=>.blk d i | _=>.none
     | _=>.all
   | .builtin .min | .builtin .max=>.none
   | _=>.all
 | _=>.none
def di (H:aa) (bef:Nat):List Rec→aa
 | []=>H
 | r::l=>match r.writes with
   | some (d,i)=>if bef.testBit r.ix then di H bef l else di (dN H d i) bef l
   | none=>di H bef l
def kE (bef:Nat) (d i:Nat):List Rec→Bool
 | []=>true
 | r::l=>(bef.testBit r.ix || (match r.reads with
   | .none=>true
   | .blk e j=>!(Nat.beq e d && Nat.beq j i)
   | .all=>false)) && kE bef d i l

def jJ (o:Oper):Bool :=
 match o.op with
 | .alloc _ | .box _ _ | .buildSlice _ _ _ | .makeSlice _ _ _ | .makeMap _ _=>true
 | .call c=>match c.callee with
   | .builtin .append=>true
   | _=>false
 | _=>false
def c6:List Oper→Nat
 | []=>0
 | o::r=>if jJ o then c6 r+1 else c6 r
def oj:aa→Nat→aa
 | [],_=>[]
 | l::r,k=>{ l with bs:=l.bs++List.replicate k (0,.dead) } :: r
def mD:ao→Bool
 | .dead=>true
 | _=>false
def rU:Nat×ao→Bool
 | (0,.dead)=>true
 | _=>false
def fo (o:Oper):Bool :=
 match o.op with
 | .call c=>match c.callee with
   | .value _=>true
   | _=>false
 | _=>false
def rA (H:aa):Option (Nat×Nat×(Nat×ao))→aa
 | none=>H
 | some (d,i,b)=>dB H d i b
structure uK where
 v:AV
 rd:Touch
 wr:Option (Nat×Nat×(Nat×ao))
def gQ (P:Program) (call:aL) (ops:Array Oper) (bef:Nat) (fr:aE) (H:aa) (nx:Nat) (recs:List Rec) (o:Oper):Option uK :=
 match lX ops fr o with
 | .lost=>none
 | .skip=>some ⟨.tup [],.none,none⟩
 | .run =>
   if fo o then match evalOp P call fr (bG (di H bef recs)) nx o with
    | some (v,_)=>some ⟨v,.all,none⟩
    | none=>none
   else match evalOp P call fr (di H bef recs) nx o with
    | some (v,.bE)=>some ⟨v,cV fr o,none⟩
    | some (v,.push b)=>if jJ o && !mD b && rU (az H 0 nx) && !aK H 0 then some ⟨v,cV fr o,some (0,nx,(0,b))⟩ else none
    | some (v,.set d i b)=>if !mD b.2 && (Nat.beq b.1 (az H d i).1 || Nat.beq b.1 (Nat.succ (az H d i).1)) && !mD (az (di H bef recs) d i).2 && kE bef d i recs then some ⟨v,cV fr o,some (d,i,b)⟩ else none
    | _=>none

def gI (P:Program) (nt:Nat) (call:aL) (ops:Array Oper) (befs:Array Nat):Nat→List Oper→aE→aa→Nat→List Rec→Option (aE×aa)
 | _,[],fr,H,_,_=>some (fr,H)
 | j,o::r,fr,H,nx,recs=>match gQ P call ops (befs.getD j 0) fr H nx recs o with
   | some e=>gI P nt call ops befs (j+1) r (iJ nt fr o.dst e.v) (rA H e.wr) (if jJ o then nx+1 else nx) (⟨j,e.rd,e.wr.map fun x=>(x.1,x.2.1)⟩::recs)
   | none=>none

def ga (ops:Array Oper) (befs:Array Nat):Bool :=
 ops.toList.zipIdx.all fun (o,j)=>Nat.blt (befs.getD j 0) (2 ^ j) &&
  ops.toList.zipIdx.all fun (q,i) =>
   Nat.beq i j || (match q.dst with
   | none=>true
   | some d=>(o.dst != some d) && (!(o.looksAt ops).contains d || (befs.getD j 0).testBit i || (befs.getD i 0).testBit j))

inductive Ex where
 | normal | exit (id:Nat) | goto (l:Nat) | ret

def CB:Option Nat→Bool
 | some 0=>true
 | _=>false
def DV:AV→Bool
 | .int _ _=>true
 | .bool _=>true
 | .nils=>true
 | .slcT none _ _ _ _=>true
 | .ptrT none _ _=>true
 | _=>false
def N0:Row→Bool
 | .I _ _=>true
 | .F _ _=>true
 | .G l=>l.all DV
 | .M l=>fO l
def lZ (n:Nat):AV→Bool
 | .ptr d i _ _=>Nat.beq d 0 && Nat.ble n i
 | .slc d i _ _ _ _ _=>Nat.beq d 0 && Nat.ble n i
 | .map d i=>Nat.beq d 0 && Nat.ble n i
 | .yld d i=>Nat.beq d 0 && Nat.ble n i
 | .ptrT s r _=>CB s && !N0 r
 | .slcT s _ _ _ _=>CB s
 | .agg (.G _)=>true
 | .agg (.M l)=>!fO l
 | .fn _ _ _=>true
 | .tup (_::_)=>true
 | _=>false
def anyM (f:AV→Bool):List dh→Bool
 | []=>false
 | .one v::r=>f v || anyM f r
 | .arr _ _ _::r=>anyM f r
def vj (n:Nat):AV→Bool
 | .agg (.G l)=>l.any (lZ n)
 | .agg (.M l)=>anyM (lZ n) l
 | .fn _ a b=>a.any (lZ n) || b.any (lZ n)
 | .ptrT (some 0) (.M l) _=>anyM (lZ n) l
 | v=>lZ n v
def Sq (n:Nat):Row→Bool
 | .I .. | .F ..=>false
 | .G l=>l.any (vj n)
 | .M l=>anyM (vj n) l
def Jk (n:Nat):ao→Bool
 | .dead=>false
 | .row r=>Sq n r
 | .map es=>es.any fun e=>vj n e.1 || vj n e.2
 | .fmap _ _ _ _=>false
 | .loop _=>true
def cutAt (fr:aE) (l:bK) (r:aa):Nat→Nat→aa
 | 0,_=>l::r
 | k+1,m=>if fr.any (fun x=>vj m x.2) || (l.bs.take m).any (fun x=>Jk m x.2) then cutAt fr l r k (m+1) else { l with bs:=l.bs.take m } :: r
def mn (n:Nat) (fr:aE) (H:aa):aa :=
 match H with
 | []=>[]
 | l::r=>if Nat.ble l.bs.length n then H else cutAt fr l r 4 n

def Jl:AV→Bool
 | .ptrT (some 0) (.M l) _=>anyM (lZ 0) l
 | v=>lZ 0 v
def vl (h:Nat):AV→Bool
 | .ptr d i _ _=>Nat.beq d 0 && Nat.beq i h
 | .slc d i _ _ _ _ _=>Nat.beq d 0 && Nat.beq i h
 | .map d i=>Nat.beq d 0 && Nat.beq i h
 | .yld d i=>Nat.beq d 0 && Nat.beq i h
 | v=>Jl v
def p7 (f:AV→Bool) (v:AV):Bool :=
 match v with
 | .agg (.G l)=>l.any f
 | .agg (.M l)=>anyM f l
 | .fn _ a b=>a.any f || b.any f
 | v=>f v
def Nw (f:AV→Bool):Row→Bool
 | .I .. | .F ..=>false
 | .G l=>l.any (p7 f)
 | .M l=>anyM (p7 f) l
def AG (f:AV→Bool):ao→Bool
 | .dead=>false
 | .row r=>Nw f r
 | .map _=>true
 | .fmap _ _ _ _=>false
 | .loop _=>true
def ve (a b:Nat):AV→AV
 | .ptr d i v off=>if Nat.beq d 0 && Nat.beq i a then .ptr 0 b v off else .ptr d i v off
 | .slc d i v off sz len cap=>if Nat.beq d 0 && Nat.beq i a then .slc 0 b v off sz len cap else .slc d i v off sz len cap
 | .map d i=>if Nat.beq d 0 && Nat.beq i a then .map 0 b else .map d i
 | .yld d i=>if Nat.beq d 0 && Nat.beq i a then .yld 0 b else .yld d i
 | v=>v
def nE (g:AV→AV) (v:AV):AV :=
 match v with
 | .agg (.G l)=>.agg (.G (l.map g))
 | .agg (.M l)=>.agg (.M (mapM' g l))
 | .fn f a b=>.fn f (a.map g) (b.map g)
 | v=>g v
def Gt (g:AV→AV):Row→Row
 | .I k l=>.I k l
 | .F f n=>.F f n
 | .G l=>.G (l.map (nE g))
 | .M l=>.M (mapM' (nE g) l)
def qx (g:AV→AV):ao→ao
 | .row r=>.row (Gt g r)
 | b=>b
def qy (g:AV→AV):aE→aE
 | []=>[]
 | (x,v)::r=>(x,nE g v)::qy g r
def jH (g:AV→AV):List (Nat×ao)→List (Nat×ao)
 | []=>[]
 | (v,b)::r=>(v,qx g b)::jH g r
def hole (fr:aE) (bs:List (Nat×ao)):Nat→Nat→Option Nat
 | 0,_=>none
 | k+1,m=>if Nat.blt (m+1) bs.length then
    if fr.any (fun x=>p7 (vl m) x.2) || ((bs.take m).any (fun x=>AG (vl m) x.2) || (bs.drop (m+1)).any (fun x=>AG (vl m) x.2)) then hole fr bs k (m+1) else some m
   else none
def xM (a b:Nat) (l:bK):bK:={ l with bs:=bR (jH (ve a b) (l.bs.take a)) b ((av l.bs a).1,qx (ve a b) (av l.bs a).2) }
def j8 (n:Nat):Nat→aE→aa→aE×aa
 | 0,fr,H=>(fr,H)
 | k + 1,fr,H=>match H with
   | []=>(fr,[])
   | l::r=>match hole fr l.bs 4 n with
     | none=>(fr,l::r)
     | some h=>j8 n k (qy (ve (l.bs.length-1) h) fr) (mn n (qy (ve (l.bs.length-1) h) fr) (xM (l.bs.length-1) h l::r))
def tidy (n:Nat) (fr:aE) (H:aa):aE×aa:=j8 n 4 fr (mn n fr H)

def nD (i ver:Nat) (r:Row):AV→AV
 | .ptr d j v off=>if Nat.beq d 0 && (Nat.beq j i && Nat.beq v ver) then .ptrT none r off else .ptr d j v off
 | .slc d j v off sz len cap=>if Nat.beq d 0 && (Nat.beq j i && (Nat.beq v ver && Nat.ble (off+len*sz) r.len)) then .slcT none (r.sub off (len*sz)) sz len (cap == some len) else .slc d j v off sz len cap
 | v=>v
def pR (i:Nat):AV→Bool
 | .slc d j _ _ _ _ _=>Nat.beq d 0 && Nat.beq j i
 | _=>false
def wV:Row→Bool
 | .I _ _=>true
 | .M [.arr _ _ _]=>true
 | _=>false
def ML (f:AV→Bool):ao→Bool
 | .row r=>Nw f r
 | _=>false
def mB (i:Nat) (fr:aE) (l:bK):aE×bK :=
 match av l.bs i with
 | (ver,.row r)=>if wV r && (fr.any (fun x=>p7 (pR i) x.2) || l.bs.any (fun x=>ML (pR i) x.2)) then (qy (nD i ver r) fr,{ l with bs:=bR (jH (nD i ver r) l.bs) i (ver,.dead) }) else (fr,l)
 | _=>(fr,l)
def jg:Nat→aE→bK→aE×bK
 | 0,fr,l=>(fr,l)
 | n+1,fr,l=>mB n (jg n fr l).1 (jg n fr l).2
def Eb (fr:aE) (H:aa):aE×aa :=
 match H with
 | []=>(fr,[])
 | l::r=>if l.lock then (fr,l::r) else ((jg l.bs.length fr l).1,(jg l.bs.length fr l).2::r)
def ey:Nat→aE→bK→aE×bK
 | 0,fr,l=>(fr,l)
 | n+1,fr,l=>if (ey n fr l).1.any (fun x=>p7 (pR n) x.2) then ey n fr l else mB n (ey n fr l).1 (ey n fr l).2
def uX (fr:aE) (H:aa):aE×aa :=
 match H with
 | []=>(fr,[])
 | l::r=>if l.lock then (fr,l::r) else ((ey l.bs.length fr l).1,(ey l.bs.length fr l).2::r)
def I1 (sz:Nat):AV→AV
 | .nils=>.slcT none (.M [.arr .i64 (fun _=>0) 0]) sz 0 false
 | v=>v
def El (sz:Nat):Nat→List AV→List AV
 | _,[]=>[]
 | 0,v::l=>I1 sz v::l
 | c+1,v::l=>v::El sz c l
def vf (c sz:Nat):ao→ao
 | .row (.G l)=>.row (.G (El sz c l))
 | B=>B
def mN (c sz:Nat):List (Nat×ao)→List (Nat×ao)
 | []=>[]
 | (v,B)::r=>(v,vf c sz B)::mN c sz r
def vg (k:Nat) (H:aa):aa :=
 match H with
 | []=>[]
 | l::r=>if l.lock then l::r else { l with bs:=mN (k % 8) (k / 8) l.bs } :: r
def CM (s:Nat):aE→Option Nat
 | []=>none
 | (x,v)::r=>if Nat.beq x s then (match v with
   | .slc 0 i _ _ _ _ _=>some i
   | _=>none) else CM s r
def wT (s:Nat) (fr:aE) (H:aa):aE×aa :=
 match H with
 | []=>(fr,[])
 | l::r=>if l.lock then (fr,l::r) else match CM s fr with
   | some i=>((mB i fr l).1,(mB i fr l).2::r)
   | none=>(fr,l::r)
noncomputable def jh (m:Nat) (fr:aE) (H:aa):aE×aa:=if iH m 4000 then ((Eb (bT fr m) H).1,if Nat.beq (Nat.shiftRight m 4003) 0 then (Eb (bT fr m) H).2 else vg (Nat.shiftRight m 4003) (Eb (bT fr m) H).2) else if iH m 4001 then wT (Nat.shiftRight m 4003) (bT fr m) H else if iH m 4002 then (match bM (bT fr m) (Nat.shiftRight m 4003) with | .bool false=>uX (bT fr m) H | _=>(bT fr m,H)) else (bT fr m,H)
def Em:aE→aE
 | []=>[]
 | (x,v)::r=>(x,jK v)::Em r
noncomputable def ll (m:Nat) (fr:aE) (H:aa):aE×aa:=if iH m 3998 then (match bM (jh m fr H).1 (Nat.shiftRight m 4003) with | .bool false=>((jh m fr H).1,vg (Nat.shiftRight m 3985 % 4096) (jh m fr H).2) | _=>jh m fr H) else jh m fr H
def Ek (s sz:Nat):aE→aE
 | []=>[]
 | (x,v)::r=>(x,cond (Nat.beq x s) (I1 sz v) v)::Ek s sz r
noncomputable def ln (m:Nat) (fr:aE) (H:aa):aE×aa:=if iH m 3997 then (Ek (Nat.shiftRight m 3985 % 4096 / 8) (Nat.shiftRight m 3985 % 8) (ll m fr H).1,(ll m fr H).2) else ll m fr H
noncomputable def px (m:Nat) (fr:aE) (H:aa):aE×aa:=if iH m 3999 then (Em (ln m fr H).1,(ln m fr H).2) else ln m fr H

def iter (body:aE→aa→Option (Ex×aE×aa)) (n:Nat):Nat→aE→aa→Option (Ex×aE×aa)
 | 0,_,_=>none
 | fu+1,fr,H=>match body fr H with
   | some (.normal,fr,H)=>iter body n fu (tidy n fr H).1 (tidy n fr H).2
   | r=>r

structure Cx where
 P:Program
 call:aL
 fu:Nat
 fn:FuncId
 nt:Nat
 kt:Nat→Nat
 ro:Option (Nat×Nat)
def Cx.here (cx:Cx) (H:aa):Bool :=
 match cx.ro with
 | none=>true
 | some (d,i)=>match az H d i with
   | (0,.loop _)=>true
   | _=>false

def jq (fr:aE) (H:aa) (cx:Cx) (params:Array Tmp) (assign body:Code):aa :=
 jF H (.loop { state:=.ready,pending:=none,fn:=cx.fn,nt:=cx.nt,fr,params:=params.toList,assign,body })

def xZ:Option Code→Option Ex
 | none=>some .normal
 | some (.exit id)=>some (.exit id)
 | some (.goto l)=>some (.goto l)
 | some .ret=>some .ret
 | _=>none

noncomputable def exec (cx:Cx):Code→aE→aa→Option (Ex×aE×aa)
 | .skip,fr,H=>some (.normal,fr,H)
 | .label _,fr,H=>some (.normal,fr,H)
 | .region id ops draw,fr,H =>
   match (if draw then (if ga ops (Region.before ops) then gI cx.P cx.nt cx.call ops (Region.before ops) 0 ops.toList fr (oj H (c6 ops.toList)) (aX H) [] else none) else fb cx.P cx.nt cx.call ops ops.toList fr H) with
   | some (fr,H)=>some (.normal,px (cx.kt id) fr H)
   | none=>none
 | .seq a b,fr,H=>match exec cx a fr H with
   | some (.normal,fr,H)=>exec cx b fr H
   | r=>r
 | .cond c a b,fr,H=>match b9 fr c with
   | .bool true=>exec cx a fr H
   | .bool false=>exec cx b fr H
   | _=>none
 | .block id b,fr,H=>match exec cx b fr H with
   | some (.exit id',fr,H)=>if Nat.beq id' id then some (.normal,fr,H) else some (.exit id',fr,H)
   | r=>r
 | .loop b,fr,H=>iter (exec cx b) (aX H) cx.fu fr H
 | .rangeFunc f params assign body,fr,H =>
   match b9 fr f with
   | .fn (.func g) a b =>
     if !cx.here H || aK H 0 then none else
     match cx.call (.fn g) (a++(.yld 0 (aX H)::b)) (jq fr H cx params assign body) with
     | some (_,H1)=>match az H1 0 (aX H) with
       | (0,.loop l) =>
         if l.state == .busy then none else
         match xZ l.pending with
         | some e=>some (e,fr,dN H1 0 (aX H))
         | none=>none
       | _=>none
     | none=>none
   | _=>none
 | .exit id,fr,H=>some (.exit id,fr,H)
 | .scope b,fr,H=>match exec cx b fr H with
   | some (.goto _,_,_)=>none
   | r=>r
 | .goto l,fr,H=>some (.goto l,fr,H)
 | .ret,fr,H=>some (.ret,fr,H)
 | .refuse _,_,_=>none

def dE   (bs:List (Nat×ao)):Nat→AV→AV
 | 0,_=>.undef
 | n + 1,v=>match v with
   | .ptr d i ver off=>match d with
     | d+1=>.ptr d i ver off
     | 0 => match av bs i with
       | (w,.row r)=>if Nat.beq w ver then (match r with
         | .I k l=>.ptrT none (.I k l) off
         | .F f m=>.ptrT none (.F f m) off
         | .M l=>if fO l then .ptrT none (.M l) off else .ptrT (some 0) (.M (mapM' (dE bs n) l)) off
         | .G l=>.ptrT (some 0) (.G (l.map (dE bs n))) off) else .undef
       | _=>.undef
   | .slc d i ver off sz len cap=>match d with
     | d+1=>.slc d i ver off sz len cap
     | 0 => match av bs i with
       | (w,.row r)=>if Nat.beq w ver∧off+len*sz≤r.len then (match r.sub off (len*sz) with
         | .I k l=>.slcT none (.I k l) sz len (cap == some len)
         | .F f m=>.slcT none (.F f m) sz len (cap == some len)
         | .M l=>if fO l then .slcT none (.M l) sz len (cap == some len) else .slcT (some 0) (.M (mapM' (dE bs n) l)) sz len (cap == some len)
         | .G l=>.slcT (some 0) (.G (l.map (dE bs n))) sz len (cap == some len)) else .undef
       | _=>.undef
   | .ptrT s r off=>match s with
     | none=>.ptrT none r off
     | some (s+1)=>.ptrT (some s) r off
     | some 0=>match r with
       | .G l=>.ptrT (some 0) (.G (l.map (dE bs n))) off
       | .M l=>if fO l then .ptrT none (.M l) off else .ptrT (some 0) (.M (mapM' (dE bs n) l)) off
       | r=>.ptrT none r off
   | .slcT s r sz len full=>match s with
     | none=>.slcT none r sz len full
     | some (s+1)=>.slcT (some s) r sz len full
     | some 0=>match r with
       | .G l=>.slcT (some 0) (.G (l.map (dE bs n))) sz len full
       | .M l=>if fO l then .slcT none (.M l) sz len full else .slcT (some 0) (.M (mapM' (dE bs n) l)) sz len full
       | r=>.slcT none r sz len full
   | .map d i=>match d with
     | d+1=>.map d i
     | 0=>.undef
   | .yld d i=>match d with
     | d+1=>.yld d i
     | 0=>.undef
   | .fn f a b=>.fn f (a.map (dE bs n)) (b.map (dE bs n))
   | .agg r=>match r with
     | .G l=>.agg (.G (l.map (dE bs n)))
     | .M l=>.agg (.M (mapM' (dE bs n) l))
     | r=>.agg r
   | .tup l=>.tup (l.map (dE bs n))
   | v=>v

def eh:Nat→List AV→aE
 | _,[]=>[]
 | x,v::l=>(x,mX 1 v)::eh (x+1) l

def gy (P:Program) (fr:aE) (H:aa):List ResultVar→Option (List AV)
 | []=>some []
 | .tmp t::r=>(gy P fr H r).map (bM fr t::·)
 | .cell a t::r=>match pB P H t (bM fr a) with
   | some v=>(gy P fr H r).map (v::·)
   | none=>none
def one:List AV→AV
 | [v]=>v
 | l=>.tup l

def jL (nt:Nat) (fr:aE):List Tmp→List AV→Option aE
 | [],[]=>some fr
 | t::ts,v::vs=>if Nat.blt t nt then jL nt (uQ fr t v) ts vs else none
 | _,_=>none

def c5:Ex→Option Code
 | .normal=>none
 | .exit id=>some (.exit id)
 | .goto l=>some (.goto l)
 | .ret=>some .ret

def kN (k:Nat):aE→aE
 | []=>[]
 | (x,v)::r=>(x,mX k v)::kN k r

noncomputable def df (P:Program) (ora:aL→FuncId→List AV→aa→Option (AV×aa)) (KT:FuncId→Nat→Nat) (fu:Nat):Nat→aL
 | _,.mode,_,_=>(ora (fun _ _ _=>none) 1000000 [] []).map fun _=>(.undef,[])
 | 0,_,_,_=>none
 | n + 1,.fn f,args,H=>match ora (df P ora KT fu n) f args H with
   | some r=>some r
   | none => match P.funcs[f]? with
     | none=>none
     | some fn=>match fn.body with
       | none=>none
       | some c=>if Nat.ble args.length fn.ntmps then
         match exec ⟨P,df P ora KT fu n,fu,f,fn.ntmps,KT f,none⟩ c (eh 0 args) (⟨false,[]⟩::H) with
         | some (e,fr,l::H') =>
           (match e with
           | .normal | .ret=>match gy P fr (l::H') fn.results.toList with
             | some vs=>some (dE l.bs 5 (one vs),H')
             | none=>none
           | _=>none)
         | _=>none
         else none
 | n + 1,.round  d i,args,H=>match az H d i with
   | (0, .loop l) =>
     if aK H d then none else
     match l.state with
     | .ready => match jL l.nt (kN (d+1) l.fr) l.params (args.map (mX 1)) with
       | some fr => match exec ⟨P,df P ora KT fu n,fu,l.fn,l.nt,KT l.fn,some (d+1,i)⟩ l.assign fr (⟨false,[]⟩::H) with
         | some (.normal,fr,H1)=>match az H1 (d+1) i with
           | (0, .loop l1)=>match l1.state with
             | .ready =>
               match exec ⟨P,df P ora KT fu n,fu,l.fn,l.nt,KT l.fn,some (d+1,i)⟩ l.body fr (dB H1 (d+1) i (0,.loop { l1 with state:=.busy })) with
               | some (e,_,_::H2)=>match az H2 d i with
                 | (0,.loop l2)=>some (.bool (c5 e).isNone,dB H2 d i (0,.loop { l2 with state:=if (c5 e).isNone then .ready else .done,pending:=c5 e }))
                 | _=>none
               | _=>none
             | _=>none
           | _=>none
         | _=>none
       | none=>none
     | _=>none
   | _=>none

end Go.Eng
