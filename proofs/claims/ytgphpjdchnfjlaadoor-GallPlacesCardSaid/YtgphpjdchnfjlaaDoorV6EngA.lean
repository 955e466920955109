/- The engine, part A: abstract values, the abstract heap, the abstract interpreter. No statement is proved here. -/
import Derived.RangeFuncLeaves
import Derived.Test.YtgphpjdchnfjlaaDoorV6EngGl
import Derived.OrdersIn
import Derived.RangeFuncRecord
namespace Go.Eng
theorem wO {p:Prop} (h:p:=by omega):p:=h
theorem nP:(∀ {α:Type} (a b:α),(some a=some b)=(a=b))∧(∀ {α β:Type} (a c:α) (b d:β),((a,b)=(c,d))=(a=c∧b=d)):=⟨fun _ _=>Option.some.injEq _ _,fun _ _ _ _=>Prod.mk.injEq _ _ _ _⟩

mutual
inductive AV where
 | undef
 | bool (b:Bool)
 | int (k:IntKind) (n:Int)
 | str (s:ByteArray)
 | nilp | nils | nilm | nilf
 | ptr (d i v off:Nat)
 | ptrT (s:Option Nat) (r:Row) (off:Nat)
 | slc (d i v off sz len:Nat) (cap:Option Nat)
 | slcT (s:Option Nat) (r:Row) (sz len:Nat) (full:Bool)
 | map (d i:Nat)
 | yld (d i:Nat)
 | fn (f:Fn) (first cap:List AV)
 | agg (r:Row)
 | tup (l:List AV)
inductive Row where
 | I (k:IntKind) (l:List Int)
 | G (l:List AV)
 | F (f:Nat→AV) (n:Nat)
 | M (l:List dj)
inductive dj where
 | one (v:AV)
 | arr (k:IntKind) (z:Nat→Int) (n:Nat)
end

instance:Inhabited AV:=⟨.undef⟩
instance:Inhabited Row:=⟨.G []⟩

def aT:dj→Nat
 | .one _=>1
 | .arr _ _ n=>n
def aA:List dj→Nat
 | []=>0
 | s::r=>aT s+aA r
def getM:List dj→Nat→AV
 | [],_=>.undef
 | .one v::_,0=>v
 | .one _::r,j+1=>getM r j
 | .arr k z n::r,j=>if j<n then .int k (z j) else getM r (j-n)
def mapM' (f:AV→AV):List dj→List dj
 | []=>[]
 | .one v::r=>.one (f v)::mapM' f r
 | .arr k z n::r=>.arr k z n::mapM' f r
def fP:List dj→Bool
 | []=>true
 | .one _::_=>false
 | .arr _ _ _::r=>fP r
def Row.len:Row→Nat
 | .I _ l=>l.length
 | .G l=>l.length
 | .F _ n=>n
 | .M l=>aA l
def Row.get:Row→Nat→AV
 | .I k l,j=>.int k (l.getD j 0)
 | .G l,j=>l.getD j .undef
 | .F f _,j=>f j
 | .M l,j=>getM l j

def dH (g:Nat→AV):Nat→Nat→List AV
 | _,0=>[]
 | o,n+1=>g o::dH g (o+1) n
def Row.toList:Row→List AV
 | .I k l=>l.map (.int k)
 | .G l=>l
 | .F f n=>dH f 0 n
 | .M l=>dH (getM l) 0 (aA l)
def Row.ints:Row→Option (IntKind×(Nat→Int))
 | .I k l=>some (k,fun j=>l.getD j 0)
 | .M [.arr k z _]=>some (k,z)
 | _=>none
def yi:Row→Bool
 | .M _=>true
 | _=>false
def qc:List AV→List dj→List dj
 | [],r=>r
 | v::l,r=>.one v::qc l r
def jT:List dj→Nat→AV→List dj
 | [],_,_=>[]
 | .one _::r,0,v=>.one v::r
 | .one u::r,j+1,v=>.one u::jT r j v
 | .arr k z n::r,j,v=>if j<n then (match v with
    | .int k' x=>if k'=k then .arr k (fun i=>if i=j then x else z i) n::r else qc (dH (fun i=>if i=j then v else .int k (z i)) 0 n) r
    | _=>qc (dH (fun i=>if i=j then v else .int k (z i)) 0 n) r)
   else .arr k z n::jT r (j-n) v
def xE:List Int→Bool
 | []=>true
 | x::l=>x == 0 && xE l
def P2 (l:List Int):Nat→Int:=if xE l then fun _=>0 else fun j=>l.getD j 0
def dw (k:IntKind):List AV→List Int×List AV
 | .int k' n::r=>if k'=k then (match dw k r with | (a,b)=>(n::a,b)) else ([],.int k' n::r)
 | l=>([],l)
def iv:Nat→List AV→List dj
 | 0,l=>qc l []
 | _,[]=>[]
 | f+1,.int k n::r=>match dw k r with
   | (a,b)=>if Nat.ble 7 a.length then .arr k (P2 (n::a)) (a.length+1)::iv f b else .one (.int k n)::iv f r
 | f+1,v::r=>.one v::iv f r

def sJ (k:IntKind):List AV→Option (List Int)
 | []=>some []
 | .int k' n::r=>if k'=k then (sJ k r).map (n::·) else none
 | _=>none
def Row.ofList:List AV→Row
 | .int k n::r=>match sJ k r with
   | some l=>.I k (n::l)
   | none=>.G (.int k n::r)
 | l=>.G l

def lu:List dj→Nat→Nat→Option (IntKind×(Nat→Int))
 | [],_,_=>none
 | .one _::r,o+1,n=>lu r o n
 | .one _::_,0,_=>none
 | .arr k z m::r,o,n=>if o+n≤m then some (k,fun j=>z (o+j)) else if m≤o then lu r (o-m) n else none
def Row.sub (r:Row) (o n:Nat):Row :=
 match r with
 | .I k l=>.I k ((l.drop o).take n)
 | .G l=>.G ((l.drop o).take n)
 | .F f _=>.F (fun j=>f (o+j)) n
 | .M [.arr k z _]=>.M [.arr k (fun j=>z (o+j)) n]
 | .M l=>if Nat.beq o 0 && Nat.beq (aA l) n then .M l else match lu l o n with
   | some (k,z)=>.M [.arr k z n]
   | none=>.G (dH (getM l) o n)

def gV:AV→Bool
 | .undef | .bool _ | .int _ _ | .str _ | .nilp | .nils | .nilm | .nilf=>true
 | .ptrT s _ _=>s.isNone
 | .slcT s _ _ _ _=>s.isNone
 | .agg (.I ..) | .agg (.F ..)=>true
 | .agg (.M l)=>fP l
 | _=>false

def Row.cut (r:Row) (o n:Nat):Row :=
 match r with
 | .G l=>Row.ofList ((l.drop o).take n)
 | .M l=>if Nat.ble n 8 then Row.ofList (dH (getM l) o n) else if Nat.beq o 0 && Nat.beq (aA l) n then .M l else (Row.M l).sub o n
 | r=>r.sub o n

def Row.set (r:Row) (j:Nat) (v:AV):Row :=
 match r,v with
 | .I k l,.int k' n=>if k'=k then .I k (l.set j n) else .G ((l.map (.int k)).set j v)
 | .I k l,v=>.G ((l.map (.int k)).set j v)
 | .G l,v=>.G (l.set j v)
 | .F f n,v=>.F (fun i=>if i=j then (if gV v then v else .undef) else f i) n
 | .M l,v=>.M (jT l j v)
def Row.cN (r:Row) (j:Nat):List AV→Row
 | []=>r
 | v::l=>(r.set j v).cN (j+1) l
def Row.uw (r s:Row):Option Row :=
 match r.ints,s.ints with
 | some (k,z),some (k',z')=>if k'=k then some (.M [.arr k (fun i=>if i<r.len then z i else z' (i-r.len)) (r.len+s.len)]) else none
 | _,_=>none
def jC:AV→AV
 | .slcT none (.I k l) sz m _=>.slcT none (.M [.arr k (fun j=>l.getD j 0) l.length]) sz m false
 | .slcT none (.M [.arr k z n]) sz m _=>.slcT none (.M [.arr k z n]) sz m false
 | v=>v
def qE (n i:Nat):Nat:=if Nat.beq n 1 then 0 else i
def Row.app (r s:Row):Row :=
 match r,s with
 | .M l,s=>(match (Row.M l).uw s with | some q=>q | none=>.G ((Row.M l).toList++s.toList))
 | .I k l,.M m=>(match (Row.I k l).uw (.M m) with | some q=>q | none=>.G ((Row.I k l).toList++(Row.M m).toList))
 | .I k l,.I k' l'=>if k'=k then .I k (l++l') else .G (l.map (.int k)++l'.map (.int k'))
 | .F f n,s=>.F (fun i=>if Nat.blt i n then f i else if gV (s.get (qE s.len (i-n))) then jC (s.get (qE s.len (i-n))) else .undef) (n+s.len)
 | r,s=>.G (r.toList++s.toList)

def oj (k:Nat):AV→AV
 | .ptr d i v off=>.ptr (d+k) i v off
 | .ptrT s r off=>.ptrT (s.map (· + k)) r off
 | .slc d i v off sz len cap=>.slc (d+k) i v off sz len cap
 | .slcT s r sz len full=>.slcT (s.map (· + k)) r sz len full
 | .map d i=>.map (d+k) i
 | .yld d i=>.yld (d+k) i
 | .agg (.I a l)=>.agg (.I a l)
 | .fn _ _ _ | .agg _ | .tup (_::_)=>.undef
 | v=>v
def PM (k:Nat) (v:AV):AV :=
 match v with
 | .fn f a b=>.fn f (a.map (oj k)) (b.map (oj k))
 | .agg (.G l)=>.agg (.G (l.map (oj k)))
 | .agg (.M l)=>.agg (.M (mapM' (oj k) l))
 | .agg r=>.agg r
 | v=>oj k v
def mH (k:Nat) (v:AV):AV :=
 match k with
 | 0=>v
 | k+1=>PM (k+1) v
def BS (k:Nat):Row→Row
 | .I a l=>.I a l
 | .G l=>.G (l.map (oj k))
 | .F f n=>.F f n
 | .M l=>.M (mapM' (oj k) l)
def BR (k:Nat) (r:Row):Row :=
 match k with
 | 0=>r
 | k+1=>BS (k+1) r
def kF:Nat→Nat→AV→AV
 | 0,_,_=>.undef
 | n + 1,k,v=>match v with
   | .ptr d i v off=>if Nat.blt d k then .undef else .ptr (d-k) i v off
   | .ptrT none r off=>.ptrT none r off
   | .ptrT (some s) r off=>if Nat.blt s k then (match r with
     | .G l=>.ptrT (some 0) (.G (l.map (kF n (k-s)))) off
     | .M l=>if fP l then .ptrT none (.M l) off else .ptrT (some 0) (.M (mapM' (kF n (k-s)) l)) off
     | r=>.ptrT none r off) else .ptrT (some (s-k)) r off
   | .slc d i v off sz len cap=>if Nat.blt d k then .undef else .slc (d-k) i v off sz len cap
   | .slcT none r sz len full=>.slcT none r sz len full
   | .slcT (some s) r sz len full=>if Nat.blt s k then (match r with
     | .G l=>.slcT (some 0) (.G (l.map (kF n (k-s)))) sz len full
     | .M l=>if fP l then .slcT none (.M l) sz len full else .slcT (some 0) (.M (mapM' (kF n (k-s)) l)) sz len full
     | r=>.slcT none r sz len full) else .slcT (some (s-k)) r sz len full
   | .map d i=>if Nat.blt d k then .undef else .map (d-k) i
   | .yld d i=>if Nat.blt d k then .undef else .yld (d-k) i
   | .agg (.I a l)=>.agg (.I a l)
   | .fn _ _ _ | .agg _ | .tup (_::_)=>.undef
   | v=>v
def NX (k:Nat) (v:AV):AV :=
 match v with
 | .fn f a b=>.fn f (a.map (kF 4 k)) (b.map (kF 4 k))
 | .agg (.G l)=>.agg (.G (l.map (kF 4 k)))
 | .agg (.M l)=>.agg (.M (mapM' (kF 4 k) l))
 | .agg r=>.agg r
 | v=>kF 4 k v
def Qz (k:Nat) (v:AV):AV :=
 match k with
 | 0=>v
 | k+1=>NX (k+1) v
def v8 (k:Nat):Row→Row
 | .I a l=>.I a l
 | .G l=>.G (l.map (kF 4 k))
 | .F f n=>.F f n
 | .M l=>.M (mapM' (kF 4 k) l)

def jq (k:Nat) (r:Row):Row :=
 match k with
 | 0=>r
 | k+1=>v8 (k+1) r

abbrev aC:=List (Nat×AV)
def bH:aC→Nat→AV
 | [],_=>.undef
 | (x,v)::r,y=>if Nat.beq x y then v else bH r y
def uz:aC→Nat→AV→aC
 | [],y,u=>[(y,u)]
 | (x,v)::r,y,u=>if Nat.ble y x then (if Nat.beq x y then (y,u)::r else (y,u)::(x,v)::r) else (x,v)::uz r y u
def iE (m x:Nat):Bool:=Nat.beq (Nat.land (Nat.shiftRight m x) 1) 1
noncomputable def bN (fr:aC) (m:Nat):aC:=List.rec (motive:=fun _=>aC) [] (fun p _ ih=>Prod.rec (motive:=fun _=>aC) (fun x _=>Bool.rec (motive:=fun _=>aC) (p::ih) ih (Nat.beq (Nat.land (Nat.shiftRight m x) 1) 1)) p) fr

structure jY where
 state:LoopState
 pending:Option Code
 fn:FuncId
 nt:Nat
 fr:aC
 params:List Tmp
 assign:Code
 body:Code

inductive KK where
 | num (k:IntKind)
 | str (n:Nat)
inductive an where
 | dead
 | row (r:Row)
 | map (es:List (AV×AV))
 | fmap (q:KK) (h:List Int→Bool) (g:List Int→Int) (c:Nat)
 | loop (l:jY)

structure bG where
 lock:Bool
 bs:List (Nat×an)
abbrev ab:=List bG

def aq:List (Nat×an)→Nat→Nat×an
 | [],_=>(0,.dead)
 | b::_,0=>b
 | _::r,i+1=>aq r i
def bK:List (Nat×an)→Nat→Nat×an→List (Nat×an)
 | [],_,_=>[]
 | _::r,0,x=>x::r
 | b::r,i+1,x=>b::bK r i x
def az:ab→Nat→Nat→Nat×an
 | [],_,_=>(0,.dead)
 | l::_,0,i=>aq l.bs i
 | _::r,d+1,i=>az r d i
def aK:ab→Nat→Bool
 | [],_=>true
 | l::_,0=>l.lock
 | _::r,d+1=>aK r d
def dG:ab→Nat→Nat→Nat×an→ab
 | [],_,_,_=>[]
 | l::r,0,i,x=>{ l with bs:=bK l.bs i x } :: r
 | l::r,d+1,i,x=>l::dG r d i x
def dW (H:ab) (d i:Nat):ab:=dG H d i ((az H d i).1,.dead)
def jy:ab→an→ab
 | [],b=>[⟨false,[(0,b)]⟩]
 | l::r,b=>{ l with bs:=l.bs++[(0,b)] } :: r
def bB:ab→Nat→an→ab
 | [],_,_=>[]
 | l::r,0,b=>{ l with bs:=l.bs++[(0,b)] } :: r
 | l::r,d+1,b=>l::bB r d b
def ao:ab→Nat→Nat
 | [],_=>0
 | l::_,0=>l.bs.length
 | _::r,d+1=>ao r d
def aW:ab→Nat
 | []=>0
 | l::_=>l.bs.length
def bE:ab→ab
 | []=>[]
 | l::r=>{ l with lock:=true } :: bE r

def da (H:ab) (d i v:Nat):Option Row :=
 match az H d i with
 | (ver,.row r)=>if Nat.beq ver v then some r else none
 | _=>none

def sf:Value→AV
 | .bool b=>.bool b
 | .int k n=>.int k n
 | .string s=>.str s
 | .pointer none=>.nilp
 | .slice none 0 0=>.nils
 | .map none=>.nilm
 | .nilFunc=>.nilf
 | _=>.undef
def kK:Value→AV
 | .bool b=>.bool b
 | .int k n=>.int k n
 | .string s=>.str s
 | .pointer none=>.nilp
 | .slice none 0 0=>.nils
 | .map none=>.nilm
 | .nilFunc=>.nilf
 | .func (.func f) ca cb=>if ca.isEmpty && cb.isEmpty then .fn (.func f) [] [] else .undef
 | .agg cs=>if cs.toList.all Value.oneCell' then .agg (Row.ofList (cs.toList.map sf)) else .undef
 | .tuple cs=>if cs.isEmpty then .tup [] else .undef
 | _=>.undef

def bU (fr:aC):Operand→AV
 | .tmp t=>bH fr t
 | .const v=>kK v
 | .global _=>.undef
 | .func f=>.fn (.func f) [] []

def AV.row:AV→Option Row
 | .agg r=>some r
 | .int k n=>some (.I k [n])
 | .undef | .tup _=>none
 | v=>some (.G [v])

def fc (P:Program) (t:TypeId):Option Bool :=
 match P.underlying t with
 | some (.struct _) | some (.array _ _)=>some true
 | some _=>some false
 | none=>none
def bD (P:Program) (t:TypeId):Option Nat:=(P.info? t).map (·.size)
def c7 (P:Program) (t:TypeId):Option AV:=((P.info? t).bind (·.zero)).map kK

inductive Delta where
 | bC
 | push (b:an)
 | set (d i:Nat) (b:Nat×an)
 | heap (H:ab)
def Delta.on (δ:Delta) (H:ab):ab :=
 match δ with
 | .bC=>H
 | .push b=>jy H b
 | .set d i b=>dG H d i b
 | .heap H=>H

inductive PR where
 | fn (f:FuncId)
 | round (d i:Nat)
 | mode
abbrev aJ:=PR→List AV→ab→Option (AV×ab)

def ij (op:BinOp) (k:IntKind) (x y:Int):Option AV :=
 match op with
 | .add=>some (.int k (k.wrap (x+y)))
 | .sub=>some (.int k (k.wrap (x-y)))
 | .mul=>some (.int k (k.wrap (x*y)))
 | .quo=>if y=0 then none else some (.int k (k.wrap (x.tdiv y)))
 | .rem=>if y=0 then none else some (.int k (x.tmod y))
 | .and=>some (.int k (k.wrap (BitVec.ofInt k.bits x &&& BitVec.ofInt k.bits y).toNat))
 | .or=>some (.int k (k.wrap (BitVec.ofInt k.bits x ||| BitVec.ofInt k.bits y).toNat))
 | .xor=>some (.int k (k.wrap (BitVec.ofInt k.bits x ^^^ BitVec.ofInt k.bits y).toNat))
 | .andNot=>some (.int k (k.wrap (BitVec.ofInt k.bits x &&& ~~~(BitVec.ofInt k.bits y)).toNat))
 | .eql=>some (.bool (x == y))
 | .neq=>some (.bool (x != y))
 | .lss=>some (.bool (x<y))
 | .leq=>some (.bool (x≤y))
 | .gtr=>some (.bool (x > y))
 | .geq=>some (.bool (x≥y))
 | _=>none

def fT (P:Program) (g:TypeId→Option Nat) (off:Nat):List Field→Option Nat
 | []=>some off
 | f::fs=>if f.name != "_" && Nat.beq f.offset off then (match g f.type with
   | some s=>fT P g (off+s) fs
   | none=>none) else none
def cr (P:Program):Nat→TypeId→Option Nat
 | 0,_=>none
 | n + 1,t=>match P.underlying t with
   | some (.int _)=>if bD P t=some 1 then some 1 else none
   | some (.array len e)=>match cr P n e with
     | some s=>if bD P t=some (len*s) then some (len*s) else none
     | none=>none
   | some (.struct fs)=>if P.stoodInHeld t then none else match fT P (cr P n) 0 fs.toList with
     | some s=>if bD P t=some s then some s else none
     | none=>none
   | _=>none

def eY:List Int→List Int→Bool
 | [],[]=>true
 | x::a,y::b=>(x == y) && eY a b
 | _,_=>false

def allEq (z z':Nat→Int):Nat→Bool
 | 0=>true
 | n+1=>allEq z z' n && (z n == z' n)
def Ni (P:Program) (t:TypeId) (r s:Row):Option Bool :=
 match r.ints,s.ints with
 | some (k,z),some (k',z')=>if k=k'∧cr P 20 t=some r.len∧fc P t=some true∧r.len=s.len then some (allEq z z' r.len) else none
 | _,_=>none
def Aw (P:Program) (t:TypeId) (x y:AV):Option Bool :=
 match x,y with
 | .bool a,.bool b=>(match P.underlying t with | some .bool=>some (a == b) | _=>none)
 | .nils,.nils | .nils,.slcT .. | .nils,.slc .. | .slcT ..,.nils | .slc ..,.nils =>
   (match P.underlying t with
   | some (.slice _)=>(match x,y with
     | .nils,.nils=>some true
     | .nils,.slcT _ _ _ n _=>if 0<n then some false else none
     | .slcT _ _ _ n _,.nils=>if 0<n then some false else none
     | _,_=>some false)
   | _=>none)
 | .nilp,.nilp | .nilp,.ptr .. | .nilp,.ptrT .. | .ptr ..,.nilp | .ptrT ..,.nilp =>
   (match P.underlying t with
   | some (.pointer _)=>some (match x,y with | .nilp,.nilp=>true | _,_=>false)
   | _=>none)
 | .agg (.I k a),.agg (.I k' b)=>if k=k'∧cr P 20 t=some a.length∧fc P t=some true∧a.length=b.length then some (eY a b) else none
 | .agg (.M l),.agg s=>Ni P t (.M l) s
 | .agg (.I k a),.agg (.M l)=>Ni P t (.I k a) (.M l)
 | _,_=>none

def j5 (P:Program) (op:BinOp) (t:TypeId) (x y:AV):Option AV :=
 match op,x,y with
 | .shl,.int k a,.int _ b=>if b<0 then none else some (.int k (k.wrap (a*2 ^ (min b.toNat k.bits))))
 | .shr,.int k a,.int _ b=>if b<0 then none else some (.int k (a.fdiv (2 ^ (min b.toNat k.bits))))
 | op,.int k a,.int k' b=>if k=k' then ij op k a b else none
 | .eql,x,y=>(Aw P t x y).map .bool
 | .neq,x,y=>(Aw P t x y).map fun b=>.bool (!b)
 | _,_,_=>none

def P1 (op:UnOp) (x:AV):Option AV :=
 match op,x with
 | .not,.bool b=>some (.bool !b)
 | .neg,.int k n=>some (.int k (k.wrap (0-n)))
 | _,_=>none

def ob {α:Type} (l:List α):Nat→List α
 | 0=>[]
 | n+1=>l++ob l n
def dT (z:Row) (n:Nat):Row :=
 match z with
 | .I k l=>.I k (ob l n)
 | z=>.G (ob z.toList n)
def FR (l:List AV) (n:Nat):Row :=
 match l with
 | [v]=>if gV v then .F (fun _=>v) n else .G (ob l n)
 | l=>.G (ob l n)
def dO (z:Row) (n:Nat):Row :=
 match z with
 | .I k l=>if xE l then .M [.arr k (fun _=>0) (n*l.length)] else .I k (ob l n)
 | z=>FR z.toList n
def kC (r:Row):Row :=
 match r with
 | .I k l=>if Nat.ble 8 l.length then .M [.arr k (P2 l) l.length] else .I k l
 | .G l=>if (iv l.length l).length == l.length then .G l else .M (iv l.length l)
 | r=>r
def xK (z:Nat→Int) (off:Nat) (z':Nat→Int) (n:Nat):Nat→Int:=fun i=>if off≤i∧i<off+n then z' (i-off) else z i
def yS:List dj→Nat→Nat→List dj→Option (List dj)
 | [],_,_,_=>none
 | .one v::r,o+1,n,q=>(yS r o n q).map (.one v::·)
 | .one _::_,0,_,_=>none
 | .arr k z m::r,o,n,q=>if Nat.beq o 0 && Nat.beq m n then some (q++r) else if Nat.ble m o then (yS r (o-m) n q).map (.arr k z m::·) else none
def Kp (q:Row):Option (List dj) :=
 match kC q with
 | .M l=>some l
 | _=>none
def wZ (l:List dj) (off:Nat) (q:Row):Row :=
 if Nat.ble 9 q.len then (match Kp q with
  | some qs=>if Nat.beq off 0 && Nat.beq (aA l) q.len then .M qs else (match yS l off q.len qs with
    | some l'=>.M l'
    | none=>(Row.M l).cN off q.toList)
  | none=>(Row.M l).cN off q.toList)
 else (Row.M l).cN off q.toList
def jS (r:Row) (off:Nat) (q:Row):Row :=
 match r with
 | .M l=>(match l with
   | [.arr k z m]=>(match q with
     | .M [.arr k' z' n]=>if k'=k then .M [.arr k (xK z off z' n) m] else wZ l off q
     | _=>wZ l off q)
   | _=>wZ l off q)
 | r=>r.cN off q.toList
def qC:AV→Bool
 | .slcT none (.M [.arr _ _ _]) _ _ _=>true
 | .slcT none (.I _ _) _ _ _=>true
 | _=>false
def qU (sy:Bool) (r:Row):Row :=
 match r with
 | .I k l=>if sy then .M [.arr k (fun j=>l.getD j 0) l.length] else .I k l
 | .G [v]=>if sy && qC v then .F (fun _=>jC v) 1 else .G [v]
 | r=>r
def sn (place:Nat→Option (Nat×Nat)) (r:Row):List (Nat×AV)→Option Row
 | []=>some r
 | (i,v)::rest=>match place i with
   | none=>none
   | some (off,size)=>match v.row with
     | some q=>if q.len=size∧off+q.len≤r.len then sn place (r.cN off q.toList) rest else none
     | none=>none

def jE (P:Program) (t:TypeId) (r:Row) (off:Nat):Option AV :=
 match fc P t,bD P t with
 | some true,some n=>if off+n≤r.len then some (.agg (r.cut off n)) else none
 | some false,_=>if off<r.len then some (r.get off) else none
 | _,_=>none

def Uz (s:Option Nat) (v:AV):AV :=
 match s with
 | none=>v
 | some k=>mH k v

def o6 (P:Program) (H:ab) (t:TypeId) (a:AV):Option AV :=
 match a with
 | .ptr d i v off=>match da H d i v with
   | some r=>(jE P t r off).map (mH d)
   | none=>none
 | .ptrT s r off=>(jE P t r off).map (Uz s)
 | _=>none

def gy (P:Program) (H:ab) (t:TypeId) (a x:AV):Option Delta :=
 match a with
 | .ptr d i v off =>
   if aK H d then none else
   match da H d i v,bD P t,x.row with
   | some r,some n,some q =>
     if q.len=n∧off+n≤r.len then
      match d,x with
      | d+1,.slc 0 j w o sz len cap=>if aK H 0 then none else match da H 0 j w with
        | some q=>some (.heap (bB (dG (dW H 0 j) (d+1) i (v,.row (r.set off (.slc 0 (ao H (d+1)) 0 o sz len cap)))) (d+1) (.row (jq (d+1) q))))
        | none=>none
      | _,_=>some (.set d i (v,.row (jS r off (jq d q))))
     else none
   | _,_,_=>none
 | _=>none

def ll (P:Program):List Field→Option (List (Nat×Nat))
 | []=>some []
 | f::fs=>match bD P f.type,ll P fs with
   | some n,some l=>some ((f.offset,n)::l)
   | _,_=>none

def vX (P:Program) (sy:Bool) (t:TypeId) (parts:List (Nat×AV)):Option AV :=
 match c7 P t,P.underlying t with
 | some (.agg z),some (.struct fs)=>match ll P fs.toList with
   | some l=>(sn (fun i=>l[i]?) (if sy then kC z else z) parts).map .agg
   | none=>none
 | some (.agg z),some (.array _ e)=>match bD P e with
   | some n=>(sn (fun i=>some (i*n,n)) (if sy then kC z else z) parts).map .agg
   | none=>none
 | _,_=>none

def lO (a:AV) (n:Nat):Option AV :=
 match a with
 | .ptr d i v off=>some (.ptr d i v (off+n))
 | .ptrT s r off=>some (.ptrT s r (off+n))
 | _=>none

def iS (P:Program) (t:TypeId) (a:AV) (f:Nat):Option AV :=
 match P.underlying t with
 | some (.struct fs)=>match fs[f]? with
   | some g=>match bD P g.type with
     | some (_+1)=>lO a g.offset
     | _=>none
   | none=>none
 | _=>none

def iZ (P:Program) (t:TypeId) (x:AV) (i:Int):Option AV :=
 match P.underlying t,x with
 | some (.array n e),x=>match bD P e with
   | some z=>if 0≤i∧i<n then lO x (i.toNat*z) else none
   | none=>none
 | some (.slice e),.slc d j v off sz len _ =>
   if 0≤i∧i<len∧bD P e=some sz then some (.ptr d j v (off+i.toNat*sz)) else none
 | some (.slice e),.slcT s r sz len _ =>
   if 0≤i∧i<len∧bD P e=some sz then some (.ptrT s r (i.toNat*sz)) else none
 | _,_=>none

def pV (P:Program) (t:TypeId) (x:AV) (i:Int):Option AV :=
 match P.underlying t,x with
 | some (.array n e),.agg r=>match bD P e with
   | some z=>if 0≤i∧i<n then jE P e r (i.toNat*z) else none
   | none=>none
 | some .string,.str s=>if 0≤i then (match s[i.toNat]? with
   | some b=>some (.int .u8 b.toNat)
   | none=>none) else none
 | _,_=>none

def wg (P:Program) (t:TypeId) (x:AV) (f:Nat):Option AV :=
 match P.underlying t,x with
 | some (.struct fs),.agg r=>match fs[f]? with
   | some g=>jE P g.type r g.offset
   | none=>none
 | _,_=>none

def bound (o:Option AV) (dflt top:Nat):Option Nat :=
 match o with
 | none=>some dflt
 | some (.int _ i)=>if 0≤i∧i≤top then some i.toNat else none
 | some _=>none

def dZ (lo hi mx:Option AV) (len:Nat):Option (Nat×Nat×Option Nat) :=
 match mx with
 | none=>match bound hi len len with
   | some h=>match bound lo 0 h with
     | some l=>some (l,h,none)
     | none=>none
   | none=>none
 | some a=>match bound (some a) 0 len with
   | some m=>if hi.isSome then (match bound hi len m with
     | some h=>match bound lo 0 h with
       | some l=>some (l,h,some m)
       | none=>none
     | none=>none) else none
   | none=>none

def qi (P:Program) (t:TypeId) (x:AV) (lo hi mx:Option AV):Option AV :=
 match P.underlying t,x with
 | some (.slice e),.slc d j v off sz len cap =>
   match dZ lo hi mx len with
   | some (l,h,mm)=>if bD P e=some sz then
      some (.slc d j v (off+l*sz) sz (h-l) (match mm with | none=>cap.map (· - l) | some m=>some (m-l))) else none
   | none=>none
 | some (.slice e),.slcT s r sz len full =>
   match dZ lo hi mx len with
   | some (l,h,mm)=>if bD P e=some sz∧l*sz+(h-l)*sz≤r.len then
      some (.slcT s (r.sub (l*sz) ((h-l)*sz)) sz (h-l) (match mm with | none=>full && Nat.beq h len | some m=>Nat.beq h m)) else none
   | none=>none
 | some (.slice e),.nils =>
   match dZ lo hi mx 0,bD P e with
   | some _,some _=>some .nils
   | _,_=>none
 | some (.array n e),.ptr d j v off =>
   match dZ lo hi mx n with
   | some (l,h,mm)=>match bD P e with
     | some sz=>some (.slc d j v (off+l*sz) sz (h-l) (match mm with | none=>some (n-l) | some m=>some (m-l)))
     | none=>none
   | none=>none
 | _,_=>none

def uJ (P:Program) (H:ab) (t:TypeId) (x:AV):Option Int :=
 match P.underlying t,x with
 | some (.array n _),_=>some n
 | some (.slice _),.nils=>some 0
 | some (.slice _),.slc _ _ _ _ _ len _=>some len
 | some (.slice _),.slcT _ _ _ len _=>some len
 | some (.map _ _),.nilm=>some 0
 | some (.map _ _),.map d i=>match az H d i with
   | (0,.map es)=>some es.length
   | (0,.fmap _ _ _ c)=>some c
   | _=>none
 | _,_=>none

def LB (P:Program) (t:TypeId) (x:AV):Option Int :=
 match P.underlying t,x with
 | some (.slice _),.nils=>some 0
 | some (.slice _),.slc _ _ _ _ _ _ (some c)=>some c
 | _,_=>none

def eF (H:ab) (sz n:Nat) (x:AV):Option Row :=
 match x with
 | .nils=>if n=0 then some (.G []) else none
 | .slc d i v off sz' len _=>match da H d i v with
   | some r=>if sz'=sz∧n≤len∧off+n*sz≤r.len then some (BR d (r.sub off (n*sz))) else none
   | none=>none
 | .slcT s r sz' len _=>if sz'=sz∧n≤len∧n*sz≤r.len then some (match s with | none=>r.sub 0 (n*sz) | some k=>BR k (r.sub 0 (n*sz))) else none
 | _=>none
def nJ:AV→Option Nat
 | .nils=>some 0
 | .slc _ _ _ _ _ len _=>some len
 | .slcT _ _ _ len _=>some len
 | _=>none

def room:Nat:=2 ^ 46

def EX (P:Program) (sy:Bool) (nx:Nat) (e:TypeId) (s x:AV):Option (AV×Delta) :=
 match P.info? e,s,x with
 | some inf,.nils,.int _ k =>
   if 0≤k∧k.toNat≤room∧k.toNat*inf.bytes≤room∧0<inf.size∧((c7 P e).bind AV.row).map Row.len=some inf.size then
    (if k=0 then some (.nils,.bC) else some (.slc 0 nx 0 0 inf.size k.toNat none,.push (.row (qU sy (.I .i64 [])))))
   else none
 | _,_,_=>none
def oA      (P:Program) (sy:Bool) (H:ab) (nx:Nat) (t u:TypeId) (s x:AV):Option (AV×Delta) :=
 match P.underlying t,P.underlying u with
 | some (.slice e),some (.int _)=>EX P sy nx e s x
 | some (.slice e),some (.slice _) =>
   match P.info? e,nJ s,nJ x with
   | some inf,some m,some n =>
     if n=0 then (match s,x with
      | .nils,_=>some (s,.bC)
      | .slc ..,_=>some (s,.bC)
      | .slcT ..,_=>some (s,.bC)
      | _,_=>none)
     else if (m+n)*inf.bytes≤room∧(m+n)≤room∧0<inf.bytes∧((c7 P e).bind AV.row).map Row.len=some inf.size then
      match eF H inf.size n x with
      | none=>none
      | some new =>
        match s with
        | .nils=>some (.slc 0 nx 0 0 inf.size n none,.push (.row (qU sy new)))
        | .slcT _ _ _ _ true=>match eF H inf.size m s with
          | some old=>some (.slc 0 nx 0 0 inf.size (m+n) none,.push (.row (qU sy (old.app new))))
          | none=>none
        | .slc d i v off sz _ (some c) =>
          if c<m+n then
           match eF H inf.size m s with
           | some old=>some (.slc 0 nx 0 0 inf.size (m+n) none,.push (.row (qU sy (old.app new))))
           | none=>none
          else if aK H d then none else
           match da H d i v with
           | some r=>if sz=inf.size∧off+(m+n)*sz≤r.len then
              some (.slc d i v off sz (m+n) (some c),.set d i (v,.row (r.cN (off+m*sz) (jq d new).toList)))
             else none
           | none=>none
        | .slc d i v off sz _ none =>
          if aK H d then none else
          match da H d i v with
          | some r=>if sz=inf.size∧off+m*sz=r.len then
             some (.slc d i (v+1) 0 sz (m+n) none,.set d i (v+1,.row ((r.sub off (m*sz)).app (jq d new))))
            else none
          | none=>none
        | _=>none
     else none
   | _,_,_=>none
 | _,_=>none

def copyV (P:Program) (H:ab) (t:TypeId) (s x:AV):Option (AV×Delta) :=
 match P.underlying t with
 | some (.slice e) =>
   match bD P e,nJ s,nJ x with
   | some z,some m,some n =>
     match eF H z (min n m) x with
     | none=>none
     | some new =>
       match s with
       | .nils=>some (.int .i64 (min n m:Nat),.bC)
       | .slc d i v off sz _ _ =>
         if aK H d then none else
         match da H d i v with
         | some r=>if sz=z∧off+(min n m)*sz≤r.len then
            some (.int .i64 (min n m:Nat),.set d i (v,.row (jS r off (jq d new))))
           else none
         | none=>none
       | _=>none
   | _,_,_=>none
 | _=>none

def sd (P:Program) (H:ab) (t:TypeId) (s:AV):Option (AV×Delta) :=
 match P.underlying t,s with
 | some (.slice _),.nils=>some (.tup [],.bC)
 | some (.slice e),.slc d i v off sz len _ =>
   if aK H d then none else
   match (c7 P e).bind AV.row,da H d i v with
   | some z,some r=>if z.len=sz∧bD P e=some sz∧off+len*sz≤r.len then
      some (.tup [],if len=0 then .bC else .set d i (v,.row (if yi r then jS r off (dO z len) else r.cN off (dT z len).toList)))
     else none
   | _,_=>none
 | _,_=>none

def eJ (mx:Bool) (k:IntKind) (x:Int):List AV→Option AV
 | []=>some (.int k x)
 | .int k' y::r=>if k=k' then eJ mx k (if mx then (if y > x then y else x) else (if y<x then y else x)) r else none
 | _=>none
def nQ (mx:Bool):List AV→Option AV
 | .int k x::r=>eJ mx k x r
 | _=>none

def jb (P:Program) (sy:Bool) (nx:Nat) (t:TypeId) (l c:AV):Option (AV×Delta) :=
 match P.underlying t,l,c with
 | some (.slice e),.int _ l,.int _ c =>
   match P.info? e,(c7 P e).bind AV.row with
   | some inf,some z =>
     if 0≤l∧l≤c∧c.toNat*inf.bytes≤room∧c.toNat≤room∧z.len=inf.size then
      some (.slc 0 nx 0 0 inf.size l.toNat (some c.toNat),.push (.row (if sy then dO z c.toNat else dT z c.toNat)))
     else none
   | _,_=>none
 | _,_,_=>none

def jv (P:Program) (nx:Nat) (t:TypeId) (len:Nat) (parts:List (Nat×AV)):Option (AV×Delta) :=
 match P.underlying t with
 | some (.slice e)=>match bD P e,(c7 P e).bind AV.row with
   | some z,some zv =>
     if len*z≤2 ^ 24∧zv.len=z then
      (sn (fun i=>some (i*z,z)) (dT zv len) parts).map fun r=>(.slc 0 nx 0 0 z len (some len),.push (.row r))
     else none
   | _,_=>none
 | _=>none

def oZ (x y:AV):Option Bool :=
 match x,y with
 | .int k a,.int k' b=>if k=k' then some (a == b) else none
 | .agg (.I k a),.agg (.I k' b)=>if k=k'∧a.length=b.length then some (eY a b) else none
 | _,_=>none
def fS (key:AV):List (AV×AV)→Nat→Option (Option Nat)
 | [],_=>some none
 | (k,_)::r,i=>match oZ key k with
   | some true=>some (some i)
   | some false=>fS key r (i+1)
   | none=>none
def jR (P:Program) (t:TypeId) (x:AV):Bool :=
 match P.underlying t,x with
 | some (.int _),.int _ _=>true
 | some (.array _ _),.agg (.I _ l)=>cr P 20 t == some l.length
 | some (.struct _),.agg (.I _ l)=>cr P 20 t == some l.length
 | _,_=>false
def vh (H:ab) (m:AV):Option (Nat×List (AV×AV)) :=
 match m with
 | .nilm=>some (0,[])
 | .map d i=>match az H d i with
   | (0,.map es)=>some (d,es)
   | _=>none
 | _=>none
def nU:List (AV×AV)→Nat→AV
 | [],_=>.undef
 | e::_,0=>e.2
 | _::r,i+1=>nU r i
def og:List (AV×AV)→Nat→AV×AV→List (AV×AV)
 | [],_,_=>[]
 | _::r,0,x=>x::r
 | e::r,i+1,x=>e::og r i x
def ny:List (AV×AV)→Nat→List (AV×AV)
 | [],_=>[]
 | _::r,0=>r
 | e::r,i+1=>e::ny r i
def vn (H:ab) (m:AV):Option (KK×(List Int→Bool)×(List Int→Int)×Nat) :=
 match m with
 | .map d i=>match az H d i with
   | (0,.fmap q h g c)=>some (q,h,g,c)
   | _=>none
 | _=>none
def uI:KK→AV→Option (List Int)
 | .num k,.int k' n=>if k=k' then some [n] else none
 | .str m,.agg (.I .i64 l)=>if Nat.beq l.length m then some l else none
 | _,_=>none
def Ot:AV→Option KK
 | .int k _=>some (.num k)
 | .agg (.I .i64 l)=>some (.str l.length)
 | _=>none
def yL:AV→Option Int
 | .int .i64 n=>some n
 | _=>none
def fB (h:List Int→Bool) (n:List Int) (b:Bool):List Int→Bool:=fun i=>if i=n then b else h i
def iJ (g:List Int→Int) (n:List Int) (x:Int):List Int→Int:=fun i=>if i=n then x else g i
def ux (b:Bool) (c:Nat):Nat:=cond b c (c+1)
def xI (b:Bool) (c:Nat):Nat:=cond b (c-1) c
def ta (P:Program) (t:TypeId):an :=
 match P.underlying t with
 | some (.map kt et)=>match (c7 P kt).bind Ot,(c7 P et).bind yL with
   | some q,some _=>.fmap q (fun _=>false) (fun _=>0) 0
   | _,_=>.map []
 | _=>.map []
def rv (P:Program) (H:ab) (t:TypeId) (m key:AV) (ok:Bool):Option AV :=
 match P.underlying t with
 | some (.map kt et) =>
   if jR P kt key then
    match vn H m with
    | some (q,h,g,_)=>match uI q key,(c7 P et).bind yL with
      | some n,some 0=>some (if ok then .tup [.int .i64 (g n),.bool (h n)] else .int .i64 (g n))
      | _,_=>none
    | none=>match vh H m,c7 P et with
    | some (d,es),some z=>match fS key es 0 with
      | some (some i)=>some (if ok then .tup [mH d (nU es i),.bool true] else mH d (nU es i))
      | some none=>some (if ok then .tup [z,.bool false] else z)
      | none=>none
    | _,_=>none
   else none
 | _=>none
def jJ (P:Program) (H:ab) (t:TypeId) (m key x:AV):Option Delta :=
 match P.underlying t,m with
 | some (.map kt _),.map d i =>
   if aK H d then none else
   if jR P kt key then
    match az H d i with
    | (0,.fmap q h g c)=>match uI q key,yL x with
      | some n,some y=>some (.set d i (0,.fmap q (fB h n true) (iJ g n y) (ux (h n) c)))
      | _,_=>none
    | (0,.map es)=>match fS key es 0 with
      | some (some j)=>some (.set d i (0,.map (og es j (key,Qz d x))))
      | some none=>some (.set d i (0,.map (es++[(key,Qz d x)])))
      | none=>none
    | _=>none
   else none
 | _,_=>none
def oF (P:Program) (H:ab) (t:TypeId) (m key:AV):Option (AV×Delta) :=
 match P.underlying t,m with
 | some (.map kt _),.map d i =>
   if aK H d then none else
   if jR P kt key then
    match az H d i with
    | (0,.fmap q h g c)=>match uI q key with
      | some n=>some (.tup [],.set d i (0,.fmap q (fB h n false) (iJ g n 0) (xI (h n) c)))
      | none=>none
    | (0,.map es)=>match fS key es 0 with
      | some (some j)=>some (.tup [],.set d i (0,.map (ny es j)))
      | some none=>some (.tup [],.set d i (0,.map es))
      | none=>none
    | _=>none
   else none
 | _,_=>none

def dS (fr:aC):List (Nat×Operand)→List (Nat×AV)
 | []=>[]
 | (i,x)::r=>(i,bU fr x)::dS fr r
def lj (fr:aC):List Operand→List AV
 | []=>[]
 | x::r=>bU fr x::lj fr r

def nf {α:Type} (call:aJ) (a b:α):α :=
 match call .mode [] [] with
 | some _=>a
 | none=>b
def gN (P:Program) (call:aJ) (fr:aC) (H:ab) (nx:Nat) (c:Call):Option (AV×Delta) :=
 match c.callee with
 | .value f=>match bU fr f with
   | .fn (.func g) a b=>(call (.fn g) (a++(lj fr c.args.toList++b)) H).map fun (v,H)=>(v,.heap H)
   | .yld d i=>(call (.round d i) (lj fr c.args.toList) H).map fun (v,H)=>(v,.heap H)
   | _=>none
 | .builtin .len=>match c.args.toList,c.argTypes.toList with
   | x::_,t::_=>(uJ P H t (bU fr x)).map fun n=>(.int .i64 n,.bC)
   | _,_=>none
 | .builtin .cap=>match c.args.toList,c.argTypes.toList with
   | x::_,t::_=>(LB P t (bU fr x)).map fun n=>(.int .i64 n,.bC)
   | _,_=>none
 | .builtin .append=>match c.args.toList,c.argTypes.toList with
   | s::x::_,t::u::_=>oA P (nf call true false) H nx t u (bU fr s) (bU fr x)
   | _,_=>none
 | .builtin .copy=>match c.args.toList,c.argTypes.toList with
   | s::x::_,t::_=>copyV P H t (bU fr s) (bU fr x)
   | _,_=>none
 | .builtin .clear=>match c.args.toList,c.argTypes.toList with
   | s::_,t::_=>sd P H t (bU fr s)
   | _,_=>none
 | .builtin .delete=>match c.args.toList,c.argTypes.toList with
   | m::k::_,t::_=>oF P H t (bU fr m) (bU fr k)
   | _,_=>none
 | .builtin .min=>(nQ false (lj fr c.args.toList)).map fun v=>(v,.bC)
 | .builtin .max=>(nQ true (lj fr c.args.toList)).map fun v=>(v,.bC)
 | _=>none

def kp (o:Option AV):Option (AV×Delta):=o.map fun v=>(v,.bC)

def evalOp (P:Program) (call:aJ) (fr:aC) (H:ab) (nx:Nat) (o:Oper):Option (AV×Delta) :=
 match o.op with
 | .move x | .assign x=>some (bU fr x,.bC)
 | .pick c a b=>match bU fr c with
   | .bool t=>some (if t then bU fr a else bU fr b,.bC)
   | _=>none
 | .alloc t=>((c7 P t).bind AV.row).map fun z=>(.ptr 0 nx 0 0,.push (.row (nf call (kC z) z)))
 | .box _ x=>(bU fr x).row.map fun r=>(.ptr 0 nx 0 0,.push (.row (nf call (kC r) r)))
 | .build t parts=>kp (vX P (nf call true false) t (dS fr parts.toList))
 | .buildSlice t len parts=>jv P nx t len (dS fr parts.toList)
 | .load t a=>kp (o6 P H t (bU fr a))
 | .store t a x=>(gy P H t (bU fr a) (bU fr x)).map fun δ=>(.tup [],δ)
 | .nilCheck x=>match bU fr x with
   | .ptr d i v off=>some (.ptr d i v off,.bC)
   | .ptrT s r off=>some (.ptrT s r off,.bC)
   | _=>none
 | .binOp op t x y _=>kp (j5 P op t (bU fr x) (bU fr y))
 | .unOp op _ x=>kp (P1 op (bU fr x))
 | .convert src dst x=>match P.underlying src,P.underlying dst,bU fr x with
   | some _,some (.int k),.int _ n=>some (.int k (k.wrap n),.bC)
   | _,_,_=>none
 | .makeFunc fn first cap=>match fn with
   | .func g=>some (.fn (.func g) (lj fr first.toList) (lj fr cap.toList),.bC)
   | _=>none
 | .makeSlice t l c=>jb P (nf call true false) nx t (bU fr l) (bU fr c)
 | .slice t x lo hi mx=>kp (qi P t (bU fr x) (lo.map (bU fr)) (hi.map (bU fr)) (mx.map (bU fr)))
 | .fieldAddr t x f=>kp (iS P t (bU fr x) f)
 | .field t x f=>kp (wg P t (bU fr x) f)
 | .indexAddr t x i=>match bU fr i with
   | .int _ n=>kp (iZ P t (bU fr x) n)
   | _=>none
 | .index t x i=>match bU fr i with
   | .int _ n=>kp (pV P t (bU fr x) n)
   | _=>none
 | .makeMap t none=>some (.map 0 nx,.push (nf call (ta P t) (.map [])))
 | .lookup t m k ok=>kp (rv P H t (bU fr m) (bU fr k) ok)
 | .mapUpdate t m k x | .insert t m k x=>(jJ P H t (bU fr m) (bU fr k) (bU fr x)).map fun δ=>(.tup [],δ)
 | .extract t ix=>match bU fr t with
   | .tup l=>match l[ix]? with
     | some v=>some (v,.bC)
     | none=>none
   | _=>none
 | .call c=>gN P call fr H nx c
 | _=>none

inductive Want where
 | run | skip | lost
def lI (ops:Array Oper) (fr:aC) (o:Oper):Want :=
 match o.guard with
 | none=>.run
 | some (j,want)=>match (ops[j]?).bind (·.dst) with
   | none=>.lost
   | some d=>match bH fr d with
     | .bool b=>if b == want then .run else .skip
     | .tup _=>.skip
     | _=>.lost

def iF (nt:Nat) (fr:aC) (dst:Option Tmp) (v:AV):aC :=
 match dst with
 | some d=>if Nat.blt d nt then uz fr d v else fr
 | none=>fr

def fb (P:Program) (nt:Nat) (call:aJ) (ops:Array Oper):List Oper→aC→ab→Option (aC×ab)
 | [],fr,H=>some (fr,H)
 | o :: r,fr,H=>match lI ops fr o with
   | .lost=>none
   | .skip=>fb P nt call ops r (iF nt fr o.dst (.tup [])) H
   | .run=>match evalOp P call fr H (aW H) o with
     | none=>none
     | some (v,δ)=>fb P nt call ops r (iF nt fr o.dst v) (δ.on H)

inductive Touch where
 | none
 | blk (d i:Nat)
 | all
structure Rec where
 ix:Nat
 reads:Touch
 writes:Option (Nat×Nat)
def cU (fr:aC) (o:Oper):Touch :=
 let at' (v:AV):Touch:=match v with
  | .ptr d i _ _=>.blk d i
  | .slc d i _ _ _ _ _=>.blk d i
  | .map d i=>.blk d i
  | _=>.none
 match o.op with
 | .load _ a=>at' (bU fr a)
 | .store _ a _=>at' (bU fr a)
 | .lookup _ m _ _=>at' (bU fr m)
 | .mapUpdate _ m _ _ | .insert _ m _ _=>at' (bU fr m)
 | .call c=>match c.callee with
   | .builtin .len=>match c.args.toList with
     | x::_=>match bU fr x with | .map d i=>.blk d i | _=>.none
     | _=>.all
   | .builtin .min | .builtin .max=>.none
   | _=>.all
 | _=>.none
def dm (H:ab) (bef:Nat):List Rec→ab
 | []=>H
 | r::l=>match r.writes with
   | some (d,i)=>if bef.testBit r.ix then dm H bef l else dm (dW H d i) bef l
   | none=>dm H bef l
def kn (bef:Nat) (d i:Nat):List Rec→Bool
 | []=>true
 | r::l=>(bef.testBit r.ix || (match r.reads with
   | .none=>true
   | .blk e j=>!(Nat.beq e d && Nat.beq j i)
   | .all=>false)) && kn bef d i l

def jB (o:Oper):Bool :=
 match o.op with
 | .alloc _ | .box _ _ | .buildSlice _ _ _ | .makeSlice _ _ _ | .makeMap _ _=>true
 | .call c=>match c.callee with
   | .builtin .append=>true
   | _=>false
 | _=>false
def c8:List Oper→Nat
 | []=>0
 | o::r=>if jB o then c8 r+1 else c8 r
def nF:ab→Nat→ab
 | [],_=>[]
 | l::r,k=>{ l with bs:=l.bs++List.replicate k (0,.dead) } :: r
def mc:an→Bool
 | .dead=>true
 | _=>false
def rq:Nat×an→Bool
 | (0,.dead)=>true
 | _=>false
def fo (o:Oper):Bool :=
 match o.op with
 | .call c=>match c.callee with
   | .value _=>true
   | _=>false
 | _=>false
def qX (H:ab):Option (Nat×Nat×(Nat×an))→ab
 | none=>H
 | some (d,i,b)=>dG H d i b
structure ur where
 v:AV
 rd:Touch
 wr:Option (Nat×Nat×(Nat×an))
def gO (P:Program) (call:aJ) (ops:Array Oper) (bef:Nat) (fr:aC) (H:ab) (nx:Nat) (recs:List Rec) (o:Oper):Option ur :=
 match lI ops fr o with
 | .lost=>none
 | .skip=>some ⟨.tup [],.none,none⟩
 | .run =>
   if fo o then match evalOp P call fr (bE (dm H bef recs)) nx o with
    | some (v,_)=>some ⟨v,.all,none⟩
    | none=>none
   else match evalOp P call fr (dm H bef recs) nx o with
    | some (v,.bC)=>some ⟨v,cU fr o,none⟩
    | some (v,.push b)=>if jB o && !mc b && rq (az H 0 nx) && !aK H 0 then some ⟨v,cU fr o,some (0,nx,(0,b))⟩ else none
    | some (v,.set d i b)=>if !mc b.2 && (Nat.beq b.1 (az H d i).1 || Nat.beq b.1 (Nat.succ (az H d i).1)) && !mc (az (dm H bef recs) d i).2 && kn bef d i recs then some ⟨v,cU fr o,some (d,i,b)⟩ else none
    | _=>none

def gE (P:Program) (nt:Nat) (call:aJ) (ops:Array Oper) (befs:Array Nat):Nat→List Oper→aC→ab→Nat→List Rec→Option (aC×ab)
 | _,[],fr,H,_,_=>some (fr,H)
 | j,o::r,fr,H,nx,recs=>match gO P call ops (befs.getD j 0) fr H nx recs o with
   | some e=>gE P nt call ops befs (j+1) r (iF nt fr o.dst e.v) (qX H e.wr) (if jB o then nx+1 else nx) (⟨j,e.rd,e.wr.map fun x=>(x.1,x.2.1)⟩::recs)
   | none=>none

def gd (ops:Array Oper) (befs:Array Nat):Bool :=
 ops.toList.zipIdx.all fun (o,j)=>Nat.blt (befs.getD j 0) (2 ^ j) &&
  ops.toList.zipIdx.all fun (q,i) =>
   Nat.beq i j || (match q.dst with
   | none=>true
   | some d=>(o.dst != some d) && (!(o.looksAt ops).contains d || (befs.getD j 0).testBit i || (befs.getD i 0).testBit j))

inductive Ex where
 | normal | exit (id:Nat) | goto (l:Nat) | ret

def Cw:Option Nat→Bool
 | some 0=>true
 | _=>false
def DR:AV→Bool
 | .int _ _=>true
 | .bool _=>true
 | .nils=>true
 | .slcT none _ _ _ _=>true
 | .ptrT none _ _=>true
 | _=>false
def NV:Row→Bool
 | .I _ _=>true
 | .F _ _=>true
 | .G l=>l.all DR
 | .M l=>fP l
def lK (n:Nat):AV→Bool
 | .ptr d i _ _=>Nat.beq d 0 && Nat.ble n i
 | .slc d i _ _ _ _ _=>Nat.beq d 0 && Nat.ble n i
 | .map d i=>Nat.beq d 0 && Nat.ble n i
 | .yld d i=>Nat.beq d 0 && Nat.ble n i
 | .ptrT s r _=>Cw s && !NV r
 | .slcT s _ _ _ _=>Cw s
 | .agg (.G _)=>true
 | .agg (.M l)=>!fP l
 | .fn _ _ _=>true
 | .tup (_::_)=>true
 | _=>false
def anyM (f:AV→Bool):List dj→Bool
 | []=>false
 | .one v::r=>f v || anyM f r
 | .arr _ _ _::r=>anyM f r
def uS (n:Nat):AV→Bool
 | .agg (.G l)=>l.any (lK n)
 | .agg (.M l)=>anyM (lK n) l
 | .fn _ a b=>a.any (lK n) || b.any (lK n)
 | .ptrT (some 0) (.M l) _=>anyM (lK n) l
 | v=>lK n v
def Sz (n:Nat):Row→Bool
 | .I .. | .F ..=>false
 | .G l=>l.any (uS n)
 | .M l=>anyM (uS n) l
def Ji (n:Nat):an→Bool
 | .dead=>false
 | .row r=>Sz n r
 | .map es=>es.any fun e=>uS n e.1 || uS n e.2
 | .fmap _ _ _ _=>false
 | .loop _=>true
def cutAt (fr:aC) (l:bG) (r:ab):Nat→Nat→ab
 | 0,_=>l::r
 | k+1,m=>if fr.any (fun x=>uS m x.2) || (l.bs.take m).any (fun x=>Ji m x.2) then cutAt fr l r k (m+1) else { l with bs:=l.bs.take m } :: r
def lX (n:Nat) (fr:aC) (H:ab):ab :=
 match H with
 | []=>[]
 | l::r=>if Nat.ble l.bs.length n then H else cutAt fr l r 4 n

def Jj:AV→Bool
 | .ptrT (some 0) (.M l) _=>anyM (lK 0) l
 | v=>lK 0 v
def uU (h:Nat):AV→Bool
 | .ptr d i _ _=>Nat.beq d 0 && Nat.beq i h
 | .slc d i _ _ _ _ _=>Nat.beq d 0 && Nat.beq i h
 | .map d i=>Nat.beq d 0 && Nat.beq i h
 | .yld d i=>Nat.beq d 0 && Nat.beq i h
 | v=>Jj v
def pF (f:AV→Bool) (v:AV):Bool :=
 match v with
 | .agg (.G l)=>l.any f
 | .agg (.M l)=>anyM f l
 | .fn _ a b=>a.any f || b.any f
 | v=>f v
def Ns (f:AV→Bool):Row→Bool
 | .I .. | .F ..=>false
 | .G l=>l.any (pF f)
 | .M l=>anyM (pF f) l
def AA (f:AV→Bool):an→Bool
 | .dead=>false
 | .row r=>Ns f r
 | .map _=>true
 | .fmap _ _ _ _=>false
 | .loop _=>true
def uN (a b:Nat):AV→AV
 | .ptr d i v off=>if Nat.beq d 0 && Nat.beq i a then .ptr 0 b v off else .ptr d i v off
 | .slc d i v off sz len cap=>if Nat.beq d 0 && Nat.beq i a then .slc 0 b v off sz len cap else .slc d i v off sz len cap
 | .map d i=>if Nat.beq d 0 && Nat.beq i a then .map 0 b else .map d i
 | .yld d i=>if Nat.beq d 0 && Nat.beq i a then .yld 0 b else .yld d i
 | v=>v
def na (g:AV→AV) (v:AV):AV :=
 match v with
 | .agg (.G l)=>.agg (.G (l.map g))
 | .agg (.M l)=>.agg (.M (mapM' g l))
 | .fn f a b=>.fn f (a.map g) (b.map g)
 | v=>g v
def Gp (g:AV→AV):Row→Row
 | .I k l=>.I k l
 | .F f n=>.F f n
 | .G l=>.G (l.map (na g))
 | .M l=>.M (mapM' (na g) l)
def p7 (g:AV→AV):an→an
 | .row r=>.row (Gp g r)
 | b=>b
def p8 (g:AV→AV):aC→aC
 | []=>[]
 | (x,v)::r=>(x,na g v)::p8 g r
def jA (g:AV→AV):List (Nat×an)→List (Nat×an)
 | []=>[]
 | (v,b)::r=>(v,p7 g b)::jA g r
def hole (fr:aC) (bs:List (Nat×an)):Nat→Nat→Option Nat
 | 0,_=>none
 | k+1,m=>if Nat.blt (m+1) bs.length then
    if fr.any (fun x=>pF (uU m) x.2) || ((bs.take m).any (fun x=>AA (uU m) x.2) || (bs.drop (m+1)).any (fun x=>AA (uU m) x.2)) then hole fr bs k (m+1) else some m
   else none
def xz (a b:Nat) (l:bG):bG:={ l with bs:=bK (jA (uN a b) (l.bs.take a)) b ((aq l.bs a).1,p7 (uN a b) (aq l.bs a).2) }
def jU (n:Nat):Nat→aC→ab→aC×ab
 | 0,fr,H=>(fr,H)
 | k + 1,fr,H=>match H with
   | []=>(fr,[])
   | l::r=>match hole fr l.bs 4 n with
     | none=>(fr,l::r)
     | some h=>jU n k (p8 (uN (l.bs.length-1) h) fr) (lX n (p8 (uN (l.bs.length-1) h) fr) (xz (l.bs.length-1) h l::r))
def tidy (n:Nat) (fr:aC) (H:ab):aC×ab:=jU n 4 fr (lX n fr H)

def m9 (i ver:Nat) (r:Row):AV→AV
 | .ptr d j v off=>if Nat.beq d 0 && (Nat.beq j i && Nat.beq v ver) then .ptrT none r off else .ptr d j v off
 | .slc d j v off sz len cap=>if Nat.beq d 0 && (Nat.beq j i && (Nat.beq v ver && Nat.ble (off+len*sz) r.len)) then .slcT none (r.sub off (len*sz)) sz len (cap == some len) else .slc d j v off sz len cap
 | v=>v
def pq (i:Nat):AV→Bool
 | .slc d j _ _ _ _ _=>Nat.beq d 0 && Nat.beq j i
 | _=>false
def wA:Row→Bool
 | .I _ _=>true
 | .M [.arr _ _ _]=>true
 | _=>false
def MI (f:AV→Bool):an→Bool
 | .row r=>Ns f r
 | _=>false
def ma (i:Nat) (fr:aC) (l:bG):aC×bG :=
 match aq l.bs i with
 | (ver,.row r)=>if wA r && (fr.any (fun x=>pF (pq i) x.2) || l.bs.any (fun x=>MI (pq i) x.2)) then (p8 (m9 i ver r) fr,{ l with bs:=bK (jA (m9 i ver r) l.bs) i (ver,.dead) }) else (fr,l)
 | _=>(fr,l)
def iX:Nat→aC→bG→aC×bG
 | 0,fr,l=>(fr,l)
 | n+1,fr,l=>ma n (iX n fr l).1 (iX n fr l).2
def D5 (fr:aC) (H:ab):aC×ab :=
 match H with
 | []=>(fr,[])
 | l::r=>if l.lock then (fr,l::r) else ((iX l.bs.length fr l).1,(iX l.bs.length fr l).2::r)
def ef:Nat→aC→bG→aC×bG
 | 0,fr,l=>(fr,l)
 | n+1,fr,l=>if (ef n fr l).1.any (fun x=>pF (pq n) x.2) then ef n fr l else ma n (ef n fr l).1 (ef n fr l).2
def uG (fr:aC) (H:ab):aC×ab :=
 match H with
 | []=>(fr,[])
 | l::r=>if l.lock then (fr,l::r) else ((ef l.bs.length fr l).1,(ef l.bs.length fr l).2::r)
def IY (sz:Nat):AV→AV
 | .nils=>.slcT none (.M [.arr .i64 (fun _=>0) 0]) sz 0 false
 | v=>v
def Ef (sz:Nat):Nat→List AV→List AV
 | _,[]=>[]
 | 0,v::l=>IY sz v::l
 | c+1,v::l=>v::Ef sz c l
def uO (c sz:Nat):an→an
 | .row (.G l)=>.row (.G (Ef sz c l))
 | B=>B
def ml (c sz:Nat):List (Nat×an)→List (Nat×an)
 | []=>[]
 | (v,B)::r=>(v,uO c sz B)::ml c sz r
def uP (k:Nat) (H:ab):ab :=
 match H with
 | []=>[]
 | l::r=>if l.lock then l::r else { l with bs:=ml (k % 8) (k / 8) l.bs } :: r
def CH (s:Nat):aC→Option Nat
 | []=>none
 | (x,v)::r=>if Nat.beq x s then (match v with
   | .slc 0 i _ _ _ _ _=>some i
   | _=>none) else CH s r
def wy (s:Nat) (fr:aC) (H:ab):aC×ab :=
 match H with
 | []=>(fr,[])
 | l::r=>if l.lock then (fr,l::r) else match CH s fr with
   | some i=>((ma i fr l).1,(ma i fr l).2::r)
   | none=>(fr,l::r)
noncomputable def iY (m:Nat) (fr:aC) (H:ab):aC×ab:=if iE m 4000 then ((D5 (bN fr m) H).1,if Nat.beq (Nat.shiftRight m 4003) 0 then (D5 (bN fr m) H).2 else uP (Nat.shiftRight m 4003) (D5 (bN fr m) H).2) else if iE m 4001 then wy (Nat.shiftRight m 4003) (bN fr m) H else if iE m 4002 then (match bH (bN fr m) (Nat.shiftRight m 4003) with | .bool false=>uG (bN fr m) H | _=>(bN fr m,H)) else (bN fr m,H)
def Eg:aC→aC
 | []=>[]
 | (x,v)::r=>(x,jC v)::Eg r
noncomputable def kT (m:Nat) (fr:aC) (H:ab):aC×ab:=if iE m 3998 then (match bH (iY m fr H).1 (Nat.shiftRight m 4003) with | .bool false=>((iY m fr H).1,uP (Nat.shiftRight m 3985 % 4096) (iY m fr H).2) | _=>iY m fr H) else iY m fr H
def Ee (s sz:Nat):aC→aC
 | []=>[]
 | (x,v)::r=>(x,cond (Nat.beq x s) (IY sz v) v)::Ee s sz r
noncomputable def kU (m:Nat) (fr:aC) (H:ab):aC×ab:=if iE m 3997 then (Ee (Nat.shiftRight m 3985 % 4096 / 8) (Nat.shiftRight m 3985 % 8) (kT m fr H).1,(kT m fr H).2) else kT m fr H
noncomputable def oX (m:Nat) (fr:aC) (H:ab):aC×ab:=if iE m 3999 then (Eg (kU m fr H).1,(kU m fr H).2) else kU m fr H

def iter (body:aC→ab→Option (Ex×aC×ab)) (n:Nat):Nat→aC→ab→Option (Ex×aC×ab)
 | 0,_,_=>none
 | fu+1,fr,H=>match body fr H with
   | some (.normal,fr,H)=>iter body n fu (tidy n fr H).1 (tidy n fr H).2
   | r=>r

structure Cx where
 P:Program
 call:aJ
 fu:Nat
 fn:FuncId
 nt:Nat
 kt:Nat→Nat
 ro:Option (Nat×Nat)
def Cx.here (cx:Cx) (H:ab):Bool :=
 match cx.ro with
 | none=>true
 | some (d,i)=>match az H d i with
   | (0,.loop _)=>true
   | _=>false

def jh (fr:aC) (H:ab) (cx:Cx) (params:Array Tmp) (assign body:Code):ab :=
 jy H (.loop { state:=.ready,pending:=none,fn:=cx.fn,nt:=cx.nt,fr,params:=params.toList,assign,body })

def xN:Option Code→Option Ex
 | none=>some .normal
 | some (.exit id)=>some (.exit id)
 | some (.goto l)=>some (.goto l)
 | some .ret=>some .ret
 | _=>none

noncomputable def exec (cx:Cx):Code→aC→ab→Option (Ex×aC×ab)
 | .skip,fr,H=>some (.normal,fr,H)
 | .label _,fr,H=>some (.normal,fr,H)
 | .region id ops draw,fr,H =>
   match (if draw then (if gd ops (Region.before ops) then gE cx.P cx.nt cx.call ops (Region.before ops) 0 ops.toList fr (nF H (c8 ops.toList)) (aW H) [] else none) else fb cx.P cx.nt cx.call ops ops.toList fr H) with
   | some (fr,H)=>some (.normal,oX (cx.kt id) fr H)
   | none=>none
 | .seq a b,fr,H=>match exec cx a fr H with
   | some (.normal,fr,H)=>exec cx b fr H
   | r=>r
 | .cond c a b,fr,H=>match bU fr c with
   | .bool true=>exec cx a fr H
   | .bool false=>exec cx b fr H
   | _=>none
 | .block id b,fr,H=>match exec cx b fr H with
   | some (.exit id',fr,H)=>if Nat.beq id' id then some (.normal,fr,H) else some (.exit id',fr,H)
   | r=>r
 | .loop b,fr,H=>iter (exec cx b) (aW H) cx.fu fr H
 | .rangeFunc f params assign body,fr,H =>
   match bU fr f with
   | .fn (.func g) a b =>
     if !cx.here H || aK H 0 then none else
     match cx.call (.fn g) (a++(.yld 0 (aW H)::b)) (jh fr H cx params assign body) with
     | some (_,H1)=>match az H1 0 (aW H) with
       | (0,.loop l) =>
         if l.state == .busy then none else
         match xN l.pending with
         | some e=>some (e,fr,dW H1 0 (aW H))
         | none=>none
       | _=>none
     | none=>none
   | _=>none
 | .exit id,fr,H=>some (.exit id,fr,H)
 | .scope b,fr,H=>match exec cx b fr H with
   | some (.goto _,_,_)=>none
   | r=>r
 | .goto l,fr,H=>some (.goto l,fr,H)
 | .ret,fr,H=>some (.ret,fr,H)
 | .refuse _,_,_=>none

def dF   (bs:List (Nat×an)):Nat→AV→AV
 | 0,_=>.undef
 | n + 1,v=>match v with
   | .ptr d i ver off=>match d with
     | d+1=>.ptr d i ver off
     | 0 => match aq bs i with
       | (w,.row r)=>if Nat.beq w ver then (match r with
         | .I k l=>.ptrT none (.I k l) off
         | .F f m=>.ptrT none (.F f m) off
         | .M l=>if fP l then .ptrT none (.M l) off else .ptrT (some 0) (.M (mapM' (dF bs n) l)) off
         | .G l=>.ptrT (some 0) (.G (l.map (dF bs n))) off) else .undef
       | _=>.undef
   | .slc d i ver off sz len cap=>match d with
     | d+1=>.slc d i ver off sz len cap
     | 0 => match aq bs i with
       | (w,.row r)=>if Nat.beq w ver∧off+len*sz≤r.len then (match r.sub off (len*sz) with
         | .I k l=>.slcT none (.I k l) sz len (cap == some len)
         | .F f m=>.slcT none (.F f m) sz len (cap == some len)
         | .M l=>if fP l then .slcT none (.M l) sz len (cap == some len) else .slcT (some 0) (.M (mapM' (dF bs n) l)) sz len (cap == some len)
         | .G l=>.slcT (some 0) (.G (l.map (dF bs n))) sz len (cap == some len)) else .undef
       | _=>.undef
   | .ptrT s r off=>match s with
     | none=>.ptrT none r off
     | some (s+1)=>.ptrT (some s) r off
     | some 0=>match r with
       | .G l=>.ptrT (some 0) (.G (l.map (dF bs n))) off
       | .M l=>if fP l then .ptrT none (.M l) off else .ptrT (some 0) (.M (mapM' (dF bs n) l)) off
       | r=>.ptrT none r off
   | .slcT s r sz len full=>match s with
     | none=>.slcT none r sz len full
     | some (s+1)=>.slcT (some s) r sz len full
     | some 0=>match r with
       | .G l=>.slcT (some 0) (.G (l.map (dF bs n))) sz len full
       | .M l=>if fP l then .slcT none (.M l) sz len full else .slcT (some 0) (.M (mapM' (dF bs n) l)) sz len full
       | r=>.slcT none r sz len full
   | .map d i=>match d with
     | d+1=>.map d i
     | 0=>.undef
   | .yld d i=>match d with
     | d+1=>.yld d i
     | 0=>.undef
   | .fn f a b=>.fn f (a.map (dF bs n)) (b.map (dF bs n))
   | .agg r=>match r with
     | .G l=>.agg (.G (l.map (dF bs n)))
     | .M l=>.agg (.M (mapM' (dF bs n) l))
     | r=>.agg r
   | .tup l=>.tup (l.map (dF bs n))
   | v=>v

def fO:Nat→List AV→aC
 | _,[]=>[]
 | x,v::l=>(x,mH 1 v)::fO (x+1) l

def ir (P:Program) (fr:aC) (H:ab):List ResultVar→Option (List AV)
 | []=>some []
 | .tmp t::r=>(ir P fr H r).map (bH fr t::·)
 | .cell a t::r=>match o6 P H t (bH fr a) with
   | some v=>(ir P fr H r).map (v::·)
   | none=>none
def one:List AV→AV
 | [v]=>v
 | l=>.tup l

def jD (nt:Nat) (fr:aC):List Tmp→List AV→Option aC
 | [],[]=>some fr
 | t::ts,v::vs=>if Nat.blt t nt then jD nt (uz fr t v) ts vs else none
 | _,_=>none

def cD:Ex→Option Code
 | .normal=>none
 | .exit id=>some (.exit id)
 | .goto l=>some (.goto l)
 | .ret=>some .ret

def kD (k:Nat):aC→aC
 | []=>[]
 | (x,v)::r=>(x,mH k v)::kD k r

noncomputable def dh (P:Program) (ora:aJ→FuncId→List AV→ab→Option (AV×ab)) (KT:FuncId→Nat→Nat) (fu:Nat):Nat→aJ
 | _,.mode,_,_=>(ora (fun _ _ _=>none) 1000000 [] []).map fun _=>(.undef,[])
 | 0,_,_,_=>none
 | n + 1,.fn f,args,H=>match ora (dh P ora KT fu n) f args H with
   | some r=>some r
   | none => match P.funcs[f]? with
     | none=>none
     | some fn=>match fn.body with
       | none=>none
       | some c=>if Nat.ble args.length fn.ntmps then
         match exec ⟨P,dh P ora KT fu n,fu,f,fn.ntmps,KT f,none⟩ c (fO 0 args) (⟨false,[]⟩::H) with
         | some (e,fr,l::H') =>
           (match e with
           | .normal | .ret=>match ir P fr (l::H') fn.results.toList with
             | some vs=>some (dF l.bs 5 (one vs),H')
             | none=>none
           | _=>none)
         | _=>none
         else none
 | n + 1,.round  d i,args,H=>match az H d i with
   | (0, .loop l) =>
     if aK H d then none else
     match l.state with
     | .ready => match jD l.nt (kD (d+1) l.fr) l.params (args.map (mH 1)) with
       | some fr => match exec ⟨P,dh P ora KT fu n,fu,l.fn,l.nt,KT l.fn,some (d+1,i)⟩ l.assign fr (⟨false,[]⟩::H) with
         | some (.normal,fr,H1)=>match az H1 (d+1) i with
           | (0, .loop l1)=>match l1.state with
             | .ready =>
               match exec ⟨P,dh P ora KT fu n,fu,l.fn,l.nt,KT l.fn,some (d+1,i)⟩ l.body fr (dG H1 (d+1) i (0,.loop { l1 with state:=.busy })) with
               | some (e,_,_::H2)=>match az H2 d i with
                 | (0,.loop l2)=>some (.bool (cD e).isNone,dG H2 d i (0,.loop { l2 with state:=if (cD e).isNone then .ready else .done,pending:=cD e }))
                 | _=>none
               | _=>none
             | _=>none
           | _=>none
         | _=>none
       | none=>none
     | _=>none
   | _=>none

end Go.Eng
