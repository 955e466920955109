/- The engine, part A: abstract values, the abstract heap, the abstract interpreter. No statement is proved here. -/
import Derived.RangeFuncLeaves
import Derived.OrdersIn
import Derived.RangeFuncRecord
namespace Go.Eng
theorem nP:(∀ {α:Type} (a b:α),(some a=some b)=(a=b))∧(∀ {α β:Type} (a c:α) (b d:β),((a,b)=(c,d))=(a=c∧b=d)):=⟨fun _ _=>Option.some.injEq _ _,fun _ _ _ _=>Prod.mk.injEq _ _ _ _⟩

mutual
inductive AV where
 | undef
 | bool (b:Bool)
 | int (k:IntKind) (n:Int)
 | str (s:ByteArray)
 | nilp | nils | nilm | nilf
 | ptr (d i v off:Nat)
 | ptrT (s:Option Nat) (r:Row) (off:Nat)
 | slc (d i v off sz len:Nat) (cap:Option Nat)
 | slcT (s:Option Nat) (r:Row) (sz len:Nat) (full:Bool)
 | map (d i:Nat)
 | yld (d i:Nat)
 | fn (f:Fn) (first cap:List AV)
 | agg (r:Row)
 | tup (l:List AV)
inductive Row where
 | I (k:IntKind) (l:List Int)
 | G (l:List AV)
 | F (f:Nat→AV) (n:Nat)
 | M (l:List ah)
inductive ah where
 | one (v:AV)
 | arr (k:IntKind) (z:Nat→Int) (n:Nat)
end

instance:Inhabited AV:=⟨.undef⟩
instance:Inhabited Row:=⟨.G []⟩

def aI:ah→Nat
 | .one _=>1
 | .arr _ _ n=>n
def av:List ah→Nat
 | []=>0
 | s::r=>aI s+av r
def getM:List ah→Nat→AV
 | [],_=>.undef
 | .one v::_,0=>v
 | .one _::r,j+1=>getM r j
 | .arr k z n::r,j=>if j<n then .int k (z j) else getM r (j-n)
def mapM' (f:AV→AV):List ah→List ah
 | []=>[]
 | .one v::r=>.one (f v)::mapM' f r
 | .arr k z n::r=>.arr k z n::mapM' f r
def fU:List ah→Bool
 | []=>true
 | .one _::_=>false
 | .arr _ _ _::r=>fU r
def Row.len:Row→Nat
 | .I _ l=>l.length
 | .G l=>l.length
 | .F _ n=>n
 | .M l=>av l
def Row.get:Row→Nat→AV
 | .I k l,j=>.int k (l.getD j 0)
 | .G l,j=>l.getD j .undef
 | .F f _,j=>f j
 | .M l,j=>getM l j

def dk (g:Nat→AV):Nat→Nat→List AV
 | _,0=>[]
 | o,n+1=>g o::dk g (o+1) n
def Row.toList:Row→List AV
 | .I k l=>l.map (.int k)
 | .G l=>l
 | .F f n=>dk f 0 n
 | .M l=>dk (getM l) 0 (av l)
def Row.ints:Row→Option (IntKind×(Nat→Int))
 | .I k l=>some (k,fun j=>l.getD j 0)
 | .M [.arr k z _]=>some (k,z)
 | _=>none
def yf:Row→Bool
 | .M _=>true
 | _=>false
def qb:List AV→List ah→List ah
 | [],r=>r
 | v::l,r=>.one v::qb l r
def jL:List ah→Nat→AV→List ah
 | [],_,_=>[]
 | .one _::r,0,v=>.one v::r
 | .one u::r,j+1,v=>.one u::jL r j v
 | .arr k z n::r,j,v=>if j<n then (match v with
    | .int k' x=>if k'=k then .arr k (fun i=>if i=j then x else z i) n::r else qb (dk (fun i=>if i=j then v else .int k (z i)) 0 n) r
    | _=>qb (dk (fun i=>if i=j then v else .int k (z i)) 0 n) r)
   else .arr k z n::jL r (j-n) v
def xv:List Int→Bool
 | []=>true
 | x::l=>x == 0 && xv l
def Mo (l:List Int):Nat→Int:=if xv l then fun _=>0 else fun j=>l.getD j 0
def c5 (k:IntKind):List AV→List Int×List AV
 | .int k' n::r=>if k'=k then (match c5 k r with | (a,b)=>(n::a,b)) else ([],.int k' n::r)
 | l=>([],l)
def ik:Nat→List AV→List ah
 | 0,l=>qb l []
 | _,[]=>[]
 | f+1,.int k n::r=>match c5 k r with
   | (a,b)=>if Nat.ble 7 a.length then .arr k (Mo (n::a)) (a.length+1)::ik f b else .one (.int k n)::ik f r
 | f+1,v::r=>.one v::ik f r

def sm (k:IntKind):List AV→Option (List Int)
 | []=>some []
 | .int k' n::r=>if k'=k then (sm k r).map (n::·) else none
 | _=>none
def Row.ofList:List AV→Row
 | .int k n::r=>match sm k r with
   | some l=>.I k (n::l)
   | none=>.G (.int k n::r)
 | l=>.G l

def lf:List ah→Nat→Nat→Option (IntKind×(Nat→Int))
 | [],_,_=>none
 | .one _::r,o+1,n=>lf r o n
 | .one _::_,0,_=>none
 | .arr k z m::r,o,n=>if o+n≤m then some (k,fun j=>z (o+j)) else if m≤o then lf r (o-m) n else none
def Row.sub (r:Row) (o n:Nat):Row :=
 match r with
 | .I k l=>.I k ((l.drop o).take n)
 | .G l=>.G ((l.drop o).take n)
 | .F f _=>.F (fun j=>f (o+j)) n
 | .M [.arr k z _]=>.M [.arr k (fun j=>z (o+j)) n]
 | .M l=>if Nat.beq o 0 && Nat.beq (av l) n then .M l else match lf l o n with
   | some (k,z)=>.M [.arr k z n]
   | none=>.G (dk (getM l) o n)

def hY:AV→Bool
 | .undef | .bool _ | .int _ _ | .str _ | .nilp | .nils | .nilm | .nilf=>true
 | .ptrT s _ _=>s.isNone
 | .slcT s _ _ _ _=>s.isNone
 | .agg (.I ..) | .agg (.F ..)=>true
 | .agg (.M l)=>fU l
 | _=>false

def Row.cut (r:Row) (o n:Nat):Row :=
 match r with
 | .G l=>Row.ofList ((l.drop o).take n)
 | .M l=>if Nat.ble n 8 then Row.ofList (dk (getM l) o n) else if Nat.beq o 0 && Nat.beq (av l) n then .M l else (Row.M l).sub o n
 | r=>r.sub o n

def Row.set (r:Row) (j:Nat) (v:AV):Row :=
 match r,v with
 | .I k l,.int k' n=>if k'=k then .I k (l.set j n) else .G ((l.map (.int k)).set j v)
 | .I k l,v=>.G ((l.map (.int k)).set j v)
 | .G l,v=>.G (l.set j v)
 | .F f n,v=>.F (fun i=>if i=j then (if hY v then v else .undef) else f i) n
 | .M l,v=>.M (jL l j v)
def Row.cE (r:Row) (j:Nat):List AV→Row
 | []=>r
 | v::l=>(r.set j v).cE (j+1) l
def Row.tI (r s:Row):Option Row :=
 match r.ints,s.ints with
 | some (k,z),some (k',z')=>if k'=k then some (.M [.arr k (fun i=>if i<r.len then z i else z' (i-r.len)) (r.len+s.len)]) else none
 | _,_=>none
def m9:AV→AV
 | .slcT none (.I k l) sz m _=>.slcT none (.M [.arr k (fun j=>l.getD j 0) l.length]) sz m false
 | .slcT none (.M [.arr k z n]) sz m _=>.slcT none (.M [.arr k z n]) sz m false
 | v=>v
def qH (n i:Nat):Nat:=if Nat.beq n 1 then 0 else i
def Row.app (r s:Row):Row :=
 match r,s with
 | .M l,s=>(match (Row.M l).tI s with | some q=>q | none=>.G ((Row.M l).toList++s.toList))
 | .I k l,.M m=>(match (Row.I k l).tI (.M m) with | some q=>q | none=>.G ((Row.I k l).toList++(Row.M m).toList))
 | .I k l,.I k' l'=>if k'=k then .I k (l++l') else .G (l.map (.int k)++l'.map (.int k'))
 | .F f n,s=>.F (fun i=>if Nat.blt i n then f i else if hY (s.get (qH s.len (i-n))) then m9 (s.get (qH s.len (i-n))) else .undef) (n+s.len)
 | r,s=>.G (r.toList++s.toList)

def nZ (k:Nat):AV→AV
 | .ptr d i v off=>.ptr (d+k) i v off
 | .ptrT s r off=>.ptrT (s.map (· + k)) r off
 | .slc d i v off sz len cap=>.slc (d+k) i v off sz len cap
 | .slcT s r sz len full=>.slcT (s.map (· + k)) r sz len full
 | .map d i=>.map (d+k) i
 | .yld d i=>.yld (d+k) i
 | .agg (.I a l)=>.agg (.I a l)
 | .fn _ _ _ | .agg _ | .tup (_::_)=>.undef
 | v=>v
def Md (k:Nat) (v:AV):AV :=
 match v with
 | .fn f a b=>.fn f (a.map (nZ k)) (b.map (nZ k))
 | .agg (.G l)=>.agg (.G (l.map (nZ k)))
 | .agg (.M l)=>.agg (.M (mapM' (nZ k) l))
 | .agg r=>.agg r
 | v=>nZ k v
def fm (k:Nat) (v:AV):AV :=
 match k with
 | 0=>v
 | k+1=>Md (k+1) v
def AQ (k:Nat):Row→Row
 | .I a l=>.I a l
 | .G l=>.G (l.map (nZ k))
 | .F f n=>.F f n
 | .M l=>.M (mapM' (nZ k) l)
def AP (k:Nat) (r:Row):Row :=
 match k with
 | 0=>r
 | k+1=>AQ (k+1) r
def kj:Nat→Nat→AV→AV
 | 0,_,_=>.undef
 | n + 1,k,v=>match v with
   | .ptr d i v off=>if Nat.blt d k then .undef else .ptr (d-k) i v off
   | .ptrT none r off=>.ptrT none r off
   | .ptrT (some s) r off=>if Nat.blt s k then (match r with
     | .G l=>.ptrT (some 0) (.G (l.map (kj n (k-s)))) off
     | .M l=>if fU l then .ptrT none (.M l) off else .ptrT (some 0) (.M (mapM' (kj n (k-s)) l)) off
     | r=>.ptrT none r off) else .ptrT (some (s-k)) r off
   | .slc d i v off sz len cap=>if Nat.blt d k then .undef else .slc (d-k) i v off sz len cap
   | .slcT none r sz len full=>.slcT none r sz len full
   | .slcT (some s) r sz len full=>if Nat.blt s k then (match r with
     | .G l=>.slcT (some 0) (.G (l.map (kj n (k-s)))) sz len full
     | .M l=>if fU l then .slcT none (.M l) sz len full else .slcT (some 0) (.M (mapM' (kj n (k-s)) l)) sz len full
     | r=>.slcT none r sz len full) else .slcT (some (s-k)) r sz len full
   | .map d i=>if Nat.blt d k then .undef else .map (d-k) i
   | .yld d i=>if Nat.blt d k then .undef else .yld (d-k) i
   | .agg (.I a l)=>.agg (.I a l)
   | .fn _ _ _ | .agg _ | .tup (_::_)=>.undef
   | v=>v
def KC (k:Nat) (v:AV):AV :=
 match v with
 | .fn f a b=>.fn f (a.map (kj 4 k)) (b.map (kj 4 k))
 | .agg (.G l)=>.agg (.G (l.map (kj 4 k)))
 | .agg (.M l)=>.agg (.M (mapM' (kj 4 k) l))
 | .agg r=>.agg r
 | v=>kj 4 k v
def MO (k:Nat) (v:AV):AV :=
 match k with
 | 0=>v
 | k+1=>KC (k+1) v
def vO (k:Nat):Row→Row
 | .I a l=>.I a l
 | .G l=>.G (l.map (kj 4 k))
 | .F f n=>.F f n
 | .M l=>.M (mapM' (kj 4 k) l)

def lr (k:Nat) (r:Row):Row :=
 match k with
 | 0=>r
 | k+1=>vO (k+1) r

abbrev ar:=List (Nat×AV)
def bo:ar→Nat→AV
 | [],_=>.undef
 | (x,v)::r,y=>if Nat.beq x y then v else bo r y
def tL:ar→Nat→AV→ar
 | [],y,u=>[(y,u)]
 | (x,v)::r,y,u=>if Nat.ble y x then (if Nat.beq x y then (y,u)::r else (y,u)::(x,v)::r) else (x,v)::tL r y u
def nH (m x:Nat):Bool:=Nat.beq (Nat.land (Nat.shiftRight m x) 1) 1
noncomputable def bJ (fr:ar) (m:Nat):ar:=List.rec (motive:=fun _=>ar) [] (fun p _ ih=>Prod.rec (motive:=fun _=>ar) (fun x _=>Bool.rec (motive:=fun _=>ar) (p::ih) ih (Nat.beq (Nat.land (Nat.shiftRight m x) 1) 1)) p) fr

structure gV where
 state:LoopState
 pending:Option Code
 fn:FuncId
 nt:Nat
 fr:ar
 params:List Tmp
 assign:Code
 body:Code

inductive KK where
 | num (k:IntKind)
 | str (n:Nat)
inductive ai where
 | dead
 | row (r:Row)
 | map (es:List (AV×AV))
 | fmap (q:KK) (h:List Int→Bool) (g:List Int→Int) (c:Nat)
 | loop (l:gV)

structure aU where
 lock:Bool
 bs:List (Nat×ai)
abbrev aa:=List aU

def ao:List (Nat×ai)→Nat→Nat×ai
 | [],_=>(0,.dead)
 | b::_,0=>b
 | _::r,i+1=>ao r i
def bW:List (Nat×ai)→Nat→Nat×ai→List (Nat×ai)
 | [],_,_=>[]
 | _::r,0,x=>x::r
 | b::r,i+1,x=>b::bW r i x
def aq:aa→Nat→Nat→Nat×ai
 | [],_,_=>(0,.dead)
 | l::_,0,i=>ao l.bs i
 | _::r,d+1,i=>aq r d i
def au:aa→Nat→Bool
 | [],_=>true
 | l::_,0=>l.lock
 | _::r,d+1=>au r d
def ec:aa→Nat→Nat→Nat×ai→aa
 | [],_,_,_=>[]
 | l::r,0,i,x=>{ l with bs:=bW l.bs i x } :: r
 | l::r,d+1,i,x=>l::ec r d i x
def cU (H:aa) (d i:Nat):aa:=ec H d i ((aq H d i).1,.dead)
def iT:aa→ai→aa
 | [],b=>[⟨false,[(0,b)]⟩]
 | l::r,b=>{ l with bs:=l.bs++[(0,b)] } :: r
def bG:aa→Nat→ai→aa
 | [],_,_=>[]
 | l::r,0,b=>{ l with bs:=l.bs++[(0,b)] } :: r
 | l::r,d+1,b=>l::bG r d b
def ak:aa→Nat→Nat
 | [],_=>0
 | l::_,0=>l.bs.length
 | _::r,d+1=>ak r d
def an:aa→Nat
 | []=>0
 | l::_=>l.bs.length
def az:aa→aa
 | []=>[]
 | l::r=>{ l with lock:=true } :: az r

def dF (H:aa) (d i v:Nat):Option Row :=
 match aq H d i with
 | (ver,.row r)=>if Nat.beq ver v then some r else none
 | _=>none

def rY:Value→AV
 | .bool b=>.bool b
 | .int k n=>.int k n
 | .string s=>.str s
 | .pointer none=>.nilp
 | .slice none 0 0=>.nils
 | .map none=>.nilm
 | .nilFunc=>.nilf
 | _=>.undef
def kD:Value→AV
 | .bool b=>.bool b
 | .int k n=>.int k n
 | .string s=>.str s
 | .pointer none=>.nilp
 | .slice none 0 0=>.nils
 | .map none=>.nilm
 | .nilFunc=>.nilf
 | .func (.func f) ca cb=>if ca.isEmpty && cb.isEmpty then .fn (.func f) [] [] else .undef
 | .agg cs=>if cs.toList.all Value.oneCell' then .agg (Row.ofList (cs.toList.map rY)) else .undef
 | .tuple cs=>if cs.isEmpty then .tup [] else .undef
 | _=>.undef

def bH (fr:ar):Operand→AV
 | .tmp t=>bo fr t
 | .const v=>kD v
 | .global _=>.undef
 | .func f=>.fn (.func f) [] []

def AV.row:AV→Option Row
 | .agg r=>some r
 | .int k n=>some (.I k [n])
 | .undef | .tup _=>none
 | v=>some (.G [v])

def fa (P:Program) (t:TypeId):Option Bool :=
 match P.underlying t with
 | some (.struct _) | some (.array _ _)=>some true
 | some _=>some false
 | none=>none
def bh (P:Program) (t:TypeId):Option Nat:=(P.info? t).map (·.size)
def cG (P:Program) (t:TypeId):Option AV:=((P.info? t).bind (·.zero)).map kD

inductive Delta where
 | aZ
 | push (b:ai)
 | set (d i:Nat) (b:Nat×ai)
 | heap (H:aa)
def Delta.on (δ:Delta) (H:aa):aa :=
 match δ with
 | .aZ=>H
 | .push b=>iT H b
 | .set d i b=>ec H d i b
 | .heap H=>H

inductive Mf where
 | fn (f:FuncId)
 | round (d i:Nat)
 | mode
abbrev aQ:=Mf→List AV→aa→Option (AV×aa)

def ij (op:BinOp) (k:IntKind) (x y:Int):Option AV :=
 match op with
 | .add=>some (.int k (k.wrap (x+y)))
 | .sub=>some (.int k (k.wrap (x-y)))
 | .mul=>some (.int k (k.wrap (x*y)))
 | .quo=>if y=0 then none else some (.int k (k.wrap (x.tdiv y)))
 | .rem=>if y=0 then none else some (.int k (x.tmod y))
 | .and=>some (.int k (k.wrap (BitVec.ofInt k.bits x &&& BitVec.ofInt k.bits y).toNat))
 | .or=>some (.int k (k.wrap (BitVec.ofInt k.bits x ||| BitVec.ofInt k.bits y).toNat))
 | .xor=>some (.int k (k.wrap (BitVec.ofInt k.bits x ^^^ BitVec.ofInt k.bits y).toNat))
 | .andNot=>some (.int k (k.wrap (BitVec.ofInt k.bits x &&& ~~~(BitVec.ofInt k.bits y)).toNat))
 | .eql=>some (.bool (x == y))
 | .neq=>some (.bool (x != y))
 | .lss=>some (.bool (x<y))
 | .leq=>some (.bool (x≤y))
 | .gtr=>some (.bool (x > y))
 | .geq=>some (.bool (x≥y))
 | _=>none

def fY (P:Program) (g:TypeId→Option Nat) (off:Nat):List Field→Option Nat
 | []=>some off
 | f::fs=>if f.name != "_" && Nat.beq f.offset off then (match g f.type with
   | some s=>fY P g (off+s) fs
   | none=>none) else none
def b6 (P:Program):Nat→TypeId→Option Nat
 | 0,_=>none
 | n + 1,t=>match P.underlying t with
   | some (.int _)=>if bh P t=some 1 then some 1 else none
   | some (.array len e)=>match b6 P n e with
     | some s=>if bh P t=some (len*s) then some (len*s) else none
     | none=>none
   | some (.struct fs)=>if P.stoodInHeld t then none else match fY P (b6 P n) 0 fs.toList with
     | some s=>if bh P t=some s then some s else none
     | none=>none
   | _=>none

def eX:List Int→List Int→Bool
 | [],[]=>true
 | x::a,y::b=>(x == y) && eX a b
 | _,_=>false

def allEq (z z':Nat→Int):Nat→Bool
 | 0=>true
 | n+1=>allEq z z' n && (z n == z' n)
def J6 (P:Program) (t:TypeId) (r s:Row):Option Bool :=
 match r.ints,s.ints with
 | some (k,z),some (k',z')=>if k=k'∧b6 P 20 t=some r.len∧fa P t=some true∧r.len=s.len then some (allEq z z' r.len) else none
 | _,_=>none
def zN (P:Program) (t:TypeId) (x y:AV):Option Bool :=
 match x,y with
 | .bool a,.bool b=>(match P.underlying t with | some .bool=>some (a == b) | _=>none)
 | .nils,.nils | .nils,.slcT .. | .nils,.slc .. | .slcT ..,.nils | .slc ..,.nils =>
   (match P.underlying t with
   | some (.slice _)=>(match x,y with
     | .nils,.nils=>some true
     | .nils,.slcT _ _ _ n _=>if 0<n then some false else none
     | .slcT _ _ _ n _,.nils=>if 0<n then some false else none
     | _,_=>some false)
   | _=>none)
 | .nilp,.nilp | .nilp,.ptr .. | .nilp,.ptrT .. | .ptr ..,.nilp | .ptrT ..,.nilp =>
   (match P.underlying t with
   | some (.pointer _)=>some (match x,y with | .nilp,.nilp=>true | _,_=>false)
   | _=>none)
 | .agg (.I k a),.agg (.I k' b)=>if k=k'∧b6 P 20 t=some a.length∧fa P t=some true∧a.length=b.length then some (eX a b) else none
 | .agg (.M l),.agg s=>J6 P t (.M l) s
 | .agg (.I k a),.agg (.M l)=>J6 P t (.I k a) (.M l)
 | _,_=>none

def jP (P:Program) (op:BinOp) (t:TypeId) (x y:AV):Option AV :=
 match op,x,y with
 | .shl,.int k a,.int _ b=>if b<0 then none else some (.int k (k.wrap (a*2 ^ (min b.toNat k.bits))))
 | .shr,.int k a,.int _ b=>if b<0 then none else some (.int k (a.fdiv (2 ^ (min b.toNat k.bits))))
 | op,.int k a,.int k' b=>if k=k' then ij op k a b else none
 | .eql,x,y=>(zN P t x y).map .bool
 | .neq,x,y=>(zN P t x y).map fun b=>.bool (!b)
 | _,_,_=>none

def Ma (op:UnOp) (x:AV):Option AV :=
 match op,x with
 | .not,.bool b=>some (.bool !b)
 | .neg,.int k n=>some (.int k (k.wrap (0-n)))
 | _,_=>none

def nR {α:Type} (l:List α):Nat→List α
 | 0=>[]
 | n+1=>l++nR l n
def dP (z:Row) (n:Nat):Row :=
 match z with
 | .I k l=>.I k (nR l n)
 | z=>.G (nR z.toList n)
def Eg (l:List AV) (n:Nat):Row :=
 match l with
 | [v]=>if hY v then .F (fun _=>v) n else .G (nR l n)
 | l=>.G (nR l n)
def dD (z:Row) (n:Nat):Row :=
 match z with
 | .I k l=>if xv l then .M [.arr k (fun _=>0) (n*l.length)] else .I k (nR l n)
 | z=>Eg z.toList n
def jh (r:Row):Row :=
 match r with
 | .I k l=>if Nat.ble 8 l.length then .M [.arr k (Mo l) l.length] else .I k l
 | .G l=>if (ik l.length l).length == l.length then .G l else .M (ik l.length l)
 | r=>r
def CF (z:Nat→Int) (off:Nat) (z':Nat→Int) (n:Nat):Nat→Int:=fun i=>if off≤i∧i<off+n then z' (i-off) else z i
def yX:List ah→Nat→Nat→List ah→Option (List ah)
 | [],_,_,_=>none
 | .one v::r,o+1,n,q=>(yX r o n q).map (.one v::·)
 | .one _::_,0,_,_=>none
 | .arr k z m::r,o,n,q=>if Nat.beq o 0 && Nat.beq m n then some (q++r) else if Nat.ble m o then (yX r (o-m) n q).map (.arr k z m::·) else none
def Ib (q:Row):Option (List ah) :=
 match jh q with
 | .M l=>some l
 | _=>none
def wN (l:List ah) (off:Nat) (q:Row):Row :=
 if Nat.ble 9 q.len then (match Ib q with
  | some qs=>if Nat.beq off 0 && Nat.beq (av l) q.len then .M qs else (match yX l off q.len qs with
    | some l'=>.M l'
    | none=>(Row.M l).cE off q.toList)
  | none=>(Row.M l).cE off q.toList)
 else (Row.M l).cE off q.toList
def jJ (r:Row) (off:Nat) (q:Row):Row :=
 match r with
 | .M l=>(match l with
   | [.arr k z m]=>(match q with
     | .M [.arr k' z' n]=>if k'=k then .M [.arr k (CF z off z' n) m] else wN l off q
     | _=>wN l off q)
   | _=>wN l off q)
 | r=>r.cE off q.toList
def qG:AV→Bool
 | .slcT none (.M [.arr _ _ _]) _ _ _=>true
 | .slcT none (.I _ _) _ _ _=>true
 | _=>false
def qY (sy:Bool) (r:Row):Row :=
 match r with
 | .I k l=>if sy then .M [.arr k (fun j=>l.getD j 0) l.length] else .I k l
 | .G [v]=>if sy && qG v then .F (fun _=>m9 v) 1 else .G [v]
 | r=>r
def sd (place:Nat→Option (Nat×Nat)) (r:Row):List (Nat×AV)→Option Row
 | []=>some r
 | (i,v)::rest=>match place i with
   | none=>none
   | some (off,size)=>match v.row with
     | some q=>if q.len=size∧off+q.len≤r.len then sd place (r.cE off q.toList) rest else none
     | none=>none

def ir (P:Program) (t:TypeId) (r:Row) (off:Nat):Option AV :=
 match fa P t,bh P t with
 | some true,some n=>if off+n≤r.len then some (.agg (r.cut off n)) else none
 | some false,_=>if off<r.len then some (r.get off) else none
 | _,_=>none

def OY (s:Option Nat) (v:AV):AV :=
 match s with
 | none=>v
 | some k=>fm k v

def l6 (P:Program) (H:aa) (t:TypeId) (a:AV):Option AV :=
 match a with
 | .ptr d i v off=>match dF H d i v with
   | some r=>(ir P t r off).map (fm d)
   | none=>none
 | .ptrT s r off=>(ir P t r off).map (OY s)
 | _=>none

def gk (P:Program) (H:aa) (t:TypeId) (a x:AV):Option Delta :=
 match a with
 | .ptr d i v off =>
   if au H d then none else
   match dF H d i v,bh P t,x.row with
   | some r,some n,some q =>
     if q.len=n∧off+n≤r.len then
      match d,x with
      | d+1,.slc 0 j w o sz len cap=>if au H 0 then none else match dF H 0 j w with
        | some q=>some (.heap (bG (ec (cU H 0 j) (d+1) i (v,.row (r.set off (.slc 0 (ak H (d+1)) 0 o sz len cap)))) (d+1) (.row (lr (d+1) q))))
        | none=>none
      | _,_=>some (.set d i (v,.row (jJ r off (lr d q))))
     else none
   | _,_,_=>none
 | _=>none

def kY (P:Program):List Field→Option (List (Nat×Nat))
 | []=>some []
 | f::fs=>match bh P f.type,kY P fs with
   | some n,some l=>some ((f.offset,n)::l)
   | _,_=>none

def vJ (P:Program) (sy:Bool) (t:TypeId) (parts:List (Nat×AV)):Option AV :=
 match cG P t,P.underlying t with
 | some (.agg z),some (.struct fs)=>match kY P fs.toList with
   | some l=>(sd (fun i=>l[i]?) (if sy then jh z else z) parts).map .agg
   | none=>none
 | some (.agg z),some (.array _ e)=>match bh P e with
   | some n=>(sd (fun i=>some (i*n,n)) (if sy then jh z else z) parts).map .agg
   | none=>none
 | _,_=>none

def ku (a:AV) (n:Nat):Option AV :=
 match a with
 | .ptr d i v off=>some (.ptr d i v (off+n))
 | .ptrT s r off=>some (.ptrT s r (off+n))
 | _=>none

def gA (P:Program) (t:TypeId) (a:AV) (f:Nat):Option AV :=
 match P.underlying t with
 | some (.struct fs)=>match fs[f]? with
   | some g=>match bh P g.type with
     | some (_+1)=>ku a g.offset
     | _=>none
   | none=>none
 | _=>none

def fq (P:Program) (t:TypeId) (x:AV) (i:Int):Option AV :=
 match P.underlying t,x with
 | some (.array n e),x=>match bh P e with
   | some z=>if 0≤i∧i<n then ku x (i.toNat*z) else none
   | none=>none
 | some (.slice e),.slc d j v off sz len _ =>
   if 0≤i∧i<len∧bh P e=some sz then some (.ptr d j v (off+i.toNat*sz)) else none
 | some (.slice e),.slcT s r sz len _ =>
   if 0≤i∧i<len∧bh P e=some sz then some (.ptrT s r (i.toNat*sz)) else none
 | _,_=>none

def pT (P:Program) (t:TypeId) (x:AV) (i:Int):Option AV :=
 match P.underlying t,x with
 | some (.array n e),.agg r=>match bh P e with
   | some z=>if 0≤i∧i<n then ir P e r (i.toNat*z) else none
   | none=>none
 | some .string,.str s=>if 0≤i then (match s[i.toNat]? with
   | some b=>some (.int .u8 b.toNat)
   | none=>none) else none
 | _,_=>none

def sc (P:Program) (t:TypeId) (x:AV) (f:Nat):Option AV :=
 match P.underlying t,x with
 | some (.struct fs),.agg r=>match fs[f]? with
   | some g=>ir P g.type r g.offset
   | none=>none
 | _,_=>none

def bound (o:Option AV) (dflt top:Nat):Option Nat :=
 match o with
 | none=>some dflt
 | some (.int _ i)=>if 0≤i∧i≤top then some i.toNat else none
 | some _=>none

def ef (lo hi mx:Option AV) (len:Nat):Option (Nat×Nat×Option Nat) :=
 match mx with
 | none=>match bound hi len len with
   | some h=>match bound lo 0 h with
     | some l=>some (l,h,none)
     | none=>none
   | none=>none
 | some a=>match bound (some a) 0 len with
   | some m=>if hi.isSome then (match bound hi len m with
     | some h=>match bound lo 0 h with
       | some l=>some (l,h,some m)
       | none=>none
     | none=>none) else none
   | none=>none

def qh (P:Program) (t:TypeId) (x:AV) (lo hi mx:Option AV):Option AV :=
 match P.underlying t,x with
 | some (.slice e),.slc d j v off sz len cap =>
   match ef lo hi mx len with
   | some (l,h,mm)=>if bh P e=some sz then
      some (.slc d j v (off+l*sz) sz (h-l) (match mm with | none=>cap.map (· - l) | some m=>some (m-l))) else none
   | none=>none
 | some (.slice e),.slcT s r sz len full =>
   match ef lo hi mx len with
   | some (l,h,mm)=>if bh P e=some sz∧l*sz+(h-l)*sz≤r.len then
      some (.slcT s (r.sub (l*sz) ((h-l)*sz)) sz (h-l) (match mm with | none=>full && Nat.beq h len | some m=>Nat.beq h m)) else none
   | none=>none
 | some (.slice e),.nils =>
   match ef lo hi mx 0,bh P e with
   | some _,some _=>some .nils
   | _,_=>none
 | some (.array n e),.ptr d j v off =>
   match ef lo hi mx n with
   | some (l,h,mm)=>match bh P e with
     | some sz=>some (.slc d j v (off+l*sz) sz (h-l) (match mm with | none=>some (n-l) | some m=>some (m-l)))
     | none=>none
   | none=>none
 | _,_=>none

def tU (P:Program) (H:aa) (t:TypeId) (x:AV):Option Int :=
 match P.underlying t,x with
 | some (.array n _),_=>some n
 | some (.slice _),.nils=>some 0
 | some (.slice _),.slc _ _ _ _ _ len _=>some len
 | some (.slice _),.slcT _ _ _ len _=>some len
 | some (.map _ _),.nilm=>some 0
 | some (.map _ _),.map d i=>match aq H d i with
   | (0,.map es)=>some es.length
   | (0,.fmap _ _ _ c)=>some c
   | _=>none
 | _,_=>none

def IU (P:Program) (t:TypeId) (x:AV):Option Int :=
 match P.underlying t,x with
 | some (.slice _),.nils=>some 0
 | some (.slice _),.slc _ _ _ _ _ _ (some c)=>some c
 | _,_=>none

def eA (H:aa) (sz n:Nat) (x:AV):Option Row :=
 match x with
 | .nils=>if n=0 then some (.G []) else none
 | .slc d i v off sz' len _=>match dF H d i v with
   | some r=>if sz'=sz∧n≤len∧off+n*sz≤r.len then some (AP d (r.sub off (n*sz))) else none
   | none=>none
 | .slcT s r sz' len _=>if sz'=sz∧n≤len∧n*sz≤r.len then some (match s with | none=>r.sub 0 (n*sz) | some k=>AP k (r.sub 0 (n*sz))) else none
 | _=>none
def nB:AV→Option Nat
 | .nils=>some 0
 | .slc _ _ _ _ _ len _=>some len
 | .slcT _ _ _ len _=>some len
 | _=>none

def room:Nat:=2 ^ 46

def DI (P:Program) (sy:Bool) (nx:Nat) (e:TypeId) (s x:AV):Option (AV×Delta) :=
 match P.info? e,s,x with
 | some inf,.nils,.int _ k =>
   if 0≤k∧k.toNat≤room∧k.toNat*inf.bytes≤room∧0<inf.size∧((cG P e).bind AV.row).map Row.len=some inf.size then
    (if k=0 then some (.nils,.aZ) else some (.slc 0 nx 0 0 inf.size k.toNat none,.push (.row (qY sy (.I .i64 [])))))
   else none
 | _,_,_=>none
def oc      (P:Program) (sy:Bool) (H:aa) (nx:Nat) (t u:TypeId) (s x:AV):Option (AV×Delta) :=
 match P.underlying t,P.underlying u with
 | some (.slice e),some (.int _)=>DI P sy nx e s x
 | some (.slice e),some (.slice _) =>
   match P.info? e,nB s,nB x with
   | some inf,some m,some n =>
     if n=0 then (match s,x with
      | .nils,_=>some (s,.aZ)
      | .slc ..,_=>some (s,.aZ)
      | .slcT ..,_=>some (s,.aZ)
      | _,_=>none)
     else if (m+n)*inf.bytes≤room∧(m+n)≤room∧0<inf.bytes∧((cG P e).bind AV.row).map Row.len=some inf.size then
      match eA H inf.size n x with
      | none=>none
      | some new =>
        match s with
        | .nils=>some (.slc 0 nx 0 0 inf.size n none,.push (.row (qY sy new)))
        | .slcT _ _ _ _ true=>match eA H inf.size m s with
          | some old=>some (.slc 0 nx 0 0 inf.size (m+n) none,.push (.row (qY sy (old.app new))))
          | none=>none
        | .slc d i v off sz _ (some c) =>
          if c<m+n then
           match eA H inf.size m s with
           | some old=>some (.slc 0 nx 0 0 inf.size (m+n) none,.push (.row (qY sy (old.app new))))
           | none=>none
          else if au H d then none else
           match dF H d i v with
           | some r=>if sz=inf.size∧off+(m+n)*sz≤r.len then
              some (.slc d i v off sz (m+n) (some c),.set d i (v,.row (r.cE (off+m*sz) (lr d new).toList)))
             else none
           | none=>none
        | .slc d i v off sz _ none =>
          if au H d then none else
          match dF H d i v with
          | some r=>if sz=inf.size∧off+m*sz=r.len then
             some (.slc d i (v+1) 0 sz (m+n) none,.set d i (v+1,.row ((r.sub off (m*sz)).app (lr d new))))
            else none
          | none=>none
        | _=>none
     else none
   | _,_,_=>none
 | _,_=>none

def copyV (P:Program) (H:aa) (t:TypeId) (s x:AV):Option (AV×Delta) :=
 match P.underlying t with
 | some (.slice e) =>
   match bh P e,nB s,nB x with
   | some z,some m,some n =>
     match eA H z (min n m) x with
     | none=>none
     | some new =>
       match s with
       | .nils=>some (.int .i64 (min n m:Nat),.aZ)
       | .slc d i v off sz _ _ =>
         if au H d then none else
         match dF H d i v with
         | some r=>if sz=z∧off+(min n m)*sz≤r.len then
            some (.int .i64 (min n m:Nat),.set d i (v,.row (jJ r off (lr d new))))
           else none
         | none=>none
       | _=>none
   | _,_,_=>none
 | _=>none

def rW (P:Program) (H:aa) (t:TypeId) (s:AV):Option (AV×Delta) :=
 match P.underlying t,s with
 | some (.slice _),.nils=>some (.tup [],.aZ)
 | some (.slice e),.slc d i v off sz len _ =>
   if au H d then none else
   match (cG P e).bind AV.row,dF H d i v with
   | some z,some r=>if z.len=sz∧bh P e=some sz∧off+len*sz≤r.len then
      some (.tup [],if len=0 then .aZ else .set d i (v,.row (if yf r then jJ r off (dD z len) else r.cE off (dP z len).toList)))
     else none
   | _,_=>none
 | _,_=>none

def eH (mx:Bool) (k:IntKind) (x:Int):List AV→Option AV
 | []=>some (.int k x)
 | .int k' y::r=>if k=k' then eH mx k (if mx then (if y > x then y else x) else (if y<x then y else x)) r else none
 | _=>none
def nI (mx:Bool):List AV→Option AV
 | .int k x::r=>eH mx k x r
 | _=>none

def iX (P:Program) (sy:Bool) (nx:Nat) (t:TypeId) (l c:AV):Option (AV×Delta) :=
 match P.underlying t,l,c with
 | some (.slice e),.int _ l,.int _ c =>
   match P.info? e,(cG P e).bind AV.row with
   | some inf,some z =>
     if 0≤l∧l≤c∧c.toNat*inf.bytes≤room∧c.toNat≤room∧z.len=inf.size then
      some (.slc 0 nx 0 0 inf.size l.toNat (some c.toNat),.push (.row (if sy then dD z c.toNat else dP z c.toNat)))
     else none
   | _,_=>none
 | _,_,_=>none

def jn (P:Program) (nx:Nat) (t:TypeId) (len:Nat) (parts:List (Nat×AV)):Option (AV×Delta) :=
 match P.underlying t with
 | some (.slice e)=>match bh P e,(cG P e).bind AV.row with
   | some z,some zv =>
     if len*z≤2 ^ 24∧zv.len=z then
      (sd (fun i=>some (i*z,z)) (dP zv len) parts).map fun r=>(.slc 0 nx 0 0 z len (some len),.push (.row r))
     else none
   | _,_=>none
 | _=>none

def oL (x y:AV):Option Bool :=
 match x,y with
 | .int k a,.int k' b=>if k=k' then some (a == b) else none
 | .agg (.I k a),.agg (.I k' b)=>if k=k'∧a.length=b.length then some (eX a b) else none
 | _,_=>none
def fX (key:AV):List (AV×AV)→Nat→Option (Option Nat)
 | [],_=>some none
 | (k,_)::r,i=>match oL key k with
   | some true=>some (some i)
   | some false=>fX key r (i+1)
   | none=>none
def jH (P:Program) (t:TypeId) (x:AV):Bool :=
 match P.underlying t,x with
 | some (.int _),.int _ _=>true
 | some (.array _ _),.agg (.I _ l)=>b6 P 20 t == some l.length
 | some (.struct _),.agg (.I _ l)=>b6 P 20 t == some l.length
 | _,_=>false
def uE (H:aa) (m:AV):Option (Nat×List (AV×AV)) :=
 match m with
 | .nilm=>some (0,[])
 | .map d i=>match aq H d i with
   | (0,.map es)=>some (d,es)
   | _=>none
 | _=>none
def nM:List (AV×AV)→Nat→AV
 | [],_=>.undef
 | e::_,0=>e.2
 | _::r,i+1=>nM r i
def nT:List (AV×AV)→Nat→AV×AV→List (AV×AV)
 | [],_,_=>[]
 | _::r,0,x=>x::r
 | e::r,i+1,x=>e::nT r i x
def nq:List (AV×AV)→Nat→List (AV×AV)
 | [],_=>[]
 | _::r,0=>r
 | e::r,i+1=>e::nq r i
def uK (H:aa) (m:AV):Option (KK×(List Int→Bool)×(List Int→Int)×Nat) :=
 match m with
 | .map d i=>match aq H d i with
   | (0,.fmap q h g c)=>some (q,h,g,c)
   | _=>none
 | _=>none
def tT:KK→AV→Option (List Int)
 | .num k,.int k' n=>if k=k' then some [n] else none
 | .str m,.agg (.I .i64 l)=>if Nat.beq l.length m then some l else none
 | _,_=>none
def K1:AV→Option KK
 | .int k _=>some (.num k)
 | .agg (.I .i64 l)=>some (.str l.length)
 | _=>none
def yN:AV→Option Int
 | .int .i64 n=>some n
 | _=>none
def ia (h:List Int→Bool) (n:List Int) (b:Bool):List Int→Bool:=fun i=>if i=n then b else h i
def ld (g:List Int→Int) (n:List Int) (x:Int):List Int→Int:=fun i=>if i=n then x else g i
def xz (b:Bool) (c:Nat):Nat:=cond b c (c+1)
def CE (b:Bool) (c:Nat):Nat:=cond b (c-1) c
def sG (P:Program) (t:TypeId):ai :=
 match P.underlying t with
 | some (.map kt et)=>match (cG P kt).bind K1,(cG P et).bind yN with
   | some q,some _=>.fmap q (fun _=>false) (fun _=>0) 0
   | _,_=>.map []
 | _=>.map []
def oT (P:Program) (H:aa) (t:TypeId) (m key:AV) (ok:Bool):Option AV :=
 match P.underlying t with
 | some (.map kt et) =>
   if jH P kt key then
    match uK H m with
    | some (q,h,g,_)=>match tT q key,(cG P et).bind yN with
      | some n,some 0=>some (if ok then .tup [.int .i64 (g n),.bool (h n)] else .int .i64 (g n))
      | _,_=>none
    | none=>match uE H m,cG P et with
    | some (d,es),some z=>match fX key es 0 with
      | some (some i)=>some (if ok then .tup [fm d (nM es i),.bool true] else fm d (nM es i))
      | some none=>some (if ok then .tup [z,.bool false] else z)
      | none=>none
    | _,_=>none
   else none
 | _=>none
def jD (P:Program) (H:aa) (t:TypeId) (m key x:AV):Option Delta :=
 match P.underlying t,m with
 | some (.map kt _),.map d i =>
   if au H d then none else
   if jH P kt key then
    match aq H d i with
    | (0,.fmap q h g c)=>match tT q key,yN x with
      | some n,some y=>some (.set d i (0,.fmap q (ia h n true) (ld g n y) (xz (h n) c)))
      | _,_=>none
    | (0,.map es)=>match fX key es 0 with
      | some (some j)=>some (.set d i (0,.map (nT es j (key,MO d x))))
      | some none=>some (.set d i (0,.map (es++[(key,MO d x)])))
      | none=>none
    | _=>none
   else none
 | _,_=>none
def oo (P:Program) (H:aa) (t:TypeId) (m key:AV):Option (AV×Delta) :=
 match P.underlying t,m with
 | some (.map kt _),.map d i =>
   if au H d then none else
   if jH P kt key then
    match aq H d i with
    | (0,.fmap q h g c)=>match tT q key with
      | some n=>some (.tup [],.set d i (0,.fmap q (ia h n false) (ld g n 0) (CE (h n) c)))
      | none=>none
    | (0,.map es)=>match fX key es 0 with
      | some (some j)=>some (.tup [],.set d i (0,.map (nq es j)))
      | some none=>some (.tup [],.set d i (0,.map es))
      | none=>none
    | _=>none
   else none
 | _,_=>none

def dM (fr:ar):List (Nat×Operand)→List (Nat×AV)
 | []=>[]
 | (i,x)::r=>(i,bH fr x)::dM fr r
def jI (fr:ar):List Operand→List AV
 | []=>[]
 | x::r=>bH fr x::jI fr r

def lG {α:Type} (call:aQ) (a b:α):α :=
 match call .mode [] [] with
 | some _=>a
 | none=>b
def fz (P:Program) (call:aQ) (fr:ar) (H:aa) (nx:Nat) (c:Call):Option (AV×Delta) :=
 match c.callee with
 | .value f=>match bH fr f with
   | .fn (.func g) a b=>(call (.fn g) (a++(jI fr c.args.toList++b)) H).map fun (v,H)=>(v,.heap H)
   | .yld d i=>(call (.round d i) (jI fr c.args.toList) H).map fun (v,H)=>(v,.heap H)
   | _=>none
 | .builtin .len=>match c.args.toList,c.argTypes.toList with
   | x::_,t::_=>(tU P H t (bH fr x)).map fun n=>(.int .i64 n,.aZ)
   | _,_=>none
 | .builtin .cap=>match c.args.toList,c.argTypes.toList with
   | x::_,t::_=>(IU P t (bH fr x)).map fun n=>(.int .i64 n,.aZ)
   | _,_=>none
 | .builtin .append=>match c.args.toList,c.argTypes.toList with
   | s::x::_,t::u::_=>oc P (lG call true false) H nx t u (bH fr s) (bH fr x)
   | _,_=>none
 | .builtin .copy=>match c.args.toList,c.argTypes.toList with
   | s::x::_,t::_=>copyV P H t (bH fr s) (bH fr x)
   | _,_=>none
 | .builtin .clear=>match c.args.toList,c.argTypes.toList with
   | s::_,t::_=>rW P H t (bH fr s)
   | _,_=>none
 | .builtin .delete=>match c.args.toList,c.argTypes.toList with
   | m::k::_,t::_=>oo P H t (bH fr m) (bH fr k)
   | _,_=>none
 | .builtin .min=>(nI false (jI fr c.args.toList)).map fun v=>(v,.aZ)
 | .builtin .max=>(nI true (jI fr c.args.toList)).map fun v=>(v,.aZ)
 | _=>none

def kp (o:Option AV):Option (AV×Delta):=o.map fun v=>(v,.aZ)

def evalOp (P:Program) (call:aQ) (fr:ar) (H:aa) (nx:Nat) (o:Oper):Option (AV×Delta) :=
 match o.op with
 | .move x | .assign x=>some (bH fr x,.aZ)
 | .pick c a b=>match bH fr c with
   | .bool t=>some (if t then bH fr a else bH fr b,.aZ)
   | _=>none
 | .alloc t=>((cG P t).bind AV.row).map fun z=>(.ptr 0 nx 0 0,.push (.row (lG call (jh z) z)))
 | .box _ x=>(bH fr x).row.map fun r=>(.ptr 0 nx 0 0,.push (.row (lG call (jh r) r)))
 | .build t parts=>kp (vJ P (lG call true false) t (dM fr parts.toList))
 | .buildSlice t len parts=>jn P nx t len (dM fr parts.toList)
 | .load t a=>kp (l6 P H t (bH fr a))
 | .store t a x=>(gk P H t (bH fr a) (bH fr x)).map fun δ=>(.tup [],δ)
 | .nilCheck x=>match bH fr x with
   | .ptr d i v off=>some (.ptr d i v off,.aZ)
   | .ptrT s r off=>some (.ptrT s r off,.aZ)
   | _=>none
 | .binOp op t x y _=>kp (jP P op t (bH fr x) (bH fr y))
 | .unOp op _ x=>kp (Ma op (bH fr x))
 | .convert src dst x=>match P.underlying src,P.underlying dst,bH fr x with
   | some _,some (.int k),.int _ n=>some (.int k (k.wrap n),.aZ)
   | _,_,_=>none
 | .makeFunc fn first cap=>match fn with
   | .func g=>some (.fn (.func g) (jI fr first.toList) (jI fr cap.toList),.aZ)
   | _=>none
 | .makeSlice t l c=>iX P (lG call true false) nx t (bH fr l) (bH fr c)
 | .slice t x lo hi mx=>kp (qh P t (bH fr x) (lo.map (bH fr)) (hi.map (bH fr)) (mx.map (bH fr)))
 | .fieldAddr t x f=>kp (gA P t (bH fr x) f)
 | .field t x f=>kp (sc P t (bH fr x) f)
 | .indexAddr t x i=>match bH fr i with
   | .int _ n=>kp (fq P t (bH fr x) n)
   | _=>none
 | .index t x i=>match bH fr i with
   | .int _ n=>kp (pT P t (bH fr x) n)
   | _=>none
 | .makeMap t none=>some (.map 0 nx,.push (lG call (sG P t) (.map [])))
 | .lookup t m k ok=>kp (oT P H t (bH fr m) (bH fr k) ok)
 | .mapUpdate t m k x | .insert t m k x=>(jD P H t (bH fr m) (bH fr k) (bH fr x)).map fun δ=>(.tup [],δ)
 | .extract t ix=>match bH fr t with
   | .tup l=>match l[ix]? with
     | some v=>some (v,.aZ)
     | none=>none
   | _=>none
 | .call c=>fz P call fr H nx c
 | _=>none

inductive Want where
 | run | skip | lost
def ib (ops:Array Oper) (fr:ar) (o:Oper):Want :=
 match o.guard with
 | none=>.run
 | some (j,want)=>match (ops[j]?).bind (·.dst) with
   | none=>.lost
   | some d=>match bo fr d with
     | .bool b=>if b == want then .run else .skip
     | .tup _=>.skip
     | _=>.lost

def dr (nt:Nat) (fr:ar) (dst:Option Tmp) (v:AV):ar :=
 match dst with
 | some d=>if Nat.blt d nt then tL fr d v else fr
 | none=>fr

def dB (P:Program) (nt:Nat) (call:aQ) (ops:Array Oper):List Oper→ar→aa→Option (ar×aa)
 | [],fr,H=>some (fr,H)
 | o :: r,fr,H=>match ib ops fr o with
   | .lost=>none
   | .skip=>dB P nt call ops r (dr nt fr o.dst (.tup [])) H
   | .run=>match evalOp P call fr H (an H) o with
     | none=>none
     | some (v,δ)=>dB P nt call ops r (dr nt fr o.dst v) (δ.on H)

inductive Touch where
 | none
 | blk (d i:Nat)
 | all
structure Rec where
 ix:Nat
 reads:Touch
 writes:Option (Nat×Nat)
def cJ (fr:ar) (o:Oper):Touch :=
 let at' (v:AV):Touch:=match v with
  | .ptr d i _ _=>.blk d i
  | .slc d i _ _ _ _ _=>.blk d i
  | .map d i=>.blk d i
  | _=>.none
 match o.op with
 | .load _ a=>at' (bH fr a)
 | .store _ a _=>at' (bH fr a)
 | .lookup _ m _ _=>at' (bH fr m)
 | .mapUpdate _ m _ _ | .insert _ m _ _=>at' (bH fr m)
 | .call c=>match c.callee with
   | .builtin .len=>match c.args.toList with
     | x::_=>match bH fr x with | .map d i=>.blk d i | _=>.none
     | _=>.all
   | .builtin .min | .builtin .max=>.none
   | _=>.all
 | _=>.none
def cY (H:aa) (bef:Nat):List Rec→aa
 | []=>H
 | r::l=>match r.writes with
   | some (d,i)=>if bef.testBit r.ix then cY H bef l else cY (cU H d i) bef l
   | none=>cY H bef l
def iY (bef:Nat) (d i:Nat):List Rec→Bool
 | []=>true
 | r::l=>(bef.testBit r.ix || (match r.reads with
   | .none=>true
   | .blk e j=>!(Nat.beq e d && Nat.beq j i)
   | .all=>false)) && iY bef d i l

def gi (o:Oper):Bool :=
 match o.op with
 | .alloc _ | .box _ _ | .buildSlice _ _ _ | .makeSlice _ _ _ | .makeMap _ _=>true
 | .call c=>match c.callee with
   | .builtin .append=>true
   | _=>false
 | _=>false
def cD:List Oper→Nat
 | []=>0
 | o::r=>if gi o then cD r+1 else cD r
def kN:aa→Nat→aa
 | [],_=>[]
 | l::r,k=>{ l with bs:=l.bs++List.replicate k (0,.dead) } :: r
def gH:ai→Bool
 | .dead=>true
 | _=>false
def oK:Nat×ai→Bool
 | (0,.dead)=>true
 | _=>false
def eN (o:Oper):Bool :=
 match o.op with
 | .call c=>match c.callee with
   | .value _=>true
   | _=>false
 | _=>false
def rf (H:aa):Option (Nat×Nat×(Nat×ai))→aa
 | none=>H
 | some (d,i,b)=>ec H d i b
structure tC where
 v:AV
 rd:Touch
 wr:Option (Nat×Nat×(Nat×ai))
def eD (P:Program) (call:aQ) (ops:Array Oper) (bef:Nat) (fr:ar) (H:aa) (nx:Nat) (recs:List Rec) (o:Oper):Option tC :=
 match ib ops fr o with
 | .lost=>none
 | .skip=>some ⟨.tup [],.none,none⟩
 | .run =>
   if eN o then match evalOp P call fr (az (cY H bef recs)) nx o with
    | some (v,_)=>some ⟨v,.all,none⟩
    | none=>none
   else match evalOp P call fr (cY H bef recs) nx o with
    | some (v,.aZ)=>some ⟨v,cJ fr o,none⟩
    | some (v,.push b)=>if gi o && !gH b && oK (aq H 0 nx) && !au H 0 then some ⟨v,cJ fr o,some (0,nx,(0,b))⟩ else none
    | some (v,.set d i b)=>if !gH b.2 && (Nat.beq b.1 (aq H d i).1 || Nat.beq b.1 (Nat.succ (aq H d i).1)) && !gH (aq (cY H bef recs) d i).2 && iY bef d i recs then some ⟨v,cJ fr o,some (d,i,b)⟩ else none
    | _=>none

def fi (P:Program) (nt:Nat) (call:aQ) (ops:Array Oper) (befs:Array Nat):Nat→List Oper→ar→aa→Nat→List Rec→Option (ar×aa)
 | _,[],fr,H,_,_=>some (fr,H)
 | j,o::r,fr,H,nx,recs=>match eD P call ops (befs.getD j 0) fr H nx recs o with
   | some e=>fi P nt call ops befs (j+1) r (dr nt fr o.dst e.v) (rf H e.wr) (if gi o then nx+1 else nx) (⟨j,e.rd,e.wr.map fun x=>(x.1,x.2.1)⟩::recs)
   | none=>none

def eS (ops:Array Oper) (befs:Array Nat):Bool :=
 ops.toList.zipIdx.all fun (o,j)=>Nat.blt (befs.getD j 0) (2 ^ j) &&
  ops.toList.zipIdx.all fun (q,i) =>
   Nat.beq i j || (match q.dst with
   | none=>true
   | some d=>(o.dst != some d) && (!(o.looksAt ops).contains d || (befs.getD j 0).testBit i || (befs.getD i 0).testBit j))

inductive Ex where
 | normal | exit (id:Nat) | goto (l:Nat) | ret

def Br:Option Nat→Bool
 | some 0=>true
 | _=>false
def CD:AV→Bool
 | .int _ _=>true
 | .bool _=>true
 | .nils=>true
 | .slcT none _ _ _ _=>true
 | .ptrT none _ _=>true
 | _=>false
def KB:Row→Bool
 | .I _ _=>true
 | .F _ _=>true
 | .G l=>l.all CD
 | .M l=>fU l
def lF (n:Nat):AV→Bool
 | .ptr d i _ _=>Nat.beq d 0 && Nat.ble n i
 | .slc d i _ _ _ _ _=>Nat.beq d 0 && Nat.ble n i
 | .map d i=>Nat.beq d 0 && Nat.ble n i
 | .yld d i=>Nat.beq d 0 && Nat.ble n i
 | .ptrT s r _=>Br s && !KB r
 | .slcT s _ _ _ _=>Br s
 | .agg (.G _)=>true
 | .agg (.M l)=>!fU l
 | .fn _ _ _=>true
 | .tup (_::_)=>true
 | _=>false
def anyM (f:AV→Bool):List ah→Bool
 | []=>false
 | .one v::r=>f v || anyM f r
 | .arr _ _ _::r=>anyM f r
def rh (n:Nat):AV→Bool
 | .agg (.G l)=>l.any (lF n)
 | .agg (.M l)=>anyM (lF n) l
 | .fn _ a b=>a.any (lF n) || b.any (lF n)
 | .ptrT (some 0) (.M l) _=>anyM (lF n) l
 | v=>lF n v
def Oc (n:Nat):Row→Bool
 | .I .. | .F ..=>false
 | .G l=>l.any (rh n)
 | .M l=>anyM (rh n) l
def Dj (n:Nat):ai→Bool
 | .dead=>false
 | .row r=>Oc n r
 | .map es=>es.any fun e=>rh n e.1 || rh n e.2
 | .fmap _ _ _ _=>false
 | .loop _=>true
def cutAt (fr:ar) (l:aU) (r:aa):Nat→Nat→aa
 | 0,_=>l::r
 | k+1,m=>if fr.any (fun x=>rh m x.2) || (l.bs.take m).any (fun x=>Dj m x.2) then cutAt fr l r k (m+1) else { l with bs:=l.bs.take m } :: r
def lq (n:Nat) (fr:ar) (H:aa):aa :=
 match H with
 | []=>[]
 | l::r=>if Nat.ble l.bs.length n then H else cutAt fr l r 4 n

def Hh:AV→Bool
 | .ptrT (some 0) (.M l) _=>anyM (lF 0) l
 | v=>lF 0 v
def uj (h:Nat):AV→Bool
 | .ptr d i _ _=>Nat.beq d 0 && Nat.beq i h
 | .slc d i _ _ _ _ _=>Nat.beq d 0 && Nat.beq i h
 | .map d i=>Nat.beq d 0 && Nat.beq i h
 | .yld d i=>Nat.beq d 0 && Nat.beq i h
 | v=>Hh v
def py (f:AV→Bool) (v:AV):Bool :=
 match v with
 | .agg (.G l)=>l.any f
 | .agg (.M l)=>anyM f l
 | .fn _ a b=>a.any f || b.any f
 | v=>f v
def Kg (f:AV→Bool):Row→Bool
 | .I .. | .F ..=>false
 | .G l=>l.any (py f)
 | .M l=>anyM (py f) l
def zT (f:AV→Bool):ai→Bool
 | .dead=>false
 | .row r=>Kg f r
 | .map _=>true
 | .fmap _ _ _ _=>false
 | .loop _=>true
def ud (a b:Nat):AV→AV
 | .ptr d i v off=>if Nat.beq d 0 && Nat.beq i a then .ptr 0 b v off else .ptr d i v off
 | .slc d i v off sz len cap=>if Nat.beq d 0 && Nat.beq i a then .slc 0 b v off sz len cap else .slc d i v off sz len cap
 | .map d i=>if Nat.beq d 0 && Nat.beq i a then .map 0 b else .map d i
 | .yld d i=>if Nat.beq d 0 && Nat.beq i a then .yld 0 b else .yld d i
 | v=>v
def mX (g:AV→AV) (v:AV):AV :=
 match v with
 | .agg (.G l)=>.agg (.G (l.map g))
 | .agg (.M l)=>.agg (.M (mapM' g l))
 | .fn f a b=>.fn f (a.map g) (b.map g)
 | v=>g v
def EO (g:AV→AV):Row→Row
 | .I k l=>.I k l
 | .F f n=>.F f n
 | .G l=>.G (l.map (mX g))
 | .M l=>.M (mapM' (mX g) l)
def pZ (g:AV→AV):ai→ai
 | .row r=>.row (EO g r)
 | b=>b
def p6 (g:AV→AV):ar→ar
 | []=>[]
 | (x,v)::r=>(x,mX g v)::p6 g r
def jx (g:AV→AV):List (Nat×ai)→List (Nat×ai)
 | []=>[]
 | (v,b)::r=>(v,pZ g b)::jx g r
def hole (fr:ar) (bs:List (Nat×ai)):Nat→Nat→Option Nat
 | 0,_=>none
 | k+1,m=>if Nat.blt (m+1) bs.length then
    if fr.any (fun x=>py (uj m) x.2) || ((bs.take m).any (fun x=>zT (uj m) x.2) || (bs.drop (m+1)).any (fun x=>zT (uj m) x.2)) then hole fr bs k (m+1) else some m
   else none
def xn (a b:Nat) (l:aU):aU:={ l with bs:=bW (jx (ud a b) (l.bs.take a)) b ((ao l.bs a).1,pZ (ud a b) (ao l.bs a).2) }
def jf (n:Nat):Nat→ar→aa→ar×aa
 | 0,fr,H=>(fr,H)
 | k + 1,fr,H=>match H with
   | []=>(fr,[])
   | l::r=>match hole fr l.bs 4 n with
     | none=>(fr,l::r)
     | some h=>jf n k (p6 (ud (l.bs.length-1) h) fr) (lq n (p6 (ud (l.bs.length-1) h) fr) (xn (l.bs.length-1) h l::r))
def tidy (n:Nat) (fr:ar) (H:aa):ar×aa:=jf n 4 fr (lq n fr H)

def mU (i ver:Nat) (r:Row):AV→AV
 | .ptr d j v off=>if Nat.beq d 0 && (Nat.beq j i && Nat.beq v ver) then .ptrT none r off else .ptr d j v off
 | .slc d j v off sz len cap=>if Nat.beq d 0 && (Nat.beq j i && (Nat.beq v ver && Nat.ble (off+len*sz) r.len)) then .slcT none (r.sub off (len*sz)) sz len (cap == some len) else .slc d j v off sz len cap
 | v=>v
def pf (i:Nat):AV→Bool
 | .slc d j _ _ _ _ _=>Nat.beq d 0 && Nat.beq j i
 | _=>false
def wa:Row→Bool
 | .I _ _=>true
 | .M [.arr _ _ _]=>true
 | _=>false
def JH (f:AV→Bool):ai→Bool
 | .row r=>Kg f r
 | _=>false
def lU (i:Nat) (fr:ar) (l:aU):ar×aU :=
 match ao l.bs i with
 | (ver,.row r)=>if wa r && (fr.any (fun x=>py (pf i) x.2) || l.bs.any (fun x=>JH (pf i) x.2)) then (p6 (mU i ver r) fr,{ l with bs:=bW (jx (mU i ver r) l.bs) i (ver,.dead) }) else (fr,l)
 | _=>(fr,l)
def iV:Nat→ar→aU→ar×aU
 | 0,fr,l=>(fr,l)
 | n+1,fr,l=>lU n (iV n fr l).1 (iV n fr l).2
def CW (fr:ar) (H:aa):ar×aa :=
 match H with
 | []=>(fr,[])
 | l::r=>if l.lock then (fr,l::r) else ((iV l.bs.length fr l).1,(iV l.bs.length fr l).2::r)
def eh:Nat→ar→aU→ar×aU
 | 0,fr,l=>(fr,l)
 | n+1,fr,l=>if (eh n fr l).1.any (fun x=>py (pf n) x.2) then eh n fr l else lU n (eh n fr l).1 (eh n fr l).2
def tR (fr:ar) (H:aa):ar×aa :=
 match H with
 | []=>(fr,[])
 | l::r=>if l.lock then (fr,l::r) else ((eh l.bs.length fr l).1,(eh l.bs.length fr l).2::r)
def Ll (sz:Nat):AV→AV
 | .nils=>.slcT none (.M [.arr .i64 (fun _=>0) 0]) sz 0 false
 | v=>v
def C9 (sz:Nat):Nat→List AV→List AV
 | _,[]=>[]
 | 0,v::l=>Ll sz v::l
 | c+1,v::l=>v::C9 sz c l
def ue (c sz:Nat):ai→ai
 | .row (.G l)=>.row (.G (C9 sz c l))
 | B=>B
def l9 (c sz:Nat):List (Nat×ai)→List (Nat×ai)
 | []=>[]
 | (v,B)::r=>(v,ue c sz B)::l9 c sz r
def EV (k:Nat) (H:aa):aa :=
 match H with
 | []=>[]
 | l::r=>if l.lock then l::r else { l with bs:=l9 (k % 8) (k / 8) l.bs } :: r
def BB (s:Nat):ar→Option Nat
 | []=>none
 | (x,v)::r=>if Nat.beq x s then (match v with
   | .slc 0 i _ _ _ _ _=>some i
   | _=>none) else BB s r
def v8 (s:Nat) (fr:ar) (H:aa):ar×aa :=
 match H with
 | []=>(fr,[])
 | l::r=>if l.lock then (fr,l::r) else match BB s fr with
   | some i=>((lU i fr l).1,(lU i fr l).2::r)
   | none=>(fr,l::r)
noncomputable def lV (m:Nat) (fr:ar) (H:aa):ar×aa:=if nH m 4000 then ((CW (bJ fr m) H).1,if Nat.beq (Nat.shiftRight m 4003) 0 then (CW (bJ fr m) H).2 else EV (Nat.shiftRight m 4003) (CW (bJ fr m) H).2) else if nH m 4001 then v8 (Nat.shiftRight m 4003) (bJ fr m) H else if nH m 4002 then (match bo (bJ fr m) (Nat.shiftRight m 4003) with | .bool false=>tR (bJ fr m) H | _=>(bJ fr m,H)) else (bJ fr m,H)

def iter (body:ar→aa→Option (Ex×ar×aa)) (n:Nat):Nat→ar→aa→Option (Ex×ar×aa)
 | 0,_,_=>none
 | fu+1,fr,H=>match body fr H with
   | some (.normal,fr,H)=>iter body n fu (tidy n fr H).1 (tidy n fr H).2
   | r=>r

structure Cx where
 P:Program
 call:aQ
 fu:Nat
 fn:FuncId
 nt:Nat
 kt:Nat→Nat
 ro:Option (Nat×Nat)
def Cx.here (cx:Cx) (H:aa):Bool :=
 match cx.ro with
 | none=>true
 | some (d,i)=>match aq H d i with
   | (0,.loop _)=>true
   | _=>false

def gK (fr:ar) (H:aa) (cx:Cx) (params:Array Tmp) (assign body:Code):aa :=
 iT H (.loop { state:=.ready,pending:=none,fn:=cx.fn,nt:=cx.nt,fr,params:=params.toList,assign,body })

def r5:Option Code→Option Ex
 | none=>some .normal
 | some (.exit id)=>some (.exit id)
 | some (.goto l)=>some (.goto l)
 | some .ret=>some .ret
 | _=>none

noncomputable def exec (cx:Cx):Code→ar→aa→Option (Ex×ar×aa)
 | .skip,fr,H=>some (.normal,fr,H)
 | .label _,fr,H=>some (.normal,fr,H)
 | .region id ops draw,fr,H =>
   match (if draw then (if eS ops (Region.before ops) then fi cx.P cx.nt cx.call ops (Region.before ops) 0 ops.toList fr (kN H (cD ops.toList)) (an H) [] else none) else dB cx.P cx.nt cx.call ops ops.toList fr H) with
   | some (fr,H)=>some (.normal,lV (cx.kt id) fr H)
   | none=>none
 | .seq a b,fr,H=>match exec cx a fr H with
   | some (.normal,fr,H)=>exec cx b fr H
   | r=>r
 | .cond c a b,fr,H=>match bH fr c with
   | .bool true=>exec cx a fr H
   | .bool false=>exec cx b fr H
   | _=>none
 | .block id b,fr,H=>match exec cx b fr H with
   | some (.exit id',fr,H)=>if Nat.beq id' id then some (.normal,fr,H) else some (.exit id',fr,H)
   | r=>r
 | .loop b,fr,H=>iter (exec cx b) (an H) cx.fu fr H
 | .rangeFunc f params assign body,fr,H =>
   match bH fr f with
   | .fn (.func g) a b =>
     if !cx.here H || au H 0 then none else
     match cx.call (.fn g) (a++(.yld 0 (an H)::b)) (gK fr H cx params assign body) with
     | some (_,H1)=>match aq H1 0 (an H) with
       | (0,.loop l) =>
         if l.state == .busy then none else
         match r5 l.pending with
         | some e=>some (e,fr,cU H1 0 (an H))
         | none=>none
       | _=>none
     | none=>none
   | _=>none
 | .exit id,fr,H=>some (.exit id,fr,H)
 | .scope b,fr,H=>match exec cx b fr H with
   | some (.goto _,_,_)=>none
   | r=>r
 | .goto l,fr,H=>some (.goto l,fr,H)
 | .ret,fr,H=>some (.ret,fr,H)
 | .refuse _,_,_=>none

def dE   (bs:List (Nat×ai)):Nat→AV→AV
 | 0,_=>.undef
 | n + 1,v=>match v with
   | .ptr d i ver off=>match d with
     | d+1=>.ptr d i ver off
     | 0 => match ao bs i with
       | (w,.row r)=>if Nat.beq w ver then (match r with
         | .I k l=>.ptrT none (.I k l) off
         | .F f m=>.ptrT none (.F f m) off
         | .M l=>if fU l then .ptrT none (.M l) off else .ptrT (some 0) (.M (mapM' (dE bs n) l)) off
         | .G l=>.ptrT (some 0) (.G (l.map (dE bs n))) off) else .undef
       | _=>.undef
   | .slc d i ver off sz len cap=>match d with
     | d+1=>.slc d i ver off sz len cap
     | 0 => match ao bs i with
       | (w,.row r)=>if Nat.beq w ver∧off+len*sz≤r.len then (match r.sub off (len*sz) with
         | .I k l=>.slcT none (.I k l) sz len (cap == some len)
         | .F f m=>.slcT none (.F f m) sz len (cap == some len)
         | .M l=>if fU l then .slcT none (.M l) sz len (cap == some len) else .slcT (some 0) (.M (mapM' (dE bs n) l)) sz len (cap == some len)
         | .G l=>.slcT (some 0) (.G (l.map (dE bs n))) sz len (cap == some len)) else .undef
       | _=>.undef
   | .ptrT s r off=>match s with
     | none=>.ptrT none r off
     | some (s+1)=>.ptrT (some s) r off
     | some 0=>match r with
       | .G l=>.ptrT (some 0) (.G (l.map (dE bs n))) off
       | .M l=>if fU l then .ptrT none (.M l) off else .ptrT (some 0) (.M (mapM' (dE bs n) l)) off
       | r=>.ptrT none r off
   | .slcT s r sz len full=>match s with
     | none=>.slcT none r sz len full
     | some (s+1)=>.slcT (some s) r sz len full
     | some 0=>match r with
       | .G l=>.slcT (some 0) (.G (l.map (dE bs n))) sz len full
       | .M l=>if fU l then .slcT none (.M l) sz len full else .slcT (some 0) (.M (mapM' (dE bs n) l)) sz len full
       | r=>.slcT none r sz len full
   | .map d i=>match d with
     | d+1=>.map d i
     | 0=>.undef
   | .yld d i=>match d with
     | d+1=>.yld d i
     | 0=>.undef
   | .fn f a b=>.fn f (a.map (dE bs n)) (b.map (dE bs n))
   | .agg r=>match r with
     | .G l=>.agg (.G (l.map (dE bs n)))
     | .M l=>.agg (.M (mapM' (dE bs n) l))
     | r=>.agg r
   | .tup l=>.tup (l.map (dE bs n))
   | v=>v

def fT:Nat→List AV→ar
 | _,[]=>[]
 | x,v::l=>(x,fm 1 v)::fT (x+1) l

def gL (P:Program) (fr:ar) (H:aa):List ResultVar→Option (List AV)
 | []=>some []
 | .tmp t::r=>(gL P fr H r).map (bo fr t::·)
 | .cell a t::r=>match l6 P H t (bo fr a) with
   | some v=>(gL P fr H r).map (v::·)
   | none=>none
def one:List AV→AV
 | [v]=>v
 | l=>.tup l

def lB (nt:Nat) (fr:ar):List Tmp→List AV→Option ar
 | [],[]=>some fr
 | t::ts,v::vs=>if Nat.blt t nt then lB nt (tL fr t v) ts vs else none
 | _,_=>none

def db:Ex→Option Code
 | .normal=>none
 | .exit id=>some (.exit id)
 | .goto l=>some (.goto l)
 | .ret=>some .ret

def mn (k:Nat):ar→ar
 | []=>[]
 | (x,v)::r=>(x,fm k v)::mn k r

noncomputable def cT (P:Program) (ora:aQ→FuncId→List AV→aa→Option (AV×aa)) (KT:FuncId→Nat→Nat) (fu:Nat):Nat→aQ
 | _,.mode,_,_=>(ora (fun _ _ _=>none) 1000000 [] []).map fun _=>(.undef,[])
 | 0,_,_,_=>none
 | n + 1,.fn f,args,H=>match ora (cT P ora KT fu n) f args H with
   | some r=>some r
   | none => match P.funcs[f]? with
     | none=>none
     | some fn=>match fn.body with
       | none=>none
       | some c=>if Nat.ble args.length fn.ntmps then
         match exec ⟨P,cT P ora KT fu n,fu,f,fn.ntmps,KT f,none⟩ c (fT 0 args) (⟨false,[]⟩::H) with
         | some (e,fr,l::H') =>
           (match e with
           | .normal | .ret=>match gL P fr (l::H') fn.results.toList with
             | some vs=>some (dE l.bs 5 (one vs),H')
             | none=>none
           | _=>none)
         | _=>none
         else none
 | n + 1,.round  d i,args,H=>match aq H d i with
   | (0, .loop l) =>
     if au H d then none else
     match l.state with
     | .ready => match lB l.nt (mn (d+1) l.fr) l.params (args.map (fm 1)) with
       | some fr => match exec ⟨P,cT P ora KT fu n,fu,l.fn,l.nt,KT l.fn,some (d+1,i)⟩ l.assign fr (⟨false,[]⟩::H) with
         | some (.normal,fr,H1)=>match aq H1 (d+1) i with
           | (0, .loop l1)=>match l1.state with
             | .ready =>
               match exec ⟨P,cT P ora KT fu n,fu,l.fn,l.nt,KT l.fn,some (d+1,i)⟩ l.body fr (ec H1 (d+1) i (0,.loop { l1 with state:=.busy })) with
               | some (e,_,_::H2)=>match aq H2 d i with
                 | (0,.loop l2)=>some (.bool (db e).isNone,ec H2 d i (0,.loop { l2 with state:=if (db e).isNone then .ready else .done,pending:=db e }))
                 | _=>none
               | _=>none
             | _=>none
           | _=>none
         | _=>none
       | none=>none
     | _=>none
   | _=>none

end Go.Eng
