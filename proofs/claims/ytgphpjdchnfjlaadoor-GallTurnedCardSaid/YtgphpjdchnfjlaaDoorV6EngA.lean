/- The engine, part A: abstract values, the abstract heap, the abstract interpreter. No statement is proved here. -/
import Derived.RangeFuncLeaves
import Derived.Test.YtgphpjdchnfjlaaDoorV6EngGl
import Derived.OrdersIn
import Derived.RangeFuncRecord
namespace Go.Eng
theorem wO {p:Prop} (h:p:=by omega):p:=h
theorem nP:(∀ {α:Type} (a b:α),(some a=some b)=(a=b))∧(∀ {α β:Type} (a c:α) (b d:β),((a,b)=(c,d))=(a=c∧b=d)):=⟨fun _ _=>Option.some.injEq _ _,fun _ _ _ _=>Prod.mk.injEq _ _ _ _⟩

mutual
inductive AV where
 | undef
 | bool (b:Bool)
 | int (k:IntKind) (n:Int)
 | str (s:ByteArray)
 | nilp | nils | nilm | nilf
 | ptr (d i v off:Nat)
 | ptrT (s:Option Nat) (r:Row) (off:Nat)
 | slc (d i v off sz len:Nat) (cap:Option Nat)
 | slcT (s:Option Nat) (r:Row) (sz len:Nat) (full:Bool)
 | map (d i:Nat)
 | yld (d i:Nat)
 | fn (f:Fn) (first cap:List AV)
 | agg (r:Row)
 | tup (l:List AV)
inductive Row where
 | I (k:IntKind) (l:List Int)
 | G (l:List AV)
 | F (f:Nat→AV) (n:Nat)
 | M (l:List dp)
inductive dp where
 | one (v:AV)
 | arr (k:IntKind) (z:Nat→Int) (n:Nat)
end

instance:Inhabited AV:=⟨.undef⟩
instance:Inhabited Row:=⟨.G []⟩

def aU:dp→Nat
 | .one _=>1
 | .arr _ _ n=>n
def aE:List dp→Nat
 | []=>0
 | s::r=>aU s+aE r
def getM:List dp→Nat→AV
 | [],_=>.undef
 | .one v::_,0=>v
 | .one _::r,j+1=>getM r j
 | .arr k z n::r,j=>if j<n then .int k (z j) else getM r (j-n)
def mapM' (f:AV→AV):List dp→List dp
 | []=>[]
 | .one v::r=>.one (f v)::mapM' f r
 | .arr k z n::r=>.arr k z n::mapM' f r
def fY:List dp→Bool
 | []=>true
 | .one _::_=>false
 | .arr _ _ _::r=>fY r
def Row.len:Row→Nat
 | .I _ l=>l.length
 | .G l=>l.length
 | .F _ n=>n
 | .M l=>aE l
def Row.get:Row→Nat→AV
 | .I k l,j=>.int k (l.getD j 0)
 | .G l,j=>l.getD j .undef
 | .F f _,j=>f j
 | .M l,j=>getM l j

def dJ (g:Nat→AV):Nat→Nat→List AV
 | _,0=>[]
 | o,n+1=>g o::dJ g (o+1) n
def Row.toList:Row→List AV
 | .I k l=>l.map (.int k)
 | .G l=>l
 | .F f n=>dJ f 0 n
 | .M l=>dJ (getM l) 0 (aE l)
def Row.ints:Row→Option (IntKind×(Nat→Int))
 | .I k l=>some (k,fun j=>l.getD j 0)
 | .M [.arr k z _]=>some (k,z)
 | _=>none
def yV:Row→Bool
 | .M _=>true
 | _=>false
def qL:List AV→List dp→List dp
 | [],r=>r
 | v::l,r=>.one v::qL l r
def ko:List dp→Nat→AV→List dp
 | [],_,_=>[]
 | .one _::r,0,v=>.one v::r
 | .one u::r,j+1,v=>.one u::ko r j v
 | .arr k z n::r,j,v=>if j<n then (match v with
    | .int k' x=>if k'=k then .arr k (fun i=>if i=j then x else z i) n::r else qL (dJ (fun i=>if i=j then v else .int k (z i)) 0 n) r
    | _=>qL (dJ (fun i=>if i=j then v else .int k (z i)) 0 n) r)
   else .arr k z n::ko r (j-n) v
def yk:List Int→Bool
 | []=>true
 | x::l=>x == 0 && yk l
def RK (l:List Int):Nat→Int:=if yk l then fun _=>0 else fun j=>l.getD j 0
def dx (k:IntKind):List AV→List Int×List AV
 | .int k' n::r=>if k'=k then (match dx k r with | (a,b)=>(n::a,b)) else ([],.int k' n::r)
 | l=>([],l)
def iN:Nat→List AV→List dp
 | 0,l=>qL l []
 | _,[]=>[]
 | f+1,.int k n::r=>match dx k r with
   | (a,b)=>if Nat.ble 7 a.length then .arr k (RK (n::a)) (a.length+1)::iN f b else .one (.int k n)::iN f r
 | f+1,v::r=>.one v::iN f r

def tr (k:IntKind):List AV→Option (List Int)
 | []=>some []
 | .int k' n::r=>if k'=k then (tr k r).map (n::·) else none
 | _=>none
def Row.ofList:List AV→Row
 | .int k n::r=>match tr k r with
   | some l=>.I k (n::l)
   | none=>.G (.int k n::r)
 | l=>.G l

def lU:List dp→Nat→Nat→Option (IntKind×(Nat→Int))
 | [],_,_=>none
 | .one _::r,o+1,n=>lU r o n
 | .one _::_,0,_=>none
 | .arr k z m::r,o,n=>if o+n≤m then some (k,fun j=>z (o+j)) else if m≤o then lU r (o-m) n else none
def Row.sub (r:Row) (o n:Nat):Row :=
 match r with
 | .I k l=>.I k ((l.drop o).take n)
 | .G l=>.G ((l.drop o).take n)
 | .F f _=>.F (fun j=>f (o+j)) n
 | .M [.arr k z _]=>.M [.arr k (fun j=>z (o+j)) n]
 | .M l=>if Nat.beq o 0 && Nat.beq (aE l) n then .M l else match lU l o n with
   | some (k,z)=>.M [.arr k z n]
   | none=>.G (dJ (getM l) o n)

def iz:AV→Bool
 | .undef | .bool _ | .int _ _ | .str _ | .nilp | .nils | .nilm | .nilf=>true
 | .ptrT s _ _=>s.isNone
 | .slcT s _ _ _ _=>s.isNone
 | .agg (.I ..) | .agg (.F ..)=>true
 | .agg (.M l)=>fY l
 | _=>false

def Row.cut (r:Row) (o n:Nat):Row :=
 match r with
 | .G l=>Row.ofList ((l.drop o).take n)
 | .M l=>if Nat.ble n 8 then Row.ofList (dJ (getM l) o n) else if Nat.beq o 0 && Nat.beq (aE l) n then .M l else (Row.M l).sub o n
 | r=>r.sub o n

def Row.set (r:Row) (j:Nat) (v:AV):Row :=
 match r,v with
 | .I k l,.int k' n=>if k'=k then .I k (l.set j n) else .G ((l.map (.int k)).set j v)
 | .I k l,v=>.G ((l.map (.int k)).set j v)
 | .G l,v=>.G (l.set j v)
 | .F f n,v=>.F (fun i=>if i=j then (if iz v then v else .undef) else f i) n
 | .M l,v=>.M (ko l j v)
def Row.cW (r:Row) (j:Nat):List AV→Row
 | []=>r
 | v::l=>(r.set j v).cW (j+1) l
def Row.vh (r s:Row):Option Row :=
 match r.ints,s.ints with
 | some (k,z),some (k',z')=>if k'=k then some (.M [.arr k (fun i=>if i<r.len then z i else z' (i-r.len)) (r.len+s.len)]) else none
 | _,_=>none
def jY:AV→AV
 | .slcT none (.I k l) sz m _=>.slcT none (.M [.arr k (fun j=>l.getD j 0) l.length]) sz m false
 | .slcT none (.M [.arr k z n]) sz m _=>.slcT none (.M [.arr k z n]) sz m false
 | v=>v
def rp (n i:Nat):Nat:=if Nat.beq n 1 then 0 else i
def Row.app (r s:Row):Row :=
 match r,s with
 | .M l,s=>(match (Row.M l).vh s with | some q=>q | none=>.G ((Row.M l).toList++s.toList))
 | .I k l,.M m=>(match (Row.I k l).vh (.M m) with | some q=>q | none=>.G ((Row.I k l).toList++(Row.M m).toList))
 | .I k l,.I k' l'=>if k'=k then .I k (l++l') else .G (l.map (.int k)++l'.map (.int k'))
 | .F f n,s=>.F (fun i=>if Nat.blt i n then f i else if iz (s.get (rp s.len (i-n))) then jY (s.get (rp s.len (i-n))) else .undef) (n+s.len)
 | r,s=>.G (r.toList++s.toList)

def oR (k:Nat):AV→AV
 | .ptr d i v off=>.ptr (d+k) i v off
 | .ptrT s r off=>.ptrT (s.map (· + k)) r off
 | .slc d i v off sz len cap=>.slc (d+k) i v off sz len cap
 | .slcT s r sz len full=>.slcT (s.map (· + k)) r sz len full
 | .map d i=>.map (d+k) i
 | .yld d i=>.yld (d+k) i
 | .agg (.I a l)=>.agg (.I a l)
 | .fn _ _ _ | .agg _ | .tup (_::_)=>.undef
 | v=>v
def Rw (k:Nat) (v:AV):AV :=
 match v with
 | .fn f a b=>.fn f (a.map (oR k)) (b.map (oR k))
 | .agg (.G l)=>.agg (.G (l.map (oR k)))
 | .agg (.M l)=>.agg (.M (mapM' (oR k) l))
 | .agg r=>.agg r
 | v=>oR k v
def m6 (k:Nat) (v:AV):AV :=
 match k with
 | 0=>v
 | k+1=>Rw (k+1) v
def CB (k:Nat):Row→Row
 | .I a l=>.I a l
 | .G l=>.G (l.map (oR k))
 | .F f n=>.F f n
 | .M l=>.M (mapM' (oR k) l)
def CA (k:Nat) (r:Row):Row :=
 match k with
 | 0=>r
 | k+1=>CB (k+1) r
def kZ:Nat→Nat→AV→AV
 | 0,_,_=>.undef
 | n + 1,k,v=>match v with
   | .ptr d i v off=>if Nat.blt d k then .undef else .ptr (d-k) i v off
   | .ptrT none r off=>.ptrT none r off
   | .ptrT (some s) r off=>if Nat.blt s k then (match r with
     | .G l=>.ptrT (some 0) (.G (l.map (kZ n (k-s)))) off
     | .M l=>if fY l then .ptrT none (.M l) off else .ptrT (some 0) (.M (mapM' (kZ n (k-s)) l)) off
     | r=>.ptrT none r off) else .ptrT (some (s-k)) r off
   | .slc d i v off sz len cap=>if Nat.blt d k then .undef else .slc (d-k) i v off sz len cap
   | .slcT none r sz len full=>.slcT none r sz len full
   | .slcT (some s) r sz len full=>if Nat.blt s k then (match r with
     | .G l=>.slcT (some 0) (.G (l.map (kZ n (k-s)))) sz len full
     | .M l=>if fY l then .slcT none (.M l) sz len full else .slcT (some 0) (.M (mapM' (kZ n (k-s)) l)) sz len full
     | r=>.slcT none r sz len full) else .slcT (some (s-k)) r sz len full
   | .map d i=>if Nat.blt d k then .undef else .map (d-k) i
   | .yld d i=>if Nat.blt d k then .undef else .yld (d-k) i
   | .agg (.I a l)=>.agg (.I a l)
   | .fn _ _ _ | .agg _ | .tup (_::_)=>.undef
   | v=>v
def Py (k:Nat) (v:AV):AV :=
 match v with
 | .fn f a b=>.fn f (a.map (kZ 4 k)) (b.map (kZ 4 k))
 | .agg (.G l)=>.agg (.G (l.map (kZ 4 k)))
 | .agg (.M l)=>.agg (.M (mapM' (kZ 4 k) l))
 | .agg r=>.agg r
 | v=>kZ 4 k v
def R9 (k:Nat) (v:AV):AV :=
 match k with
 | 0=>v
 | k+1=>Py (k+1) v
def w9 (k:Nat):Row→Row
 | .I a l=>.I a l
 | .G l=>.G (l.map (kZ 4 k))
 | .F f n=>.F f n
 | .M l=>.M (mapM' (kZ 4 k) l)

def jM (k:Nat) (r:Row):Row :=
 match k with
 | 0=>r
 | k+1=>w9 (k+1) r

abbrev aD:=List (Nat×AV)
def bO:aD→Nat→AV
 | [],_=>.undef
 | (x,v)::r,y=>if Nat.beq x y then v else bO r y
def vk:aD→Nat→AV→aD
 | [],y,u=>[(y,u)]
 | (x,v)::r,y,u=>if Nat.ble y x then (if Nat.beq x y then (y,u)::r else (y,u)::(x,v)::r) else (x,v)::vk r y u
def iY (m x:Nat):Bool:=Nat.beq (Nat.land (Nat.shiftRight m x) 1) 1
noncomputable def bX (fr:aD) (m:Nat):aD:=List.rec (motive:=fun _=>aD) [] (fun p _ ih=>Prod.rec (motive:=fun _=>aD) (fun x _=>Bool.rec (motive:=fun _=>aD) (p::ih) ih (Nat.beq (Nat.land (Nat.shiftRight m x) 1) 1)) p) fr

structure iO where
 state:LoopState
 pending:Option Code
 fn:FuncId
 nt:Nat
 fr:aD
 params:List Tmp
 assign:Code
 body:Code

inductive KK where
 | num (k:IntKind)
 | str (n:Nat)
inductive ak where
 | dead
 | row (r:Row)
 | map (es:List (AV×AV))
 | fmap (q:KK) (h:List Int→Bool) (g:List Int→Int) (c:Nat)
 | loop (l:iO)

structure bB where
 lock:Bool
 bs:List (Nat×ak)
abbrev aa:=List bB

def av:List (Nat×ak)→Nat→Nat×ak
 | [],_=>(0,.dead)
 | b::_,0=>b
 | _::r,i+1=>av r i
def bT:List (Nat×ak)→Nat→Nat×ak→List (Nat×ak)
 | [],_,_=>[]
 | _::r,0,x=>x::r
 | b::r,i+1,x=>b::bT r i x
def aB:aa→Nat→Nat→Nat×ak
 | [],_,_=>(0,.dead)
 | l::_,0,i=>av l.bs i
 | _::r,d+1,i=>aB r d i
def aM:aa→Nat→Bool
 | [],_=>true
 | l::_,0=>l.lock
 | _::r,d+1=>aM r d
def dD:aa→Nat→Nat→Nat×ak→aa
 | [],_,_,_=>[]
 | l::r,0,i,x=>{ l with bs:=bT l.bs i x } :: r
 | l::r,d+1,i,x=>l::dD r d i x
def dS (H:aa) (d i:Nat):aa:=dD H d i ((aB H d i).1,.dead)
def jT:aa→ak→aa
 | [],b=>[⟨false,[(0,b)]⟩]
 | l::r,b=>{ l with bs:=l.bs++[(0,b)] } :: r
def bC:aa→Nat→ak→aa
 | [],_,_=>[]
 | l::r,0,b=>{ l with bs:=l.bs++[(0,b)] } :: r
 | l::r,d+1,b=>l::bC r d b
def ao:aa→Nat→Nat
 | [],_=>0
 | l::_,0=>l.bs.length
 | _::r,d+1=>ao r d
def aY:aa→Nat
 | []=>0
 | l::_=>l.bs.length
def bK:aa→aa
 | []=>[]
 | l::r=>{ l with lock:=true } :: bK r

def c6 (H:aa) (d i v:Nat):Option Row :=
 match aB H d i with
 | (ver,.row r)=>if Nat.beq ver v then some r else none
 | _=>none

def sM:Value→AV
 | .bool b=>.bool b
 | .int k n=>.int k n
 | .string s=>.str s
 | .pointer none=>.nilp
 | .slice none 0 0=>.nils
 | .map none=>.nilm
 | .nilFunc=>.nilf
 | _=>.undef
def ll:Value→AV
 | .bool b=>.bool b
 | .int k n=>.int k n
 | .string s=>.str s
 | .pointer none=>.nilp
 | .slice none 0 0=>.nils
 | .map none=>.nilm
 | .nilFunc=>.nilf
 | .func (.func f) ca cb=>if ca.isEmpty && cb.isEmpty then .fn (.func f) [] [] else .undef
 | .agg cs=>if cs.toList.all Value.oneCell' then .agg (Row.ofList (cs.toList.map sM)) else .undef
 | .tuple cs=>if cs.isEmpty then .tup [] else .undef
 | _=>.undef

def b9 (fr:aD):Operand→AV
 | .tmp t=>bO fr t
 | .const v=>ll v
 | .global _=>.undef
 | .func f=>.fn (.func f) [] []

def AV.row:AV→Option Row
 | .agg r=>some r
 | .int k n=>some (.I k [n])
 | .undef | .tup _=>none
 | v=>some (.G [v])

def fk (P:Program) (t:TypeId):Option Bool :=
 match P.underlying t with
 | some (.struct _) | some (.array _ _)=>some true
 | some _=>some false
 | none=>none
def bH (P:Program) (t:TypeId):Option Nat:=(P.info? t).map (·.size)
def da (P:Program) (t:TypeId):Option AV:=((P.info? t).bind (·.zero)).map ll

inductive Delta where
 | bD
 | push (b:ak)
 | set (d i:Nat) (b:Nat×ak)
 | heap (H:aa)
def Delta.on (δ:Delta) (H:aa):aa :=
 match δ with
 | .bD=>H
 | .push b=>jT H b
 | .set d i b=>dD H d i b
 | .heap H=>H

inductive RC where
 | fn (f:FuncId)
 | round (d i:Nat)
 | mode
abbrev aN:=RC→List AV→aa→Option (AV×aa)

def iJ (op:BinOp) (k:IntKind) (x y:Int):Option AV :=
 match op with
 | .add=>some (.int k (k.wrap (x+y)))
 | .sub=>some (.int k (k.wrap (x-y)))
 | .mul=>some (.int k (k.wrap (x*y)))
 | .quo=>if y=0 then none else some (.int k (k.wrap (x.tdiv y)))
 | .rem=>if y=0 then none else some (.int k (x.tmod y))
 | .and=>some (.int k (k.wrap (BitVec.ofInt k.bits x &&& BitVec.ofInt k.bits y).toNat))
 | .or=>some (.int k (k.wrap (BitVec.ofInt k.bits x ||| BitVec.ofInt k.bits y).toNat))
 | .xor=>some (.int k (k.wrap (BitVec.ofInt k.bits x ^^^ BitVec.ofInt k.bits y).toNat))
 | .andNot=>some (.int k (k.wrap (BitVec.ofInt k.bits x &&& ~~~(BitVec.ofInt k.bits y)).toNat))
 | .eql=>some (.bool (x == y))
 | .neq=>some (.bool (x != y))
 | .lss=>some (.bool (x<y))
 | .leq=>some (.bool (x≤y))
 | .gtr=>some (.bool (x > y))
 | .geq=>some (.bool (x≥y))
 | _=>none

def gd (P:Program) (g:TypeId→Option Nat) (off:Nat):List Field→Option Nat
 | []=>some off
 | f::fs=>if f.name != "_" && Nat.beq f.offset off then (match g f.type with
   | some s=>gd P g (off+s) fs
   | none=>none) else none
def cE (P:Program):Nat→TypeId→Option Nat
 | 0,_=>none
 | n + 1,t=>match P.underlying t with
   | some (.int _)=>if bH P t=some 1 then some 1 else none
   | some (.array len e)=>match cE P n e with
     | some s=>if bH P t=some (len*s) then some (len*s) else none
     | none=>none
   | some (.struct fs)=>if P.stoodInHeld t then none else match gd P (cE P n) 0 fs.toList with
     | some s=>if bH P t=some s then some s else none
     | none=>none
   | _=>none

def fg:List Int→List Int→Bool
 | [],[]=>true
 | x::a,y::b=>(x == y) && fg a b
 | _,_=>false

def allEq (z z':Nat→Int):Nat→Bool
 | 0=>true
 | n+1=>allEq z z' n && (z n == z' n)
def OR (P:Program) (t:TypeId) (r s:Row):Option Bool :=
 match r.ints,s.ints with
 | some (k,z),some (k',z')=>if k=k'∧cE P 20 t=some r.len∧fk P t=some true∧r.len=s.len then some (allEq z z' r.len) else none
 | _,_=>none
def Be (P:Program) (t:TypeId) (x y:AV):Option Bool :=
 match x,y with
 | .bool a,.bool b=>(match P.underlying t with | some .bool=>some (a == b) | _=>none)
 | .nils,.nils | .nils,.slcT .. | .nils,.slc .. | .slcT ..,.nils | .slc ..,.nils =>
   (match P.underlying t with
   | some (.slice _)=>(match x,y with
     | .nils,.nils=>some true
     | .nils,.slcT _ _ _ n _=>if 0<n then some false else none
     | .slcT _ _ _ n _,.nils=>if 0<n then some false else none
     | _,_=>some false)
   | _=>none)
 | .nilp,.nilp | .nilp,.ptr .. | .nilp,.ptrT .. | .ptr ..,.nilp | .ptrT ..,.nilp =>
   (match P.underlying t with
   | some (.pointer _)=>some (match x,y with | .nilp,.nilp=>true | _,_=>false)
   | _=>none)
 | .agg (.I k a),.agg (.I k' b)=>if k=k'∧cE P 20 t=some a.length∧fk P t=some true∧a.length=b.length then some (fg a b) else none
 | .agg (.M l),.agg s=>OR P t (.M l) s
 | .agg (.I k a),.agg (.M l)=>OR P t (.I k a) (.M l)
 | _,_=>none

def kC (P:Program) (op:BinOp) (t:TypeId) (x y:AV):Option AV :=
 match op,x,y with
 | .shl,.int k a,.int _ b=>if b<0 then none else some (.int k (k.wrap (a*2 ^ (min b.toNat k.bits))))
 | .shr,.int k a,.int _ b=>if b<0 then none else some (.int k (a.fdiv (2 ^ (min b.toNat k.bits))))
 | op,.int k a,.int k' b=>if k=k' then iJ op k a b else none
 | .eql,x,y=>(Be P t x y).map .bool
 | .neq,x,y=>(Be P t x y).map fun b=>.bool (!b)
 | _,_,_=>none

def RJ (op:UnOp) (x:AV):Option AV :=
 match op,x with
 | .not,.bool b=>some (.bool !b)
 | .neg,.int k n=>some (.int k (k.wrap (0-n)))
 | _,_=>none

def oK {α:Type} (l:List α):Nat→List α
 | 0=>[]
 | n+1=>l++oK l n
def dZ (z:Row) (n:Nat):Row :=
 match z with
 | .I k l=>.I k (oK l n)
 | z=>.G (oK z.toList n)
def GF (l:List AV) (n:Nat):Row :=
 match l with
 | [v]=>if iz v then .F (fun _=>v) n else .G (oK l n)
 | l=>.G (oK l n)
def dP (z:Row) (n:Nat):Row :=
 match z with
 | .I k l=>if yk l then .M [.arr k (fun _=>0) (n*l.length)] else .I k (oK l n)
 | z=>GF z.toList n
def kW (r:Row):Row :=
 match r with
 | .I k l=>if Nat.ble 8 l.length then .M [.arr k (RK l) l.length] else .I k l
 | .G l=>if (iN l.length l).length == l.length then .G l else .M (iN l.length l)
 | r=>r
def yr (z:Nat→Int) (off:Nat) (z':Nat→Int) (n:Nat):Nat→Int:=fun i=>if off≤i∧i<off+n then z' (i-off) else z i
def zN:List dp→Nat→Nat→List dp→Option (List dp)
 | [],_,_,_=>none
 | .one v::r,o+1,n,q=>(zN r o n q).map (.one v::·)
 | .one _::_,0,_,_=>none
 | .arr k z m::r,o,n,q=>if Nat.beq o 0 && Nat.beq m n then some (q++r) else if Nat.ble m o then (zN r (o-m) n q).map (.arr k z m::·) else none
def Lv (q:Row):Option (List dp) :=
 match kW q with
 | .M l=>some l
 | _=>none
def xL (l:List dp) (off:Nat) (q:Row):Row :=
 if Nat.ble 9 q.len then (match Lv q with
  | some qs=>if Nat.beq off 0 && Nat.beq (aE l) q.len then .M qs else (match zN l off q.len qs with
    | some l'=>.M l'
    | none=>(Row.M l).cW off q.toList)
  | none=>(Row.M l).cW off q.toList)
 else (Row.M l).cW off q.toList
def kn (r:Row) (off:Nat) (q:Row):Row :=
 match r with
 | .M l=>(match l with
   | [.arr k z m]=>(match q with
     | .M [.arr k' z' n]=>if k'=k then .M [.arr k (yr z off z' n) m] else xL l off q
     | _=>xL l off q)
   | _=>xL l off q)
 | r=>r.cW off q.toList
def rm:AV→Bool
 | .slcT none (.M [.arr _ _ _]) _ _ _=>true
 | .slcT none (.I _ _) _ _ _=>true
 | _=>false
def rH (sy:Bool) (r:Row):Row :=
 match r with
 | .I k l=>if sy then .M [.arr k (fun j=>l.getD j 0) l.length] else .I k l
 | .G [v]=>if sy && rm v then .F (fun _=>jY v) 1 else .G [v]
 | r=>r
def sW (place:Nat→Option (Nat×Nat)) (r:Row):List (Nat×AV)→Option Row
 | []=>some r
 | (i,v)::rest=>match place i with
   | none=>none
   | some (off,size)=>match v.row with
     | some q=>if q.len=size∧off+q.len≤r.len then sW place (r.cW off q.toList) rest else none
     | none=>none

def j0 (P:Program) (t:TypeId) (r:Row) (off:Nat):Option AV :=
 match fk P t,bH P t with
 | some true,some n=>if off+n≤r.len then some (.agg (r.cut off n)) else none
 | some false,_=>if off<r.len then some (r.get off) else none
 | _,_=>none

def VY (s:Option Nat) (v:AV):AV :=
 match s with
 | none=>v
 | some k=>m6 k v

def pC (P:Program) (H:aa) (t:TypeId) (a:AV):Option AV :=
 match a with
 | .ptr d i v off=>match c6 H d i v with
   | some r=>(j0 P t r off).map (m6 d)
   | none=>none
 | .ptrT s r off=>(j0 P t r off).map (VY s)
 | _=>none

def gP (P:Program) (H:aa) (t:TypeId) (a x:AV):Option Delta :=
 match a with
 | .ptr d i v off =>
   if aM H d then none else
   match c6 H d i v,bH P t,x.row with
   | some r,some n,some q =>
     if q.len=n∧off+n≤r.len then
      match d,x with
      | d+1,.slc 0 j w o sz len cap=>if aM H 0 then none else match c6 H 0 j w with
        | some q=>some (.heap (bC (dD (dS H 0 j) (d+1) i (v,.row (r.set off (.slc 0 (ao H (d+1)) 0 o sz len cap)))) (d+1) (.row (jM (d+1) q))))
        | none=>none
      | _,_=>some (.set d i (v,.row (kn r off (jM d q))))
     else none
   | _,_,_=>none
 | _=>none

def lP (P:Program):List Field→Option (List (Nat×Nat))
 | []=>some []
 | f::fs=>match bH P f.type,lP P fs with
   | some n,some l=>some ((f.offset,n)::l)
   | _,_=>none

def wY (P:Program) (sy:Bool) (t:TypeId) (parts:List (Nat×AV)):Option AV :=
 match da P t,P.underlying t with
 | some (.agg z),some (.struct fs)=>match lP P fs.toList with
   | some l=>(sW (fun i=>l[i]?) (if sy then kW z else z) parts).map .agg
   | none=>none
 | some (.agg z),some (.array _ e)=>match bH P e with
   | some n=>(sW (fun i=>some (i*n,n)) (if sy then kW z else z) parts).map .agg
   | none=>none
 | _,_=>none

def mi (a:AV) (n:Nat):Option AV :=
 match a with
 | .ptr d i v off=>some (.ptr d i v (off+n))
 | .ptrT s r off=>some (.ptrT s r (off+n))
 | _=>none

def jn (P:Program) (t:TypeId) (a:AV) (f:Nat):Option AV :=
 match P.underlying t with
 | some (.struct fs)=>match fs[f]? with
   | some g=>match bH P g.type with
     | some (_+1)=>mi a g.offset
     | _=>none
   | none=>none
 | _=>none

def jv (P:Program) (t:TypeId) (x:AV) (i:Int):Option AV :=
 match P.underlying t,x with
 | some (.array n e),x=>match bH P e with
   | some z=>if 0≤i∧i<n then mi x (i.toNat*z) else none
   | none=>none
 | some (.slice e),.slc d j v off sz len _ =>
   if 0≤i∧i<len∧bH P e=some sz then some (.ptr d j v (off+i.toNat*sz)) else none
 | some (.slice e),.slcT s r sz len _ =>
   if 0≤i∧i<len∧bH P e=some sz then some (.ptrT s r (i.toNat*sz)) else none
 | _,_=>none

def qw (P:Program) (t:TypeId) (x:AV) (i:Int):Option AV :=
 match P.underlying t,x with
 | some (.array n e),.agg r=>match bH P e with
   | some z=>if 0≤i∧i<n then j0 P e r (i.toNat*z) else none
   | none=>none
 | some .string,.str s=>if 0≤i then (match s[i.toNat]? with
   | some b=>some (.int .u8 b.toNat)
   | none=>none) else none
 | _,_=>none

def xg (P:Program) (t:TypeId) (x:AV) (f:Nat):Option AV :=
 match P.underlying t,x with
 | some (.struct fs),.agg r=>match fs[f]? with
   | some g=>j0 P g.type r g.offset
   | none=>none
 | _,_=>none

def bound (o:Option AV) (dflt top:Nat):Option Nat :=
 match o with
 | none=>some dflt
 | some (.int _ i)=>if 0≤i∧i≤top then some i.toNat else none
 | some _=>none

def eC (lo hi mx:Option AV) (len:Nat):Option (Nat×Nat×Option Nat) :=
 match mx with
 | none=>match bound hi len len with
   | some h=>match bound lo 0 h with
     | some l=>some (l,h,none)
     | none=>none
   | none=>none
 | some a=>match bound (some a) 0 len with
   | some m=>if hi.isSome then (match bound hi len m with
     | some h=>match bound lo 0 h with
       | some l=>some (l,h,some m)
       | none=>none
     | none=>none) else none
   | none=>none

def qP (P:Program) (t:TypeId) (x:AV) (lo hi mx:Option AV):Option AV :=
 match P.underlying t,x with
 | some (.slice e),.slc d j v off sz len cap =>
   match eC lo hi mx len with
   | some (l,h,mm)=>if bH P e=some sz then
      some (.slc d j v (off+l*sz) sz (h-l) (match mm with | none=>cap.map (· - l) | some m=>some (m-l))) else none
   | none=>none
 | some (.slice e),.slcT s r sz len full =>
   match eC lo hi mx len with
   | some (l,h,mm)=>if bH P e=some sz∧l*sz+(h-l)*sz≤r.len then
      some (.slcT s (r.sub (l*sz) ((h-l)*sz)) sz (h-l) (match mm with | none=>full && Nat.beq h len | some m=>Nat.beq h m)) else none
   | none=>none
 | some (.slice e),.nils =>
   match eC lo hi mx 0,bH P e with
   | some _,some _=>some .nils
   | _,_=>none
 | some (.array n e),.ptr d j v off =>
   match eC lo hi mx n with
   | some (l,h,mm)=>match bH P e with
     | some sz=>some (.slc d j v (off+l*sz) sz (h-l) (match mm with | none=>some (n-l) | some m=>some (m-l)))
     | none=>none
   | none=>none
 | _,_=>none

def vu (P:Program) (H:aa) (t:TypeId) (x:AV):Option Int :=
 match P.underlying t,x with
 | some (.array n _),_=>some n
 | some (.slice _),.nils=>some 0
 | some (.slice _),.slc _ _ _ _ _ len _=>some len
 | some (.slice _),.slcT _ _ _ len _=>some len
 | some (.map _ _),.nilm=>some 0
 | some (.map _ _),.map d i=>match aB H d i with
   | (0,.map es)=>some es.length
   | (0,.fmap _ _ _ c)=>some c
   | _=>none
 | _,_=>none

def MU (P:Program) (t:TypeId) (x:AV):Option Int :=
 match P.underlying t,x with
 | some (.slice _),.nils=>some 0
 | some (.slice _),.slc _ _ _ _ _ _ (some c)=>some c
 | _,_=>none

def eP (H:aa) (sz n:Nat) (x:AV):Option Row :=
 match x with
 | .nils=>if n=0 then some (.G []) else none
 | .slc d i v off sz' len _=>match c6 H d i v with
   | some r=>if sz'=sz∧n≤len∧off+n*sz≤r.len then some (CA d (r.sub off (n*sz))) else none
   | none=>none
 | .slcT s r sz' len _=>if sz'=sz∧n≤len∧n*sz≤r.len then some (match s with | none=>r.sub 0 (n*sz) | some k=>CA k (r.sub 0 (n*sz))) else none
 | _=>none
def ou:AV→Option Nat
 | .nils=>some 0
 | .slc _ _ _ _ _ len _=>some len
 | .slcT _ _ _ len _=>some len
 | _=>none

def room:Nat:=2 ^ 46

def FR (P:Program) (sy:Bool) (nx:Nat) (e:TypeId) (s x:AV):Option (AV×Delta) :=
 match P.info? e,s,x with
 | some inf,.nils,.int _ k =>
   if 0≤k∧k.toNat≤room∧k.toNat*inf.bytes≤room∧0<inf.size∧((da P e).bind AV.row).map Row.len=some inf.size then
    (if k=0 then some (.nils,.bD) else some (.slc 0 nx 0 0 inf.size k.toNat none,.push (.row (rH sy (.I .i64 [])))))
   else none
 | _,_,_=>none
def oW      (P:Program) (sy:Bool) (H:aa) (nx:Nat) (t u:TypeId) (s x:AV):Option (AV×Delta) :=
 match P.underlying t,P.underlying u with
 | some (.slice e),some (.int _)=>FR P sy nx e s x
 | some (.slice e),some (.slice _) =>
   match P.info? e,ou s,ou x with
   | some inf,some m,some n =>
     if n=0 then (match s,x with
      | .nils,_=>some (s,.bD)
      | .slc ..,_=>some (s,.bD)
      | .slcT ..,_=>some (s,.bD)
      | _,_=>none)
     else if (m+n)*inf.bytes≤room∧(m+n)≤room∧0<inf.bytes∧((da P e).bind AV.row).map Row.len=some inf.size then
      match eP H inf.size n x with
      | none=>none
      | some new =>
        match s with
        | .nils=>some (.slc 0 nx 0 0 inf.size n none,.push (.row (rH sy new)))
        | .slcT _ _ _ _ true=>match eP H inf.size m s with
          | some old=>some (.slc 0 nx 0 0 inf.size (m+n) none,.push (.row (rH sy (old.app new))))
          | none=>none
        | .slc d i v off sz _ (some c) =>
          if c<m+n then
           match eP H inf.size m s with
           | some old=>some (.slc 0 nx 0 0 inf.size (m+n) none,.push (.row (rH sy (old.app new))))
           | none=>none
          else if aM H d then none else
           match c6 H d i v with
           | some r=>if sz=inf.size∧off+(m+n)*sz≤r.len then
              some (.slc d i v off sz (m+n) (some c),.set d i (v,.row (r.cW (off+m*sz) (jM d new).toList)))
             else none
           | none=>none
        | .slc d i v off sz _ none =>
          if aM H d then none else
          match c6 H d i v with
          | some r=>if sz=inf.size∧off+m*sz=r.len then
             some (.slc d i (v+1) 0 sz (m+n) none,.set d i (v+1,.row ((r.sub off (m*sz)).app (jM d new))))
            else none
          | none=>none
        | _=>none
     else none
   | _,_,_=>none
 | _,_=>none

def copyV (P:Program) (H:aa) (t:TypeId) (s x:AV):Option (AV×Delta) :=
 match P.underlying t with
 | some (.slice e) =>
   match bH P e,ou s,ou x with
   | some z,some m,some n =>
     match eP H z (min n m) x with
     | none=>none
     | some new =>
       match s with
       | .nils=>some (.int .i64 (min n m:Nat),.bD)
       | .slc d i v off sz _ _ =>
         if aM H d then none else
         match c6 H d i v with
         | some r=>if sz=z∧off+(min n m)*sz≤r.len then
            some (.int .i64 (min n m:Nat),.set d i (v,.row (kn r off (jM d new))))
           else none
         | none=>none
       | _=>none
   | _,_,_=>none
 | _=>none

def sK (P:Program) (H:aa) (t:TypeId) (s:AV):Option (AV×Delta) :=
 match P.underlying t,s with
 | some (.slice _),.nils=>some (.tup [],.bD)
 | some (.slice e),.slc d i v off sz len _ =>
   if aM H d then none else
   match (da P e).bind AV.row,c6 H d i v with
   | some z,some r=>if z.len=sz∧bH P e=some sz∧off+len*sz≤r.len then
      some (.tup [],if len=0 then .bD else .set d i (v,.row (if yV r then kn r off (dP z len) else r.cW off (dZ z len).toList)))
     else none
   | _,_=>none
 | _,_=>none

def eS (mx:Bool) (k:IntKind) (x:Int):List AV→Option AV
 | []=>some (.int k x)
 | .int k' y::r=>if k=k' then eS mx k (if mx then (if y > x then y else x) else (if y<x then y else x)) r else none
 | _=>none
def oB (mx:Bool):List AV→Option AV
 | .int k x::r=>eS mx k x r
 | _=>none

def jy (P:Program) (sy:Bool) (nx:Nat) (t:TypeId) (l c:AV):Option (AV×Delta) :=
 match P.underlying t,l,c with
 | some (.slice e),.int _ l,.int _ c =>
   match P.info? e,(da P e).bind AV.row with
   | some inf,some z =>
     if 0≤l∧l≤c∧c.toNat*inf.bytes≤room∧c.toNat≤room∧z.len=inf.size then
      some (.slc 0 nx 0 0 inf.size l.toNat (some c.toNat),.push (.row (if sy then dP z c.toNat else dZ z c.toNat)))
     else none
   | _,_=>none
 | _,_,_=>none

def jR (P:Program) (nx:Nat) (t:TypeId) (len:Nat) (parts:List (Nat×AV)):Option (AV×Delta) :=
 match P.underlying t with
 | some (.slice e)=>match bH P e,(da P e).bind AV.row with
   | some z,some zv =>
     if len*z≤2 ^ 24∧zv.len=z then
      (sW (fun i=>some (i*z,z)) (dZ zv len) parts).map fun r=>(.slc 0 nx 0 0 z len (some len),.push (.row r))
     else none
   | _,_=>none
 | _=>none

def pA (x y:AV):Option Bool :=
 match x,y with
 | .int k a,.int k' b=>if k=k' then some (a == b) else none
 | .agg (.I k a),.agg (.I k' b)=>if k=k'∧a.length=b.length then some (fg a b) else none
 | _,_=>none
def gb (key:AV):List (AV×AV)→Nat→Option (Option Nat)
 | [],_=>some none
 | (k,_)::r,i=>match pA key k with
   | some true=>some (some i)
   | some false=>gb key r (i+1)
   | none=>none
def ki (P:Program) (t:TypeId) (x:AV):Bool :=
 match P.underlying t,x with
 | some (.int _),.int _ _=>true
 | some (.array _ _),.agg (.I _ l)=>cE P 20 t == some l.length
 | some (.struct _),.agg (.I _ l)=>cE P 20 t == some l.length
 | _,_=>false
def vV (H:aa) (m:AV):Option (Nat×List (AV×AV)) :=
 match m with
 | .nilm=>some (0,[])
 | .map d i=>match aB H d i with
   | (0,.map es)=>some (d,es)
   | _=>none
 | _=>none
def oF:List (AV×AV)→Nat→AV
 | [],_=>.undef
 | e::_,0=>e.2
 | _::r,i+1=>oF r i
def oO:List (AV×AV)→Nat→AV×AV→List (AV×AV)
 | [],_,_=>[]
 | _::r,0,x=>x::r
 | e::r,i+1,x=>e::oO r i x
def od:List (AV×AV)→Nat→List (AV×AV)
 | [],_=>[]
 | _::r,0=>r
 | e::r,i+1=>e::od r i
def v8 (H:aa) (m:AV):Option (KK×(List Int→Bool)×(List Int→Int)×Nat) :=
 match m with
 | .map d i=>match aB H d i with
   | (0,.fmap q h g c)=>some (q,h,g,c)
   | _=>none
 | _=>none
def vt:KK→AV→Option (List Int)
 | .num k,.int k' n=>if k=k' then some [n] else none
 | .str m,.agg (.I .i64 l)=>if Nat.beq l.length m then some l else none
 | _,_=>none
def P1:AV→Option KK
 | .int k _=>some (.num k)
 | .agg (.I .i64 l)=>some (.str l.length)
 | _=>none
def zG:AV→Option Int
 | .int .i64 n=>some n
 | _=>none
def fG (h:List Int→Bool) (n:List Int) (b:Bool):List Int→Bool:=fun i=>if i=n then b else h i
def jd (g:List Int→Int) (n:List Int) (x:Int):List Int→Int:=fun i=>if i=n then x else g i
def vi (b:Bool) (c:Nat):Nat:=cond b c (c+1)
def yp (b:Bool) (c:Nat):Nat:=cond b (c-1) c
def tU (P:Program) (t:TypeId):ak :=
 match P.underlying t with
 | some (.map kt et)=>match (da P kt).bind P1,(da P et).bind zG with
   | some q,some _=>.fmap q (fun _=>false) (fun _=>0) 0
   | _,_=>.map []
 | _=>.map []
def r9 (P:Program) (H:aa) (t:TypeId) (m key:AV) (ok:Bool):Option AV :=
 match P.underlying t with
 | some (.map kt et) =>
   if ki P kt key then
    match v8 H m with
    | some (q,h,g,_)=>match vt q key,(da P et).bind zG with
      | some n,some 0=>some (if ok then .tup [.int .i64 (g n),.bool (h n)] else .int .i64 (g n))
      | _,_=>none
    | none=>match vV H m,da P et with
    | some (d,es),some z=>match gb key es 0 with
      | some (some i)=>some (if ok then .tup [m6 d (oF es i),.bool true] else m6 d (oF es i))
      | some none=>some (if ok then .tup [z,.bool false] else z)
      | none=>none
    | _,_=>none
   else none
 | _=>none
def j9 (P:Program) (H:aa) (t:TypeId) (m key x:AV):Option Delta :=
 match P.underlying t,m with
 | some (.map kt _),.map d i =>
   if aM H d then none else
   if ki P kt key then
    match aB H d i with
    | (0,.fmap q h g c)=>match vt q key,zG x with
      | some n,some y=>some (.set d i (0,.fmap q (fG h n true) (jd g n y) (vi (h n) c)))
      | _,_=>none
    | (0,.map es)=>match gb key es 0 with
      | some (some j)=>some (.set d i (0,.map (oO es j (key,R9 d x))))
      | some none=>some (.set d i (0,.map (es++[(key,R9 d x)])))
      | none=>none
    | _=>none
   else none
 | _,_=>none
def o6 (P:Program) (H:aa) (t:TypeId) (m key:AV):Option (AV×Delta) :=
 match P.underlying t,m with
 | some (.map kt _),.map d i =>
   if aM H d then none else
   if ki P kt key then
    match aB H d i with
    | (0,.fmap q h g c)=>match vt q key with
      | some n=>some (.tup [],.set d i (0,.fmap q (fG h n false) (jd g n 0) (yp (h n) c)))
      | none=>none
    | (0,.map es)=>match gb key es 0 with
      | some (some j)=>some (.tup [],.set d i (0,.map (od es j)))
      | some none=>some (.tup [],.set d i (0,.map es))
      | none=>none
    | _=>none
   else none
 | _,_=>none

def dX (fr:aD):List (Nat×Operand)→List (Nat×AV)
 | []=>[]
 | (i,x)::r=>(i,b9 fr x)::dX fr r
def lM (fr:aD):List Operand→List AV
 | []=>[]
 | x::r=>b9 fr x::lM fr r

def nJ {α:Type} (call:aN) (a b:α):α :=
 match call .mode [] [] with
 | some _=>a
 | none=>b
def ig (P:Program) (call:aN) (fr:aD) (H:aa) (nx:Nat) (c:Call):Option (AV×Delta) :=
 match c.callee with
 | .value f=>match b9 fr f with
   | .fn (.func g) a b=>(call (.fn g) (a++(lM fr c.args.toList++b)) H).map fun (v,H)=>(v,.heap H)
   | .yld d i=>(call (.round d i) (lM fr c.args.toList) H).map fun (v,H)=>(v,.heap H)
   | _=>none
 | .builtin .len=>match c.args.toList,c.argTypes.toList with
   | x::_,t::_=>(vu P H t (b9 fr x)).map fun n=>(.int .i64 n,.bD)
   | _,_=>none
 | .builtin .cap=>match c.args.toList,c.argTypes.toList with
   | x::_,t::_=>(MU P t (b9 fr x)).map fun n=>(.int .i64 n,.bD)
   | _,_=>none
 | .builtin .append=>match c.args.toList,c.argTypes.toList with
   | s::x::_,t::u::_=>oW P (nJ call true false) H nx t u (b9 fr s) (b9 fr x)
   | _,_=>none
 | .builtin .copy=>match c.args.toList,c.argTypes.toList with
   | s::x::_,t::_=>copyV P H t (b9 fr s) (b9 fr x)
   | _,_=>none
 | .builtin .clear=>match c.args.toList,c.argTypes.toList with
   | s::_,t::_=>sK P H t (b9 fr s)
   | _,_=>none
 | .builtin .delete=>match c.args.toList,c.argTypes.toList with
   | m::k::_,t::_=>o6 P H t (b9 fr m) (b9 fr k)
   | _,_=>none
 | .builtin .min=>(oB false (lM fr c.args.toList)).map fun v=>(v,.bD)
 | .builtin .max=>(oB true (lM fr c.args.toList)).map fun v=>(v,.bD)
 | _=>none

def kp (o:Option AV):Option (AV×Delta):=o.map fun v=>(v,.bD)

def evalOp (P:Program) (call:aN) (fr:aD) (H:aa) (nx:Nat) (o:Oper):Option (AV×Delta) :=
 match o.op with
 | .move x | .assign x=>some (b9 fr x,.bD)
 | .pick c a b=>match b9 fr c with
   | .bool t=>some (if t then b9 fr a else b9 fr b,.bD)
   | _=>none
 | .alloc t=>((da P t).bind AV.row).map fun z=>(.ptr 0 nx 0 0,.push (.row (nJ call (kW z) z)))
 | .box _ x=>(b9 fr x).row.map fun r=>(.ptr 0 nx 0 0,.push (.row (nJ call (kW r) r)))
 | .build t parts=>kp (wY P (nJ call true false) t (dX fr parts.toList))
 | .buildSlice t len parts=>jR P nx t len (dX fr parts.toList)
 | .load t a=>kp (pC P H t (b9 fr a))
 | .store t a x=>(gP P H t (b9 fr a) (b9 fr x)).map fun δ=>(.tup [],δ)
 | .nilCheck x=>match b9 fr x with
   | .ptr d i v off=>some (.ptr d i v off,.bD)
   | .ptrT s r off=>some (.ptrT s r off,.bD)
   | _=>none
 | .binOp op t x y _=>kp (kC P op t (b9 fr x) (b9 fr y))
 | .unOp op _ x=>kp (RJ op (b9 fr x))
 | .convert src dst x=>match P.underlying src,P.underlying dst,b9 fr x with
   | some _,some (.int k),.int _ n=>some (.int k (k.wrap n),.bD)
   | _,_,_=>none
 | .makeFunc fn first cap=>match fn with
   | .func g=>some (.fn (.func g) (lM fr first.toList) (lM fr cap.toList),.bD)
   | _=>none
 | .makeSlice t l c=>jy P (nJ call true false) nx t (b9 fr l) (b9 fr c)
 | .slice t x lo hi mx=>kp (qP P t (b9 fr x) (lo.map (b9 fr)) (hi.map (b9 fr)) (mx.map (b9 fr)))
 | .fieldAddr t x f=>kp (jn P t (b9 fr x) f)
 | .field t x f=>kp (xg P t (b9 fr x) f)
 | .indexAddr t x i=>match b9 fr i with
   | .int _ n=>kp (jv P t (b9 fr x) n)
   | _=>none
 | .index t x i=>match b9 fr i with
   | .int _ n=>kp (qw P t (b9 fr x) n)
   | _=>none
 | .makeMap t none=>some (.map 0 nx,.push (nJ call (tU P t) (.map [])))
 | .lookup t m k ok=>kp (r9 P H t (b9 fr m) (b9 fr k) ok)
 | .mapUpdate t m k x | .insert t m k x=>(j9 P H t (b9 fr m) (b9 fr k) (b9 fr x)).map fun δ=>(.tup [],δ)
 | .extract t ix=>match b9 fr t with
   | .tup l=>match l[ix]? with
     | some v=>some (v,.bD)
     | none=>none
   | _=>none
 | .call c=>ig P call fr H nx c
 | _=>none

inductive Want where
 | run | skip | lost
def ma (ops:Array Oper) (fr:aD) (o:Oper):Want :=
 match o.guard with
 | none=>.run
 | some (j,want)=>match (ops[j]?).bind (·.dst) with
   | none=>.lost
   | some d=>match bO fr d with
     | .bool b=>if b == want then .run else .skip
     | .tup _=>.skip
     | _=>.lost

def iZ (nt:Nat) (fr:aD) (dst:Option Tmp) (v:AV):aD :=
 match dst with
 | some d=>if Nat.blt d nt then vk fr d v else fr
 | none=>fr

def fj (P:Program) (nt:Nat) (call:aN) (ops:Array Oper):List Oper→aD→aa→Option (aD×aa)
 | [],fr,H=>some (fr,H)
 | o :: r,fr,H=>match ma ops fr o with
   | .lost=>none
   | .skip=>fj P nt call ops r (iZ nt fr o.dst (.tup [])) H
   | .run=>match evalOp P call fr H (aY H) o with
     | none=>none
     | some (v,δ)=>fj P nt call ops r (iZ nt fr o.dst v) (δ.on H)

inductive Touch where
 | none
 | blk (d i:Nat)
 | all
structure Rec where
 ix:Nat
 reads:Touch
 writes:Option (Nat×Nat)
def cZ (fr:aD) (o:Oper):Touch :=
 let at' (v:AV):Touch:=match v with
  | .ptr d i _ _=>.blk d i
  | .slc d i _ _ _ _ _=>.blk d i
  | .map d i=>.blk d i
  | _=>.none
 match o.op with
 | .load _ a=>at' (b9 fr a)
 | .store _ a _=>at' (b9 fr a)
 | .lookup _ m _ _=>at' (b9 fr m)
 | .mapUpdate _ m _ _ | .insert _ m _ _=>at' (b9 fr m)
 | .call c=>match c.callee with
   | .builtin .len=>match c.args.toList with
     | x::_=>match b9 fr x with | .map d i=>.blk d i | _=>.none
     | _=>.all
   | .builtin .min | .builtin .max=>.none
   | _=>.all
 | _=>.none
def dq (H:aa) (bef:Nat):List Rec→aa
 | []=>H
 | r::l=>match r.writes with
   | some (d,i)=>if bef.testBit r.ix then dq H bef l else dq (dS H d i) bef l
   | none=>dq H bef l
def kO (bef:Nat) (d i:Nat):List Rec→Bool
 | []=>true
 | r::l=>(bef.testBit r.ix || (match r.reads with
   | .none=>true
   | .blk e j=>!(Nat.beq e d && Nat.beq j i)
   | .all=>false)) && kO bef d i l

def jX (o:Oper):Bool :=
 match o.op with
 | .alloc _ | .box _ _ | .buildSlice _ _ _ | .makeSlice _ _ _ | .makeMap _ _=>true
 | .call c=>match c.callee with
   | .builtin .append=>true
   | _=>false
 | _=>false
def dc:List Oper→Nat
 | []=>0
 | o::r=>if jX o then dc r+1 else dc r
def om:aa→Nat→aa
 | [],_=>[]
 | l::r,k=>{ l with bs:=l.bs++List.replicate k (0,.dead) } :: r
def mK:ak→Bool
 | .dead=>true
 | _=>false
def r7:Nat×ak→Bool
 | (0,.dead)=>true
 | _=>false
def fx (o:Oper):Bool :=
 match o.op with
 | .call c=>match c.callee with
   | .value _=>true
   | _=>false
 | _=>false
def rK (H:aa):Option (Nat×Nat×(Nat×ak))→aa
 | none=>H
 | some (d,i,b)=>dD H d i b
structure ve where
 v:AV
 rd:Touch
 wr:Option (Nat×Nat×(Nat×ak))
def ij (P:Program) (call:aN) (ops:Array Oper) (bef:Nat) (fr:aD) (H:aa) (nx:Nat) (recs:List Rec) (o:Oper):Option ve :=
 match ma ops fr o with
 | .lost=>none
 | .skip=>some ⟨.tup [],.none,none⟩
 | .run =>
   if fx o then match evalOp P call fr (bK (dq H bef recs)) nx o with
    | some (v,_)=>some ⟨v,.all,none⟩
    | none=>none
   else match evalOp P call fr (dq H bef recs) nx o with
    | some (v,.bD)=>some ⟨v,cZ fr o,none⟩
    | some (v,.push b)=>if jX o && !mK b && r7 (aB H 0 nx) && !aM H 0 then some ⟨v,cZ fr o,some (0,nx,(0,b))⟩ else none
    | some (v,.set d i b)=>if !mK b.2 && (Nat.beq b.1 (aB H d i).1 || Nat.beq b.1 (Nat.succ (aB H d i).1)) && !mK (aB (dq H bef recs) d i).2 && kO bef d i recs then some ⟨v,cZ fr o,some (d,i,b)⟩ else none
    | _=>none

def gU (P:Program) (nt:Nat) (call:aN) (ops:Array Oper) (befs:Array Nat):Nat→List Oper→aD→aa→Nat→List Rec→Option (aD×aa)
 | _,[],fr,H,_,_=>some (fr,H)
 | j,o::r,fr,H,nx,recs=>match ij P call ops (befs.getD j 0) fr H nx recs o with
   | some e=>gU P nt call ops befs (j+1) r (iZ nt fr o.dst e.v) (rK H e.wr) (if jX o then nx+1 else nx) (⟨j,e.rd,e.wr.map fun x=>(x.1,x.2.1)⟩::recs)
   | none=>none

def gp (ops:Array Oper) (befs:Array Nat):Bool :=
 ops.toList.zipIdx.all fun (o,j)=>Nat.blt (befs.getD j 0) (2 ^ j) &&
  ops.toList.zipIdx.all fun (q,i) =>
   Nat.beq i j || (match q.dst with
   | none=>true
   | some d=>(o.dst != some d) && (!(o.looksAt ops).contains d || (befs.getD j 0).testBit i || (befs.getD i 0).testBit j))

inductive Ex where
 | normal | exit (id:Nat) | goto (l:Nat) | ret

def Df:Option Nat→Bool
 | some 0=>true
 | _=>false
def EC:AV→Bool
 | .int _ _=>true
 | .bool _=>true
 | .nils=>true
 | .slcT none _ _ _ _=>true
 | .ptrT none _ _=>true
 | _=>false
def Pv:Row→Bool
 | .I _ _=>true
 | .F _ _=>true
 | .G l=>l.all EC
 | .M l=>fY l
def mc (n:Nat):AV→Bool
 | .ptr d i _ _=>Nat.beq d 0 && Nat.ble n i
 | .slc d i _ _ _ _ _=>Nat.beq d 0 && Nat.ble n i
 | .map d i=>Nat.beq d 0 && Nat.ble n i
 | .yld d i=>Nat.beq d 0 && Nat.ble n i
 | .ptrT s r _=>Df s && !Pv r
 | .slcT s _ _ _ _=>Df s
 | .agg (.G _)=>true
 | .agg (.M l)=>!fY l
 | .fn _ _ _=>true
 | .tup (_::_)=>true
 | _=>false
def anyM (f:AV→Bool):List dp→Bool
 | []=>false
 | .one v::r=>f v || anyM f r
 | .arr _ _ _::r=>anyM f r
def vG (n:Nat):AV→Bool
 | .agg (.G l)=>l.any (mc n)
 | .agg (.M l)=>anyM (mc n) l
 | .fn _ a b=>a.any (mc n) || b.any (mc n)
 | .ptrT (some 0) (.M l) _=>anyM (mc n) l
 | v=>mc n v
def Ua (n:Nat):Row→Bool
 | .I .. | .F ..=>false
 | .G l=>l.any (vG n)
 | .M l=>anyM (vG n) l
def Ki (n:Nat):ak→Bool
 | .dead=>false
 | .row r=>Ua n r
 | .map es=>es.any fun e=>vG n e.1 || vG n e.2
 | .fmap _ _ _ _=>false
 | .loop _=>true
def cutAt (fr:aD) (l:bB) (r:aa):Nat→Nat→aa
 | 0,_=>l::r
 | k+1,m=>if fr.any (fun x=>vG m x.2) || (l.bs.take m).any (fun x=>Ki m x.2) then cutAt fr l r k (m+1) else { l with bs:=l.bs.take m } :: r
def mA (n:Nat) (fr:aD) (H:aa):aa :=
 match H with
 | []=>[]
 | l::r=>if Nat.ble l.bs.length n then H else cutAt fr l r 4 n

def Kj:AV→Bool
 | .ptrT (some 0) (.M l) _=>anyM (mc 0) l
 | v=>mc 0 v
def vJ (h:Nat):AV→Bool
 | .ptr d i _ _=>Nat.beq d 0 && Nat.beq i h
 | .slc d i _ _ _ _ _=>Nat.beq d 0 && Nat.beq i h
 | .map d i=>Nat.beq d 0 && Nat.beq i h
 | .yld d i=>Nat.beq d 0 && Nat.beq i h
 | v=>Kj v
def qe (f:AV→Bool) (v:AV):Bool :=
 match v with
 | .agg (.G l)=>l.any f
 | .agg (.M l)=>anyM f l
 | .fn _ a b=>a.any f || b.any f
 | v=>f v
def O0 (f:AV→Bool):Row→Bool
 | .I .. | .F ..=>false
 | .G l=>l.any (qe f)
 | .M l=>anyM (qe f) l
def Bh (f:AV→Bool):ak→Bool
 | .dead=>false
 | .row r=>O0 f r
 | .map _=>true
 | .fmap _ _ _ _=>false
 | .loop _=>true
def vB (a b:Nat):AV→AV
 | .ptr d i v off=>if Nat.beq d 0 && Nat.beq i a then .ptr 0 b v off else .ptr d i v off
 | .slc d i v off sz len cap=>if Nat.beq d 0 && Nat.beq i a then .slc 0 b v off sz len cap else .slc d i v off sz len cap
 | .map d i=>if Nat.beq d 0 && Nat.beq i a then .map 0 b else .map d i
 | .yld d i=>if Nat.beq d 0 && Nat.beq i a then .yld 0 b else .yld d i
 | v=>v
def nH (g:AV→AV) (v:AV):AV :=
 match v with
 | .agg (.G l)=>.agg (.G (l.map g))
 | .agg (.M l)=>.agg (.M (mapM' g l))
 | .fn f a b=>.fn f (a.map g) (b.map g)
 | v=>g v
def Ha (g:AV→AV):Row→Row
 | .I k l=>.I k l
 | .F f n=>.F f n
 | .G l=>.G (l.map (nH g))
 | .M l=>.M (mapM' (nH g) l)
def qF (g:AV→AV):ak→ak
 | .row r=>.row (Ha g r)
 | b=>b
def qG (g:AV→AV):aD→aD
 | []=>[]
 | (x,v)::r=>(x,nH g v)::qG g r
def jV (g:AV→AV):List (Nat×ak)→List (Nat×ak)
 | []=>[]
 | (v,b)::r=>(v,qF g b)::jV g r
def hole (fr:aD) (bs:List (Nat×ak)):Nat→Nat→Option Nat
 | 0,_=>none
 | k+1,m=>if Nat.blt (m+1) bs.length then
    if fr.any (fun x=>qe (vJ m) x.2) || ((bs.take m).any (fun x=>Bh (vJ m) x.2) || (bs.drop (m+1)).any (fun x=>Bh (vJ m) x.2)) then hole fr bs k (m+1) else some m
   else none
def yg (a b:Nat) (l:bB):bB:={ l with bs:=bT (jV (vB a b) (l.bs.take a)) b ((av l.bs a).1,qF (vB a b) (av l.bs a).2) }
def kr (n:Nat):Nat→aD→aa→aD×aa
 | 0,fr,H=>(fr,H)
 | k + 1,fr,H=>match H with
   | []=>(fr,[])
   | l::r=>match hole fr l.bs 4 n with
     | none=>(fr,l::r)
     | some h=>kr n k (qG (vB (l.bs.length-1) h) fr) (mA n (qG (vB (l.bs.length-1) h) fr) (yg (l.bs.length-1) h l::r))
def tidy (n:Nat) (fr:aD) (H:aa):aD×aa:=kr n 4 fr (mA n fr H)

def nG (i ver:Nat) (r:Row):AV→AV
 | .ptr d j v off=>if Nat.beq d 0 && (Nat.beq j i && Nat.beq v ver) then .ptrT none r off else .ptr d j v off
 | .slc d j v off sz len cap=>if Nat.beq d 0 && (Nat.beq j i && (Nat.beq v ver && Nat.ble (off+len*sz) r.len)) then .slcT none (r.sub off (len*sz)) sz len (cap == some len) else .slc d j v off sz len cap
 | v=>v
def pT (i:Nat):AV→Bool
 | .slc d j _ _ _ _ _=>Nat.beq d 0 && Nat.beq j i
 | _=>false
def xv:Row→Bool
 | .I _ _=>true
 | .M [.arr _ _ _]=>true
 | _=>false
def Oa (f:AV→Bool):ak→Bool
 | .row r=>O0 f r
 | _=>false
def mI (i:Nat) (fr:aD) (l:bB):aD×bB :=
 match av l.bs i with
 | (ver,.row r)=>if xv r && (fr.any (fun x=>qe (pT i) x.2) || l.bs.any (fun x=>Oa (pT i) x.2)) then (qG (nG i ver r) fr,{ l with bs:=bT (jV (nG i ver r) l.bs) i (ver,.dead) }) else (fr,l)
 | _=>(fr,l)
def jt:Nat→aD→bB→aD×bB
 | 0,fr,l=>(fr,l)
 | n+1,fr,l=>mI n (jt n fr l).1 (jt n fr l).2
def EP (fr:aD) (H:aa):aD×aa :=
 match H with
 | []=>(fr,[])
 | l::r=>if l.lock then (fr,l::r) else ((jt l.bs.length fr l).1,(jt l.bs.length fr l).2::r)
def eD:Nat→aD→bB→aD×bB
 | 0,fr,l=>(fr,l)
 | n+1,fr,l=>if (eD n fr l).1.any (fun x=>qe (pT n) x.2) then eD n fr l else mI n (eD n fr l).1 (eD n fr l).2
def vq (fr:aD) (H:aa):aD×aa :=
 match H with
 | []=>(fr,[])
 | l::r=>if l.lock then (fr,l::r) else ((eD l.bs.length fr l).1,(eD l.bs.length fr l).2::r)
def JY (sz:Nat):AV→AV
 | .nils=>.slcT none (.M [.arr .i64 (fun _=>0) 0]) sz 0 false
 | v=>v
def E0 (sz:Nat):Nat→List AV→List AV
 | _,[]=>[]
 | 0,v::l=>JY sz v::l
 | c+1,v::l=>v::E0 sz c l
def vC (c sz:Nat):ak→ak
 | .row (.G l)=>.row (.G (E0 sz c l))
 | B=>B
def mR (c sz:Nat):List (Nat×ak)→List (Nat×ak)
 | []=>[]
 | (v,B)::r=>(v,vC c sz B)::mR c sz r
def vD (k:Nat) (H:aa):aa :=
 match H with
 | []=>[]
 | l::r=>if l.lock then l::r else { l with bs:=mR (k % 8) (k / 8) l.bs } :: r
def Ds (s:Nat):aD→Option Nat
 | []=>none
 | (x,v)::r=>if Nat.beq x s then (match v with
   | .slc 0 i _ _ _ _ _=>some i
   | _=>none) else Ds s r
def xt (s:Nat) (fr:aD) (H:aa):aD×aa :=
 match H with
 | []=>(fr,[])
 | l::r=>if l.lock then (fr,l::r) else match Ds s fr with
   | some i=>((mI i fr l).1,(mI i fr l).2::r)
   | none=>(fr,l::r)
noncomputable def ju (m:Nat) (fr:aD) (H:aa):aD×aa:=if iY m 4000 then ((EP (bX fr m) H).1,if Nat.beq (Nat.shiftRight m 4003) 0 then (EP (bX fr m) H).2 else vD (Nat.shiftRight m 4003) (EP (bX fr m) H).2) else if iY m 4001 then xt (Nat.shiftRight m 4003) (bX fr m) H else if iY m 4002 then (match bO (bX fr m) (Nat.shiftRight m 4003) with | .bool false=>vq (bX fr m) H | _=>(bX fr m,H)) else (bX fr m,H)
def Fa:aD→aD
 | []=>[]
 | (x,v)::r=>(x,jY v)::Fa r
noncomputable def lB (m:Nat) (fr:aD) (H:aa):aD×aa:=if iY m 3998 then (match bO (ju m fr H).1 (Nat.shiftRight m 4003) with | .bool false=>((ju m fr H).1,vD (Nat.shiftRight m 3985 % 4096) (ju m fr H).2) | _=>ju m fr H) else ju m fr H
def EZ (s sz:Nat):aD→aD
 | []=>[]
 | (x,v)::r=>(x,cond (Nat.beq x s) (JY sz v) v)::EZ s sz r
noncomputable def lC (m:Nat) (fr:aD) (H:aa):aD×aa:=if iY m 3997 then (EZ (Nat.shiftRight m 3985 % 4096 / 8) (Nat.shiftRight m 3985 % 8) (lB m fr H).1,(lB m fr H).2) else lB m fr H
noncomputable def px (m:Nat) (fr:aD) (H:aa):aD×aa:=if iY m 3999 then (Fa (lC m fr H).1,(lC m fr H).2) else lC m fr H

def iter (body:aD→aa→Option (Ex×aD×aa)) (n:Nat):Nat→aD→aa→Option (Ex×aD×aa)
 | 0,_,_=>none
 | fu+1,fr,H=>match body fr H with
   | some (.normal,fr,H)=>iter body n fu (tidy n fr H).1 (tidy n fr H).2
   | r=>r

structure Cx where
 P:Program
 call:aN
 fu:Nat
 fn:FuncId
 nt:Nat
 kt:Nat→Nat
 ro:Option (Nat×Nat)
def Cx.here (cx:Cx) (H:aa):Bool :=
 match cx.ro with
 | none=>true
 | some (d,i)=>match aB H d i with
   | (0,.loop _)=>true
   | _=>false

def jD (fr:aD) (H:aa) (cx:Cx) (params:Array Tmp) (assign body:Code):aa :=
 jT H (.loop { state:=.ready,pending:=none,fn:=cx.fn,nt:=cx.nt,fr,params:=params.toList,assign,body })

def yv:Option Code→Option Ex
 | none=>some .normal
 | some (.exit id)=>some (.exit id)
 | some (.goto l)=>some (.goto l)
 | some .ret=>some .ret
 | _=>none

noncomputable def exec (cx:Cx):Code→aD→aa→Option (Ex×aD×aa)
 | .skip,fr,H=>some (.normal,fr,H)
 | .label _,fr,H=>some (.normal,fr,H)
 | .region id ops draw,fr,H =>
   match (if draw then (if gp ops (Region.before ops) then gU cx.P cx.nt cx.call ops (Region.before ops) 0 ops.toList fr (om H (dc ops.toList)) (aY H) [] else none) else fj cx.P cx.nt cx.call ops ops.toList fr H) with
   | some (fr,H)=>some (.normal,px (cx.kt id) fr H)
   | none=>none
 | .seq a b,fr,H=>match exec cx a fr H with
   | some (.normal,fr,H)=>exec cx b fr H
   | r=>r
 | .cond c a b,fr,H=>match b9 fr c with
   | .bool true=>exec cx a fr H
   | .bool false=>exec cx b fr H
   | _=>none
 | .block id b,fr,H=>match exec cx b fr H with
   | some (.exit id',fr,H)=>if Nat.beq id' id then some (.normal,fr,H) else some (.exit id',fr,H)
   | r=>r
 | .loop b,fr,H=>iter (exec cx b) (aY H) cx.fu fr H
 | .rangeFunc f params assign body,fr,H =>
   match b9 fr f with
   | .fn (.func g) a b =>
     if !cx.here H || aM H 0 then none else
     match cx.call (.fn g) (a++(.yld 0 (aY H)::b)) (jD fr H cx params assign body) with
     | some (_,H1)=>match aB H1 0 (aY H) with
       | (0,.loop l) =>
         if l.state == .busy then none else
         match yv l.pending with
         | some e=>some (e,fr,dS H1 0 (aY H))
         | none=>none
       | _=>none
     | none=>none
   | _=>none
 | .exit id,fr,H=>some (.exit id,fr,H)
 | .scope b,fr,H=>match exec cx b fr H with
   | some (.goto _,_,_)=>none
   | r=>r
 | .goto l,fr,H=>some (.goto l,fr,H)
 | .ret,fr,H=>some (.ret,fr,H)
 | .refuse _,_,_=>none

def dI   (bs:List (Nat×ak)):Nat→AV→AV
 | 0,_=>.undef
 | n + 1,v=>match v with
   | .ptr d i ver off=>match d with
     | d+1=>.ptr d i ver off
     | 0 => match av bs i with
       | (w,.row r)=>if Nat.beq w ver then (match r with
         | .I k l=>.ptrT none (.I k l) off
         | .F f m=>.ptrT none (.F f m) off
         | .M l=>if fY l then .ptrT none (.M l) off else .ptrT (some 0) (.M (mapM' (dI bs n) l)) off
         | .G l=>.ptrT (some 0) (.G (l.map (dI bs n))) off) else .undef
       | _=>.undef
   | .slc d i ver off sz len cap=>match d with
     | d+1=>.slc d i ver off sz len cap
     | 0 => match av bs i with
       | (w,.row r)=>if Nat.beq w ver∧off+len*sz≤r.len then (match r.sub off (len*sz) with
         | .I k l=>.slcT none (.I k l) sz len (cap == some len)
         | .F f m=>.slcT none (.F f m) sz len (cap == some len)
         | .M l=>if fY l then .slcT none (.M l) sz len (cap == some len) else .slcT (some 0) (.M (mapM' (dI bs n) l)) sz len (cap == some len)
         | .G l=>.slcT (some 0) (.G (l.map (dI bs n))) sz len (cap == some len)) else .undef
       | _=>.undef
   | .ptrT s r off=>match s with
     | none=>.ptrT none r off
     | some (s+1)=>.ptrT (some s) r off
     | some 0=>match r with
       | .G l=>.ptrT (some 0) (.G (l.map (dI bs n))) off
       | .M l=>if fY l then .ptrT none (.M l) off else .ptrT (some 0) (.M (mapM' (dI bs n) l)) off
       | r=>.ptrT none r off
   | .slcT s r sz len full=>match s with
     | none=>.slcT none r sz len full
     | some (s+1)=>.slcT (some s) r sz len full
     | some 0=>match r with
       | .G l=>.slcT (some 0) (.G (l.map (dI bs n))) sz len full
       | .M l=>if fY l then .slcT none (.M l) sz len full else .slcT (some 0) (.M (mapM' (dI bs n) l)) sz len full
       | r=>.slcT none r sz len full
   | .map d i=>match d with
     | d+1=>.map d i
     | 0=>.undef
   | .yld d i=>match d with
     | d+1=>.yld d i
     | 0=>.undef
   | .fn f a b=>.fn f (a.map (dI bs n)) (b.map (dI bs n))
   | .agg r=>match r with
     | .G l=>.agg (.G (l.map (dI bs n)))
     | .M l=>.agg (.M (mapM' (dI bs n) l))
     | r=>.agg r
   | .tup l=>.tup (l.map (dI bs n))
   | v=>v

def ev:Nat→List AV→aD
 | _,[]=>[]
 | x,v::l=>(x,m6 1 v)::ev (x+1) l

def gM (P:Program) (fr:aD) (H:aa):List ResultVar→Option (List AV)
 | []=>some []
 | .tmp t::r=>(gM P fr H r).map (bO fr t::·)
 | .cell a t::r=>match pC P H t (bO fr a) with
   | some v=>(gM P fr H r).map (v::·)
   | none=>none
def one:List AV→AV
 | [v]=>v
 | l=>.tup l

def jZ (nt:Nat) (fr:aD):List Tmp→List AV→Option aD
 | [],[]=>some fr
 | t::ts,v::vs=>if Nat.blt t nt then jZ nt (vk fr t v) ts vs else none
 | _,_=>none

def cJ:Ex→Option Code
 | .normal=>none
 | .exit id=>some (.exit id)
 | .goto l=>some (.goto l)
 | .ret=>some .ret

def kX (k:Nat):aD→aD
 | []=>[]
 | (x,v)::r=>(x,m6 k v)::kX k r

noncomputable def dk (P:Program) (ora:aN→FuncId→List AV→aa→Option (AV×aa)) (KT:FuncId→Nat→Nat) (fu:Nat):Nat→aN
 | _,.mode,_,_=>(ora (fun _ _ _=>none) 1000000 [] []).map fun _=>(.undef,[])
 | 0,_,_,_=>none
 | n + 1,.fn f,args,H=>match ora (dk P ora KT fu n) f args H with
   | some r=>some r
   | none => match P.funcs[f]? with
     | none=>none
     | some fn=>match fn.body with
       | none=>none
       | some c=>if Nat.ble args.length fn.ntmps then
         match exec ⟨P,dk P ora KT fu n,fu,f,fn.ntmps,KT f,none⟩ c (ev 0 args) (⟨false,[]⟩::H) with
         | some (e,fr,l::H') =>
           (match e with
           | .normal | .ret=>match gM P fr (l::H') fn.results.toList with
             | some vs=>some (dI l.bs 5 (one vs),H')
             | none=>none
           | _=>none)
         | _=>none
         else none
 | n + 1,.round  d i,args,H=>match aB H d i with
   | (0, .loop l) =>
     if aM H d then none else
     match l.state with
     | .ready => match jZ l.nt (kX (d+1) l.fr) l.params (args.map (m6 1)) with
       | some fr => match exec ⟨P,dk P ora KT fu n,fu,l.fn,l.nt,KT l.fn,some (d+1,i)⟩ l.assign fr (⟨false,[]⟩::H) with
         | some (.normal,fr,H1)=>match aB H1 (d+1) i with
           | (0, .loop l1)=>match l1.state with
             | .ready =>
               match exec ⟨P,dk P ora KT fu n,fu,l.fn,l.nt,KT l.fn,some (d+1,i)⟩ l.body fr (dD H1 (d+1) i (0,.loop { l1 with state:=.busy })) with
               | some (e,_,_::H2)=>match aB H2 d i with
                 | (0,.loop l2)=>some (.bool (cJ e).isNone,dD H2 d i (0,.loop { l2 with state:=if (cJ e).isNone then .ready else .done,pending:=cJ e }))
                 | _=>none
               | _=>none
             | _=>none
           | _=>none
         | _=>none
       | none=>none
     | _=>none
   | _=>none

end Go.Eng
