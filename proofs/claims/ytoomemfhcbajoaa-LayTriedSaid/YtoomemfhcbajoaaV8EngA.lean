/- The engine, part A: abstract values, the abstract heap, the abstract interpreter. No statement is proved here. -/
import Derived.RangeFuncLeaves
import Derived.OrdersIn
import Derived.RangeFuncRecord
namespace Go.Eng
theorem nP:(∀ {α:Type} (a b:α),(some a=some b)=(a=b))∧(∀ {α β:Type} (a c:α) (b d:β),((a,b)=(c,d))=(a=c∧b=d)):=⟨fun _ _=>Option.some.injEq _ _,fun _ _ _ _=>Prod.mk.injEq _ _ _ _⟩

mutual
inductive AV where
 | undef
 | bool (b:Bool)
 | int (k:IntKind) (n:Int)
 | str (s:ByteArray)
 | nilp | nils | nilm | nilf
 | ptr (d i v off:Nat)
 | ptrT (s:Option Nat) (r:Row) (off:Nat)
 | slc (d i v off sz len:Nat) (cap:Option Nat)
 | slcT (s:Option Nat) (r:Row) (sz len:Nat) (full:Bool)
 | map (d i:Nat)
 | yld (d i:Nat)
 | fn (f:Fn) (first cap:List AV)
 | agg (r:Row)
 | tup (l:List AV)
inductive Row where
 | I (k:IntKind) (l:List Int)
 | G (l:List AV)
 | F (f:Nat→AV) (n:Nat)
 | M (l:List ah)
inductive ah where
 | one (v:AV)
 | arr (k:IntKind) (z:Nat→Int) (n:Nat)
end

instance:Inhabited AV:=⟨.undef⟩
instance:Inhabited Row:=⟨.G []⟩

def aE:ah→Nat
 | .one _=>1
 | .arr _ _ n=>n
def au:List ah→Nat
 | []=>0
 | s::r=>aE s+au r
def getM:List ah→Nat→AV
 | [],_=>.undef
 | .one v::_,0=>v
 | .one _::r,j+1=>getM r j
 | .arr k z n::r,j=>if j<n then .int k (z j) else getM r (j-n)
def mapM' (f:AV→AV):List ah→List ah
 | []=>[]
 | .one v::r=>.one (f v)::mapM' f r
 | .arr k z n::r=>.arr k z n::mapM' f r
def fV:List ah→Bool
 | []=>true
 | .one _::_=>false
 | .arr _ _ _::r=>fV r
def Row.len:Row→Nat
 | .I _ l=>l.length
 | .G l=>l.length
 | .F _ n=>n
 | .M l=>au l
def Row.get:Row→Nat→AV
 | .I k l,j=>.int k (l.getD j 0)
 | .G l,j=>l.getD j .undef
 | .F f _,j=>f j
 | .M l,j=>getM l j

def da (g:Nat→AV):Nat→Nat→List AV
 | _,0=>[]
 | o,n+1=>g o::da g (o+1) n
def Row.toList:Row→List AV
 | .I k l=>l.map (.int k)
 | .G l=>l
 | .F f n=>da f 0 n
 | .M l=>da (getM l) 0 (au l)
def Row.ints:Row→Option (IntKind×(Nat→Int))
 | .I k l=>some (k,fun j=>l.getD j 0)
 | .M [.arr k z _]=>some (k,z)
 | _=>none
def xT:Row→Bool
 | .M _=>true
 | _=>false
def pX:List AV→List ah→List ah
 | [],r=>r
 | v::l,r=>.one v::pX l r
def jD:List ah→Nat→AV→List ah
 | [],_,_=>[]
 | .one _::r,0,v=>.one v::r
 | .one u::r,j+1,v=>.one u::jD r j v
 | .arr k z n::r,j,v=>if j<n then (match v with
    | .int k' x=>if k'=k then .arr k (fun i=>if i=j then x else z i) n::r else pX (da (fun i=>if i=j then v else .int k (z i)) 0 n) r
    | _=>pX (da (fun i=>if i=j then v else .int k (z i)) 0 n) r)
   else .arr k z n::jD r (j-n) v
def w7:List Int→Bool
 | []=>true
 | x::l=>x == 0 && w7 l
def Mb (l:List Int):Nat→Int:=if w7 l then fun _=>0 else fun j=>l.getD j 0
def cP (k:IntKind):List AV→List Int×List AV
 | .int k' n::r=>if k'=k then (match cP k r with | (a,b)=>(n::a,b)) else ([],.int k' n::r)
 | l=>([],l)
def h9:Nat→List AV→List ah
 | 0,l=>pX l []
 | _,[]=>[]
 | f+1,.int k n::r=>match cP k r with
   | (a,b)=>if Nat.ble 7 a.length then .arr k (Mb (n::a)) (a.length+1)::h9 f b else .one (.int k n)::h9 f r
 | f+1,v::r=>.one v::h9 f r

def sd (k:IntKind):List AV→Option (List Int)
 | []=>some []
 | .int k' n::r=>if k'=k then (sd k r).map (n::·) else none
 | _=>none
def Row.ofList:List AV→Row
 | .int k n::r=>match sd k r with
   | some l=>.I k (n::l)
   | none=>.G (.int k n::r)
 | l=>.G l

def kU:List ah→Nat→Nat→Option (IntKind×(Nat→Int))
 | [],_,_=>none
 | .one _::r,o+1,n=>kU r o n
 | .one _::_,0,_=>none
 | .arr k z m::r,o,n=>if o+n≤m then some (k,fun j=>z (o+j)) else if m≤o then kU r (o-m) n else none
def Row.sub (r:Row) (o n:Nat):Row :=
 match r with
 | .I k l=>.I k ((l.drop o).take n)
 | .G l=>.G ((l.drop o).take n)
 | .F f _=>.F (fun j=>f (o+j)) n
 | .M [.arr k z _]=>.M [.arr k (fun j=>z (o+j)) n]
 | .M l=>if Nat.beq o 0 && Nat.beq (au l) n then .M l else match kU l o n with
   | some (k,z)=>.M [.arr k z n]
   | none=>.G (da (getM l) o n)

def gY:AV→Bool
 | .undef | .bool _ | .int _ _ | .str _ | .nilp | .nils | .nilm | .nilf=>true
 | .ptrT s _ _=>s.isNone
 | .slcT s _ _ _ _=>s.isNone
 | .agg (.I ..) | .agg (.F ..)=>true
 | .agg (.M l)=>fV l
 | _=>false

def Row.cut (r:Row) (o n:Nat):Row :=
 match r with
 | .G l=>Row.ofList ((l.drop o).take n)
 | .M l=>if Nat.ble n 8 then Row.ofList (da (getM l) o n) else if Nat.beq o 0 && Nat.beq (au l) n then .M l else (Row.M l).sub o n
 | r=>r.sub o n

def Row.set (r:Row) (j:Nat) (v:AV):Row :=
 match r,v with
 | .I k l,.int k' n=>if k'=k then .I k (l.set j n) else .G ((l.map (.int k)).set j v)
 | .I k l,v=>.G ((l.map (.int k)).set j v)
 | .G l,v=>.G (l.set j v)
 | .F f n,v=>.F (fun i=>if i=j then (if gY v then v else .undef) else f i) n
 | .M l,v=>.M (jD l j v)
def Row.b9 (r:Row) (j:Nat):List AV→Row
 | []=>r
 | v::l=>(r.set j v).b9 (j+1) l
def Row.tu (r s:Row):Option Row :=
 match r.ints,s.ints with
 | some (k,z),some (k',z')=>if k'=k then some (.M [.arr k (fun i=>if i<r.len then z i else z' (i-r.len)) (r.len+s.len)]) else none
 | _,_=>none
def mW:AV→AV
 | .slcT none (.I k l) sz m _=>.slcT none (.M [.arr k (fun j=>l.getD j 0) l.length]) sz m false
 | .slcT none (.M [.arr k z n]) sz m _=>.slcT none (.M [.arr k z n]) sz m false
 | v=>v
def qz (n i:Nat):Nat:=if Nat.beq n 1 then 0 else i
def Row.app (r s:Row):Row :=
 match r,s with
 | .M l,s=>(match (Row.M l).tu s with | some q=>q | none=>.G ((Row.M l).toList++s.toList))
 | .I k l,.M m=>(match (Row.I k l).tu (.M m) with | some q=>q | none=>.G ((Row.I k l).toList++(Row.M m).toList))
 | .I k l,.I k' l'=>if k'=k then .I k (l++l') else .G (l.map (.int k)++l'.map (.int k'))
 | .F f n,s=>.F (fun i=>if Nat.blt i n then f i else if gY (s.get (qz s.len (i-n))) then mW (s.get (qz s.len (i-n))) else .undef) (n+s.len)
 | r,s=>.G (r.toList++s.toList)

def nM (k:Nat):AV→AV
 | .ptr d i v off=>.ptr (d+k) i v off
 | .ptrT s r off=>.ptrT (s.map (· + k)) r off
 | .slc d i v off sz len cap=>.slc (d+k) i v off sz len cap
 | .slcT s r sz len full=>.slcT (s.map (· + k)) r sz len full
 | .map d i=>.map (d+k) i
 | .yld d i=>.yld (d+k) i
 | .agg (.I a l)=>.agg (.I a l)
 | .fn _ _ _ | .agg _ | .tup (_::_)=>.undef
 | v=>v
def LZ (k:Nat) (v:AV):AV :=
 match v with
 | .fn f a b=>.fn f (a.map (nM k)) (b.map (nM k))
 | .agg (.G l)=>.agg (.G (l.map (nM k)))
 | .agg (.M l)=>.agg (.M (mapM' (nM k) l))
 | .agg r=>.agg r
 | v=>nM k v
def fq (k:Nat) (v:AV):AV :=
 match k with
 | 0=>v
 | k+1=>LZ (k+1) v
def AE (k:Nat):Row→Row
 | .I a l=>.I a l
 | .G l=>.G (l.map (nM k))
 | .F f n=>.F f n
 | .M l=>.M (mapM' (nM k) l)
def AD (k:Nat) (r:Row):Row :=
 match k with
 | 0=>r
 | k+1=>AE (k+1) r
def kb:Nat→Nat→AV→AV
 | 0,_,_=>.undef
 | n + 1,k,v=>match v with
   | .ptr d i v off=>if Nat.blt d k then .undef else .ptr (d-k) i v off
   | .ptrT none r off=>.ptrT none r off
   | .ptrT (some s) r off=>if Nat.blt s k then (match r with
     | .G l=>.ptrT (some 0) (.G (l.map (kb n (k-s)))) off
     | .M l=>if fV l then .ptrT none (.M l) off else .ptrT (some 0) (.M (mapM' (kb n (k-s)) l)) off
     | r=>.ptrT none r off) else .ptrT (some (s-k)) r off
   | .slc d i v off sz len cap=>if Nat.blt d k then .undef else .slc (d-k) i v off sz len cap
   | .slcT none r sz len full=>.slcT none r sz len full
   | .slcT (some s) r sz len full=>if Nat.blt s k then (match r with
     | .G l=>.slcT (some 0) (.G (l.map (kb n (k-s)))) sz len full
     | .M l=>if fV l then .slcT none (.M l) sz len full else .slcT (some 0) (.M (mapM' (kb n (k-s)) l)) sz len full
     | r=>.slcT none r sz len full) else .slcT (some (s-k)) r sz len full
   | .map d i=>if Nat.blt d k then .undef else .map (d-k) i
   | .yld d i=>if Nat.blt d k then .undef else .yld (d-k) i
   | .agg (.I a l)=>.agg (.I a l)
   | .fn _ _ _ | .agg _ | .tup (_::_)=>.undef
   | v=>v
def Kv (k:Nat) (v:AV):AV :=
 match v with
 | .fn f a b=>.fn f (a.map (kb 4 k)) (b.map (kb 4 k))
 | .agg (.G l)=>.agg (.G (l.map (kb 4 k)))
 | .agg (.M l)=>.agg (.M (mapM' (kb 4 k) l))
 | .agg r=>.agg r
 | v=>kb 4 k v
def My (k:Nat) (v:AV):AV :=
 match k with
 | 0=>v
 | k+1=>Kv (k+1) v
def vE (k:Nat):Row→Row
 | .I a l=>.I a l
 | .G l=>.G (l.map (kb 4 k))
 | .F f n=>.F f n
 | .M l=>.M (mapM' (kb 4 k) l)

def lf (k:Nat) (r:Row):Row :=
 match k with
 | 0=>r
 | k+1=>vE (k+1) r

abbrev aq:=List (Nat×AV)
def bk:aq→Nat→AV
 | [],_=>.undef
 | (x,v)::r,y=>if Nat.beq x y then v else bk r y
def tx:aq→Nat→AV→aq
 | [],y,u=>[(y,u)]
 | (x,v)::r,y,u=>if Nat.ble y x then (if Nat.beq x y then (y,u)::r else (y,u)::(x,v)::r) else (x,v)::tx r y u
def nw (m x:Nat):Bool:=Nat.beq (Nat.land (Nat.shiftRight m x) 1) 1
noncomputable def bG (fr:aq) (m:Nat):aq:=List.rec (motive:=fun _=>aq) [] (fun p _ ih=>Prod.rec (motive:=fun _=>aq) (fun x _=>Bool.rec (motive:=fun _=>aq) (p::ih) ih (Nat.beq (Nat.land (Nat.shiftRight m x) 1) 1)) p) fr

structure gM where
 state:LoopState
 pending:Option Code
 fn:FuncId
 nt:Nat
 fr:aq
 params:List Tmp
 assign:Code
 body:Code

inductive KK where
 | num (k:IntKind)
 | str (n:Nat)
inductive ak where
 | dead
 | row (r:Row)
 | map (es:List (AV×AV))
 | fmap (q:KK) (h:List Int→Bool) (g:List Int→Int) (c:Nat)
 | loop (l:gM)

structure aV where
 lock:Bool
 bs:List (Nat×ak)
abbrev aa:=List aV

def an:List (Nat×ak)→Nat→Nat×ak
 | [],_=>(0,.dead)
 | b::_,0=>b
 | _::r,i+1=>an r i
def bN:List (Nat×ak)→Nat→Nat×ak→List (Nat×ak)
 | [],_,_=>[]
 | _::r,0,x=>x::r
 | b::r,i+1,x=>b::bN r i x
def ao:aa→Nat→Nat→Nat×ak
 | [],_,_=>(0,.dead)
 | l::_,0,i=>an l.bs i
 | _::r,d+1,i=>ao r d i
def ar:aa→Nat→Bool
 | [],_=>true
 | l::_,0=>l.lock
 | _::r,d+1=>ar r d
def dU:aa→Nat→Nat→Nat×ak→aa
 | [],_,_,_=>[]
 | l::r,0,i,x=>{ l with bs:=bN l.bs i x } :: r
 | l::r,d+1,i,x=>l::dU r d i x
def cJ (H:aa) (d i:Nat):aa:=dU H d i ((ao H d i).1,.dead)
def iL:aa→ak→aa
 | [],b=>[⟨false,[(0,b)]⟩]
 | l::r,b=>{ l with bs:=l.bs++[(0,b)] } :: r
def bC:aa→Nat→ak→aa
 | [],_,_=>[]
 | l::r,0,b=>{ l with bs:=l.bs++[(0,b)] } :: r
 | l::r,d+1,b=>l::bC r d b
def aj:aa→Nat→Nat
 | [],_=>0
 | l::_,0=>l.bs.length
 | _::r,d+1=>aj r d
def al:aa→Nat
 | []=>0
 | l::_=>l.bs.length
def av:aa→aa
 | []=>[]
 | l::r=>{ l with lock:=true } :: av r

def dx (H:aa) (d i v:Nat):Option Row :=
 match ao H d i with
 | (ver,.row r)=>if Nat.beq ver v then some r else none
 | _=>none

def rO:Value→AV
 | .bool b=>.bool b
 | .int k n=>.int k n
 | .string s=>.str s
 | .pointer none=>.nilp
 | .slice none 0 0=>.nils
 | .map none=>.nilm
 | .nilFunc=>.nilf
 | _=>.undef
def ku:Value→AV
 | .bool b=>.bool b
 | .int k n=>.int k n
 | .string s=>.str s
 | .pointer none=>.nilp
 | .slice none 0 0=>.nils
 | .map none=>.nilm
 | .nilFunc=>.nilf
 | .func (.func f) ca cb=>if ca.isEmpty && cb.isEmpty then .fn (.func f) [] [] else .undef
 | .agg cs=>if cs.toList.all Value.oneCell' then .agg (Row.ofList (cs.toList.map rO)) else .undef
 | .tuple cs=>if cs.isEmpty then .tup [] else .undef
 | _=>.undef

def bE (fr:aq):Operand→AV
 | .tmp t=>bk fr t
 | .const v=>ku v
 | .global _=>.undef
 | .func f=>.fn (.func f) [] []

def AV.row:AV→Option Row
 | .agg r=>some r
 | .int k n=>some (.I k [n])
 | .undef | .tup _=>none
 | v=>some (.G [v])

def fb (P:Program) (t:TypeId):Option Bool :=
 match P.underlying t with
 | some (.struct _) | some (.array _ _)=>some true
 | some _=>some false
 | none=>none
def ba (P:Program) (t:TypeId):Option Nat:=(P.info? t).map (·.size)
def cg (P:Program) (t:TypeId):Option AV:=((P.info? t).bind (·.zero)).map ku

inductive Delta where
 | aS
 | push (b:ak)
 | set (d i:Nat) (b:Nat×ak)
 | heap (H:aa)
def Delta.on (δ:Delta) (H:aa):aa :=
 match δ with
 | .aS=>H
 | .push b=>iL H b
 | .set d i b=>dU H d i b
 | .heap H=>H

inductive L2 where
 | fn (f:FuncId)
 | round (d i:Nat)
 | mode
abbrev aJ:=L2→List AV→aa→Option (AV×aa)

def hY (op:BinOp) (k:IntKind) (x y:Int):Option AV :=
 match op with
 | .add=>some (.int k (k.wrap (x+y)))
 | .sub=>some (.int k (k.wrap (x-y)))
 | .mul=>some (.int k (k.wrap (x*y)))
 | .quo=>if y=0 then none else some (.int k (k.wrap (x.tdiv y)))
 | .rem=>if y=0 then none else some (.int k (x.tmod y))
 | .and=>some (.int k (k.wrap (BitVec.ofInt k.bits x &&& BitVec.ofInt k.bits y).toNat))
 | .or=>some (.int k (k.wrap (BitVec.ofInt k.bits x ||| BitVec.ofInt k.bits y).toNat))
 | .xor=>some (.int k (k.wrap (BitVec.ofInt k.bits x ^^^ BitVec.ofInt k.bits y).toNat))
 | .andNot=>some (.int k (k.wrap (BitVec.ofInt k.bits x &&& ~~~(BitVec.ofInt k.bits y)).toNat))
 | .eql=>some (.bool (x == y))
 | .neq=>some (.bool (x != y))
 | .lss=>some (.bool (x<y))
 | .leq=>some (.bool (x≤y))
 | .gtr=>some (.bool (x > y))
 | .geq=>some (.bool (x≥y))
 | _=>none

def fY (P:Program) (g:TypeId→Option Nat) (off:Nat):List Field→Option Nat
 | []=>some off
 | f::fs=>if f.name != "_" && Nat.beq f.offset off then (match g f.type with
   | some s=>fY P g (off+s) fs
   | none=>none) else none
def bS (P:Program):Nat→TypeId→Option Nat
 | 0,_=>none
 | n + 1,t=>match P.underlying t with
   | some (.int _)=>if ba P t=some 1 then some 1 else none
   | some (.array len e)=>match bS P n e with
     | some s=>if ba P t=some (len*s) then some (len*s) else none
     | none=>none
   | some (.struct fs)=>if P.stoodInHeld t then none else match fY P (bS P n) 0 fs.toList with
     | some s=>if ba P t=some s then some s else none
     | none=>none
   | _=>none

def eY:List Int→List Int→Bool
 | [],[]=>true
 | x::a,y::b=>(x == y) && eY a b
 | _,_=>false

def allEq (z z':Nat→Int):Nat→Bool
 | 0=>true
 | n+1=>allEq z z' n && (z n == z' n)
def J2 (P:Program) (t:TypeId) (r s:Row):Option Bool :=
 match r.ints,s.ints with
 | some (k,z),some (k',z')=>if k=k'∧bS P 20 t=some r.len∧fb P t=some true∧r.len=s.len then some (allEq z z' r.len) else none
 | _,_=>none
def zA (P:Program) (t:TypeId) (x y:AV):Option Bool :=
 match x,y with
 | .bool a,.bool b=>(match P.underlying t with | some .bool=>some (a == b) | _=>none)
 | .nils,.nils | .nils,.slcT .. | .nils,.slc .. | .slcT ..,.nils | .slc ..,.nils =>
   (match P.underlying t with
   | some (.slice _)=>(match x,y with
     | .nils,.nils=>some true
     | .nils,.slcT _ _ _ n _=>if 0<n then some false else none
     | .slcT _ _ _ n _,.nils=>if 0<n then some false else none
     | _,_=>some false)
   | _=>none)
 | .nilp,.nilp | .nilp,.ptr .. | .nilp,.ptrT .. | .ptr ..,.nilp | .ptrT ..,.nilp =>
   (match P.underlying t with
   | some (.pointer _)=>some (match x,y with | .nilp,.nilp=>true | _,_=>false)
   | _=>none)
 | .agg (.I k a),.agg (.I k' b)=>if k=k'∧bS P 20 t=some a.length∧fb P t=some true∧a.length=b.length then some (eY a b) else none
 | .agg (.M l),.agg s=>J2 P t (.M l) s
 | .agg (.I k a),.agg (.M l)=>J2 P t (.I k a) (.M l)
 | _,_=>none

def jJ (P:Program) (op:BinOp) (t:TypeId) (x y:AV):Option AV :=
 match op,x,y with
 | .shl,.int k a,.int _ b=>if b<0 then none else some (.int k (k.wrap (a*2 ^ (min b.toNat k.bits))))
 | .shr,.int k a,.int _ b=>if b<0 then none else some (.int k (a.fdiv (2 ^ (min b.toNat k.bits))))
 | op,.int k a,.int k' b=>if k=k' then hY op k a b else none
 | .eql,x,y=>(zA P t x y).map .bool
 | .neq,x,y=>(zA P t x y).map fun b=>.bool (!b)
 | _,_,_=>none

def LW (op:UnOp) (x:AV):Option AV :=
 match op,x with
 | .not,.bool b=>some (.bool !b)
 | .neg,.int k n=>some (.int k (k.wrap (0-n)))
 | _,_=>none

def nG {α:Type} (l:List α):Nat→List α
 | 0=>[]
 | n+1=>l++nG l n
def dI (z:Row) (n:Nat):Row :=
 match z with
 | .I k l=>.I k (nG l n)
 | z=>.G (nG z.toList n)
def Ej (l:List AV) (n:Nat):Row :=
 match l with
 | [v]=>if gY v then .F (fun _=>v) n else .G (nG l n)
 | l=>.G (nG l n)
def dv (z:Row) (n:Nat):Row :=
 match z with
 | .I k l=>if w7 l then .M [.arr k (fun _=>0) (n*l.length)] else .I k (nG l n)
 | z=>Ej z.toList n
def iZ (r:Row):Row :=
 match r with
 | .I k l=>if Nat.ble 8 l.length then .M [.arr k (Mb l) l.length] else .I k l
 | .G l=>if (h9 l.length l).length == l.length then .G l else .M (h9 l.length l)
 | r=>r
def CI (z:Nat→Int) (off:Nat) (z':Nat→Int) (n:Nat):Nat→Int:=fun i=>if off≤i∧i<off+n then z' (i-off) else z i
def yG:List ah→Nat→Nat→List ah→Option (List ah)
 | [],_,_,_=>none
 | .one v::r,o+1,n,q=>(yG r o n q).map (.one v::·)
 | .one _::_,0,_,_=>none
 | .arr k z m::r,o,n,q=>if Nat.beq o 0 && Nat.beq m n then some (q++r) else if Nat.ble m o then (yG r (o-m) n q).map (.arr k z m::·) else none
def H4 (q:Row):Option (List ah) :=
 match iZ q with
 | .M l=>some l
 | _=>none
def wB (l:List ah) (off:Nat) (q:Row):Row :=
 if Nat.ble 9 q.len then (match H4 q with
  | some qs=>if Nat.beq off 0 && Nat.beq (au l) q.len then .M qs else (match yG l off q.len qs with
    | some l'=>.M l'
    | none=>(Row.M l).b9 off q.toList)
  | none=>(Row.M l).b9 off q.toList)
 else (Row.M l).b9 off q.toList
def jB (r:Row) (off:Nat) (q:Row):Row :=
 match r with
 | .M l=>(match l with
   | [.arr k z m]=>(match q with
     | .M [.arr k' z' n]=>if k'=k then .M [.arr k (CI z off z' n) m] else wB l off q
     | _=>wB l off q)
   | _=>wB l off q)
 | r=>r.b9 off q.toList
def qy:AV→Bool
 | .slcT none (.M [.arr _ _ _]) _ _ _=>true
 | .slcT none (.I _ _) _ _ _=>true
 | _=>false
def qQ (sy:Bool) (r:Row):Row :=
 match r with
 | .I k l=>if sy then .M [.arr k (fun j=>l.getD j 0) l.length] else .I k l
 | .G [v]=>if sy && qy v then .F (fun _=>mW v) 1 else .G [v]
 | r=>r
def rZ (place:Nat→Option (Nat×Nat)) (r:Row):List (Nat×AV)→Option Row
 | []=>some r
 | (i,v)::rest=>match place i with
   | none=>none
   | some (off,size)=>match v.row with
     | some q=>if q.len=size∧off+q.len≤r.len then rZ place (r.b9 off q.toList) rest else none
     | none=>none

def ib (P:Program) (t:TypeId) (r:Row) (off:Nat):Option AV :=
 match fb P t,ba P t with
 | some true,some n=>if off+n≤r.len then some (.agg (r.cut off n)) else none
 | some false,_=>if off<r.len then some (r.get off) else none
 | _,_=>none

def Ou (s:Option Nat) (v:AV):AV :=
 match s with
 | none=>v
 | some k=>fq k v

def lR (P:Program) (H:aa) (t:TypeId) (a:AV):Option AV :=
 match a with
 | .ptr d i v off=>match dx H d i v with
   | some r=>(ib P t r off).map (fq d)
   | none=>none
 | .ptrT s r off=>(ib P t r off).map (Ou s)
 | _=>none

def gk (P:Program) (H:aa) (t:TypeId) (a x:AV):Option Delta :=
 match a with
 | .ptr d i v off =>
   if ar H d then none else
   match dx H d i v,ba P t,x.row with
   | some r,some n,some q =>
     if q.len=n∧off+n≤r.len then
      match d,x with
      | d+1,.slc 0 j w o sz len cap=>if ar H 0 then none else match dx H 0 j w with
        | some q=>some (.heap (bC (dU (cJ H 0 j) (d+1) i (v,.row (r.set off (.slc 0 (aj H (d+1)) 0 o sz len cap)))) (d+1) (.row (lf (d+1) q))))
        | none=>none
      | _,_=>some (.set d i (v,.row (jB r off (lf d q))))
     else none
   | _,_,_=>none
 | _=>none

def kR (P:Program):List Field→Option (List (Nat×Nat))
 | []=>some []
 | f::fs=>match ba P f.type,kR P fs with
   | some n,some l=>some ((f.offset,n)::l)
   | _,_=>none

def vz (P:Program) (sy:Bool) (t:TypeId) (parts:List (Nat×AV)):Option AV :=
 match cg P t,P.underlying t with
 | some (.agg z),some (.struct fs)=>match kR P fs.toList with
   | some l=>(rZ (fun i=>l[i]?) (if sy then iZ z else z) parts).map .agg
   | none=>none
 | some (.agg z),some (.array _ e)=>match ba P e with
   | some n=>(rZ (fun i=>some (i*n,n)) (if sy then iZ z else z) parts).map .agg
   | none=>none
 | _,_=>none

def kg (a:AV) (n:Nat):Option AV :=
 match a with
 | .ptr d i v off=>some (.ptr d i v (off+n))
 | .ptrT s r off=>some (.ptrT s r (off+n))
 | _=>none

def gu (P:Program) (t:TypeId) (a:AV) (f:Nat):Option AV :=
 match P.underlying t with
 | some (.struct fs)=>match fs[f]? with
   | some g=>match ba P g.type with
     | some (_+1)=>kg a g.offset
     | _=>none
   | none=>none
 | _=>none

def fy (P:Program) (t:TypeId) (x:AV) (i:Int):Option AV :=
 match P.underlying t,x with
 | some (.array n e),x=>match ba P e with
   | some z=>if 0≤i∧i<n then kg x (i.toNat*z) else none
   | none=>none
 | some (.slice e),.slc d j v off sz len _ =>
   if 0≤i∧i<len∧ba P e=some sz then some (.ptr d j v (off+i.toNat*sz)) else none
 | some (.slice e),.slcT s r sz len _ =>
   if 0≤i∧i<len∧ba P e=some sz then some (.ptrT s r (i.toNat*sz)) else none
 | _,_=>none

def pL (P:Program) (t:TypeId) (x:AV) (i:Int):Option AV :=
 match P.underlying t,x with
 | some (.array n e),.agg r=>match ba P e with
   | some z=>if 0≤i∧i<n then ib P e r (i.toNat*z) else none
   | none=>none
 | some .string,.str s=>if 0≤i then (match s[i.toNat]? with
   | some b=>some (.int .u8 b.toNat)
   | none=>none) else none
 | _,_=>none

def rY (P:Program) (t:TypeId) (x:AV) (f:Nat):Option AV :=
 match P.underlying t,x with
 | some (.struct fs),.agg r=>match fs[f]? with
   | some g=>ib P g.type r g.offset
   | none=>none
 | _,_=>none

def bound (o:Option AV) (dflt top:Nat):Option Nat :=
 match o with
 | none=>some dflt
 | some (.int _ i)=>if 0≤i∧i≤top then some i.toNat else none
 | some _=>none

def dW (lo hi mx:Option AV) (len:Nat):Option (Nat×Nat×Option Nat) :=
 match mx with
 | none=>match bound hi len len with
   | some h=>match bound lo 0 h with
     | some l=>some (l,h,none)
     | none=>none
   | none=>none
 | some a=>match bound (some a) 0 len with
   | some m=>if hi.isSome then (match bound hi len m with
     | some h=>match bound lo 0 h with
       | some l=>some (l,h,some m)
       | none=>none
     | none=>none) else none
   | none=>none

def p9 (P:Program) (t:TypeId) (x:AV) (lo hi mx:Option AV):Option AV :=
 match P.underlying t,x with
 | some (.slice e),.slc d j v off sz len cap =>
   match dW lo hi mx len with
   | some (l,h,mm)=>if ba P e=some sz then
      some (.slc d j v (off+l*sz) sz (h-l) (match mm with | none=>cap.map (· - l) | some m=>some (m-l))) else none
   | none=>none
 | some (.slice e),.slcT s r sz len full =>
   match dW lo hi mx len with
   | some (l,h,mm)=>if ba P e=some sz∧l*sz+(h-l)*sz≤r.len then
      some (.slcT s (r.sub (l*sz) ((h-l)*sz)) sz (h-l) (match mm with | none=>full && Nat.beq h len | some m=>Nat.beq h m)) else none
   | none=>none
 | some (.slice e),.nils =>
   match dW lo hi mx 0,ba P e with
   | some _,some _=>some .nils
   | _,_=>none
 | some (.array n e),.ptr d j v off =>
   match dW lo hi mx n with
   | some (l,h,mm)=>match ba P e with
     | some sz=>some (.slc d j v (off+l*sz) sz (h-l) (match mm with | none=>some (n-l) | some m=>some (m-l)))
     | none=>none
   | none=>none
 | _,_=>none

def tG (P:Program) (H:aa) (t:TypeId) (x:AV):Option Int :=
 match P.underlying t,x with
 | some (.array n _),_=>some n
 | some (.slice _),.nils=>some 0
 | some (.slice _),.slc _ _ _ _ _ len _=>some len
 | some (.slice _),.slcT _ _ _ len _=>some len
 | some (.map _ _),.nilm=>some 0
 | some (.map _ _),.map d i=>match ao H d i with
   | (0,.map es)=>some es.length
   | (0,.fmap _ _ _ c)=>some c
   | _=>none
 | _,_=>none

def IL (P:Program) (t:TypeId) (x:AV):Option Int :=
 match P.underlying t,x with
 | some (.slice _),.nils=>some 0
 | some (.slice _),.slc _ _ _ _ _ _ (some c)=>some c
 | _,_=>none

def eA (H:aa) (sz n:Nat) (x:AV):Option Row :=
 match x with
 | .nils=>if n=0 then some (.G []) else none
 | .slc d i v off sz' len _=>match dx H d i v with
   | some r=>if sz'=sz∧n≤len∧off+n*sz≤r.len then some (AD d (r.sub off (n*sz))) else none
   | none=>none
 | .slcT s r sz' len _=>if sz'=sz∧n≤len∧n*sz≤r.len then some (match s with | none=>r.sub 0 (n*sz) | some k=>AD k (r.sub 0 (n*sz))) else none
 | _=>none
def nm:AV→Option Nat
 | .nils=>some 0
 | .slc _ _ _ _ _ len _=>some len
 | .slcT _ _ _ len _=>some len
 | _=>none

def room:Nat:=2 ^ 46

def DI (P:Program) (sy:Bool) (nx:Nat) (e:TypeId) (s x:AV):Option (AV×Delta) :=
 match P.info? e,s,x with
 | some inf,.nils,.int _ k =>
   if 0≤k∧k.toNat≤room∧k.toNat*inf.bytes≤room∧0<inf.size∧((cg P e).bind AV.row).map Row.len=some inf.size then
    (if k=0 then some (.nils,.aS) else some (.slc 0 nx 0 0 inf.size k.toNat none,.push (.row (qQ sy (.I .i64 [])))))
   else none
 | _,_,_=>none
def nZ      (P:Program) (sy:Bool) (H:aa) (nx:Nat) (t u:TypeId) (s x:AV):Option (AV×Delta) :=
 match P.underlying t,P.underlying u with
 | some (.slice e),some (.int _)=>DI P sy nx e s x
 | some (.slice e),some (.slice _) =>
   match P.info? e,nm s,nm x with
   | some inf,some m,some n =>
     if n=0 then (match s,x with
      | .nils,_=>some (s,.aS)
      | .slc ..,_=>some (s,.aS)
      | .slcT ..,_=>some (s,.aS)
      | _,_=>none)
     else if (m+n)*inf.bytes≤room∧(m+n)≤room∧0<inf.bytes∧((cg P e).bind AV.row).map Row.len=some inf.size then
      match eA H inf.size n x with
      | none=>none
      | some new =>
        match s with
        | .nils=>some (.slc 0 nx 0 0 inf.size n none,.push (.row (qQ sy new)))
        | .slcT _ _ _ _ true=>match eA H inf.size m s with
          | some old=>some (.slc 0 nx 0 0 inf.size (m+n) none,.push (.row (qQ sy (old.app new))))
          | none=>none
        | .slc d i v off sz _ (some c) =>
          if c<m+n then
           match eA H inf.size m s with
           | some old=>some (.slc 0 nx 0 0 inf.size (m+n) none,.push (.row (qQ sy (old.app new))))
           | none=>none
          else if ar H d then none else
           match dx H d i v with
           | some r=>if sz=inf.size∧off+(m+n)*sz≤r.len then
              some (.slc d i v off sz (m+n) (some c),.set d i (v,.row (r.b9 (off+m*sz) (lf d new).toList)))
             else none
           | none=>none
        | .slc d i v off sz _ none =>
          if ar H d then none else
          match dx H d i v with
          | some r=>if sz=inf.size∧off+m*sz=r.len then
             some (.slc d i (v+1) 0 sz (m+n) none,.set d i (v+1,.row ((r.sub off (m*sz)).app (lf d new))))
            else none
          | none=>none
        | _=>none
     else none
   | _,_,_=>none
 | _,_=>none

def copyV (P:Program) (H:aa) (t:TypeId) (s x:AV):Option (AV×Delta) :=
 match P.underlying t with
 | some (.slice e) =>
   match ba P e,nm s,nm x with
   | some z,some m,some n =>
     match eA H z (min n m) x with
     | none=>none
     | some new =>
       match s with
       | .nils=>some (.int .i64 (min n m:Nat),.aS)
       | .slc d i v off sz _ _ =>
         if ar H d then none else
         match dx H d i v with
         | some r=>if sz=z∧off+(min n m)*sz≤r.len then
            some (.int .i64 (min n m:Nat),.set d i (v,.row (jB r off (lf d new))))
           else none
         | none=>none
       | _=>none
   | _,_,_=>none
 | _=>none

def rL (P:Program) (H:aa) (t:TypeId) (s:AV):Option (AV×Delta) :=
 match P.underlying t,s with
 | some (.slice _),.nils=>some (.tup [],.aS)
 | some (.slice e),.slc d i v off sz len _ =>
   if ar H d then none else
   match (cg P e).bind AV.row,dx H d i v with
   | some z,some r=>if z.len=sz∧ba P e=some sz∧off+len*sz≤r.len then
      some (.tup [],if len=0 then .aS else .set d i (v,.row (if xT r then jB r off (dv z len) else r.b9 off (dI z len).toList)))
     else none
   | _,_=>none
 | _,_=>none

def eI (mx:Bool) (k:IntKind) (x:Int):List AV→Option AV
 | []=>some (.int k x)
 | .int k' y::r=>if k=k' then eI mx k (if mx then (if y > x then y else x) else (if y<x then y else x)) r else none
 | _=>none
def ny (mx:Bool):List AV→Option AV
 | .int k x::r=>eI mx k x r
 | _=>none

def iO (P:Program) (sy:Bool) (nx:Nat) (t:TypeId) (l c:AV):Option (AV×Delta) :=
 match P.underlying t,l,c with
 | some (.slice e),.int _ l,.int _ c =>
   match P.info? e,(cg P e).bind AV.row with
   | some inf,some z =>
     if 0≤l∧l≤c∧c.toNat*inf.bytes≤room∧c.toNat≤room∧z.len=inf.size then
      some (.slc 0 nx 0 0 inf.size l.toNat (some c.toNat),.push (.row (if sy then dv z c.toNat else dI z c.toNat)))
     else none
   | _,_=>none
 | _,_,_=>none

def jg (P:Program) (nx:Nat) (t:TypeId) (len:Nat) (parts:List (Nat×AV)):Option (AV×Delta) :=
 match P.underlying t with
 | some (.slice e)=>match ba P e,(cg P e).bind AV.row with
   | some z,some zv =>
     if len*z≤2 ^ 24∧zv.len=z then
      (rZ (fun i=>some (i*z,z)) (dI zv len) parts).map fun r=>(.slc 0 nx 0 0 z len (some len),.push (.row r))
     else none
   | _,_=>none
 | _=>none

def oE (x y:AV):Option Bool :=
 match x,y with
 | .int k a,.int k' b=>if k=k' then some (a == b) else none
 | .agg (.I k a),.agg (.I k' b)=>if k=k'∧a.length=b.length then some (eY a b) else none
 | _,_=>none
def fX (key:AV):List (AV×AV)→Nat→Option (Option Nat)
 | [],_=>some none
 | (k,_)::r,i=>match oE key k with
   | some true=>some (some i)
   | some false=>fX key r (i+1)
   | none=>none
def jy (P:Program) (t:TypeId) (x:AV):Bool :=
 match P.underlying t,x with
 | some (.int _),.int _ _=>true
 | some (.array _ _),.agg (.I _ l)=>bS P 20 t == some l.length
 | some (.struct _),.agg (.I _ l)=>bS P 20 t == some l.length
 | _,_=>false
def uo (H:aa) (m:AV):Option (Nat×List (AV×AV)) :=
 match m with
 | .nilm=>some (0,[])
 | .map d i=>match ao H d i with
   | (0,.map es)=>some (d,es)
   | _=>none
 | _=>none
def nD:List (AV×AV)→Nat→AV
 | [],_=>.undef
 | e::_,0=>e.2
 | _::r,i+1=>nD r i
def nI:List (AV×AV)→Nat→AV×AV→List (AV×AV)
 | [],_,_=>[]
 | _::r,0,x=>x::r
 | e::r,i+1,x=>e::nI r i x
def m9:List (AV×AV)→Nat→List (AV×AV)
 | [],_=>[]
 | _::r,0=>r
 | e::r,i+1=>e::m9 r i
def uw (H:aa) (m:AV):Option (KK×(List Int→Bool)×(List Int→Int)×Nat) :=
 match m with
 | .map d i=>match ao H d i with
   | (0,.fmap q h g c)=>some (q,h,g,c)
   | _=>none
 | _=>none
def tF:KK→AV→Option (List Int)
 | .num k,.int k' n=>if k=k' then some [n] else none
 | .str m,.agg (.I .i64 l)=>if Nat.beq l.length m then some l else none
 | _,_=>none
def KR:AV→Option KK
 | .int k _=>some (.num k)
 | .agg (.I .i64 l)=>some (.str l.length)
 | _=>none
def yw:AV→Option Int
 | .int .i64 n=>some n
 | _=>none
def g5 (h:List Int→Bool) (n:List Int) (b:Bool):List Int→Bool:=fun i=>if i=n then b else h i
def kT (g:List Int→Int) (n:List Int) (x:Int):List Int→Int:=fun i=>if i=n then x else g i
def xh (b:Bool) (c:Nat):Nat:=cond b c (c+1)
def CH (b:Bool) (c:Nat):Nat:=cond b (c-1) c
def ss (P:Program) (t:TypeId):ak :=
 match P.underlying t with
 | some (.map kt et)=>match (cg P kt).bind KR,(cg P et).bind yw with
   | some q,some _=>.fmap q (fun _=>false) (fun _=>0) 0
   | _,_=>.map []
 | _=>.map []
def oK (P:Program) (H:aa) (t:TypeId) (m key:AV) (ok:Bool):Option AV :=
 match P.underlying t with
 | some (.map kt et) =>
   if jy P kt key then
    match uw H m with
    | some (q,h,g,_)=>match tF q key,(cg P et).bind yw with
      | some n,some 0=>some (if ok then .tup [.int .i64 (g n),.bool (h n)] else .int .i64 (g n))
      | _,_=>none
    | none=>match uo H m,cg P et with
    | some (d,es),some z=>match fX key es 0 with
      | some (some i)=>some (if ok then .tup [fq d (nD es i),.bool true] else fq d (nD es i))
      | some none=>some (if ok then .tup [z,.bool false] else z)
      | none=>none
    | _,_=>none
   else none
 | _=>none
def jt (P:Program) (H:aa) (t:TypeId) (m key x:AV):Option Delta :=
 match P.underlying t,m with
 | some (.map kt _),.map d i =>
   if ar H d then none else
   if jy P kt key then
    match ao H d i with
    | (0,.fmap q h g c)=>match tF q key,yw x with
      | some n,some y=>some (.set d i (0,.fmap q (g5 h n true) (kT g n y) (xh (h n) c)))
      | _,_=>none
    | (0,.map es)=>match fX key es 0 with
      | some (some j)=>some (.set d i (0,.map (nI es j (key,My d x))))
      | some none=>some (.set d i (0,.map (es++[(key,My d x)])))
      | none=>none
    | _=>none
   else none
 | _,_=>none
def oa (P:Program) (H:aa) (t:TypeId) (m key:AV):Option (AV×Delta) :=
 match P.underlying t,m with
 | some (.map kt _),.map d i =>
   if ar H d then none else
   if jy P kt key then
    match ao H d i with
    | (0,.fmap q h g c)=>match tF q key with
      | some n=>some (.tup [],.set d i (0,.fmap q (g5 h n false) (kT g n 0) (CH (h n) c)))
      | none=>none
    | (0,.map es)=>match fX key es 0 with
      | some (some j)=>some (.tup [],.set d i (0,.map (m9 es j)))
      | some none=>some (.tup [],.set d i (0,.map es))
      | none=>none
    | _=>none
   else none
 | _,_=>none

def dF (fr:aq):List (Nat×Operand)→List (Nat×AV)
 | []=>[]
 | (i,x)::r=>(i,bE fr x)::dF fr r
def jA (fr:aq):List Operand→List AV
 | []=>[]
 | x::r=>bE fr x::jA fr r

def ly {α:Type} (call:aJ) (a b:α):α :=
 match call .mode [] [] with
 | some _=>a
 | none=>b
def fC (P:Program) (call:aJ) (fr:aq) (H:aa) (nx:Nat) (c:Call):Option (AV×Delta) :=
 match c.callee with
 | .value f=>match bE fr f with
   | .fn (.func g) a b=>(call (.fn g) (a++(jA fr c.args.toList++b)) H).map fun (v,H)=>(v,.heap H)
   | .yld d i=>(call (.round d i) (jA fr c.args.toList) H).map fun (v,H)=>(v,.heap H)
   | _=>none
 | .builtin .len=>match c.args.toList,c.argTypes.toList with
   | x::_,t::_=>(tG P H t (bE fr x)).map fun n=>(.int .i64 n,.aS)
   | _,_=>none
 | .builtin .cap=>match c.args.toList,c.argTypes.toList with
   | x::_,t::_=>(IL P t (bE fr x)).map fun n=>(.int .i64 n,.aS)
   | _,_=>none
 | .builtin .append=>match c.args.toList,c.argTypes.toList with
   | s::x::_,t::u::_=>nZ P (ly call true false) H nx t u (bE fr s) (bE fr x)
   | _,_=>none
 | .builtin .copy=>match c.args.toList,c.argTypes.toList with
   | s::x::_,t::_=>copyV P H t (bE fr s) (bE fr x)
   | _,_=>none
 | .builtin .clear=>match c.args.toList,c.argTypes.toList with
   | s::_,t::_=>rL P H t (bE fr s)
   | _,_=>none
 | .builtin .delete=>match c.args.toList,c.argTypes.toList with
   | m::k::_,t::_=>oa P H t (bE fr m) (bE fr k)
   | _,_=>none
 | .builtin .min=>(ny false (jA fr c.args.toList)).map fun v=>(v,.aS)
 | .builtin .max=>(ny true (jA fr c.args.toList)).map fun v=>(v,.aS)
 | _=>none

def kp (o:Option AV):Option (AV×Delta):=o.map fun v=>(v,.aS)

def evalOp (P:Program) (call:aJ) (fr:aq) (H:aa) (nx:Nat) (o:Oper):Option (AV×Delta) :=
 match o.op with
 | .move x | .assign x=>some (bE fr x,.aS)
 | .pick c a b=>match bE fr c with
   | .bool t=>some (if t then bE fr a else bE fr b,.aS)
   | _=>none
 | .alloc t=>((cg P t).bind AV.row).map fun z=>(.ptr 0 nx 0 0,.push (.row (ly call (iZ z) z)))
 | .box _ x=>(bE fr x).row.map fun r=>(.ptr 0 nx 0 0,.push (.row (ly call (iZ r) r)))
 | .build t parts=>kp (vz P (ly call true false) t (dF fr parts.toList))
 | .buildSlice t len parts=>jg P nx t len (dF fr parts.toList)
 | .load t a=>kp (lR P H t (bE fr a))
 | .store t a x=>(gk P H t (bE fr a) (bE fr x)).map fun δ=>(.tup [],δ)
 | .nilCheck x=>match bE fr x with
   | .ptr d i v off=>some (.ptr d i v off,.aS)
   | .ptrT s r off=>some (.ptrT s r off,.aS)
   | _=>none
 | .binOp op t x y _=>kp (jJ P op t (bE fr x) (bE fr y))
 | .unOp op _ x=>kp (LW op (bE fr x))
 | .convert src dst x=>match P.underlying src,P.underlying dst,bE fr x with
   | some _,some (.int k),.int _ n=>some (.int k (k.wrap n),.aS)
   | _,_,_=>none
 | .makeFunc fn first cap=>match fn with
   | .func g=>some (.fn (.func g) (jA fr first.toList) (jA fr cap.toList),.aS)
   | _=>none
 | .makeSlice t l c=>iO P (ly call true false) nx t (bE fr l) (bE fr c)
 | .slice t x lo hi mx=>kp (p9 P t (bE fr x) (lo.map (bE fr)) (hi.map (bE fr)) (mx.map (bE fr)))
 | .fieldAddr t x f=>kp (gu P t (bE fr x) f)
 | .field t x f=>kp (rY P t (bE fr x) f)
 | .indexAddr t x i=>match bE fr i with
   | .int _ n=>kp (fy P t (bE fr x) n)
   | _=>none
 | .index t x i=>match bE fr i with
   | .int _ n=>kp (pL P t (bE fr x) n)
   | _=>none
 | .makeMap t none=>some (.map 0 nx,.push (ly call (ss P t) (.map [])))
 | .lookup t m k ok=>kp (oK P H t (bE fr m) (bE fr k) ok)
 | .mapUpdate t m k x | .insert t m k x=>(jt P H t (bE fr m) (bE fr k) (bE fr x)).map fun δ=>(.tup [],δ)
 | .extract t ix=>match bE fr t with
   | .tup l=>match l[ix]? with
     | some v=>some (v,.aS)
     | none=>none
   | _=>none
 | .call c=>fC P call fr H nx c
 | _=>none

inductive Want where
 | run | skip | lost
def g6 (ops:Array Oper) (fr:aq) (o:Oper):Want :=
 match o.guard with
 | none=>.run
 | some (j,want)=>match (ops[j]?).bind (·.dst) with
   | none=>.lost
   | some d=>match bk fr d with
     | .bool b=>if b == want then .run else .skip
     | .tup _=>.skip
     | _=>.lost

def di (nt:Nat) (fr:aq) (dst:Option Tmp) (v:AV):aq :=
 match dst with
 | some d=>if Nat.blt d nt then tx fr d v else fr
 | none=>fr

def dr (P:Program) (nt:Nat) (call:aJ) (ops:Array Oper):List Oper→aq→aa→Option (aq×aa)
 | [],fr,H=>some (fr,H)
 | o :: r,fr,H=>match g6 ops fr o with
   | .lost=>none
   | .skip=>dr P nt call ops r (di nt fr o.dst (.tup [])) H
   | .run=>match evalOp P call fr H (al H) o with
     | none=>none
     | some (v,δ)=>dr P nt call ops r (di nt fr o.dst v) (δ.on H)

inductive Touch where
 | none
 | blk (d i:Nat)
 | all
structure Rec where
 ix:Nat
 reads:Touch
 writes:Option (Nat×Nat)
def ct (fr:aq) (o:Oper):Touch :=
 let at' (v:AV):Touch:=match v with
  | .ptr d i _ _=>.blk d i
  | .slc d i _ _ _ _ _=>.blk d i
  | .map d i=>.blk d i
  | _=>.none
 match o.op with
 | .load _ a=>at' (bE fr a)
 | .store _ a _=>at' (bE fr a)
 | .lookup _ m _ _=>at' (bE fr m)
 | .mapUpdate _ m _ _ | .insert _ m _ _=>at' (bE fr m)
 | .call c=>match c.callee with
   | .builtin .len=>match c.args.toList with
     | x::_=>match bE fr x with | .map d i=>.blk d i | _=>.none
     | _=>.all
   | .builtin .min | .builtin .max=>.none
   | _=>.all
 | _=>.none
def cN (H:aa) (bef:Nat):List Rec→aa
 | []=>H
 | r::l=>match r.writes with
   | some (d,i)=>if bef.testBit r.ix then cN H bef l else cN (cJ H d i) bef l
   | none=>cN H bef l
def iP (bef:Nat) (d i:Nat):List Rec→Bool
 | []=>true
 | r::l=>(bef.testBit r.ix || (match r.reads with
   | .none=>true
   | .blk e j=>!(Nat.beq e d && Nat.beq j i)
   | .all=>false)) && iP bef d i l

def gh (o:Oper):Bool :=
 match o.op with
 | .alloc _ | .box _ _ | .buildSlice _ _ _ | .makeSlice _ _ _ | .makeMap _ _=>true
 | .call c=>match c.callee with
   | .builtin .append=>true
   | _=>false
 | _=>false
def b8:List Oper→Nat
 | []=>0
 | o::r=>if gh o then b8 r+1 else b8 r
def kF:aa→Nat→aa
 | [],_=>[]
 | l::r,k=>{ l with bs:=l.bs++List.replicate k (0,.dead) } :: r
def gy:ak→Bool
 | .dead=>true
 | _=>false
def oC:Nat×ak→Bool
 | (0,.dead)=>true
 | _=>false
def eN (o:Oper):Bool :=
 match o.op with
 | .call c=>match c.callee with
   | .value _=>true
   | _=>false
 | _=>false
def qV (H:aa):Option (Nat×Nat×(Nat×ak))→aa
 | none=>H
 | some (d,i,b)=>dU H d i b
structure th where
 v:AV
 rd:Touch
 wr:Option (Nat×Nat×(Nat×ak))
def eC (P:Program) (call:aJ) (ops:Array Oper) (bef:Nat) (fr:aq) (H:aa) (nx:Nat) (recs:List Rec) (o:Oper):Option th :=
 match g6 ops fr o with
 | .lost=>none
 | .skip=>some ⟨.tup [],.none,none⟩
 | .run =>
   if eN o then match evalOp P call fr (av (cN H bef recs)) nx o with
    | some (v,_)=>some ⟨v,.all,none⟩
    | none=>none
   else match evalOp P call fr (cN H bef recs) nx o with
    | some (v,.aS)=>some ⟨v,ct fr o,none⟩
    | some (v,.push b)=>if gh o && !gy b && oC (ao H 0 nx) && !ar H 0 then some ⟨v,ct fr o,some (0,nx,(0,b))⟩ else none
    | some (v,.set d i b)=>if !gy b.2 && (Nat.beq b.1 (ao H d i).1 || Nat.beq b.1 (Nat.succ (ao H d i).1)) && !gy (ao (cN H bef recs) d i).2 && iP bef d i recs then some ⟨v,ct fr o,some (d,i,b)⟩ else none
    | _=>none

def fm (P:Program) (nt:Nat) (call:aJ) (ops:Array Oper) (befs:Array Nat):Nat→List Oper→aq→aa→Nat→List Rec→Option (aq×aa)
 | _,[],fr,H,_,_=>some (fr,H)
 | j,o::r,fr,H,nx,recs=>match eC P call ops (befs.getD j 0) fr H nx recs o with
   | some e=>fm P nt call ops befs (j+1) r (di nt fr o.dst e.v) (qV H e.wr) (if gh o then nx+1 else nx) (⟨j,e.rd,e.wr.map fun x=>(x.1,x.2.1)⟩::recs)
   | none=>none

def eS (ops:Array Oper) (befs:Array Nat):Bool :=
 ops.toList.zipIdx.all fun (o,j)=>Nat.blt (befs.getD j 0) (2 ^ j) &&
  ops.toList.zipIdx.all fun (q,i) =>
   Nat.beq i j || (match q.dst with
   | none=>true
   | some d=>(o.dst != some d) && (!(o.looksAt ops).contains d || (befs.getD j 0).testBit i || (befs.getD i 0).testBit j))

inductive Ex where
 | normal | exit (id:Nat) | goto (l:Nat) | ret

def Bj:Option Nat→Bool
 | some 0=>true
 | _=>false
def CG:AV→Bool
 | .int _ _=>true
 | .bool _=>true
 | .nils=>true
 | .slcT none _ _ _ _=>true
 | .ptrT none _ _=>true
 | _=>false
def Kt:Row→Bool
 | .I _ _=>true
 | .F _ _=>true
 | .G l=>l.all CG
 | .M l=>fV l
def lx (n:Nat):AV→Bool
 | .ptr d i _ _=>Nat.beq d 0 && Nat.ble n i
 | .slc d i _ _ _ _ _=>Nat.beq d 0 && Nat.ble n i
 | .map d i=>Nat.beq d 0 && Nat.ble n i
 | .yld d i=>Nat.beq d 0 && Nat.ble n i
 | .ptrT s r _=>Bj s && !Kt r
 | .slcT s _ _ _ _=>Bj s
 | .agg (.G _)=>true
 | .agg (.M l)=>!fV l
 | .fn _ _ _=>true
 | .tup (_::_)=>true
 | _=>false
def anyM (f:AV→Bool):List ah→Bool
 | []=>false
 | .one v::r=>f v || anyM f r
 | .arr _ _ _::r=>anyM f r
def qW (n:Nat):AV→Bool
 | .agg (.G l)=>l.any (lx n)
 | .agg (.M l)=>anyM (lx n) l
 | .fn _ a b=>a.any (lx n) || b.any (lx n)
 | .ptrT (some 0) (.M l) _=>anyM (lx n) l
 | v=>lx n v
def NW (n:Nat):Row→Bool
 | .I .. | .F ..=>false
 | .G l=>l.any (qW n)
 | .M l=>anyM (qW n) l
def Dj (n:Nat):ak→Bool
 | .dead=>false
 | .row r=>NW n r
 | .map es=>es.any fun e=>qW n e.1 || qW n e.2
 | .fmap _ _ _ _=>false
 | .loop _=>true
def cutAt (fr:aq) (l:aV) (r:aa):Nat→Nat→aa
 | 0,_=>l::r
 | k+1,m=>if fr.any (fun x=>qW m x.2) || (l.bs.take m).any (fun x=>Dj m x.2) then cutAt fr l r k (m+1) else { l with bs:=l.bs.take m } :: r
def ld (n:Nat) (fr:aq) (H:aa):aa :=
 match H with
 | []=>[]
 | l::r=>if Nat.ble l.bs.length n then H else cutAt fr l r 4 n

def Hc:AV→Bool
 | .ptrT (some 0) (.M l) _=>anyM (lx 0) l
 | v=>lx 0 v
def tT (h:Nat):AV→Bool
 | .ptr d i _ _=>Nat.beq d 0 && Nat.beq i h
 | .slc d i _ _ _ _ _=>Nat.beq d 0 && Nat.beq i h
 | .map d i=>Nat.beq d 0 && Nat.beq i h
 | .yld d i=>Nat.beq d 0 && Nat.beq i h
 | v=>Hc v
def pj (f:AV→Bool) (v:AV):Bool :=
 match v with
 | .agg (.G l)=>l.any f
 | .agg (.M l)=>anyM f l
 | .fn _ a b=>a.any f || b.any f
 | v=>f v
def J9 (f:AV→Bool):Row→Bool
 | .I .. | .F ..=>false
 | .G l=>l.any (pj f)
 | .M l=>anyM (pj f) l
def zF (f:AV→Bool):ak→Bool
 | .dead=>false
 | .row r=>J9 f r
 | .map _=>true
 | .fmap _ _ _ _=>false
 | .loop _=>true
def tM (a b:Nat):AV→AV
 | .ptr d i v off=>if Nat.beq d 0 && Nat.beq i a then .ptr 0 b v off else .ptr d i v off
 | .slc d i v off sz len cap=>if Nat.beq d 0 && Nat.beq i a then .slc 0 b v off sz len cap else .slc d i v off sz len cap
 | .map d i=>if Nat.beq d 0 && Nat.beq i a then .map 0 b else .map d i
 | .yld d i=>if Nat.beq d 0 && Nat.beq i a then .yld 0 b else .yld d i
 | v=>v
def mO (g:AV→AV) (v:AV):AV :=
 match v with
 | .agg (.G l)=>.agg (.G (l.map g))
 | .agg (.M l)=>.agg (.M (mapM' g l))
 | .fn f a b=>.fn f (a.map g) (b.map g)
 | v=>g v
def EM (g:AV→AV):Row→Row
 | .I k l=>.I k l
 | .F f n=>.F f n
 | .G l=>.G (l.map (mO g))
 | .M l=>.M (mapM' (mO g) l)
def pQ (g:AV→AV):ak→ak
 | .row r=>.row (EM g r)
 | b=>b
def pR (g:AV→AV):aq→aq
 | []=>[]
 | (x,v)::r=>(x,mO g v)::pR g r
def jm (g:AV→AV):List (Nat×ak)→List (Nat×ak)
 | []=>[]
 | (v,b)::r=>(v,pQ g b)::jm g r
def hole (fr:aq) (bs:List (Nat×ak)):Nat→Nat→Option Nat
 | 0,_=>none
 | k+1,m=>if Nat.blt (m+1) bs.length then
    if fr.any (fun x=>pj (tT m) x.2) || ((bs.take m).any (fun x=>zF (tT m) x.2) || (bs.drop (m+1)).any (fun x=>zF (tT m) x.2)) then hole fr bs k (m+1) else some m
   else none
def wW (a b:Nat) (l:aV):aV:={ l with bs:=bN (jm (tM a b) (l.bs.take a)) b ((an l.bs a).1,pQ (tM a b) (an l.bs a).2) }
def iW (n:Nat):Nat→aq→aa→aq×aa
 | 0,fr,H=>(fr,H)
 | k + 1,fr,H=>match H with
   | []=>(fr,[])
   | l::r=>match hole fr l.bs 4 n with
     | none=>(fr,l::r)
     | some h=>iW n k (pR (tM (l.bs.length-1) h) fr) (ld n (pR (tM (l.bs.length-1) h) fr) (wW (l.bs.length-1) h l::r))
def tidy (n:Nat) (fr:aq) (H:aa):aq×aa:=iW n 4 fr (ld n fr H)

def mM (i ver:Nat) (r:Row):AV→AV
 | .ptr d j v off=>if Nat.beq d 0 && (Nat.beq j i && Nat.beq v ver) then .ptrT none r off else .ptr d j v off
 | .slc d j v off sz len cap=>if Nat.beq d 0 && (Nat.beq j i && (Nat.beq v ver && Nat.ble (off+len*sz) r.len)) then .slcT none (r.sub off (len*sz)) sz len (cap == some len) else .slc d j v off sz len cap
 | v=>v
def o5 (i:Nat):AV→Bool
 | .slc d j _ _ _ _ _=>Nat.beq d 0 && Nat.beq j i
 | _=>false
def vV:Row→Bool
 | .I _ _=>true
 | .M [.arr _ _ _]=>true
 | _=>false
def JG (f:AV→Bool):ak→Bool
 | .row r=>J9 f r
 | _=>false
def lK (i:Nat) (fr:aq) (l:aV):aq×aV :=
 match an l.bs i with
 | (ver,.row r)=>if vV r && (fr.any (fun x=>pj (o5 i) x.2) || l.bs.any (fun x=>JG (o5 i) x.2)) then (pR (mM i ver r) fr,{ l with bs:=bN (jm (mM i ver r) l.bs) i (ver,.dead) }) else (fr,l)
 | _=>(fr,l)
def iN:Nat→aq→aV→aq×aV
 | 0,fr,l=>(fr,l)
 | n+1,fr,l=>lK n (iN n fr l).1 (iN n fr l).2
def CV (fr:aq) (H:aa):aq×aa :=
 match H with
 | []=>(fr,[])
 | l::r=>if l.lock then (fr,l::r) else ((iN l.bs.length fr l).1,(iN l.bs.length fr l).2::r)
def ec:Nat→aq→aV→aq×aV
 | 0,fr,l=>(fr,l)
 | n+1,fr,l=>if (ec n fr l).1.any (fun x=>pj (o5 n) x.2) then ec n fr l else lK n (ec n fr l).1 (ec n fr l).2
def tD (fr:aq) (H:aa):aq×aa :=
 match H with
 | []=>(fr,[])
 | l::r=>if l.lock then (fr,l::r) else ((ec l.bs.length fr l).1,(ec l.bs.length fr l).2::r)
def La (sz:Nat):AV→AV
 | .nils=>.slcT none (.M [.arr .i64 (fun _=>0) 0]) sz 0 false
 | v=>v
def C9 (sz:Nat):Nat→List AV→List AV
 | _,[]=>[]
 | 0,v::l=>La sz v::l
 | c+1,v::l=>v::C9 sz c l
def tO (c sz:Nat):ak→ak
 | .row (.G l)=>.row (.G (C9 sz c l))
 | B=>B
def lU (c sz:Nat):List (Nat×ak)→List (Nat×ak)
 | []=>[]
 | (v,B)::r=>(v,tO c sz B)::lU c sz r
def ET (k:Nat) (H:aa):aa :=
 match H with
 | []=>[]
 | l::r=>if l.lock then l::r else { l with bs:=lU (k % 8) (k / 8) l.bs } :: r
def Bw (s:Nat):aq→Option Nat
 | []=>none
 | (x,v)::r=>if Nat.beq x s then (match v with
   | .slc 0 i _ _ _ _ _=>some i
   | _=>none) else Bw s r
def vT (s:Nat) (fr:aq) (H:aa):aq×aa :=
 match H with
 | []=>(fr,[])
 | l::r=>if l.lock then (fr,l::r) else match Bw s fr with
   | some i=>((lK i fr l).1,(lK i fr l).2::r)
   | none=>(fr,l::r)
noncomputable def lL (m:Nat) (fr:aq) (H:aa):aq×aa:=if nw m 4000 then ((CV (bG fr m) H).1,if Nat.beq (Nat.shiftRight m 4003) 0 then (CV (bG fr m) H).2 else ET (Nat.shiftRight m 4003) (CV (bG fr m) H).2) else if nw m 4001 then vT (Nat.shiftRight m 4003) (bG fr m) H else if nw m 4002 then (match bk (bG fr m) (Nat.shiftRight m 4003) with | .bool false=>tD (bG fr m) H | _=>(bG fr m,H)) else (bG fr m,H)

def iter (body:aq→aa→Option (Ex×aq×aa)) (n:Nat):Nat→aq→aa→Option (Ex×aq×aa)
 | 0,_,_=>none
 | fu+1,fr,H=>match body fr H with
   | some (.normal,fr,H)=>iter body n fu (tidy n fr H).1 (tidy n fr H).2
   | r=>r

structure Cx where
 P:Program
 call:aJ
 fu:Nat
 fn:FuncId
 nt:Nat
 kt:Nat→Nat
 ro:Option (Nat×Nat)
def Cx.here (cx:Cx) (H:aa):Bool :=
 match cx.ro with
 | none=>true
 | some (d,i)=>match ao H d i with
   | (0,.loop _)=>true
   | _=>false

def gB (fr:aq) (H:aa) (cx:Cx) (params:Array Tmp) (assign body:Code):aa :=
 iL H (.loop { state:=.ready,pending:=none,fn:=cx.fn,nt:=cx.nt,fr,params:=params.toList,assign,body })

def rR:Option Code→Option Ex
 | none=>some .normal
 | some (.exit id)=>some (.exit id)
 | some (.goto l)=>some (.goto l)
 | some .ret=>some .ret
 | _=>none

noncomputable def exec (cx:Cx):Code→aq→aa→Option (Ex×aq×aa)
 | .skip,fr,H=>some (.normal,fr,H)
 | .label _,fr,H=>some (.normal,fr,H)
 | .region id ops draw,fr,H =>
   match (if draw then (if eS ops (Region.before ops) then fm cx.P cx.nt cx.call ops (Region.before ops) 0 ops.toList fr (kF H (b8 ops.toList)) (al H) [] else none) else dr cx.P cx.nt cx.call ops ops.toList fr H) with
   | some (fr,H)=>some (.normal,lL (cx.kt id) fr H)
   | none=>none
 | .seq a b,fr,H=>match exec cx a fr H with
   | some (.normal,fr,H)=>exec cx b fr H
   | r=>r
 | .cond c a b,fr,H=>match bE fr c with
   | .bool true=>exec cx a fr H
   | .bool false=>exec cx b fr H
   | _=>none
 | .block id b,fr,H=>match exec cx b fr H with
   | some (.exit id',fr,H)=>if Nat.beq id' id then some (.normal,fr,H) else some (.exit id',fr,H)
   | r=>r
 | .loop b,fr,H=>iter (exec cx b) (al H) cx.fu fr H
 | .rangeFunc f params assign body,fr,H =>
   match bE fr f with
   | .fn (.func g) a b =>
     if !cx.here H || ar H 0 then none else
     match cx.call (.fn g) (a++(.yld 0 (al H)::b)) (gB fr H cx params assign body) with
     | some (_,H1)=>match ao H1 0 (al H) with
       | (0,.loop l) =>
         if l.state == .busy then none else
         match rR l.pending with
         | some e=>some (e,fr,cJ H1 0 (al H))
         | none=>none
       | _=>none
     | none=>none
   | _=>none
 | .exit id,fr,H=>some (.exit id,fr,H)
 | .scope b,fr,H=>match exec cx b fr H with
   | some (.goto _,_,_)=>none
   | r=>r
 | .goto l,fr,H=>some (.goto l,fr,H)
 | .ret,fr,H=>some (.ret,fr,H)
 | .refuse _,_,_=>none

def dw   (bs:List (Nat×ak)):Nat→AV→AV
 | 0,_=>.undef
 | n + 1,v=>match v with
   | .ptr d i ver off=>match d with
     | d+1=>.ptr d i ver off
     | 0 => match an bs i with
       | (w,.row r)=>if Nat.beq w ver then (match r with
         | .I k l=>.ptrT none (.I k l) off
         | .F f m=>.ptrT none (.F f m) off
         | .M l=>if fV l then .ptrT none (.M l) off else .ptrT (some 0) (.M (mapM' (dw bs n) l)) off
         | .G l=>.ptrT (some 0) (.G (l.map (dw bs n))) off) else .undef
       | _=>.undef
   | .slc d i ver off sz len cap=>match d with
     | d+1=>.slc d i ver off sz len cap
     | 0 => match an bs i with
       | (w,.row r)=>if Nat.beq w ver∧off+len*sz≤r.len then (match r.sub off (len*sz) with
         | .I k l=>.slcT none (.I k l) sz len (cap == some len)
         | .F f m=>.slcT none (.F f m) sz len (cap == some len)
         | .M l=>if fV l then .slcT none (.M l) sz len (cap == some len) else .slcT (some 0) (.M (mapM' (dw bs n) l)) sz len (cap == some len)
         | .G l=>.slcT (some 0) (.G (l.map (dw bs n))) sz len (cap == some len)) else .undef
       | _=>.undef
   | .ptrT s r off=>match s with
     | none=>.ptrT none r off
     | some (s+1)=>.ptrT (some s) r off
     | some 0=>match r with
       | .G l=>.ptrT (some 0) (.G (l.map (dw bs n))) off
       | .M l=>if fV l then .ptrT none (.M l) off else .ptrT (some 0) (.M (mapM' (dw bs n) l)) off
       | r=>.ptrT none r off
   | .slcT s r sz len full=>match s with
     | none=>.slcT none r sz len full
     | some (s+1)=>.slcT (some s) r sz len full
     | some 0=>match r with
       | .G l=>.slcT (some 0) (.G (l.map (dw bs n))) sz len full
       | .M l=>if fV l then .slcT none (.M l) sz len full else .slcT (some 0) (.M (mapM' (dw bs n) l)) sz len full
       | r=>.slcT none r sz len full
   | .map d i=>match d with
     | d+1=>.map d i
     | 0=>.undef
   | .yld d i=>match d with
     | d+1=>.yld d i
     | 0=>.undef
   | .fn f a b=>.fn f (a.map (dw bs n)) (b.map (dw bs n))
   | .agg r=>match r with
     | .G l=>.agg (.G (l.map (dw bs n)))
     | .M l=>.agg (.M (mapM' (dw bs n) l))
     | r=>.agg r
   | .tup l=>.tup (l.map (dw bs n))
   | v=>v

def fU:Nat→List AV→aq
 | _,[]=>[]
 | x,v::l=>(x,fq 1 v)::fU (x+1) l

def gE (P:Program) (fr:aq) (H:aa):List ResultVar→Option (List AV)
 | []=>some []
 | .tmp t::r=>(gE P fr H r).map (bk fr t::·)
 | .cell a t::r=>match lR P H t (bk fr a) with
   | some v=>(gE P fr H r).map (v::·)
   | none=>none
def one:List AV→AV
 | [v]=>v
 | l=>.tup l

def ln (nt:Nat) (fr:aq):List Tmp→List AV→Option aq
 | [],[]=>some fr
 | t::ts,v::vs=>if Nat.blt t nt then ln nt (tx fr t v) ts vs else none
 | _,_=>none

def cV:Ex→Option Code
 | .normal=>none
 | .exit id=>some (.exit id)
 | .goto l=>some (.goto l)
 | .ret=>some .ret

def mb (k:Nat):aq→aq
 | []=>[]
 | (x,v)::r=>(x,fq k v)::mb k r

noncomputable def cI (P:Program) (ora:aJ→FuncId→List AV→aa→Option (AV×aa)) (KT:FuncId→Nat→Nat) (fu:Nat):Nat→aJ
 | _,.mode,_,_=>(ora (fun _ _ _=>none) 1000000 [] []).map fun _=>(.undef,[])
 | 0,_,_,_=>none
 | n + 1,.fn f,args,H=>match ora (cI P ora KT fu n) f args H with
   | some r=>some r
   | none => match P.funcs[f]? with
     | none=>none
     | some fn=>match fn.body with
       | none=>none
       | some c=>if Nat.ble args.length fn.ntmps then
         match exec ⟨P,cI P ora KT fu n,fu,f,fn.ntmps,KT f,none⟩ c (fU 0 args) (⟨false,[]⟩::H) with
         | some (e,fr,l::H') =>
           (match e with
           | .normal | .ret=>match gE P fr (l::H') fn.results.toList with
             | some vs=>some (dw l.bs 5 (one vs),H')
             | none=>none
           | _=>none)
         | _=>none
         else none
 | n + 1,.round  d i,args,H=>match ao H d i with
   | (0, .loop l) =>
     if ar H d then none else
     match l.state with
     | .ready => match ln l.nt (mb (d+1) l.fr) l.params (args.map (fq 1)) with
       | some fr => match exec ⟨P,cI P ora KT fu n,fu,l.fn,l.nt,KT l.fn,some (d+1,i)⟩ l.assign fr (⟨false,[]⟩::H) with
         | some (.normal,fr,H1)=>match ao H1 (d+1) i with
           | (0, .loop l1)=>match l1.state with
             | .ready =>
               match exec ⟨P,cI P ora KT fu n,fu,l.fn,l.nt,KT l.fn,some (d+1,i)⟩ l.body fr (dU H1 (d+1) i (0,.loop { l1 with state:=.busy })) with
               | some (e,_,_::H2)=>match ao H2 d i with
                 | (0,.loop l2)=>some (.bool (cV e).isNone,dU H2 d i (0,.loop { l2 with state:=if (cV e).isNone then .ready else .done,pending:=cV e }))
                 | _=>none
               | _=>none
             | _=>none
           | _=>none
         | _=>none
       | none=>none
     | _=>none
   | _=>none

end Go.Eng
